/-
  Texts of the walk: Tab07 Fn07 H1.
-/
import Derived.Test.YtdpffcolmflpjaaProg
import Derived.Test.YtdpffcolmflpjaaP11
section
namespace Go.Proofs
open Go Go.Rx
noncomputable def Try.tb:Tb:=tbOf Try.prog []
theorem Try.mixed:Try.prog.follows .mixedOrders=true:=by kernel_rfl
theorem Try.eqs_ok:∀ t∈([]:List TypeId),Try.prog.stoodInHeld t=false∧Try.prog.eqGuardType Try.prog.depth t=false:=by
 intro t ht
 cases ht
theorem Try.names_ok : (Try.prog.funcs.toList.all fun f => !(f.name == "runtime.NumGoroutine")) = true := by kernel_rfl
theorem Try.tb_ok:TbOk Try.prog Try.tb:=tbOf_ok Try.prog [] Try.mixed (fun f hf _=>by
 have:=List.all_eq_true.1 Try.names_ok f hf
 simpa using this) Try.eqs_ok
theorem Try.und3:Try.tb.und 3=some (.int .i64):=by kernel_rfl
theorem Try.inf3:Try.tb.inf 3=some (1,8,.int .i64 0):=by kernel_rfl
theorem Try.und4:Try.tb.und 4=some (.bool):=by kernel_rfl
theorem Try.inf4:Try.tb.inf 4=some (1,1,.bool false):=by kernel_rfl
theorem Try.und5:Try.tb.und 5=some (.int .u8):=by kernel_rfl
theorem Try.und23:Try.tb.und 23=some (.slice 43):=by kernel_rfl
theorem Try.inf23:Try.tb.inf 23=some (1,24,.slice none 0 0):=by kernel_rfl
theorem Try.und25 : Try.tb.und 25 = some (.struct #[⟨ "Nodes", 23, 0, false, "", "", 0⟩]) := by kernel_rfl
theorem Try.inf25:Try.tb.inf 25=some (1,24,.agg #[.slice none 0 0]):=by kernel_rfl
theorem Try.und40:Try.tb.und 40=some (.slice 4):=by kernel_rfl
theorem Try.inf40:Try.tb.inf 40=some (1,24,.slice none 0 0):=by kernel_rfl
theorem Try.und41:Try.tb.und 41=some (.slice 45):=by kernel_rfl
theorem Try.inf41:Try.tb.inf 41=some (1,24,.slice none 0 0):=by kernel_rfl
theorem Try.und43 : Try.tb.und 43 = some (.struct #[⟨ "Type", 3, 0, false, "", "", 0⟩, ⟨ "Arcs", 41, 1, false, "", "", 8⟩]) := by kernel_rfl
theorem Try.inf43:Try.tb.inf 43=some (2,32,.agg #[.int .i64 0,.slice none 0 0]):=by kernel_rfl
theorem Try.und45 : Try.tb.und 45 = some (.struct #[⟨ "Feat", 3, 0, false, "", "", 0⟩, ⟨ "To", 3, 1, false, "", "", 8⟩]) := by kernel_rfl
theorem Try.inf45:Try.tb.inf 45=some (2,16,.agg #[.int .i64 0,.int .i64 0]):=by kernel_rfl
theorem Try.und51:Try.tb.und 51=some (.func #[3] #[4] false):=by kernel_rfl
theorem Try.inf51:Try.tb.inf 51=some (1,8,.nilFunc):=by kernel_rfl
theorem Try.und55:Try.tb.und 55=some (.slice 3):=by kernel_rfl
theorem Try.inf55:Try.tb.inf 55=some (1,24,.slice none 0 0):=by kernel_rfl
theorem Try.und60:Try.tb.und 60=some (.map 3 4):=by kernel_rfl
theorem Try.und61:Try.tb.und 61=some (.map 3 3):=by kernel_rfl
theorem Try.inf61:Try.tb.inf 61=some (1,8,.map none):=by kernel_rfl
theorem Try.und62:Try.tb.und 62=some (.func #[3] #[] false):=by kernel_rfl
theorem Try.inf62:Try.tb.inf 62=some (1,8,.nilFunc):=by kernel_rfl
theorem Try.und81:Try.tb.und 81=some (.int .u64):=by kernel_rfl
end Go.Proofs
end
section
namespace Go.Proofs
open Go Go.Rx
theorem Try.fn11:Try.tb.fn 11=some Try.f11:=by kernel_rfl
theorem Try.fn12:Try.tb.fn 12=some Try.f12:=by kernel_rfl
theorem Try.hb12:Try.f12.body.isSome=true:=rfl
theorem Try.fn13:Try.tb.fn 13=some Try.f13:=by kernel_rfl
theorem Try.hb13:Try.f13.body.isSome=true:=rfl
theorem Try.fn14:Try.tb.fn 14=some Try.f14:=by kernel_rfl
theorem Try.hb14:Try.f14.body.isSome=true:=rfl
theorem Try.fn16:Try.tb.fn 16=some Try.f16:=by kernel_rfl
theorem Try.hb16:Try.f16.body.isSome=true:=rfl
theorem Try.fn20:Try.tb.fn 20=some Try.f20:=by kernel_rfl
theorem Try.hb20:Try.f20.body.isSome=true:=rfl
theorem Try.fn22:Try.tb.fn 22=some Try.f22:=by kernel_rfl
theorem Try.hb22:Try.f22.body.isSome=true:=rfl
theorem Try.fn24:Try.tb.fn 24=some Try.f24:=by kernel_rfl
theorem Try.hb24:Try.f24.body.isSome=true:=rfl
theorem Try.fn25:Try.tb.fn 25=some Try.f25:=by kernel_rfl
theorem Try.hb25:Try.f25.body.isSome=true:=rfl
theorem Try.fn26:Try.tb.fn 26=some Try.f26:=by kernel_rfl
theorem Try.hb26:Try.f26.body.isSome=true:=rfl
theorem Try.fn29:Try.tb.fn 29=some Try.f29:=by kernel_rfl
theorem Try.hb29:Try.f29.body.isSome=true:=rfl
theorem Try.fn30:Try.tb.fn 30=some Try.f30:=by kernel_rfl
theorem Try.hb30:Try.f30.body.isSome=true:=rfl
theorem Try.fn31:Try.tb.fn 31=some Try.f31:=by kernel_rfl
theorem Try.hb31:Try.f31.body.isSome=true:=rfl
theorem Try.fn32:Try.tb.fn 32=some Try.f32:=by kernel_rfl
theorem Try.hb32:Try.f32.body.isSome=true:=rfl
theorem Try.fn35:Try.tb.fn 35=some Try.f35:=by kernel_rfl
theorem Try.hb35:Try.f35.body.isSome=true:=rfl
theorem Try.fn36:Try.tb.fn 36=some Try.f36:=by kernel_rfl
theorem Try.hb36:Try.f36.body.isSome=true:=rfl
theorem Try.fn37:Try.tb.fn 37=some Try.f37:=by kernel_rfl
theorem Try.hb37:Try.f37.body.isSome=true:=rfl
theorem Try.fn38:Try.tb.fn 38=some Try.f38:=by kernel_rfl
theorem Try.hb38:Try.f38.body.isSome=true:=rfl
theorem Try.fn39:Try.tb.fn 39=some Try.f39:=by kernel_rfl
theorem Try.hb39:Try.f39.body.isSome=true:=rfl
theorem Try.fn42:Try.tb.fn 42=some Try.f42:=by kernel_rfl
theorem Try.hb42:Try.f42.body.isSome=true:=rfl
theorem Try.fn43:Try.tb.fn 43=some Try.f43:=by kernel_rfl
theorem Try.hb43:Try.f43.body.isSome=true:=rfl
theorem Try.fn44:Try.tb.fn 44=some Try.f44:=by kernel_rfl
theorem Try.hb44:Try.f44.body.isSome=true:=rfl
theorem Try.fn45:Try.tb.fn 45=some Try.f45:=by kernel_rfl
theorem Try.fn49:Try.tb.fn 49=some Try.f49:=by kernel_rfl
theorem Try.hb49:Try.f49.body.isSome=true:=rfl
theorem Try.fn50:Try.tb.fn 50=some Try.f50:=by kernel_rfl
theorem Try.hb50:Try.f50.body.isSome=true:=rfl
theorem Try.fn51:Try.tb.fn 51=some Try.f51:=by kernel_rfl
theorem Try.hb51:Try.f51.body.isSome=true:=rfl
theorem Try.fn52:Try.tb.fn 52=some Try.f52:=by kernel_rfl
theorem Try.hb52:Try.f52.body.isSome=true:=rfl
theorem Try.fn53:Try.tb.fn 53=some Try.f53:=by kernel_rfl
theorem Try.hb53:Try.f53.body.isSome=true:=rfl
theorem Try.fn54:Try.tb.fn 54=some Try.f54:=by kernel_rfl
theorem Try.hb54:Try.f54.body.isSome=true:=rfl
theorem Try.fn55:Try.tb.fn 55=some Try.f55:=by kernel_rfl
theorem Try.fn56:Try.tb.fn 56=some Try.f56:=by kernel_rfl
theorem Try.hb56:Try.f56.body.isSome=true:=rfl
theorem Try.fn57:Try.tb.fn 57=some Try.f57:=by kernel_rfl
theorem Try.hb57:Try.f57.body.isSome=true:=rfl
theorem Try.fn58:Try.tb.fn 58=some Try.f58:=by kernel_rfl
theorem Try.hb58:Try.f58.body.isSome=true:=rfl
theorem Try.fn59:Try.tb.fn 59=some Try.f59:=by kernel_rfl
theorem Try.hb59:Try.f59.body.isSome=true:=rfl
end Go.Proofs
end
section
namespace Go.Proofs
open Go Go.Rx Go.Vx Try
instance:TbP Try.prog Try.tb:=⟨Try.tb_ok⟩
set_option maxRecDepth 10000
set_option linter.unusedSimpArgs false
set_option linter.unusedVariables false
structure GArc where
 Feat:Int
 To:Int
def cGArc (x:GArc):List U:=[.int .i64 x.Feat,.int .i64 x.To]
theorem q6w (n:Nat) (x:GArc):BelL n (cGArc x):=by
 simp only [cGArc,BelL,Bel,true_and,and_true]
theorem q17 (x:GArc):(cGArc x).length=2:=rfl
instance:BF cGArc:=⟨q6w⟩
instance (n:Nat) (x:GArc):BUL n (cGArc x):=⟨q6w n x⟩
theorem fz_cGArc (K:Nat) (b:B) (sz:Nat) (x:GArc):fzL K b sz (cGArc x)=cGArc x:=q2g _ _ _ (q6w K x)
def q40 (n:Nat) (p1:Int):Option (Bool) :=
 some (p1 != p1)
theorem qae (n:Nat) (p1:Int) (r:Bool) (hF:q40 n p1=some r):EvU Try.prog 49 [.int .i64 p1] ⟨[],0⟩ (fun u _=>u = .bool r∧Bel 0 u):=by
 unfold q40 at hF
 refine EvU.of_body Try.tb_ok fn49 rfl ?_
 refine WPU.ghost (tm':=fr 6 [(0,.int .i64 p1)]) (Gh.start (Nat.le_of_ble_eq_true rfl)) (Nat.zero_le _) ?_
 refine sr ?_
 refine se ?_
 repeat refine RS.mv rfl rfl rfl rfl ?_
 refine RS.q rfl (q06 rfl rfl (q5q _ _ _) rfl) ?_
 refine sd ?_
 refine WPU.ret ?_
 refine st ?_
 have hr:=Option.some.inj hF
 subst hr
 exact ⟨.inr rfl,[.bool (p1 != p1)],q2k rfl (q20),.bool (p1 != p1),⟨[],0⟩,Nat.le_refl _,Gh.toR (.bool (p1 != p1)) rfl,rfl,BU.h⟩
theorem q6r (n:Nat) (p1:Int) (r:Bool) (hF:q40 n p1=some r) (σ:Sg):EvU Try.prog 49 [.int .i64 p1] σ (fun u σ'=>u = .bool r∧σ'=σ) :=
 EvU.pure1C (qae n p1 r hF) σ
def q1q (n:Nat) (p1:Int) (p2:Int):Option (Int) :=
 bindO (q40 n p1) fun r3 =>
 bindO (q40 n p2) fun r5 =>
 cond r3
  (cond r5
   (some 0)
   (some (-1)))
  (cond r5
   (some 1)
   (cond (decide (p1<p2))
    (some (-1))
    (cond (decide (p1 > p2))
     (some 1)
     (some 0))))
theorem q92 (n:Nat) (p1:Int) (p2:Int) (r:Int) (hF:q1q n p1 p2=some r):EvU Try.prog 36 [.int .i64 p1,.int .i64 p2] ⟨[],0⟩ (fun u _=>u = .int .i64 r∧Bel 0 u):=by
 unfold q1q at hF
 refine EvU.of_body Try.tb_ok fn36 rfl ?_
 refine WPU.ghost (tm':=fr 20 [(0,.int .i64 p1),(1,.int .i64 p2)]) (Gh.start (Nat.le_of_ble_eq_true rfl)) (Nat.zero_le _) ?_
 refine sr ?_
 refine sd ?_
 obtain ⟨r3,h4,hF⟩:=q00 hF
 refine sr ?_
 refine RS.call (u:=.bool r3) (args:=[.int .i64 p1]) rfl (q01 rfl rfl fn49 hb49 rfl rfl) (q6r n p1 r3 h4 _) rfl rfl ?_
 refine sd ?_
 obtain ⟨r5,h6,hF⟩:=q00 hF
 refine sr ?_
 refine RS.call (u:=.bool r5) (args:=[.int .i64 p2]) rfl (q01 rfl rfl fn49 hb49 rfl rfl) (q6r n p2 r5 h6 _) rfl rfl ?_
 refine se ?_
 refine sd ?_
 refine WPU.condS (t:=r3) rfl (fun h7=>?_) (fun h7=>?_)
 replace hF:=q0q h7 hF
 refine sr ?_
 refine sd ?_
 refine WPU.condS (t:=r5) rfl (fun h8=>?_) (fun h8=>?_)
 replace hF:=q0q h8 hF
 refine sr ?_
 refine sd ?_
 refine WPU.ret ?_
 refine st ?_
 have hr:=Option.some.inj hF
 subst hr
 exact ⟨.inr rfl,[.int .i64 0],q2k rfl (q20),.int .i64 0,⟨[],0⟩,Nat.le_refl _,Gh.toR (.int .i64 0) rfl,rfl,BU.h⟩
 replace hF:=q0p h8 hF
 refine st ?_
 refine WPU.skip ?_
 refine sr ?_
 refine sd ?_
 refine WPU.ret ?_
 refine st ?_
 have hr:=Option.some.inj hF
 subst hr
 exact ⟨.inr rfl,[.int .i64 (-1)],q2k rfl (q20),.int .i64 (-1),⟨[],0⟩,Nat.le_refl _,Gh.toR (.int .i64 (-1)) rfl,rfl,BU.h⟩
 replace hF:=q0p h7 hF
 refine st ?_
 refine WPU.skip ?_
 refine sr ?_
 refine sd ?_
 refine WPU.condS (t:=r5) rfl (fun h9=>?_) (fun h9=>?_)
 replace hF:=q0q h9 hF
 refine sr ?_
 refine sd ?_
 refine WPU.ret ?_
 refine st ?_
 have hr:=Option.some.inj hF
 subst hr
 exact ⟨.inr rfl,[.int .i64 1],q2k rfl (q20),.int .i64 1,⟨[],0⟩,Nat.le_refl _,Gh.toR (.int .i64 1) rfl,rfl,BU.h⟩
 replace hF:=q0p h9 hF
 refine st ?_
 refine WPU.skip ?_
 refine sr ?_
 repeat refine RS.mv rfl rfl rfl rfl ?_
 refine RS.q rfl (q06 rfl rfl (q2s _ _ _) rfl) ?_
 refine sd ?_
 refine WPU.condS (t:=(decide (p1<p2))) rfl (fun h10=>?_) (fun h10=>?_)
 replace hF:=q0q h10 hF
 refine sr ?_
 refine sd ?_
 refine WPU.ret ?_
 refine st ?_
 have hr:=Option.some.inj hF
 subst hr
 exact ⟨.inr rfl,[.int .i64 (-1)],q2k rfl (q20),.int .i64 (-1),⟨[],0⟩,Nat.le_refl _,Gh.toR (.int .i64 (-1)) rfl,rfl,BU.h⟩
 replace hF:=q0p h10 hF
 refine st ?_
 refine WPU.skip ?_
 refine sr ?_
 repeat refine RS.mv rfl rfl rfl rfl ?_
 refine RS.q rfl (q06 rfl rfl (ix_gtr _ _ _) rfl) ?_
 refine sd ?_
 refine WPU.condS (t:=(decide (p1 > p2))) rfl (fun h11=>?_) (fun h11=>?_)
 replace hF:=q0q h11 hF
 refine sr ?_
 refine sd ?_
 refine WPU.ret ?_
 refine st ?_
 have hr:=Option.some.inj hF
 subst hr
 exact ⟨.inr rfl,[.int .i64 1],q2k rfl (q20),.int .i64 1,⟨[],0⟩,Nat.le_refl _,Gh.toR (.int .i64 1) rfl,rfl,BU.h⟩
 replace hF:=q0p h11 hF
 refine st ?_
 refine WPU.skip ?_
 refine sr ?_
 refine sd ?_
 refine WPU.ret ?_
 refine st ?_
 have hr:=Option.some.inj hF
 subst hr
 exact ⟨.inr rfl,[.int .i64 0],q2k rfl (q20),.int .i64 0,⟨[],0⟩,Nat.le_refl _,Gh.toR (.int .i64 0) rfl,rfl,BU.h⟩
theorem q2l (n:Nat) (p1:Int) (p2:Int) (r:Int) (hF:q1q n p1 p2=some r) (σ:Sg):EvU Try.prog 36 [.int .i64 p1,.int .i64 p2] σ (fun u σ'=>u = .int .i64 r∧σ'=σ) :=
 EvU.pure1C (q92 n p1 p2 r hF) σ
def q3j (n:Nat) (p1:GArc) (p2:GArc):Option (Int) :=
 bindO (q1q n p1.Feat p2.Feat) fun r3 =>
 some r3
theorem q94 (n:Nat) (p1:GArc) (p2:GArc) (r:Int) (hF:q3j n p1 p2=some r):EvU Try.prog 45 [.agg (cGArc p1),.agg (cGArc p2)] ⟨[],0⟩ (fun u _=>u = .int .i64 r∧Bel 0 u):=by
 unfold q3j at hF
 refine EvU.of_body Try.tb_ok fn45 rfl ?_
 refine WPU.ghost (tm':=fr 10 [(0,.agg (cGArc p1)),(1,.agg (cGArc p2))]) (Gh.start (Nat.le_of_ble_eq_true rfl)) (Nat.zero_le _) ?_
 refine sr ?_
 refine RS.q (u:=.ptr 0 0 0) (σ':=⟨[(0,.row (cGArc p1) 45)],1⟩) rfl (q3u rfl rfl rfl) (RS.q (u:=.ptr 1 0 0) (σ':=⟨[(1,.row (cGArc p2) 45),(0,.row (cGArc p1) 45)],2⟩) rfl (q3u rfl rfl rfl) ?_)
 refine sd ?_
 obtain ⟨r3,h4,hF⟩:=q00 hF
 refine sr ?_
 refine RS.q (u:=.ptr 0 0 0) rfl (q0z und45 rfl (q02 inf3) rfl rfl rfl) (RS.q (u:=.int .i64 p1.Feat) rfl (q05 und3 rfl rfl rfl rfl) (RS.q (u:=.ptr 1 0 0) rfl (q0z und45 rfl (q02 inf3) rfl rfl rfl) (RS.q (u:=.int .i64 p2.Feat) rfl (q05 und3 rfl rfl rfl rfl) (RS.call (u:=.int .i64 r3) (args:=[.int .i64 p1.Feat,.int .i64 p2.Feat]) rfl (q01 rfl rfl fn36 hb36 rfl rfl) (q2l n p1.Feat p2.Feat r3 h4 _) rfl rfl ?_))))
 refine sd ?_
 refine WPU.ret ?_
 refine st ?_
 have hr:=Option.some.inj hF
 subst hr
 exact ⟨.inr rfl,[.int .i64 r3],q2k rfl (q20),.int .i64 r3,⟨[],0⟩,Nat.le_refl _,Gh.toR (.int .i64 r3) rfl,rfl,BU.h⟩
end Go.Proofs
end
