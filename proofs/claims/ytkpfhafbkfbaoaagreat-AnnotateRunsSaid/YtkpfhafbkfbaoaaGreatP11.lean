/-
  Texts of the walk: A1z.
-/
import Derived.Test.YtkpfhafbkfbaoaaGreatP10
section
namespace Go.Proofs
open Go Go.Rx Go.Vx Tryz
set_option maxRecDepth 10000
set_option linter.unusedSimpArgs false
set_option linter.unusedVariables false
theorem qbu (n:Nat) (p1:List GDecision) (r:(List GDecision)) (hF:q2y n p1=some r):EvU Tryz.prog 46 [.isl false (List.map cGDecision p1)] ⟨[],0⟩ (fun u _=>u = .isl false (List.map cGDecision r)∧Bel 0 u):=by
 unfold q2y at hF
 refine EvU.of_body Tryz.tb_ok fn46 rfl ?_
 refine WPU.ghost (tm':=fr 8 [(0,.isl false (List.map cGDecision p1))]) (Gh.start (Nat.le_of_ble_eq_true rfl)) (Nat.zero_le _) ?_
 refine sr ?_
 refine se ?_
 refine RS.nilq rfl rfl und26 rfl rfl rfl rfl ?_
 intro b2 h3
 replace hF:=bothL_some hF b2 fun h=>List.map_eq_nil_iff.1 (h3 h)
 refine sd ?_
 refine WPU.condS (t:=b2) rfl (fun h4=>?_) (fun h4=>?_)
 replace hF:=q05 h4 hF
 refine sr ?_
 refine sd ?_
 refine WPU.ret ?_
 refine st ?_
 have hr:=Option.some.inj hF
 subst hr
 exact ⟨.inr rfl,[.nils],q0l rfl (q0i),.isl false [],⟨[],0⟩,Nat.le_refl _,Gh.trans (Gh.wk (.cons (.nil false) .nil)) (Gh.toR (.isl false []) rfl),rfl,BU.h⟩
 replace hF:=q04 h4 hF
 refine st ?_
 refine WPU.skip ?_
 refine st ?_
 obtain ⟨h5,hF⟩:=q0n hF
 refine sr ?_
 refine RS.q (u:=.sl 0 0 0 0) (σ':=⟨[(0,.row [] 62)],1⟩) rfl (q4g und26 inf62 rfl rfl rfl rfl rfl rfl rfl) (RS.mv rfl rfl rfl rfl (RS.q (u:=.vl 1 0 0 p1.length) (σ':=⟨[(1,.vec (List.map cGDecision p1).flatten 62 5 0),(0,.row [] 62)],2⟩) rfl (q7i rfl rfl rfl rfl (app_emp cGDecision p1 und26 und26 inf62 rfl rfl rfl (qi9 cGDecision q0f) h5)) ?_))
 refine sd ?_
 refine WPU.ret ?_
 refine st ?_
 have hr:=Option.some.inj hF
 subst hr
 exact ⟨.inr rfl,[.vl 1 0 0 p1.length],q0l rfl (q0i),.isl false (List.map cGDecision p1),⟨[],0⟩,Nat.le_refl _,Gh.trans (Gh.fz (tm':=[.isl false (List.map cGDecision p1)]) (h':=[(0,.row [] 62)]) 1 (.vec (List.map cGDecision p1).flatten 62 5 0) 5 rfl (by simp) (by simp only [oneU,q0y,q0o,q1z,q11,q22,q15,q14,q13,q12,q10,q20,q21,q1y,q23,q3k,junkT,q8i q0f]) (by simp only [fzH,fzB,ug,Nat.beq,cond_true,cond_false,oneU,q0y,q0o,q1z,q11,q22,q15,q14,q13,q12,q10,q20,q21,q1y,q23,q3k,junkT,q8i q0f])) (Gh.toR (.isl false (List.map cGDecision p1)) rfl),rfl,BU.h⟩
theorem q8g (n:Nat) (p1:List GDecision) (r:(List GDecision)) (hF:q2y n p1=some r) (σ:Sg):EvU Tryz.prog 46 [.isl false (List.map cGDecision p1)] σ (fun u σ'=>u = .isl false (List.map cGDecision r)∧σ'=σ) :=
 EvU.pure1C (qbu n p1 r hF) σ
def q1u (z23:Int) (rc2:Int→Int→(List GDeriv)→Option ((List GDeriv))) (z39:Int) (l40:List GDeriv):Option ((List GDeriv)) :=
 rc2 z39 (IntKind.i64.wrap (z23+1)) l40
def q2q  (z25:Int) (l26:List GDeriv):Option ((List GDeriv)) :=
 needO ((0:Int)≤z25∧z25≤((l26.length:Nat):Int)) (
 needO ((0+z25.toNat)+(l26.length - z25.toNat)≤l26.length) (
 needO ((0:Int)≤z25∧z25≤(((clrV l26 (0+z25.toNat) (l26.length - z25.toNat) (GDeriv.mk 0 [] 0 0 [])).length:Nat):Int)) (
 needO (z25.toNat≤(clrV l26 (0+z25.toNat) (l26.length - z25.toNat) (GDeriv.mk 0 [] 0 0 [])).length) (
  some ((clrV l26 (0+z25.toNat) (l26.length - z25.toNat) (GDeriv.mk 0 [] 0 0 [])).take z25.toNat)))))
def q0s (p1:List GDeriv) (f1:GDeriv→GDeriv→Option (Bool)) (z6:Int):Nat→Int→Int→(List GDeriv)→Option ((List GDeriv))
 | 0,_,_,_=>none
 | m2+1,z22,z23,l24 =>
  cond (decide (z23<(((p1.length - z6.toNat):Nat):Int)))
   (bindO (idxV l24 (0+z6.toNat) (p1.length - z6.toNat) z23) fun x32 =>
   bindO (idxV l24 (0+z6.toNat) (p1.length - z6.toNat) (IntKind.i64.wrap (z23 - 1))) fun x34 =>
   bindO (f1 x32 x34) fun r36 =>
   cond (!r36)
    (bindO (idxV l24 (0+z6.toNat) (p1.length - z6.toNat) z23) fun x41 =>
    bindO (idxO l24 z22) fun x43 =>
    q1u z23 (q0s p1 f1 z6 m2) (IntKind.i64.wrap (z22+1)) (l24.set (0+z22.toNat) x41))
    (q1u z23 (q0s p1 f1 z6 m2) z22 l24))
   (q2q z22 l24)
def q2p (p1:List GDeriv)  : Option ((List GDeriv)) :=
 some p1
def q1c (p1:List GDeriv) (f1:GDeriv→GDeriv→Option (Bool)) (n:Nat):Nat→Int→Option ((List GDeriv))
 | 0,_=>none
 | m1+1,z6 =>
  cond (decide (z6<(p1.length:Int)))
   (bindO (idxO p1 z6) fun x8 =>
   bindO (idxO p1 (IntKind.i64.wrap (z6 - 1))) fun x10 =>
   bindO (f1 x8 x10) fun r12 =>
   cond r12
    (needO ((0:Int)≤z6∧z6≤((p1.length:Nat):Int)) (
    q0s p1 f1 z6 n z6 1 p1))
    ((q1c p1 f1 n m1) (IntKind.i64.wrap (z6+1))))
   (q2p p1)
def q1p (f1:GDeriv→GDeriv→Option (Bool)) (n:Nat) (p1:List GDeriv):Option ((List GDeriv)) :=
 cond (decide ((p1.length:Int)<2))
  (some p1)
  (q1c p1 f1 n n 1)
theorem q8y (f1:GDeriv→GDeriv→Option (Bool)) (hf1:∀ (a0:GDeriv) (a1:GDeriv) (r:Bool),f1 a0 a1=some r→EvU Tryz.prog 21 [.agg (xGDeriv a0),.agg (xGDeriv a1)] ⟨[],0⟩ (fun u _=>u = .bool r∧Bel 0 u)) (n:Nat) (p1:List GDeriv) (r:(List GDeriv)) (hF:q1p f1 n p1=some r):∀ t0,EvU Tryz.prog 20 [.vl 0 t0 0 p1.length,.fn (.func 21) [] []] ⟨[(0,.vec (List.map cGDeriv p1).flatten 43 5 t0)],1⟩ (fun u σ'=>∃ t,u = .vl 0 t 0 r.length∧σ'=⟨[(0,.vec (List.map cGDeriv r).flatten 43 5 t)],1⟩):=by
 unfold q1p at hF
 have hf1S:∀ (a0:GDeriv) (a1:GDeriv) (r:Bool),f1 a0 a1=some r→∀ σ,EvU Tryz.prog 21 [.agg (xGDeriv a0),.agg (xGDeriv a1)] σ (fun u σ'=>u = .bool r∧σ'=σ):=fun a0 a1 r h σ=>EvU.pure1C (hf1 a0 a1 r h) σ
 intro t0
 refine EvU.of_body Tryz.tb_ok fn20 rfl ?_
 refine WPU.ghost (tm':=fr 66 [(0,.vl 0 t0 0 p1.length),(1,.fn (.func 21) [] [])]) (Gh.start (Nat.le_of_ble_eq_true rfl)) (Nat.le_refl _) ?_
 refine sr ?_
 refine se ?_
 refine RS.q rfl (q0k rfl rfl rfl (qhn und22 rfl)) (RS.q rfl (q02 rfl rfl (q18 _ _ _) rfl) ?_)
 refine sd ?_
 refine WPU.condS (t:=(decide ((p1.length:Int)<2))) rfl (fun h2=>?_) (fun h2=>?_)
 replace hF:=q05 h2 hF
 refine sr ?_
 refine sd ?_
 refine WPU.ret ?_
 refine st ?_
 have hr:=Option.some.inj hF
 subst hr
 exact ⟨.inr rfl,[.vl 0 t0 0 p1.length],q0l rfl q0i,.vl 0 t0 0 p1.length,⟨[(0,.vec (List.map cGDeriv p1).flatten 43 5 t0)],1⟩,Nat.le_refl _,Gh.to (n1:=1) [] rfl rfl (Nat.le_refl _) (Nat.le_of_ble_eq_true rfl) BUL.h BH.h,t0,rfl,rfl⟩
 replace hF:=q04 h2 hF
 refine st ?_
 refine WPU.skip ?_
 refine sr ?_
 refine sd ?_
 refine WPU.ghost (tm':=fr 66 [(0,.vl 0 t0 0 p1.length),(1,.fn (.func 21) [] []),(5,.int .i64 1)]) (Gh.sub ⟨rfl,rfl,rfl,trivial⟩) (Nat.le_of_ble_eq_true rfl) ?_
 refine WPU.loopK (fun m tm σ=>∃ z6:Int,q1c p1 f1 n m z6=some r∧tm=fr 66 [(0,.vl 0 t0 0 p1.length),(1,.fn (.func 21) [] []),(5,.int .i64 z6)]∧σ=⟨[(0,.vec (List.map cGDeriv p1).flatten 43 5 t0)],1⟩) (fun tm σ=>q2p p1=some r∧tm=fr 66 [(0,.vl 0 t0 0 p1.length)]∧σ=⟨[(0,.vec (List.map cGDeriv p1).flatten 43 5 t0)],1⟩) n ⟨1,hF,rfl,rfl⟩ ?_ ?_
 rintro _ _ ⟨hF,rfl,rfl⟩
 unfold q2p at hF
 refine sr ?_
 refine sd ?_
 refine WPU.ret ?_
 refine st ?_
 have hr:=Option.some.inj hF
 subst hr
 exact ⟨.inr rfl,[.vl 0 t0 0 p1.length],q0l rfl q0i,.vl 0 t0 0 p1.length,⟨[(0,.vec (List.map cGDeriv p1).flatten 43 5 t0)],1⟩,Nat.le_refl _,Gh.to (n1:=1) [] rfl rfl (Nat.le_refl _) (Nat.le_of_ble_eq_true rfl) BUL.h BH.h,t0,rfl,rfl⟩
 rintro m1 _ _ ⟨z6,hF,rfl,rfl⟩
 rcases m1 with _ | m1
 cases hF
 unfold q1c at hF
 refine sr ?_
 repeat refine RS.mv rfl rfl rfl rfl ?_
 refine RS.q rfl (q0k rfl rfl rfl (qhn und22 rfl)) (RS.q rfl (q02 rfl rfl (q18 _ _ _) rfl) ?_)
 refine sd ?_
 refine WPU.condS (t:=(decide (z6<(p1.length:Int)))) rfl (fun h7=>?_) (fun h7=>?_)
 replace hF:=q05 h7 hF
 refine st ?_
 refine WPU.skip ?_
 refine st ?_
 refine WPU.block ?_
 refine st ?_
 obtain ⟨x8,h9,hF⟩:=q00 hF
 obtain ⟨x10,h11,hF⟩:=q00 hF
 obtain ⟨r12,h13,hF⟩:=q00 hF
 refine WPU.drawE Tryz.tb_ok [] (by kernel_rfl) ?_
 repeat refine RD.mv rfl rfl rfl rfl ?_
 refine RD.q (u:=.ptr 0 t0 (0*5+z6.toNat*5)) rfl (q2a rfl rfl (ia_vl cGDeriv und22 (q01 inf43) (by decide) q0e (vo rfl) h9)) ?_
 refine RD.q (u:=.agg (xGDeriv x8)) rfl (qhm cGDeriv und43 rfl (q01 inf43) q0e rfl rfl h9 (q0m x8)) ?_
 repeat refine RD.mv rfl rfl rfl rfl ?_
 refine RD.q rfl (q02 rfl rfl (q8z _ _ _) rfl) ?_
 refine RD.q (u:=.ptr 0 t0 (0*5+(IntKind.i64.wrap (z6 - 1)).toNat*5)) rfl (q2a rfl rfl (ia_vl cGDeriv und22 (q01 inf43) (by decide) q0e (vo rfl) h11)) ?_
 refine RD.q (u:=.agg (xGDeriv x10)) rfl (qhm cGDeriv und43 rfl (q01 inf43) q0e rfl rfl h11 (q0m x10)) (RD.free (u:=.bool r12) (args:=[.agg (xGDeriv x8),.agg (xGDeriv x10)]) rfl (q03 rfl rfl fn21 hb21 rfl rfl) (fun s=>hf1S x8 x10 r12 h13 s) rfl rfl ?_)
 refine RD.done ⟨by kernel_rfl,trivial,?_⟩
 refine st ?_
 refine WPU.condS (t:=r12) rfl (fun h14=>?_) (fun h14=>?_)
 replace hF:=q05 h14 hF
 refine st ?_
 obtain ⟨h15,hF⟩:=q0n hF
 refine sr ?_
 repeat refine RS.mv rfl rfl rfl rfl ?_
 refine RS.q (u:=.vl 0 t0 (0+z6.toNat) (p1.length - z6.toNat)) rfl (q7a rfl (em_s rfl) em_n em_n (sl_vp cGDeriv und22 (q01 inf43) q0e (vo rfl) (Nat.le_of_eq (Nat.zero_add _)) (bnd_lo h15.1 h15.2))) ?_
 refine se ?_
 refine sd ?_
 refine WPU.ghost (tm':=fr 66 [(0,.vl 0 t0 0 p1.length),(1,.fn (.func 21) [] []),(5,.int .i64 z6),(6,.vl 0 t0 (0+z6.toNat) (p1.length - z6.toNat)),(7,.int .i64 1)]) (Gh.sub ⟨rfl,rfl,rfl,rfl,rfl,trivial⟩) (Nat.le_of_ble_eq_true rfl) ?_
 refine WPU.loopK (fun m tm σ=>∃ z22:Int,∃ z23:Int,∃ l24:List GDeriv,q0s p1 f1 z6 m z22 z23 l24=some r∧tm=fr 66 [(0,.vl 0 t0 0 l24.length),(1,.fn (.func 21) [] []),(5,.int .i64 z22),(6,.vl 0 t0 (0+z6.toNat) (p1.length - z6.toNat)),(7,.int .i64 z23)]∧σ=⟨[(0,.vec (List.map cGDeriv l24).flatten 43 5 t0)],1⟩) (fun tm σ=>∃ z25:Int,∃ l26:List GDeriv,q2q z25 l26=some r∧tm=fr 66 [(0,.vl 0 t0 0 l26.length),(5,.int .i64 z25)]∧σ=⟨[(0,.vec (List.map cGDeriv l26).flatten 43 5 t0)],1⟩) n ⟨z6,1,p1,hF,rfl,rfl⟩ ?_ ?_
 rintro _ _ ⟨z25,l26,hF,rfl,rfl⟩
 unfold q2q at hF
 refine st ?_
 obtain ⟨h27,hF⟩:=q0n hF
 obtain ⟨h28,hF⟩:=q0n hF
 refine WPU.joinK (fun tm σ=>tm=fr 66 [(0,.vl 0 t0 0 ((clrV l26 (0+z25.toNat) (l26.length - z25.toNat) (GDeriv.mk 0 [] 0 0 [])).length)),(5,.int .i64 z25)]∧σ=⟨[(0,.vec (List.map cGDeriv (clrV l26 (0+z25.toNat) (l26.length - z25.toNat) (GDeriv.mk 0 [] 0 0 []))).flatten 43 5 t0)],1⟩) ?_ ?_
 rintro _ _ ⟨rfl,rfl⟩
 refine st ?_
 obtain ⟨h29,hF⟩:=q0n hF
 refine sr ?_
 repeat refine RS.mv rfl rfl rfl rfl ?_
 refine RS.q (u:=.vl 0 t0 0 z25.toNat) rfl (q7a rfl em_n (em_s rfl) em_n (sl_vp cGDeriv und22 (q01 inf43) q0e (vo rfl) (Nat.le_of_eq (Nat.zero_add _)) (bnd_hi h29.1 h29.2))) ?_
 refine sd ?_
 refine WPU.ret ?_
 refine st ?_
 obtain ⟨h30,hF⟩:=q0n hF
 have hr:=Option.some.inj hF
 subst hr
 exact ⟨.inr rfl,[.vl 0 t0 0 z25.toNat],q0l rfl q0i,.vl 0 t0 0 z25.toNat,⟨[(0,.vec (List.map cGDeriv ((clrV l26 (0+z25.toNat) (l26.length - z25.toNat) (GDeriv.mk 0 [] 0 0 [])).take z25.toNat)).flatten 43 5 t0)],1⟩,Nat.le_refl _,Gh.trans (Gh.truncL (K:=0) cGDeriv q0e rfl z25.toNat) (Gh.to (n1:=1) [] rfl rfl (Nat.le_refl _) (Nat.le_of_ble_eq_true rfl) BUL.h BH.h),t0,by rw [List.length_take_of_le h30],rfl⟩
 refine sr ?_
 repeat refine RS.mv rfl rfl rfl rfl ?_
 refine RS.q (u:=.vl 0 t0 (0+z25.toNat) (l26.length - z25.toNat)) rfl (q7a rfl (em_s rfl) em_n em_n (sl_vp cGDeriv und22 (q01 inf43) q0e (vo rfl) (Nat.le_of_eq (Nat.zero_add _)) (bnd_lo h27.1 h27.2))) (RS.opn (u:=.junk) (σ':=⟨[(0,.vec (List.map cGDeriv (clrV l26 (0+z25.toNat) (l26.length - z25.toNat) (GDeriv.mk 0 [] 0 0 []))).flatten 43 5 t0)],1⟩) rfl (op_clr cGDeriv rfl rfl rfl und22 inf43 rfl rfl rfl rfl q0e rfl h28 rfl) rfl ?_)
 refine sd ?_
 exact ⟨_,_,⟨rfl,rfl⟩,(Nat.le_of_ble_eq_true rfl),Gh.eqS ⟨(by simp only [qgb h28]; rfl),rfl,trivial⟩ rfl⟩
 rintro m2 _ _ ⟨z22,z23,l24,hF,rfl,rfl⟩
 rcases m2 with _ | m2
 cases hF
 unfold q0s at hF
 refine sr ?_
 repeat refine RS.mv rfl rfl rfl rfl ?_
 refine RS.q rfl (q0k rfl rfl rfl (len_vp und22 rfl)) (RS.q rfl (q02 rfl rfl (q18 _ _ _) rfl) ?_)
 refine sd ?_
 refine WPU.condS (t:=(decide (z23<(((p1.length - z6.toNat):Nat):Int)))) rfl (fun h31=>?_) (fun h31=>?_)
 replace hF:=q05 h31 hF
 refine st ?_
 refine WPU.skip ?_
 refine st ?_
 refine WPU.block ?_
 refine st ?_
 obtain ⟨x32,h33,hF⟩:=q00 hF
 obtain ⟨x34,h35,hF⟩:=q00 hF
 obtain ⟨r36,h37,hF⟩:=q00 hF
 refine WPU.drawE Tryz.tb_ok [] (by kernel_rfl) ?_
 repeat refine RD.mv rfl rfl rfl rfl ?_
 refine RD.q (u:=.ptr 0 t0 ((0+z6.toNat)*5+z23.toNat*5)) rfl (q2a rfl rfl (ia_vp cGDeriv und22 (q01 inf43) (by decide) q0e (vo rfl) h33)) ?_
 refine RD.q (u:=.agg (xGDeriv x32)) rfl (ld_vp cGDeriv und43 rfl (q01 inf43) q0e rfl rfl h33 (q0m x32)) ?_
 repeat refine RD.mv rfl rfl rfl rfl ?_
 refine RD.q rfl (q02 rfl rfl (q8z _ _ _) rfl) ?_
 refine RD.q (u:=.ptr 0 t0 ((0+z6.toNat)*5+(IntKind.i64.wrap (z23 - 1)).toNat*5)) rfl (q2a rfl rfl (ia_vp cGDeriv und22 (q01 inf43) (by decide) q0e (vo rfl) h35)) ?_
 refine RD.q (u:=.agg (xGDeriv x34)) rfl (ld_vp cGDeriv und43 rfl (q01 inf43) q0e rfl rfl h35 (q0m x34)) (RD.free (u:=.bool r36) (args:=[.agg (xGDeriv x32),.agg (xGDeriv x34)]) rfl (q03 rfl rfl fn21 hb21 rfl rfl) (fun s=>hf1S x32 x34 r36 h37 s) rfl rfl (RD.q (u:=.bool (!r36)) rfl (q7l rfl rfl rfl rfl) ?_))
 refine RD.done ⟨by kernel_rfl,trivial,?_⟩
 refine st ?_
 refine WPU.joinK (fun tm σ=>∃ z39:Int,∃ l40:List GDeriv,q1u z23 (q0s p1 f1 z6 m2) z39 l40=some r∧tm=fr 66 [(0,.vl 0 t0 0 l40.length),(1,.fn (.func 21) [] []),(5,.int .i64 z39),(6,.vl 0 t0 (0+z6.toNat) (p1.length - z6.toNat)),(7,.int .i64 z23)]∧σ=⟨[(0,.vec (List.map cGDeriv l40).flatten 43 5 t0)],1⟩) ?_ ?_
 rintro _ _ ⟨z39,l40,hF,rfl,rfl⟩
 unfold q1u at hF
 refine sr ?_
 refine RS.q rfl (q02 rfl rfl (q1q _ _ _) rfl) ?_
 refine sd ?_
 exact ⟨m2,_,_,Nat.lt_succ_self _,⟨z39,(IntKind.i64.wrap (z23+1)),l40,hF,rfl,rfl⟩,(Nat.le_of_ble_eq_true rfl),Gh.toC (n1:=1) ⟨rfl,rfl,rfl,rfl,rfl,trivial⟩ rfl (Nat.le_of_ble_eq_true rfl) (by simp)⟩
 refine WPU.condS (t:=(!r36)) rfl (fun h38=>?_) (fun h38=>?_)
 replace hF:=q05 h38 hF
 refine st ?_
 obtain ⟨x41,h42,hF⟩:=q00 hF
 obtain ⟨x43,h44,hF⟩:=q00 hF
 refine WPU.joinK (fun tm σ=>tm=fr 66 [(0,.vl 0 t0 0 ((l24.set (0+z22.toNat) x41).length)),(1,.fn (.func 21) [] []),(5,.int .i64 z22),(6,.vl 0 t0 (0+z6.toNat) (p1.length - z6.toNat)),(7,.int .i64 z23)]∧σ=⟨[(0,.vec (List.map cGDeriv (l24.set (0+z22.toNat) x41)).flatten 43 5 t0)],1⟩) ?_ ?_
 rintro _ _ ⟨rfl,rfl⟩
 refine sr ?_
 refine RS.q rfl (q02 rfl rfl (q1q _ _ _) rfl) ?_
 refine sd ?_
 exact ⟨_,_,⟨(IntKind.i64.wrap (z22+1)),(l24.set (0+z22.toNat) x41),hF,rfl,rfl⟩,(Nat.le_of_ble_eq_true rfl),Gh.toC (n1:=1) ⟨rfl,rfl,rfl,rfl,rfl,trivial⟩ rfl (Nat.le_of_ble_eq_true rfl) (by simp)⟩
 refine sr ?_
 repeat refine RS.mv rfl rfl rfl rfl ?_
 refine RS.q (u:=.ptr 0 t0 ((0+z6.toNat)*5+z23.toNat*5)) rfl (q2a rfl rfl (ia_vp cGDeriv und22 (q01 inf43) (by decide) q0e (vo rfl) h42)) ?_
 refine RS.q (u:=.agg (xGDeriv x41)) rfl (ld_vp cGDeriv und43 rfl (q01 inf43) q0e rfl rfl h42 (q0m x41)) ?_
 refine RS.q (u:=.ptr 0 t0 (0*5+z22.toNat*5)) rfl (q2a rfl rfl (ia_vl cGDeriv und22 (q01 inf43) (by decide) q0e (vo rfl) h44)) ?_
 refine RS.opn (u:=.junk) (σ':=⟨[(0,.vec (List.map cGDeriv (l24.set (0+z22.toNat) x41)).flatten 43 5 t0)],1⟩) rfl (st_vp cGDeriv (q01 inf43) q0e rfl rfl rfl rfl rfl (by simp only [q0m,xGDeriv,GDeriv.Kind,GDeriv.Name,GDeriv.From,GDeriv.To,GDeriv.Kids]; rfl) rfl (idxO_V h44) rfl) rfl ?_
 refine sd ?_
 exact ⟨_,_,⟨rfl,rfl⟩,(Nat.le_of_ble_eq_true rfl),Gh.eqS ⟨(by simp only [List.length_set]; rfl),rfl,rfl,rfl,rfl,trivial⟩ rfl⟩
 replace hF:=q04 h38 hF
 refine st ?_
 refine WPU.skip ?_
 refine st ?_
 exact ⟨_,_,⟨z22,l24,hF,rfl,rfl⟩,(Nat.le_of_ble_eq_true rfl),Gh.toC (n1:=1) ⟨rfl,rfl,rfl,rfl,rfl,trivial⟩ rfl (Nat.le_of_ble_eq_true rfl) (by simp)⟩
 replace hF:=q04 h31 hF
 refine st ?_
 refine WPU.exit ?_
 refine st ?_
 exact ⟨_,_,⟨z22,l24,hF,rfl,rfl⟩,(Nat.le_of_ble_eq_true rfl),Gh.toC (n1:=1) ⟨rfl,rfl,trivial⟩ rfl (Nat.le_of_ble_eq_true rfl) (by simp)⟩
 replace hF:=q04 h14 hF
 refine st ?_
 refine WPU.skip ?_
 refine sr ?_
 refine RS.q rfl (q02 rfl rfl (q1q _ _ _) rfl) ?_
 refine sd ?_
 exact ⟨m1,_,_,Nat.lt_succ_self _,⟨(IntKind.i64.wrap (z6+1)),hF,rfl,rfl⟩,(Nat.le_of_ble_eq_true rfl),Gh.toC (n1:=1) ⟨rfl,rfl,rfl,trivial⟩ rfl (Nat.le_of_ble_eq_true rfl) (by simp)⟩
 replace hF:=q04 h7 hF
 refine st ?_
 refine WPU.exit ?_
 refine st ?_
 exact ⟨_,_,⟨hF,rfl,rfl⟩,(Nat.le_of_ble_eq_true rfl),Gh.toC (n1:=1) ⟨rfl,trivial⟩ rfl (Nat.le_of_ble_eq_true rfl) (by simp)⟩
theorem q8x (f1:GDeriv→GDeriv→Option (Bool)) (hf1:∀ (a0:GDeriv) (a1:GDeriv) (r:Bool),f1 a0 a1=some r→EvU Tryz.prog 21 [.agg (xGDeriv a0),.agg (xGDeriv a1)] ⟨[],0⟩ (fun u _=>u = .bool r∧Bel 0 u)) (n:Nat) (p1:List GDeriv) (r:(List GDeriv)) (hF:q1p f1 n p1=some r):∀ (σ:Sg) {K t0:Nat},Nat.blt K σ.nx=true→gt σ.h K=some (.vec (List.map cGDeriv p1).flatten 43 5 t0)→EvU Tryz.prog 20 [.vl K t0 0 p1.length,.fn (.func 21) [] []] σ (fun u σ'=>∃ t,u = .vl K t 0 r.length∧σ'=⟨ug σ.h K (.vec (List.map cGDeriv r).flatten 43 5 t),σ.nx⟩):=fun σ K t0 hK hg =>
 EvU.acc1 cGDeriv (BF.h 0) (BUL.h) (q8y f1 hf1 n p1 r hF) σ hK hg
def q8c (z8:Int) (rc1:Int→(List GDeriv)→Option (GSession×Int)) (l29:List GDeriv):Option (GSession×Int) :=
 rc1 (IntKind.i64.wrap (z8+1)) l29
def q8d (l9:List GDeriv) (z22:Int) (rc2:Bool→Int→(List GDeriv)→Option (GSession×Int)) (b45:Bool) (l46:List GDeriv):Option (GSession×Int) :=
 bindO (idxO l9 z22) fun x48 =>
 needO ((l46.length+1)*64≤140737488355328∧l46.length+1≤140737488355328) (
 rc2 b45 (IntKind.i64.wrap (z22+1)) (l46++[x48]))
def q9u (l9:List GDeriv) (z22:Int) (rc2:Bool→Int→(List GDeriv)→Option (GSession×Int)) (l52:List GDeriv):Option (GSession×Int) :=
 q8d l9 z22 rc2 true l52
def q9v (p1:List GDeriv) (z8:Int) (rc1:Int→(List GDeriv)→Option (GSession×Int)) (b25:Bool) (l26:List GDeriv):Option (GSession×Int) :=
 cond (!b25)
  (bindO (idxO p1 z8) fun x31 =>
  needO ((l26.length+1)*64≤140737488355328∧l26.length+1≤140737488355328) (
  q8c z8 rc1 (l26++[x31])))
  (q8c z8 rc1 l26)
def q3v (p1:List GDeriv) (n:Nat) (z8:Int) (l9:List GDeriv) (rc1:Int→(List GDeriv)→Option (GSession×Int)):Nat→Bool→Int→(List GDeriv)→Option (GSession×Int)
 | 0,_,_,_=>none
 | m2+1,b21,z22,l23 =>
  cond (decide (z22<(l9.length:Int)))
   (bindO (idxO p1 z8) fun x35 =>
   bindO (idxO l9 z22) fun x37 =>
   bindO (q3m n x35 x37) fun r39 =>
   bindO (cond (!b21)
    (some (decide (r39≤0)))
    (some false)) fun b42 =>
   cond b42
    (cond (decide (r39<0))
     (bindO (idxO p1 z8) fun x54 =>
     needO ((l23.length+1)*64≤140737488355328∧l23.length+1≤140737488355328) (
     q9u l9 z22 (q3v p1 n z8 l9 rc1 m2) (l23++[x54])))
     (q9u l9 z22 (q3v p1 n z8 l9 rc1 m2) l23))
    (q8d l9 z22 (q3v p1 n z8 l9 rc1 m2) b21 l23))
   (q9v p1 z8 rc1 b21 l23)
def qax  (l10:List GDeriv):Option (GSession×Int) :=
 some ((GSession.mk l10 [] 0),0)
def q3u (p1:List GDeriv) (n:Nat):Nat→Int→(List GDeriv)→Option (GSession×Int)
 | 0,_,_=>none
 | m1+1,z8,l9 =>
  cond (decide (z8<(p1.length:Int)))
   (q3v p1 n z8 l9 (q3u p1 n m1) n false 0 ([]:List GDeriv))
   (qax l9)
def qbc (n:Nat) (p1:List GDeriv):Option (GSession×Int) :=
 cond ((p1.length:Int) == 0)
  (some ((GSession.mk [] [] 0),1))
  (q3u p1 n n 0 ([]:List GDeriv))
theorem ref46_New_0 (n:Nat) (p1:List GDeriv) (r:GSession×Int) (hF:qbc n p1=some r):EvU Tryz.prog 7 [.isl false (List.map cGDeriv p1)] ⟨[],0⟩ (fun u _=>u = .tup [.agg (cGSession r.1),.int .i64 r.2]∧Bel 0 u):=by
 unfold qbc at hF
 refine EvU.of_body Tryz.tb_ok fn7 rfl ?_
 refine WPU.ghost (tm':=fr 74 [(0,.isl false (List.map cGDeriv p1))]) (Gh.start (Nat.le_of_ble_eq_true rfl)) (Nat.zero_le _) ?_
 refine sr ?_
 refine RS.q (u:=.ptr 0 0 0) (σ':=⟨[(0,.row [.nils,.nils,.int .i64 0] 28)],1⟩) rfl (q0v inf28 rfl rfl) ?_
 refine se ?_
 refine RS.q rfl (q0k rfl rfl rfl (q0g cGDeriv und22)) (RS.q rfl (q02 rfl rfl (q0j _ _ _) rfl) ?_)
 refine sd ?_
 refine WPU.condS (t:=((p1.length:Int) == 0)) rfl (fun h2=>?_) (fun h2=>?_)
 replace hF:=q05 h2 hF
 refine sr ?_
 refine RS.q (u:=.agg [.nils,.nils,.int .i64 0]) rfl (q4d bd28 rfl rfl rfl) (RS.opn (u:=.junk) (σ':=⟨[(0,.row [.nils,.nils,.int .i64 0] 28)],1⟩) rfl (q0d (q01 inf28) rfl rfl rfl rfl rfl rfl rfl rfl) rfl ?_)
 refine sd ?_
 refine WPU.ret ?_
 refine st ?_
 have hr:=Option.some.inj hF
 subst hr
 exact ⟨.inr rfl,[.agg [.nils,.nils,.int .i64 0],.int .i64 1],q5f (q0a und28 rfl (q01 inf28) rfl rfl rfl) (q0l rfl (q0i)),.tup [.agg [.isl false [],.isl false [],.int .i64 0],.int .i64 1],⟨[],0⟩,Nat.le_refl _,Gh.trans (Gh.wk (.cons (.tup (.cons (.agg (.cons (.nil false) (.cons (.nil false) (.cons (.refl _) .nil)))) (.cons (.refl _) .nil))) .nil)) (Gh.toR (.tup [.agg [.isl false [],.isl false [],.int .i64 0],.int .i64 1]) rfl),rfl,BU.h⟩
 replace hF:=q04 h2 hF
 refine st ?_
 refine WPU.skip ?_
 refine sr ?_
 refine RS.q (u:=.agg [.nils,.nils,.int .i64 0]) rfl (q4d bd28 rfl rfl rfl) (RS.q (u:=.ptr 1 0 0) (σ':=⟨[(1,.row [.nils,.nils,.int .i64 0] 28),(0,.row [.nils,.nils,.int .i64 0] 28)],2⟩) rfl (q0v inf28 rfl rfl) (RS.opn (u:=.junk) (σ':=⟨[(1,.row [.nils,.nils,.int .i64 0] 28),(0,.row [.nils,.nils,.int .i64 0] 28)],2⟩) rfl (q0d (q01 inf28) rfl rfl rfl rfl rfl rfl rfl rfl) rfl ?_))
 refine se ?_
 refine sd ?_
 refine WPU.ghost (tm':=fr 74 [(0,.isl false (List.map cGDeriv p1)),(2,.ptr 0 0 0),(4,.ptr 1 0 0),(5,.int .i64 0)]) (σ':=⟨[(1,.row [.isl false (List.map cGDeriv ([]:List GDeriv)),.nils,.int .i64 0] 28),(0,.row [.nils,.nils,.int .i64 0] 28)],2⟩) (Gh.trans (Gh.rowW (K:=1) (q':=[.isl false (List.map cGDeriv ([]:List GDeriv)),.nils,.int .i64 0]) rfl rfl (.cons (.nil false) (.cons (.refl _) (.cons (.refl _) .nil)))) (Gh.eqS ⟨rfl,rfl,rfl,rfl,trivial⟩ rfl)) (Nat.zero_le _) ?_
 refine WPU.ghost (tm':=fr 74 [(0,.isl false (List.map cGDeriv p1)),(2,.ptr 0 0 0),(4,.ptr 1 0 0),(5,.int .i64 0)]) (Gh.sub ⟨rfl,rfl,rfl,rfl,trivial⟩) (Nat.zero_le _) ?_
 refine WPU.loopK (fun m tm σ=>∃ z8:Int,∃ l9:List GDeriv,q3u p1 n m z8 l9=some r∧tm=fr 74 [(0,.isl false (List.map cGDeriv p1)),(2,.ptr 0 0 0),(4,.ptr 1 0 0),(5,.int .i64 z8)]∧σ=⟨[(1,.row [.isl false (List.map cGDeriv l9),.nils,.int .i64 0] 28),(0,.row [.nils,.nils,.int .i64 0] 28)],2⟩) (fun tm σ=>∃ l10:List GDeriv,qax l10=some r∧tm=fr 74 [(2,.ptr 0 0 0),(4,.ptr 1 0 0)]∧σ=⟨[(1,.row [.isl false (List.map cGDeriv l10),.nils,.int .i64 0] 28),(0,.row [.nils,.nils,.int .i64 0] 28)],2⟩) n ⟨0,([]:List GDeriv),hF,rfl,rfl⟩ ?_ ?_
 rintro _ _ ⟨l10,hF,rfl,rfl⟩
 unfold qax at hF
 refine sr ?_
 refine RS.q (u:=.agg [.isl false (List.map cGDeriv l10),.nils,.int .i64 0]) rfl (q0a und28 rfl (q01 inf28) rfl rfl rfl) (RS.opn (u:=.junk) (σ':=⟨[(1,.row [.isl false (List.map cGDeriv l10),.nils,.int .i64 0] 28),(0,.row [.isl false (List.map cGDeriv l10),.nils,.int .i64 0] 28)],2⟩) rfl (q0d (q01 inf28) rfl rfl rfl rfl rfl rfl rfl rfl) rfl ?_)
 refine sd ?_
 refine WPU.ret ?_
 refine st ?_
 have hr:=Option.some.inj hF
 subst hr
 exact ⟨.inr rfl,[.agg [.isl false (List.map cGDeriv l10),.nils,.int .i64 0],.int .i64 0],q5f (q0a und28 rfl (q01 inf28) rfl rfl rfl) (q0l rfl (q0i)),.tup [.agg [.isl false (List.map cGDeriv l10),.isl false [],.int .i64 0],.int .i64 0],⟨[],0⟩,Nat.le_refl _,Gh.trans (Gh.wk (.cons (.tup (.cons (.agg (.cons (.refl _) (.cons (.nil false) (.cons (.refl _) .nil)))) (.cons (.refl _) .nil))) .nil)) (Gh.toR (.tup [.agg [.isl false (List.map cGDeriv l10),.isl false [],.int .i64 0],.int .i64 0]) rfl),rfl,BU.h⟩
 rintro m1 _ _ ⟨z8,l9,hF,rfl,rfl⟩
 rcases m1 with _ | m1
 cases hF
 unfold q3u at hF
 refine sr ?_
 repeat refine RS.mv rfl rfl rfl rfl ?_
 refine RS.q rfl (q0k rfl rfl rfl (q0g cGDeriv und22)) (RS.q rfl (q02 rfl rfl (q18 _ _ _) rfl) ?_)
 refine sd ?_
 refine WPU.condS (t:=(decide (z8<(p1.length:Int)))) rfl (fun h11=>?_) (fun h11=>?_)
 replace hF:=q05 h11 hF
 refine st ?_
 refine WPU.skip ?_
 refine st ?_
 refine WPU.block ?_
 refine sr ?_
 refine RS.q (u:=.sl 2 0 0 0) (σ':=⟨[(2,.row [] 43),(1,.row [.isl false (List.map cGDeriv l9),.nils,.int .i64 0] 28),(0,.row [.nils,.nils,.int .i64 0] 28)],3⟩) rfl (q4g und22 inf43 rfl rfl rfl rfl rfl rfl rfl) ?_
 refine se ?_
 refine se ?_
 refine sd ?_
 refine WPU.ghost (tm':=fr 74 [(0,.isl false (List.map cGDeriv p1)),(2,.ptr 0 0 0),(4,.ptr 1 0 0),(5,.int .i64 z8),(6,.vl 3 0 0 (([]:List GDeriv).length)),(7,.bool false),(8,.int .i64 0)]) (σ':=⟨[(3,.vec (List.map cGDeriv ([]:List GDeriv)).flatten 43 5 0),(2,.row [] 43),(1,.row [.isl false (List.map cGDeriv l9),.nils,.int .i64 0] 28),(0,.row [.nils,.nils,.int .i64 0] 28)],4⟩) (Gh.trans (Gh.empS 6 43 5 (by decide) (Nat.zero_le _) rfl rfl rfl) (Gh.eqS ⟨rfl,rfl,rfl,rfl,rfl,rfl,rfl,trivial⟩ rfl)) (Nat.zero_le _) ?_
 refine WPU.ghost (tm':=fr 74 [(0,.isl false (List.map cGDeriv p1)),(2,.ptr 0 0 0),(4,.ptr 1 0 0),(5,.int .i64 z8),(6,.vl 3 0 0 (([]:List GDeriv).length)),(7,.bool false),(8,.int .i64 0)]) (Gh.sub ⟨rfl,rfl,rfl,rfl,rfl,rfl,rfl,trivial⟩) (Nat.zero_le _) ?_
 refine WPU.loopK (fun m tm σ=>∃ b21:Bool,∃ z22:Int,∃ l23:List GDeriv,∃ t24:Nat,q3v p1 n z8 l9 (q3u p1 n m1) m b21 z22 l23=some r∧tm=fr 74 [(0,.isl false (List.map cGDeriv p1)),(2,.ptr 0 0 0),(4,.ptr 1 0 0),(5,.int .i64 z8),(6,.vl 3 t24 0 l23.length),(7,.bool b21),(8,.int .i64 z22)]∧σ=⟨[(3,.vec (List.map cGDeriv l23).flatten 43 5 t24),(2,.row [] 43),(1,.row [.isl false (List.map cGDeriv l9),.nils,.int .i64 0] 28),(0,.row [.nils,.nils,.int .i64 0] 28)],4⟩) (fun tm σ=>∃ b25:Bool,∃ l26:List GDeriv,∃ t27:Nat,q9v p1 z8 (q3u p1 n m1) b25 l26=some r∧tm=fr 74 [(0,.isl false (List.map cGDeriv p1)),(2,.ptr 0 0 0),(4,.ptr 1 0 0),(5,.int .i64 z8),(6,.vl 3 t27 0 l26.length),(7,.bool b25)]∧σ=⟨[(3,.vec (List.map cGDeriv l26).flatten 43 5 t27),(2,.row [] 43),(1,.row [.isl false (List.map cGDeriv l9),.nils,.int .i64 0] 28),(0,.row [.nils,.nils,.int .i64 0] 28)],4⟩) n ⟨false,0,([]:List GDeriv),0,hF,rfl,rfl⟩ ?_ ?_
 rintro _ _ ⟨b25,l26,t27,hF,rfl,rfl⟩
 unfold q9v at hF
 refine sr ?_
 refine RS.q (u:=.bool (!b25)) rfl (q7l rfl rfl rfl rfl) ?_
 refine sd ?_
 refine WPU.joinK (fun tm σ=>∃ l29:List GDeriv,∃ t30:Nat,q8c z8 (q3u p1 n m1) l29=some r∧tm=fr 74 [(0,.isl false (List.map cGDeriv p1)),(2,.ptr 0 0 0),(4,.ptr 1 0 0),(5,.int .i64 z8),(6,.vl 3 t30 0 l29.length)]∧σ=⟨[(3,.vec (List.map cGDeriv l29).flatten 43 5 t30),(2,.row [] 43),(1,.row [.isl false (List.map cGDeriv l9),.nils,.int .i64 0] 28),(0,.row [.nils,.nils,.int .i64 0] 28)],4⟩) ?_ ?_
 rintro _ _ ⟨l29,t30,hF,rfl,rfl⟩
 unfold q8c at hF
 refine sr ?_
 refine RS.q (u:=.ptr 1 0 0) rfl (q0c und28 rfl (q01 inf22) rfl rfl rfl) (RS.opn (u:=.junk) (σ':=⟨[(3,.vec (List.map cGDeriv l29).flatten 43 5 t30),(2,.row [] 43),(1,.row [.vl 3 t30 0 l29.length,.nils,.int .i64 0] 28),(0,.row [.nils,.nils,.int .i64 0] 28)],4⟩) rfl (q0d (q01 inf22) rfl rfl rfl rfl rfl rfl rfl rfl) rfl ?_)
 refine se ?_
 refine RS.q rfl (q02 rfl rfl (q1q _ _ _) rfl) ?_
 refine sd ?_
 exact ⟨m1,_,_,Nat.lt_succ_self _,⟨(IntKind.i64.wrap (z8+1)),l29,hF,rfl,rfl⟩,(Nat.zero_le _),Gh.trans (Gh.sub (l':=[(0,.isl false (List.map cGDeriv p1)),(2,.ptr 0 0 0),(4,.ptr 1 0 0),(5,.int .i64 (IntKind.i64.wrap (z8+1)))]) ⟨rfl,rfl,rfl,rfl,trivial⟩) (Gh.trans (Gh.fzS (l':=[(0,.isl false (List.map cGDeriv p1)),(2,.ptr 0 0 0),(4,.ptr 1 0 0),(5,.int .i64 (IntKind.i64.wrap (z8+1)))]) (h':=[(2,.row [] 43),(1,.row [.isl false (List.map cGDeriv l29),.nils,.int .i64 0] 28),(0,.row [.nils,.nils,.int .i64 0] 28)]) 3 (.vec (List.map cGDeriv l29).flatten 43 5 t30) 5 rfl (by simp) (by simp only [fzS,oneU,q0y,q0o,q1z,q11,q22,q15,q14,q13,q12,q10,q20,q21,q1y,q23,q3k,junkT,q8i q0e,fz_vn (show Nat.beq 0 3=false from rfl),fz_sn (show Nat.beq 0 3=false from rfl),fz_pn (show Nat.beq 0 3=false from rfl),fz_vn (show Nat.beq 1 3=false from rfl),fz_sn (show Nat.beq 1 3=false from rfl),fz_pn (show Nat.beq 1 3=false from rfl)]) (by simp only [fzH,fzB,ug,Nat.beq,cond_true,cond_false,oneU,q0y,q0o,q1z,q11,q22,q15,q14,q13,q12,q10,q20,q21,q1y,q23,q3k,junkT,q8i q0e,fz_vn (show Nat.beq 0 3=false from rfl),fz_sn (show Nat.beq 0 3=false from rfl),fz_pn (show Nat.beq 0 3=false from rfl),fz_vn (show Nat.beq 1 3=false from rfl),fz_sn (show Nat.beq 1 3=false from rfl),fz_pn (show Nat.beq 1 3=false from rfl)])) (Gh.toC (n1:=2) ⟨rfl,rfl,rfl,rfl,trivial⟩ rfl (Nat.zero_le _) (by simp)))⟩
 refine WPU.condS (t:=(!b25)) rfl (fun h28=>?_) (fun h28=>?_)
 replace hF:=q05 h28 hF
 refine st ?_
 obtain ⟨x31,h32,hF⟩:=q00 hF
 obtain ⟨h33,hF⟩:=q0n hF
 refine sr ?_
 repeat refine RS.mv rfl rfl rfl rfl ?_
 refine RS.q (u:=.iptr (xGDeriv x31)) rfl (q2a rfl rfl (q1f cGDeriv und22 (q01 inf43) q0e h32 (q0m x31))) (RS.q (u:=.agg (xGDeriv x31)) rfl (q2e und43 rfl (q01 inf43) rfl rfl) (RS.q (u:=.sl 4 0 1 1) (σ':=⟨[(4,.row (xGDeriv x31) 43),(3,.vec (List.map cGDeriv l26).flatten 43 5 t27),(2,.row [] 43),(1,.row [.isl false (List.map cGDeriv l9),.nils,.int .i64 0] 28),(0,.row [.nils,.nils,.int .i64 0] 28)],5⟩) rfl (q4g und22 inf43 rfl rfl rfl rfl rfl rfl rfl) ?_))
 refine RS.q (u:=.vl 3 (t27+1) 0 ((l26++[x31]).length)) (σ':=⟨[(4,.row (xGDeriv x31) 43),(3,.vec (List.map cGDeriv (l26++[x31])).flatten 43 5 (t27+1)),(2,.row [] 43),(1,.row [.isl false (List.map cGDeriv l9),.nils,.int .i64 0] 28),(0,.row [.nils,.nils,.int .i64 0] 28)],5⟩) rfl (q7i rfl rfl rfl rfl (q8m cGDeriv ([x31]) und22 und22 inf43 rfl q0e rfl (q72 cGDeriv [x31] rfl rfl rfl (by simp only [List.map,List.flatten,List.append_nil,q0m,xGDeriv,GDeriv.Kind,GDeriv.Name,GDeriv.From,GDeriv.To,GDeriv.Kids]; rfl)) h33)) ?_
 refine sd ?_
 exact ⟨_,_,⟨(l26++[x31]),(t27+1),hF,rfl,rfl⟩,(Nat.zero_le _),Gh.toC (n1:=4) ⟨rfl,rfl,rfl,rfl,rfl,trivial⟩ rfl (Nat.zero_le _) (by simp)⟩
 replace hF:=q04 h28 hF
 refine st ?_
 refine WPU.skip ?_
 refine st ?_
 exact ⟨_,_,⟨l26,t27,hF,rfl,rfl⟩,(Nat.zero_le _),Gh.toC (n1:=4) ⟨rfl,rfl,rfl,rfl,rfl,trivial⟩ rfl (Nat.zero_le _) (by simp)⟩
 rintro m2 _ _ ⟨b21,z22,l23,t24,hF,rfl,rfl⟩
 rcases m2 with _ | m2
 cases hF
 unfold q3v at hF
 refine sr ?_
 refine RS.q (u:=.ptr 1 0 0) rfl (q0c und28 rfl (q01 inf22) rfl rfl rfl) (RS.q (u:=.isl false (List.map cGDeriv l9)) rfl (q09 und22 rfl rfl rfl rfl) (RS.q rfl (q0k rfl rfl rfl (q0g cGDeriv und22)) (RS.q rfl (q02 rfl rfl (q18 _ _ _) rfl) ?_)))
 refine sd ?_
 refine WPU.condS (t:=(decide (z22<(l9.length:Int)))) rfl (fun h34=>?_) (fun h34=>?_)
 replace hF:=q05 h34 hF
 refine st ?_
 refine WPU.skip ?_
 refine st ?_
 refine WPU.block ?_
 refine st ?_
 obtain ⟨x35,h36,hF⟩:=q00 hF
 obtain ⟨x37,h38,hF⟩:=q00 hF
 obtain ⟨r39,h40,hF⟩:=q00 hF
 refine WPU.drawE Tryz.tb_ok [] (by kernel_rfl) ?_
 repeat refine RD.mv rfl rfl rfl rfl ?_
 refine RD.q (u:=.iptr (xGDeriv x35)) rfl (q2a rfl rfl (q1f cGDeriv und22 (q01 inf43) q0e h36 (q0m x35))) (RD.q (u:=.agg (xGDeriv x35)) rfl (q2e und43 rfl (q01 inf43) rfl rfl) (RD.q (u:=.ptr 1 0 0) rfl (q0c und28 rfl (q01 inf22) rfl rfl rfl) (RD.q (u:=.isl false (List.map cGDeriv l9)) rfl (q09 und22 rfl rfl rfl rfl) (RD.mv rfl rfl rfl rfl (RD.q (u:=.iptr (xGDeriv x37)) rfl (q2a rfl rfl (q1f cGDeriv und22 (q01 inf43) q0e h38 (q0m x37))) (RD.q (u:=.agg (xGDeriv x37)) rfl (q2e und43 rfl (q01 inf43) rfl rfl) ?_))))))
 refine RD.free (u:=.int .i64 r39) (args:=[.agg (xGDeriv x35),.agg (xGDeriv x37)]) rfl (q03 rfl rfl fn22 hb22 rfl rfl) (fun s=>qby n x35 x37 r39 h40 s) rfl rfl ?_
 refine RD.as rfl rfl rfl rfl ?_
 refine RD.done ⟨by kernel_rfl,trivial,?_⟩
 refine st ?_
 obtain ⟨b42,h43,hF⟩:=q00 hF
 refine WPU.joinK (fun tm σ=>tm=fr 74 [(0,.isl false (List.map cGDeriv p1)),(2,.ptr 0 0 0),(4,.ptr 1 0 0),(5,.int .i64 z8),(6,.vl 3 t24 0 l23.length),(7,.bool b21),(8,.int .i64 z22),(9,.int .i64 r39),(44,.bool b42)]∧σ=⟨[(3,.vec (List.map cGDeriv l23).flatten 43 5 t24),(2,.row [] 43),(1,.row [.isl false (List.map cGDeriv l9),.nils,.int .i64 0] 28),(0,.row [.nils,.nils,.int .i64 0] 28)],4⟩) ?_ ?_
 rintro _ _ ⟨rfl,rfl⟩
 refine st ?_
 refine WPU.joinK (fun tm σ=>∃ b45:Bool,∃ l46:List GDeriv,∃ t47:Nat,q8d l9 z22 (q3v p1 n z8 l9 (q3u p1 n m1) m2) b45 l46=some r∧tm=fr 74 [(0,.isl false (List.map cGDeriv p1)),(2,.ptr 0 0 0),(4,.ptr 1 0 0),(5,.int .i64 z8),(6,.vl 3 t47 0 l46.length),(7,.bool b45),(8,.int .i64 z22)]∧σ=⟨[(3,.vec (List.map cGDeriv l46).flatten 43 5 t47),(2,.row [] 43),(1,.row [.isl false (List.map cGDeriv l9),.nils,.int .i64 0] 28),(0,.row [.nils,.nils,.int .i64 0] 28)],4⟩) ?_ ?_
 rintro _ _ ⟨b45,l46,t47,hF,rfl,rfl⟩
 unfold q8d at hF
 refine st ?_
 obtain ⟨x48,h49,hF⟩:=q00 hF
 obtain ⟨h50,hF⟩:=q0n hF
 refine sr ?_
 refine RS.q (u:=.ptr 1 0 0) rfl (q0c und28 rfl (q01 inf22) rfl rfl rfl) (RS.q (u:=.isl false (List.map cGDeriv l9)) rfl (q09 und22 rfl rfl rfl rfl) (RS.mv rfl rfl rfl rfl (RS.q (u:=.iptr (xGDeriv x48)) rfl (q2a rfl rfl (q1f cGDeriv und22 (q01 inf43) q0e h49 (q0m x48))) (RS.q (u:=.agg (xGDeriv x48)) rfl (q2e und43 rfl (q01 inf43) rfl rfl) (RS.q (u:=.sl 4 0 1 1) (σ':=⟨[(4,.row (xGDeriv x48) 43),(3,.vec (List.map cGDeriv l46).flatten 43 5 t47),(2,.row [] 43),(1,.row [.isl false (List.map cGDeriv l9),.nils,.int .i64 0] 28),(0,.row [.nils,.nils,.int .i64 0] 28)],5⟩) rfl (q4g und22 inf43 rfl rfl rfl rfl rfl rfl rfl) ?_)))))
 refine RS.q (u:=.vl 3 (t47+1) 0 ((l46++[x48]).length)) (σ':=⟨[(4,.row (xGDeriv x48) 43),(3,.vec (List.map cGDeriv (l46++[x48])).flatten 43 5 (t47+1)),(2,.row [] 43),(1,.row [.isl false (List.map cGDeriv l9),.nils,.int .i64 0] 28),(0,.row [.nils,.nils,.int .i64 0] 28)],5⟩) rfl (q7i rfl rfl rfl rfl (q8m cGDeriv ([x48]) und22 und22 inf43 rfl q0e rfl (q72 cGDeriv [x48] rfl rfl rfl (by simp only [List.map,List.flatten,List.append_nil,q0m,xGDeriv,GDeriv.Kind,GDeriv.Name,GDeriv.From,GDeriv.To,GDeriv.Kids]; rfl)) h50)) ?_
 refine se ?_
 refine RS.q rfl (q02 rfl rfl (q1q _ _ _) rfl) ?_
 refine sd ?_
 exact ⟨m2,_,_,Nat.lt_succ_self _,⟨b45,(IntKind.i64.wrap (z22+1)),(l46++[x48]),(t47+1),hF,rfl,rfl⟩,(Nat.zero_le _),Gh.toC (n1:=4) ⟨rfl,rfl,rfl,rfl,rfl,rfl,rfl,trivial⟩ rfl (Nat.zero_le _) (by simp)⟩
 refine WPU.condS (t:=b42) rfl (fun h44=>?_) (fun h44=>?_)
 replace hF:=q05 h44 hF
 refine sr ?_
 refine se ?_
 refine RS.q rfl (q02 rfl rfl (q18 _ _ _) rfl) ?_
 refine sd ?_
 refine WPU.joinK (fun tm σ=>∃ l52:List GDeriv,∃ t53:Nat,q9u l9 z22 (q3v p1 n z8 l9 (q3u p1 n m1) m2) l52=some r∧tm=fr 74 [(0,.isl false (List.map cGDeriv p1)),(2,.ptr 0 0 0),(4,.ptr 1 0 0),(5,.int .i64 z8),(6,.vl 3 t53 0 l52.length),(7,.bool true),(8,.int .i64 z22)]∧σ=⟨[(3,.vec (List.map cGDeriv l52).flatten 43 5 t53),(2,.row [] 43),(1,.row [.isl false (List.map cGDeriv l9),.nils,.int .i64 0] 28),(0,.row [.nils,.nils,.int .i64 0] 28)],4⟩) ?_ ?_
 rintro _ _ ⟨l52,t53,hF,rfl,rfl⟩
 unfold q9u at hF
 refine st ?_
 exact ⟨_,_,⟨true,l52,t53,hF,rfl,rfl⟩,(Nat.zero_le _),Gh.toC (n1:=4) ⟨rfl,rfl,rfl,rfl,rfl,rfl,rfl,trivial⟩ rfl (Nat.zero_le _) (by simp)⟩
 refine WPU.condS (t:=(decide (r39<0))) rfl (fun h51=>?_) (fun h51=>?_)
 replace hF:=q05 h51 hF
 refine st ?_
 obtain ⟨x54,h55,hF⟩:=q00 hF
 obtain ⟨h56,hF⟩:=q0n hF
 refine sr ?_
 repeat refine RS.mv rfl rfl rfl rfl ?_
 refine RS.q (u:=.iptr (xGDeriv x54)) rfl (q2a rfl rfl (q1f cGDeriv und22 (q01 inf43) q0e h55 (q0m x54))) (RS.q (u:=.agg (xGDeriv x54)) rfl (q2e und43 rfl (q01 inf43) rfl rfl) (RS.q (u:=.sl 4 0 1 1) (σ':=⟨[(4,.row (xGDeriv x54) 43),(3,.vec (List.map cGDeriv l23).flatten 43 5 t24),(2,.row [] 43),(1,.row [.isl false (List.map cGDeriv l9),.nils,.int .i64 0] 28),(0,.row [.nils,.nils,.int .i64 0] 28)],5⟩) rfl (q4g und22 inf43 rfl rfl rfl rfl rfl rfl rfl) ?_))
 refine RS.q (u:=.vl 3 (t24+1) 0 ((l23++[x54]).length)) (σ':=⟨[(4,.row (xGDeriv x54) 43),(3,.vec (List.map cGDeriv (l23++[x54])).flatten 43 5 (t24+1)),(2,.row [] 43),(1,.row [.isl false (List.map cGDeriv l9),.nils,.int .i64 0] 28),(0,.row [.nils,.nils,.int .i64 0] 28)],5⟩) rfl (q7i rfl rfl rfl rfl (q8m cGDeriv ([x54]) und22 und22 inf43 rfl q0e rfl (q72 cGDeriv [x54] rfl rfl rfl (by simp only [List.map,List.flatten,List.append_nil,q0m,xGDeriv,GDeriv.Kind,GDeriv.Name,GDeriv.From,GDeriv.To,GDeriv.Kids]; rfl)) h56)) ?_
 refine sd ?_
 exact ⟨_,_,⟨(l23++[x54]),(t24+1),hF,rfl,rfl⟩,(Nat.zero_le _),Gh.toC (n1:=4) ⟨rfl,rfl,rfl,rfl,rfl,rfl,rfl,trivial⟩ rfl (Nat.zero_le _) (by simp)⟩
 replace hF:=q04 h51 hF
 refine st ?_
 refine WPU.skip ?_
 refine st ?_
 exact ⟨_,_,⟨l23,t24,hF,rfl,rfl⟩,(Nat.zero_le _),Gh.toC (n1:=4) ⟨rfl,rfl,rfl,rfl,rfl,rfl,rfl,trivial⟩ rfl (Nat.zero_le _) (by simp)⟩
 replace hF:=q04 h44 hF
 refine st ?_
 refine WPU.skip ?_
 refine st ?_
 exact ⟨_,_,⟨b21,l23,t24,hF,rfl,rfl⟩,(Nat.zero_le _),Gh.toC (n1:=4) ⟨rfl,rfl,rfl,rfl,rfl,rfl,rfl,trivial⟩ rfl (Nat.zero_le _) (by simp)⟩
 rcases q2r (!b21) with h41 | h41
 replace h43:=q05 h41 h43
 replace h43:=Option.some.inj h43
 subst h43
 refine sr ?_
 refine RS.q (u:=.bool (!b21)) rfl (q7l rfl rfl rfl rfl) (RS.mv rfl rfl rfl rfl (RS.op (want1 rfl rfl rfl h41) (q0h rfl) rfl rfl (RS.op (want1 rfl rfl rfl h41) (q02 rfl rfl (qfr _ _ _) rfl) rfl rfl (RS.q (u:=.bool (decide (r39≤0))) rfl (q06 rfl h41 rfl) ?_))))
 refine sd ?_
 exact ⟨_,_,⟨rfl,rfl⟩,(Nat.zero_le _),Gh.toC (n1:=4) ⟨rfl,rfl,rfl,rfl,rfl,rfl,rfl,rfl,rfl,trivial⟩ rfl (Nat.zero_le _) (by simp)⟩
 replace h43:=q04 h41 h43
 replace h43:=Option.some.inj h43
 subst h43
 refine sr ?_
 refine RS.q (u:=.bool (!b21)) rfl (q7l rfl rfl rfl rfl) (RS.mv rfl rfl rfl rfl ?_)
 repeat refine RS.no (want0 rfl rfl rfl h41) rfl rfl ?_
 refine RS.q (u:=.bool false) rfl (q07 rfl h41 rfl) ?_
 refine sd ?_
 exact ⟨_,_,⟨rfl,rfl⟩,(Nat.zero_le _),Gh.toC (n1:=4) ⟨rfl,rfl,rfl,rfl,rfl,rfl,rfl,rfl,rfl,trivial⟩ rfl (Nat.zero_le _) (by simp)⟩
 replace hF:=q04 h34 hF
 refine st ?_
 refine WPU.exit ?_
 refine st ?_
 exact ⟨_,_,⟨b21,l23,t24,hF,rfl,rfl⟩,(Nat.zero_le _),Gh.toC (n1:=4) ⟨rfl,rfl,rfl,rfl,rfl,rfl,trivial⟩ rfl (Nat.zero_le _) (by simp)⟩
 replace hF:=q04 h11 hF
 refine st ?_
 refine WPU.exit ?_
 refine st ?_
 exact ⟨_,_,⟨l9,hF,rfl,rfl⟩,(Nat.zero_le _),Gh.toC (n1:=2) ⟨rfl,rfl,trivial⟩ rfl (Nat.zero_le _) (by simp)⟩
theorem ref46_New_ok (n:Nat) (p1:List GDeriv) (r:GSession×Int) (hF:qbc n p1=some r) (σ:Sg):EvU Tryz.prog 7 [.isl false (List.map cGDeriv p1)] σ (fun u σ'=>u = .tup [.agg (cGSession r.1),.int .i64 r.2]∧σ'=σ) :=
 EvU.pure1C (ref46_New_0 n p1 r hF) σ
def q73 (n:Nat) (p1:GSession):Option (GSession×Int) :=
 cond (p1.State != 0)
  (some ((GSession.mk p1.Readings p1.Decisions 0),0))
  (cond ((p1.Decisions.length:Int) == 0)
   (some (p1,16))
   (bindO (cutO p1.Decisions 0 (IntKind.i64.wrap ((p1.Decisions.length:Int) - 1))) fun l4 =>
   bindO (q2y n l4) fun r8 =>
   some ((GSession.mk p1.Readings r8 p1.State),0)))
theorem qgv (n:Nat) (p1:GSession) (r:GSession×Int) (hF:q73 n p1=some r):EvU Tryz.prog 35 [.agg (cGSession p1)] ⟨[],0⟩ (fun u _=>u = .tup [.agg (cGSession r.1),.int .i64 r.2]∧Bel 0 u):=by
 unfold q73 at hF
 refine EvU.of_body Tryz.tb_ok fn35 rfl ?_
 refine WPU.ghost (tm':=fr 34 [(0,.agg (cGSession p1))]) (Gh.start (Nat.le_of_ble_eq_true rfl)) (Nat.zero_le _) ?_
 refine sr ?_
 refine RS.q (u:=.ptr 0 0 0) (σ':=⟨[(0,.row (cGSession p1) 28)],1⟩) rfl (q2j rfl rfl rfl) (RS.q (u:=.ptr 1 0 0) (σ':=⟨[(1,.row [.nils,.nils,.int .i64 0] 28),(0,.row (cGSession p1) 28)],2⟩) rfl (q0v inf28 rfl rfl) ?_)
 refine se ?_
 refine RS.q (u:=.agg (cGSession p1)) rfl (q0a und28 rfl (q01 inf28) rfl rfl rfl) (RS.q (u:=.agg (cGSession p1)) rfl (q4d bd53 rfl rfl rfl) (RS.q (u:=.ptr 2 0 0) (σ':=⟨[(2,.row [.nils,.nils,.int .i64 0] 53),(1,.row [.nils,.nils,.int .i64 0] 28),(0,.row (cGSession p1) 28)],3⟩) rfl (q0v inf53 rfl rfl) (RS.opn (u:=.junk) (σ':=⟨[(2,.row (cGSession p1) 53),(1,.row [.nils,.nils,.int .i64 0] 28),(0,.row (cGSession p1) 28)],3⟩) rfl (q0d (q01 inf53) rfl rfl rfl rfl rfl rfl rfl rfl) rfl ?_)))
 refine se ?_
 refine RS.q (u:=.ptr 2 0 0) rfl (q0c und53 rfl (q01 inf28) rfl rfl rfl) (RS.q (u:=.ptr 2 0 2) rfl (q0c und28 rfl (q01 inf3) rfl rfl rfl) (RS.q (u:=.int .i64 p1.State) rfl (q09 und3 rfl rfl rfl rfl) (RS.q rfl (q02 rfl rfl (q52 _ _ _) rfl) ?_)))
 refine sd ?_
 refine WPU.condS (t:=(p1.State != 0)) rfl (fun h2=>?_) (fun h2=>?_)
 replace hF:=q05 h2 hF
 refine sr ?_
 refine RS.q (u:=.ptr 2 0 0) rfl (q0c und53 rfl (q01 inf28) rfl rfl rfl) (RS.q (u:=.ptr 2 0 2) rfl (q0c und28 rfl (q01 inf3) rfl rfl rfl) (RS.opn (u:=.junk) (σ':=⟨[(2,.row [.isl false (List.map cGDeriv p1.Readings),.isl false (List.map cGDecision p1.Decisions),.int .i64 0] 53),(1,.row [.nils,.nils,.int .i64 0] 28),(0,.row (cGSession p1) 28)],3⟩) rfl (q0d (q01 inf3) rfl rfl rfl rfl rfl rfl rfl rfl) rfl ?_))
 refine se ?_
 refine RS.q (u:=.ptr 2 0 0) rfl (q0c und53 rfl (q01 inf28) rfl rfl rfl) (RS.q (u:=.agg [.isl false (List.map cGDeriv p1.Readings),.isl false (List.map cGDecision p1.Decisions),.int .i64 0]) rfl (q0a und28 rfl (q01 inf28) rfl rfl rfl) (RS.opn (u:=.junk) (σ':=⟨[(2,.row [.isl false (List.map cGDeriv p1.Readings),.isl false (List.map cGDecision p1.Decisions),.int .i64 0] 53),(1,.row [.isl false (List.map cGDeriv p1.Readings),.isl false (List.map cGDecision p1.Decisions),.int .i64 0] 28),(0,.row (cGSession p1) 28)],3⟩) rfl (q0d (q01 inf28) rfl rfl rfl rfl rfl rfl rfl rfl) rfl ?_))
 refine sd ?_
 refine WPU.ret ?_
 refine st ?_
 have hr:=Option.some.inj hF
 subst hr
 exact ⟨.inr rfl,[.agg [.isl false (List.map cGDeriv p1.Readings),.isl false (List.map cGDecision p1.Decisions),.int .i64 0],.int .i64 0],q5f (q0a und28 rfl (q01 inf28) rfl rfl rfl) (q0l rfl (q0i)),.tup [.agg [.isl false (List.map cGDeriv p1.Readings),.isl false (List.map cGDecision p1.Decisions),.int .i64 0],.int .i64 0],⟨[],0⟩,Nat.le_refl _,Gh.toR (.tup [.agg [.isl false (List.map cGDeriv p1.Readings),.isl false (List.map cGDecision p1.Decisions),.int .i64 0],.int .i64 0]) rfl,rfl,BU.h⟩
 replace hF:=q04 h2 hF
 refine st ?_
 refine WPU.skip ?_
 refine sr ?_
 refine RS.q (u:=.ptr 2 0 0) rfl (q0c und53 rfl (q01 inf28) rfl rfl rfl) (RS.q (u:=.ptr 2 0 1) rfl (q0c und28 rfl (q01 inf26) rfl rfl rfl) (RS.q (u:=.isl false (List.map cGDecision p1.Decisions)) rfl (q09 und26 rfl rfl rfl rfl) (RS.q rfl (q0k rfl rfl rfl (q0g cGDecision und26)) ?_)))
 refine se ?_
 refine RS.q rfl (q02 rfl rfl (q0j _ _ _) rfl) ?_
 refine sd ?_
 refine WPU.condS (t:=((p1.Decisions.length:Int) == 0)) rfl (fun h3=>?_) (fun h3=>?_)
 replace hF:=q05 h3 hF
 refine sr ?_
 refine RS.q (u:=.agg (cGSession p1)) rfl (q0a und28 rfl (q01 inf28) rfl rfl rfl) (RS.opn (u:=.junk) (σ':=⟨[(2,.row (cGSession p1) 53),(1,.row (cGSession p1) 28),(0,.row (cGSession p1) 28)],3⟩) rfl (q0d (q01 inf28) rfl rfl rfl rfl rfl rfl rfl rfl) rfl ?_)
 refine sd ?_
 refine WPU.ret ?_
 refine st ?_
 have hr:=Option.some.inj hF
 subst hr
 exact ⟨.inr rfl,[.agg (cGSession p1),.int .i64 16],q5f (q0a und28 rfl (q01 inf28) rfl rfl rfl) (q0l rfl (q0i)),.tup [.agg (cGSession p1),.int .i64 16],⟨[],0⟩,Nat.le_refl _,Gh.toR (.tup [.agg (cGSession p1),.int .i64 16]) rfl,rfl,BU.h⟩
 replace hF:=q04 h3 hF
 refine st ?_
 refine WPU.skip ?_
 refine st ?_
 obtain ⟨l4,h5,hF⟩:=q00 hF
 obtain ⟨h6,h7⟩:=cut_hi cGDecision .i64 h5
 obtain ⟨r8,h9,hF⟩:=q00 hF
 refine sr ?_
 refine RS.q (u:=.ptr 2 0 0) rfl (q0c und53 rfl (q01 inf28) rfl rfl rfl) (RS.q (u:=.ptr 2 0 1) rfl (q0c und28 rfl (q01 inf26) rfl rfl rfl) (RS.q (u:=.isl false (List.map cGDecision p1.Decisions)) rfl (q09 und26 rfl rfl rfl rfl) (RS.mv rfl rfl rfl rfl (RS.q rfl (q02 rfl rfl (q8z _ _ _) rfl) (RS.q (u:=.isl false (List.map cGDecision l4)) rfl (q7a rfl em_n (em_s rfl) em_n (sl_isl cGDecision und26 (q01 inf62) q0f h6 h7)) (RS.call (u:=.isl false (List.map cGDecision r8)) (args:=[.isl false (List.map cGDecision l4)]) rfl (q03 rfl rfl fn46 hb46 rfl rfl) (q8g n l4 r8 h9 _) rfl rfl (RS.q (u:=.ptr 2 0 0) rfl (q0c und53 rfl (q01 inf28) rfl rfl rfl) ?_)))))))
 refine RS.q (u:=.ptr 2 0 1) rfl (q0c und28 rfl (q01 inf26) rfl rfl rfl) (RS.opn (u:=.junk) (σ':=⟨[(2,.row [.isl false (List.map cGDeriv p1.Readings),.isl false (List.map cGDecision r8),.int .i64 p1.State] 53),(1,.row [.nils,.nils,.int .i64 0] 28),(0,.row (cGSession p1) 28)],3⟩) rfl (q0d (q01 inf26) rfl rfl rfl rfl rfl rfl rfl rfl) rfl ?_)
 refine se ?_
 refine RS.q (u:=.ptr 2 0 0) rfl (q0c und53 rfl (q01 inf28) rfl rfl rfl) (RS.q (u:=.agg [.isl false (List.map cGDeriv p1.Readings),.isl false (List.map cGDecision r8),.int .i64 p1.State]) rfl (q0a und28 rfl (q01 inf28) rfl rfl rfl) (RS.opn (u:=.junk) (σ':=⟨[(2,.row [.isl false (List.map cGDeriv p1.Readings),.isl false (List.map cGDecision r8),.int .i64 p1.State] 53),(1,.row [.isl false (List.map cGDeriv p1.Readings),.isl false (List.map cGDecision r8),.int .i64 p1.State] 28),(0,.row (cGSession p1) 28)],3⟩) rfl (q0d (q01 inf28) rfl rfl rfl rfl rfl rfl rfl rfl) rfl ?_))
 refine sd ?_
 refine WPU.ret ?_
 refine st ?_
 have hr:=Option.some.inj hF
 subst hr
 exact ⟨.inr rfl,[.agg [.isl false (List.map cGDeriv p1.Readings),.isl false (List.map cGDecision r8),.int .i64 p1.State],.int .i64 0],q5f (q0a und28 rfl (q01 inf28) rfl rfl rfl) (q0l rfl (q0i)),.tup [.agg [.isl false (List.map cGDeriv p1.Readings),.isl false (List.map cGDecision r8),.int .i64 p1.State],.int .i64 0],⟨[],0⟩,Nat.le_refl _,Gh.toR (.tup [.agg [.isl false (List.map cGDeriv p1.Readings),.isl false (List.map cGDecision r8),.int .i64 p1.State],.int .i64 0]) rfl,rfl,BU.h⟩
theorem qg1 (n:Nat) (p1:GSession) (r:GSession×Int) (hF:q73 n p1=some r) (σ:Sg):EvU Tryz.prog 35 [.agg (cGSession p1)] σ (fun u σ'=>u = .tup [.agg (cGSession r.1),.int .i64 r.2]∧σ'=σ) :=
 EvU.pure1C (qgv n p1 r hF) σ
def q5h (n:Nat) (p1:GSession):Option (GSession×Int) :=
 cond (p1.State != 0)
  (some (p1,15))
  (some ((GSession.mk p1.Readings p1.Decisions 2),0))
theorem qey (n:Nat) (p1:GSession) (r:GSession×Int) (hF:q5h n p1=some r):EvU Tryz.prog 36 [.agg (cGSession p1)] ⟨[],0⟩ (fun u _=>u = .tup [.agg (cGSession r.1),.int .i64 r.2]∧Bel 0 u):=by
 unfold q5h at hF
 refine EvU.of_body Tryz.tb_ok fn36 rfl ?_
 refine WPU.ghost (tm':=fr 16 [(0,.agg (cGSession p1))]) (Gh.start (Nat.le_of_ble_eq_true rfl)) (Nat.zero_le _) ?_
 refine sr ?_
 refine RS.q (u:=.ptr 0 0 0) (σ':=⟨[(0,.row (cGSession p1) 28)],1⟩) rfl (q2j rfl rfl rfl) (RS.q (u:=.ptr 1 0 0) (σ':=⟨[(1,.row [.nils,.nils,.int .i64 0] 28),(0,.row (cGSession p1) 28)],2⟩) rfl (q0v inf28 rfl rfl) ?_)
 refine se ?_
 refine RS.q (u:=.agg (cGSession p1)) rfl (q0a und28 rfl (q01 inf28) rfl rfl rfl) (RS.q (u:=.agg (cGSession p1)) rfl (q4d bd53 rfl rfl rfl) (RS.q (u:=.ptr 2 0 0) (σ':=⟨[(2,.row [.nils,.nils,.int .i64 0] 53),(1,.row [.nils,.nils,.int .i64 0] 28),(0,.row (cGSession p1) 28)],3⟩) rfl (q0v inf53 rfl rfl) (RS.opn (u:=.junk) (σ':=⟨[(2,.row (cGSession p1) 53),(1,.row [.nils,.nils,.int .i64 0] 28),(0,.row (cGSession p1) 28)],3⟩) rfl (q0d (q01 inf53) rfl rfl rfl rfl rfl rfl rfl rfl) rfl ?_)))
 refine se ?_
 refine RS.q (u:=.ptr 2 0 0) rfl (q0c und53 rfl (q01 inf28) rfl rfl rfl) (RS.q (u:=.ptr 2 0 2) rfl (q0c und28 rfl (q01 inf3) rfl rfl rfl) (RS.q (u:=.int .i64 p1.State) rfl (q09 und3 rfl rfl rfl rfl) (RS.q rfl (q02 rfl rfl (q52 _ _ _) rfl) ?_)))
 refine sd ?_
 refine WPU.condS (t:=(p1.State != 0)) rfl (fun h2=>?_) (fun h2=>?_)
 replace hF:=q05 h2 hF
 refine sr ?_
 refine RS.q (u:=.agg (cGSession p1)) rfl (q0a und28 rfl (q01 inf28) rfl rfl rfl) (RS.opn (u:=.junk) (σ':=⟨[(2,.row (cGSession p1) 53),(1,.row (cGSession p1) 28),(0,.row (cGSession p1) 28)],3⟩) rfl (q0d (q01 inf28) rfl rfl rfl rfl rfl rfl rfl rfl) rfl ?_)
 refine sd ?_
 refine WPU.ret ?_
 refine st ?_
 have hr:=Option.some.inj hF
 subst hr
 exact ⟨.inr rfl,[.agg (cGSession p1),.int .i64 15],q5f (q0a und28 rfl (q01 inf28) rfl rfl rfl) (q0l rfl (q0i)),.tup [.agg (cGSession p1),.int .i64 15],⟨[],0⟩,Nat.le_refl _,Gh.toR (.tup [.agg (cGSession p1),.int .i64 15]) rfl,rfl,BU.h⟩
 replace hF:=q04 h2 hF
 refine st ?_
 refine WPU.skip ?_
 refine sr ?_
 refine RS.q (u:=.ptr 2 0 0) rfl (q0c und53 rfl (q01 inf28) rfl rfl rfl) (RS.q (u:=.ptr 2 0 2) rfl (q0c und28 rfl (q01 inf3) rfl rfl rfl) (RS.opn (u:=.junk) (σ':=⟨[(2,.row [.isl false (List.map cGDeriv p1.Readings),.isl false (List.map cGDecision p1.Decisions),.int .i64 2] 53),(1,.row [.nils,.nils,.int .i64 0] 28),(0,.row (cGSession p1) 28)],3⟩) rfl (q0d (q01 inf3) rfl rfl rfl rfl rfl rfl rfl rfl) rfl ?_))
 refine se ?_
 refine RS.q (u:=.ptr 2 0 0) rfl (q0c und53 rfl (q01 inf28) rfl rfl rfl) (RS.q (u:=.agg [.isl false (List.map cGDeriv p1.Readings),.isl false (List.map cGDecision p1.Decisions),.int .i64 2]) rfl (q0a und28 rfl (q01 inf28) rfl rfl rfl) (RS.opn (u:=.junk) (σ':=⟨[(2,.row [.isl false (List.map cGDeriv p1.Readings),.isl false (List.map cGDecision p1.Decisions),.int .i64 2] 53),(1,.row [.isl false (List.map cGDeriv p1.Readings),.isl false (List.map cGDecision p1.Decisions),.int .i64 2] 28),(0,.row (cGSession p1) 28)],3⟩) rfl (q0d (q01 inf28) rfl rfl rfl rfl rfl rfl rfl rfl) rfl ?_))
 refine sd ?_
 refine WPU.ret ?_
 refine st ?_
 have hr:=Option.some.inj hF
 subst hr
 exact ⟨.inr rfl,[.agg [.isl false (List.map cGDeriv p1.Readings),.isl false (List.map cGDecision p1.Decisions),.int .i64 2],.int .i64 0],q5f (q0a und28 rfl (q01 inf28) rfl rfl rfl) (q0l rfl (q0i)),.tup [.agg [.isl false (List.map cGDeriv p1.Readings),.isl false (List.map cGDecision p1.Decisions),.int .i64 2],.int .i64 0],⟨[],0⟩,Nat.le_refl _,Gh.toR (.tup [.agg [.isl false (List.map cGDeriv p1.Readings),.isl false (List.map cGDecision p1.Decisions),.int .i64 2],.int .i64 0]) rfl,rfl,BU.h⟩
theorem qdr (n:Nat) (p1:GSession) (r:GSession×Int) (hF:q5h n p1=some r) (σ:Sg):EvU Tryz.prog 36 [.agg (cGSession p1)] σ (fun u σ'=>u = .tup [.agg (cGSession r.1),.int .i64 r.2]∧σ'=σ) :=
 EvU.pure1C (qey n p1 r hF) σ
def q8a (n:Nat) (p1:Bool):Option (Int) :=
 cond p1
  (some (-1))
  (some 1)
theorem ref45_less_0 (n:Nat) (p1:Bool) (r:Int) (hF:q8a n p1=some r):EvU Tryz.prog 108 [.bool p1] ⟨[],0⟩ (fun u _=>u = .int .i64 r∧Bel 0 u):=by
 unfold q8a at hF
 refine EvU.of_body Tryz.tb_ok fn108 rfl ?_
 refine WPU.ghost (tm':=fr 4 [(0,.bool p1)]) (Gh.start (Nat.le_of_ble_eq_true rfl)) (Nat.zero_le _) ?_
 refine sr ?_
 refine se ?_
 refine sd ?_
 refine WPU.condS (t:=p1) rfl (fun h2=>?_) (fun h2=>?_)
 replace hF:=q05 h2 hF
 refine sr ?_
 refine sd ?_
 refine WPU.ret ?_
 refine st ?_
 have hr:=Option.some.inj hF
 subst hr
 exact ⟨.inr rfl,[.int .i64 (-1)],q0l rfl (q0i),.int .i64 (-1),⟨[],0⟩,Nat.le_refl _,Gh.toR (.int .i64 (-1)) rfl,rfl,BU.h⟩
 replace hF:=q04 h2 hF
 refine st ?_
 refine WPU.skip ?_
 refine sr ?_
 refine sd ?_
 refine WPU.ret ?_
 refine st ?_
 have hr:=Option.some.inj hF
 subst hr
 exact ⟨.inr rfl,[.int .i64 1],q0l rfl (q0i),.int .i64 1,⟨[],0⟩,Nat.le_refl _,Gh.toR (.int .i64 1) rfl,rfl,BU.h⟩
theorem qa5 (n:Nat) (p1:Bool) (r:Int) (hF:q8a n p1=some r) (σ:Sg):EvU Tryz.prog 108 [.bool p1] σ (fun u σ'=>u = .int .i64 r∧σ'=σ) :=
 EvU.pure1C (ref45_less_0 n p1 r hF) σ
def q7c (n:Nat) (p1:GProp) (p2:GProp):Option (Int) :=
 cond (p1.From != p2.From)
  (bindO (q8a n (decide (p1.From<p2.From))) fun r4 =>
  some r4)
  (cond (p1.To != p2.To)
   (bindO (q8a n (decide (p1.To<p2.To))) fun r7 =>
   some r7)
   (cond (p1.Kind != p2.Kind)
    (bindO (q8a n (decide (p1.Kind<p2.Kind))) fun r10 =>
    some r10)
    (cond (!bytesEq p1.Name p2.Name)
     (bindO (q8a n (bytesLt p1.Name p2.Name)) fun r13 =>
     some r13)
     (some 0))))
theorem qhv (n:Nat) (p1:GProp) (p2:GProp) (r:Int) (hF:q7c n p1 p2=some r):EvU Tryz.prog 98 [.agg (cGProp p1),.agg (cGProp p2)] ⟨[],0⟩ (fun u _=>u = .int .i64 r∧Bel 0 u):=by
 unfold q7c at hF
 refine EvU.of_body Tryz.tb_ok fn98 rfl ?_
 refine WPU.ghost (tm':=fr 49 [(0,.agg (cGProp p1)),(1,.agg (cGProp p2))]) (Gh.start (Nat.le_of_ble_eq_true rfl)) (Nat.zero_le _) ?_
 refine sr ?_
 refine RS.q (u:=.ptr 0 0 0) (σ':=⟨[(0,.row (cGProp p1) 33)],1⟩) rfl (q2j rfl rfl rfl) (RS.q (u:=.ptr 1 0 0) (σ':=⟨[(1,.row (cGProp p2) 33),(0,.row (cGProp p1) 33)],2⟩) rfl (q2j rfl rfl rfl) ?_)
 refine se ?_
 refine RS.q (u:=.ptr 0 0 2) rfl (q0c und33 rfl (q01 inf3) rfl rfl rfl) (RS.q (u:=.int .i64 p1.From) rfl (q09 und3 rfl rfl rfl rfl) (RS.q (u:=.ptr 1 0 2) rfl (q0c und33 rfl (q01 inf3) rfl rfl rfl) (RS.q (u:=.int .i64 p2.From) rfl (q09 und3 rfl rfl rfl rfl) (RS.q rfl (q02 rfl rfl (q52 _ _ _) rfl) ?_))))
 refine sd ?_
 refine WPU.condS (t:=(p1.From != p2.From)) rfl (fun h3=>?_) (fun h3=>?_)
 replace hF:=q05 h3 hF
 refine st ?_
 obtain ⟨r4,h5,hF⟩:=q00 hF
 refine sr ?_
 refine RS.q (u:=.ptr 0 0 2) rfl (q0c und33 rfl (q01 inf3) rfl rfl rfl) (RS.q (u:=.int .i64 p1.From) rfl (q09 und3 rfl rfl rfl rfl) (RS.q (u:=.ptr 1 0 2) rfl (q0c und33 rfl (q01 inf3) rfl rfl rfl) (RS.q (u:=.int .i64 p2.From) rfl (q09 und3 rfl rfl rfl rfl) (RS.q rfl (q02 rfl rfl (q18 _ _ _) rfl) (RS.call (u:=.int .i64 r4) (args:=[.bool (decide (p1.From<p2.From))]) rfl (q03 rfl rfl fn108 hb108 rfl rfl) (qa5 n (decide (p1.From<p2.From)) r4 h5 _) rfl rfl ?_)))))
 refine sd ?_
 refine WPU.ret ?_
 refine st ?_
 have hr:=Option.some.inj hF
 subst hr
 exact ⟨.inr rfl,[.int .i64 r4],q0l rfl (q0i),.int .i64 r4,⟨[],0⟩,Nat.le_refl _,Gh.toR (.int .i64 r4) rfl,rfl,BU.h⟩
 replace hF:=q04 h3 hF
 refine st ?_
 refine WPU.skip ?_
 refine sr ?_
 refine RS.q (u:=.ptr 0 0 3) rfl (q0c und33 rfl (q01 inf3) rfl rfl rfl) (RS.q (u:=.int .i64 p1.To) rfl (q09 und3 rfl rfl rfl rfl) (RS.q (u:=.ptr 1 0 3) rfl (q0c und33 rfl (q01 inf3) rfl rfl rfl) (RS.q (u:=.int .i64 p2.To) rfl (q09 und3 rfl rfl rfl rfl) (RS.q rfl (q02 rfl rfl (q52 _ _ _) rfl) ?_))))
 refine sd ?_
 refine WPU.condS (t:=(p1.To != p2.To)) rfl (fun h6=>?_) (fun h6=>?_)
 replace hF:=q05 h6 hF
 refine st ?_
 obtain ⟨r7,h8,hF⟩:=q00 hF
 refine sr ?_
 refine RS.q (u:=.ptr 0 0 3) rfl (q0c und33 rfl (q01 inf3) rfl rfl rfl) (RS.q (u:=.int .i64 p1.To) rfl (q09 und3 rfl rfl rfl rfl) (RS.q (u:=.ptr 1 0 3) rfl (q0c und33 rfl (q01 inf3) rfl rfl rfl) (RS.q (u:=.int .i64 p2.To) rfl (q09 und3 rfl rfl rfl rfl) (RS.q rfl (q02 rfl rfl (q18 _ _ _) rfl) (RS.call (u:=.int .i64 r7) (args:=[.bool (decide (p1.To<p2.To))]) rfl (q03 rfl rfl fn108 hb108 rfl rfl) (qa5 n (decide (p1.To<p2.To)) r7 h8 _) rfl rfl ?_)))))
 refine sd ?_
 refine WPU.ret ?_
 refine st ?_
 have hr:=Option.some.inj hF
 subst hr
 exact ⟨.inr rfl,[.int .i64 r7],q0l rfl (q0i),.int .i64 r7,⟨[],0⟩,Nat.le_refl _,Gh.toR (.int .i64 r7) rfl,rfl,BU.h⟩
 replace hF:=q04 h6 hF
 refine st ?_
 refine WPU.skip ?_
 refine sr ?_
 refine RS.q (u:=.ptr 0 0 0) rfl (q0c und33 rfl (q01 inf3) rfl rfl rfl) (RS.q (u:=.int .i64 p1.Kind) rfl (q09 und3 rfl rfl rfl rfl) (RS.q (u:=.ptr 1 0 0) rfl (q0c und33 rfl (q01 inf3) rfl rfl rfl) (RS.q (u:=.int .i64 p2.Kind) rfl (q09 und3 rfl rfl rfl rfl) (RS.q rfl (q02 rfl rfl (q52 _ _ _) rfl) ?_))))
 refine sd ?_
 refine WPU.condS (t:=(p1.Kind != p2.Kind)) rfl (fun h9=>?_) (fun h9=>?_)
 replace hF:=q05 h9 hF
 refine st ?_
 obtain ⟨r10,h11,hF⟩:=q00 hF
 refine sr ?_
 refine RS.q (u:=.ptr 0 0 0) rfl (q0c und33 rfl (q01 inf3) rfl rfl rfl) (RS.q (u:=.int .i64 p1.Kind) rfl (q09 und3 rfl rfl rfl rfl) (RS.q (u:=.ptr 1 0 0) rfl (q0c und33 rfl (q01 inf3) rfl rfl rfl) (RS.q (u:=.int .i64 p2.Kind) rfl (q09 und3 rfl rfl rfl rfl) (RS.q rfl (q02 rfl rfl (q18 _ _ _) rfl) (RS.call (u:=.int .i64 r10) (args:=[.bool (decide (p1.Kind<p2.Kind))]) rfl (q03 rfl rfl fn108 hb108 rfl rfl) (qa5 n (decide (p1.Kind<p2.Kind)) r10 h11 _) rfl rfl ?_)))))
 refine sd ?_
 refine WPU.ret ?_
 refine st ?_
 have hr:=Option.some.inj hF
 subst hr
 exact ⟨.inr rfl,[.int .i64 r10],q0l rfl (q0i),.int .i64 r10,⟨[],0⟩,Nat.le_refl _,Gh.toR (.int .i64 r10) rfl,rfl,BU.h⟩
 replace hF:=q04 h9 hF
 refine st ?_
 refine WPU.skip ?_
 refine sr ?_
 refine RS.q (u:=.ptr 0 0 1) rfl (q0c und33 rfl (q01 inf9) rfl rfl rfl) (RS.q (u:=.str p1.Name) rfl (q09 und9 rfl rfl rfl rfl) (RS.q (u:=.ptr 1 0 1) rfl (q0c und33 rfl (q01 inf9) rfl rfl rfl) (RS.q (u:=.str p2.Name) rfl (q09 und9 rfl rfl rfl rfl) (RS.q (u:=.bool (!bytesEq p1.Name p2.Name)) rfl (qau rfl rfl rfl rfl) ?_))))
 refine sd ?_
 refine WPU.condS (t:=(!bytesEq p1.Name p2.Name)) rfl (fun h12=>?_) (fun h12=>?_)
 replace hF:=q05 h12 hF
 refine st ?_
 obtain ⟨r13,h14,hF⟩:=q00 hF
 refine sr ?_
 refine RS.q (u:=.ptr 0 0 1) rfl (q0c und33 rfl (q01 inf9) rfl rfl rfl) (RS.q (u:=.str p1.Name) rfl (q09 und9 rfl rfl rfl rfl) (RS.q (u:=.ptr 1 0 1) rfl (q0c und33 rfl (q01 inf9) rfl rfl rfl) (RS.q (u:=.str p2.Name) rfl (q09 und9 rfl rfl rfl rfl) (RS.q (u:=.bool (bytesLt p1.Name p2.Name)) rfl (qau rfl rfl rfl rfl) (RS.call (u:=.int .i64 r13) (args:=[.bool (bytesLt p1.Name p2.Name)]) rfl (q03 rfl rfl fn108 hb108 rfl rfl) (qa5 n (bytesLt p1.Name p2.Name) r13 h14 _) rfl rfl ?_)))))
 refine sd ?_
 refine WPU.ret ?_
 refine st ?_
 have hr:=Option.some.inj hF
 subst hr
 exact ⟨.inr rfl,[.int .i64 r13],q0l rfl (q0i),.int .i64 r13,⟨[],0⟩,Nat.le_refl _,Gh.toR (.int .i64 r13) rfl,rfl,BU.h⟩
 replace hF:=q04 h12 hF
 refine st ?_
 refine WPU.skip ?_
 refine sr ?_
 refine sd ?_
 refine WPU.ret ?_
 refine st ?_
 have hr:=Option.some.inj hF
 subst hr
 exact ⟨.inr rfl,[.int .i64 0],q0l rfl (q0i),.int .i64 0,⟨[],0⟩,Nat.le_refl _,Gh.toR (.int .i64 0) rfl,rfl,BU.h⟩
theorem qg7 (n:Nat) (p1:GProp) (p2:GProp) (r:Int) (hF:q7c n p1 p2=some r) (σ:Sg):EvU Tryz.prog 98 [.agg (cGProp p1),.agg (cGProp p2)] σ (fun u σ'=>u = .int .i64 r∧σ'=σ) :=
 EvU.pure1C (qhv n p1 p2 r hF) σ
def q5m  (l20:List GProp):Option ((List GProp)) :=
 some l20
def q5n (p1:List GProp) (z13:Int) (rc1:Bool→Int→(List GProp)→Option ((List GProp))) (b32:Bool) (l33:List GProp):Option ((List GProp)) :=
 bindO (idxO p1 z13) fun x35 =>
 needO ((l33.length+1)*40≤140737488355328∧l33.length+1≤140737488355328) (
 rc1 b32 (IntKind.i64.wrap (z13+1)) (l33++[x35]))
def q6y (p1:List GProp) (z13:Int) (rc1:Bool→Int→(List GProp)→Option ((List GProp))) (l39:List GProp):Option ((List GProp)) :=
 q5n p1 z13 rc1 true l39
def q6z (p2:GProp) (b16:Bool) (l17:List GProp):Option ((List GProp)) :=
 cond (!b16)
  (needO ((l17.length+1)*40≤140737488355328∧l17.length+1≤140737488355328) (
  q5m (l17++[p2])))
  (q5m l17)
def q2k (p1:List GProp) (p2:GProp) (n:Nat):Nat→Bool→Int→(List GProp)→Option ((List GProp))
 | 0,_,_,_=>none
 | m1+1,b12,z13,l14 =>
  cond (decide (z13<(p1.length:Int)))
   (bindO (idxO p1 z13) fun x24 =>
   bindO (q7c n p2 x24) fun r26 =>
   bindO (cond (!b12)
    (some (decide (r26≤0)))
    (some false)) fun b29 =>
   cond b29
    (cond (decide (r26<0))
     (needO ((l14.length+1)*40≤140737488355328∧l14.length+1≤140737488355328) (
     q6y p1 z13 (q2k p1 p2 n m1) (l14++[p2])))
     (q6y p1 z13 (q2k p1 p2 n m1) l14))
    (q5n p1 z13 (q2k p1 p2 n m1) b12 l14))
   (q6z p2 b12 l14)
def q57 (n:Nat) (p1:List GProp) (p2:GProp):Option ((List GProp)) :=
 q2k p1 p2 n n false 0 ([]:List GProp)
theorem ref45_insert_0 (n:Nat) (p1:List GProp) (p2:GProp) (r:(List GProp)) (hF:q57 n p1 p2=some r):EvU Tryz.prog 87 [.isl false (List.map cGProp p1),.agg (cGProp p2)] ⟨[],0⟩ (fun u _=>u = .isl false (List.map cGProp r)∧Bel 0 u):=by
 unfold q57 at hF
 refine EvU.of_body Tryz.tb_ok fn87 rfl ?_
 refine WPU.ghost (tm':=fr 48 [(0,.isl false (List.map cGProp p1)),(1,.agg (cGProp p2))]) (Gh.start (Nat.le_of_ble_eq_true rfl)) (Nat.zero_le _) ?_
 refine sr ?_
 refine RS.q (u:=.ptr 0 0 0) (σ':=⟨[(0,.row (cGProp p2) 33)],1⟩) rfl (q2j rfl rfl rfl) ?_
 refine se ?_
 refine RS.q (u:=.sl 1 0 0 0) (σ':=⟨[(1,.row [] 33),(0,.row (cGProp p2) 33)],2⟩) rfl (q4g und57 inf33 rfl rfl rfl rfl rfl rfl rfl) ?_
 refine se ?_
 refine se ?_
 refine sd ?_
 refine WPU.ghost (tm':=fr 48 [(0,.isl false (List.map cGProp p1)),(3,.ptr 0 0 0),(5,.vl 2 0 0 (([]:List GProp).length)),(6,.bool false),(7,.int .i64 0)]) (σ':=⟨[(2,.vec (List.map cGProp ([]:List GProp)).flatten 33 4 0),(1,.row [] 33),(0,.row (cGProp p2) 33)],3⟩) (Gh.trans (Gh.empS 5 33 4 (by decide) (Nat.zero_le _) rfl rfl rfl) (Gh.eqS ⟨rfl,rfl,rfl,rfl,rfl,trivial⟩ rfl)) (Nat.zero_le _) ?_
 refine WPU.ghost (tm':=fr 48 [(0,.isl false (List.map cGProp p1)),(3,.ptr 0 0 0),(5,.vl 2 0 0 (([]:List GProp).length)),(6,.bool false),(7,.int .i64 0)]) (Gh.sub ⟨rfl,rfl,rfl,rfl,rfl,trivial⟩) (Nat.zero_le _) ?_
 refine WPU.loopK (fun m tm σ=>∃ b12:Bool,∃ z13:Int,∃ l14:List GProp,∃ t15:Nat,q2k p1 p2 n m b12 z13 l14=some r∧tm=fr 48 [(0,.isl false (List.map cGProp p1)),(3,.ptr 0 0 0),(5,.vl 2 t15 0 l14.length),(6,.bool b12),(7,.int .i64 z13)]∧σ=⟨[(2,.vec (List.map cGProp l14).flatten 33 4 t15),(1,.row [] 33),(0,.row (cGProp p2) 33)],3⟩) (fun tm σ=>∃ b16:Bool,∃ l17:List GProp,∃ t18:Nat,q6z p2 b16 l17=some r∧tm=fr 48 [(3,.ptr 0 0 0),(5,.vl 2 t18 0 l17.length),(6,.bool b16)]∧σ=⟨[(2,.vec (List.map cGProp l17).flatten 33 4 t18),(1,.row [] 33),(0,.row (cGProp p2) 33)],3⟩) n ⟨false,0,([]:List GProp),0,hF,rfl,rfl⟩ ?_ ?_
 rintro _ _ ⟨b16,l17,t18,hF,rfl,rfl⟩
 unfold q6z at hF
 refine sr ?_
 refine RS.q (u:=.bool (!b16)) rfl (q7l rfl rfl rfl rfl) ?_
 refine sd ?_
 refine WPU.joinK (fun tm σ=>∃ l20:List GProp,∃ t21:Nat,q5m l20=some r∧tm=fr 48 [(5,.vl 2 t21 0 l20.length)]∧σ=⟨[(2,.vec (List.map cGProp l20).flatten 33 4 t21),(1,.row [] 33),(0,.row (cGProp p2) 33)],3⟩) ?_ ?_
 rintro _ _ ⟨l20,t21,hF,rfl,rfl⟩
 unfold q5m at hF
 refine sr ?_
 refine sd ?_
 refine WPU.ret ?_
 refine st ?_
 have hr:=Option.some.inj hF
 subst hr
 exact ⟨.inr rfl,[.vl 2 t21 0 l20.length],q0l rfl (q0i),.isl false (List.map cGProp l20),⟨[],0⟩,Nat.le_refl _,Gh.trans (Gh.fz (tm':=[.isl false (List.map cGProp l20)]) (h':=[(1,.row [] 33),(0,.row (cGProp p2) 33)]) 2 (.vec (List.map cGProp l20).flatten 33 4 t21) 4 rfl (by simp) (by simp only [oneU,q0y,q0o,q1z,q11,q22,q15,q14,q13,q12,q10,q20,q21,q1y,q23,q3k,junkT,q8i q0b,q3x]) (by simp only [fzH,fzB,ug,Nat.beq,cond_true,cond_false,oneU,q0y,q0o,q1z,q11,q22,q15,q14,q13,q12,q10,q20,q21,q1y,q23,q3k,junkT,q8i q0b,q3x])) (Gh.toR (.isl false (List.map cGProp l20)) rfl),rfl,BU.h⟩
 refine WPU.condS (t:=(!b16)) rfl (fun h19=>?_) (fun h19=>?_)
 replace hF:=q05 h19 hF
 refine st ?_
 obtain ⟨h22,hF⟩:=q0n hF
 refine sr ?_
 refine RS.q (u:=.agg (cGProp p2)) rfl (q0a und33 rfl (q01 inf33) rfl rfl rfl) (RS.q (u:=.sl 3 0 1 1) (σ':=⟨[(3,.row (cGProp p2) 33),(2,.vec (List.map cGProp l17).flatten 33 4 t18),(1,.row [] 33),(0,.row (cGProp p2) 33)],4⟩) rfl (q4g und57 inf33 rfl rfl rfl rfl rfl rfl rfl) (RS.q (u:=.vl 2 (t18+1) 0 ((l17++[p2]).length)) (σ':=⟨[(3,.row (cGProp p2) 33),(2,.vec (List.map cGProp (l17++[p2])).flatten 33 4 (t18+1)),(1,.row [] 33),(0,.row (cGProp p2) 33)],4⟩) rfl (q7i rfl rfl rfl rfl (q8m cGProp ([p2]) und57 und57 inf33 rfl q0b rfl (q72 cGProp [p2] rfl rfl rfl rfl) h22)) ?_))
 refine sd ?_
 exact ⟨_,_,⟨(l17++[p2]),(t18+1),hF,rfl,rfl⟩,(Nat.zero_le _),Gh.toC (n1:=3) ⟨rfl,trivial⟩ rfl (Nat.zero_le _) (by simp)⟩
 replace hF:=q04 h19 hF
 refine st ?_
 refine WPU.skip ?_
 refine st ?_
 exact ⟨_,_,⟨l17,t18,hF,rfl,rfl⟩,(Nat.zero_le _),Gh.toC (n1:=3) ⟨rfl,trivial⟩ rfl (Nat.zero_le _) (by simp)⟩
 rintro m1 _ _ ⟨b12,z13,l14,t15,hF,rfl,rfl⟩
 rcases m1 with _ | m1
 cases hF
 unfold q2k at hF
 refine sr ?_
 repeat refine RS.mv rfl rfl rfl rfl ?_
 refine RS.q rfl (q0k rfl rfl rfl (q0g cGProp und57)) (RS.q rfl (q02 rfl rfl (q18 _ _ _) rfl) ?_)
 refine sd ?_
 refine WPU.condS (t:=(decide (z13<(p1.length:Int)))) rfl (fun h23=>?_) (fun h23=>?_)
 replace hF:=q05 h23 hF
 refine st ?_
 refine WPU.skip ?_
 refine st ?_
 refine WPU.block ?_
 refine st ?_
 obtain ⟨x24,h25,hF⟩:=q00 hF
 obtain ⟨r26,h27,hF⟩:=q00 hF
 refine WPU.drawE Tryz.tb_ok [] (by kernel_rfl) ?_
 refine RD.q (u:=.agg (cGProp p2)) rfl (q0a und33 rfl (q01 inf33) rfl rfl rfl) ?_
 repeat refine RD.mv rfl rfl rfl rfl ?_
 refine RD.q (u:=.iptr (cGProp x24)) rfl (q2a rfl rfl (q1f cGProp und57 (q01 inf33) q0b h25 rfl)) (RD.q (u:=.agg (cGProp x24)) rfl (q2e und33 rfl (q01 inf33) rfl rfl) (RD.free (u:=.int .i64 r26) (args:=[.agg (cGProp p2),.agg (cGProp x24)]) rfl (q03 rfl rfl fn98 hb98 rfl rfl) (fun s=>qg7 n p2 x24 r26 h27 s) rfl rfl (RD.as rfl rfl rfl rfl ?_)))
 refine RD.done ⟨by kernel_rfl,trivial,?_⟩
 refine st ?_
 obtain ⟨b29,h30,hF⟩:=q00 hF
 refine WPU.joinK (fun tm σ=>tm=fr 48 [(0,.isl false (List.map cGProp p1)),(3,.ptr 0 0 0),(5,.vl 2 t15 0 l14.length),(6,.bool b12),(7,.int .i64 z13),(8,.int .i64 r26),(27,.bool b29)]∧σ=⟨[(2,.vec (List.map cGProp l14).flatten 33 4 t15),(1,.row [] 33),(0,.row (cGProp p2) 33)],3⟩) ?_ ?_
 rintro _ _ ⟨rfl,rfl⟩
 refine st ?_
 refine WPU.joinK (fun tm σ=>∃ b32:Bool,∃ l33:List GProp,∃ t34:Nat,q5n p1 z13 (q2k p1 p2 n m1) b32 l33=some r∧tm=fr 48 [(0,.isl false (List.map cGProp p1)),(3,.ptr 0 0 0),(5,.vl 2 t34 0 l33.length),(6,.bool b32),(7,.int .i64 z13)]∧σ=⟨[(2,.vec (List.map cGProp l33).flatten 33 4 t34),(1,.row [] 33),(0,.row (cGProp p2) 33)],3⟩) ?_ ?_
 rintro _ _ ⟨b32,l33,t34,hF,rfl,rfl⟩
 unfold q5n at hF
 refine st ?_
 obtain ⟨x35,h36,hF⟩:=q00 hF
 obtain ⟨h37,hF⟩:=q0n hF
 refine sr ?_
 repeat refine RS.mv rfl rfl rfl rfl ?_
 refine RS.q (u:=.iptr (cGProp x35)) rfl (q2a rfl rfl (q1f cGProp und57 (q01 inf33) q0b h36 rfl)) (RS.q (u:=.agg (cGProp x35)) rfl (q2e und33 rfl (q01 inf33) rfl rfl) (RS.q (u:=.sl 3 0 1 1) (σ':=⟨[(3,.row (cGProp x35) 33),(2,.vec (List.map cGProp l33).flatten 33 4 t34),(1,.row [] 33),(0,.row (cGProp p2) 33)],4⟩) rfl (q4g und57 inf33 rfl rfl rfl rfl rfl rfl rfl) (RS.q (u:=.vl 2 (t34+1) 0 ((l33++[x35]).length)) (σ':=⟨[(3,.row (cGProp x35) 33),(2,.vec (List.map cGProp (l33++[x35])).flatten 33 4 (t34+1)),(1,.row [] 33),(0,.row (cGProp p2) 33)],4⟩) rfl (q7i rfl rfl rfl rfl (q8m cGProp ([x35]) und57 und57 inf33 rfl q0b rfl (q72 cGProp [x35] rfl rfl rfl rfl) h37)) ?_)))
 refine se ?_
 refine RS.q rfl (q02 rfl rfl (q1q _ _ _) rfl) ?_
 refine sd ?_
 exact ⟨m1,_,_,Nat.lt_succ_self _,⟨b32,(IntKind.i64.wrap (z13+1)),(l33++[x35]),(t34+1),hF,rfl,rfl⟩,(Nat.zero_le _),Gh.toC (n1:=3) ⟨rfl,rfl,rfl,rfl,rfl,trivial⟩ rfl (Nat.zero_le _) (by simp)⟩
 refine WPU.condS (t:=b29) rfl (fun h31=>?_) (fun h31=>?_)
 replace hF:=q05 h31 hF
 refine sr ?_
 refine se ?_
 refine RS.q rfl (q02 rfl rfl (q18 _ _ _) rfl) ?_
 refine sd ?_
 refine WPU.joinK (fun tm σ=>∃ l39:List GProp,∃ t40:Nat,q6y p1 z13 (q2k p1 p2 n m1) l39=some r∧tm=fr 48 [(0,.isl false (List.map cGProp p1)),(3,.ptr 0 0 0),(5,.vl 2 t40 0 l39.length),(6,.bool true),(7,.int .i64 z13)]∧σ=⟨[(2,.vec (List.map cGProp l39).flatten 33 4 t40),(1,.row [] 33),(0,.row (cGProp p2) 33)],3⟩) ?_ ?_
 rintro _ _ ⟨l39,t40,hF,rfl,rfl⟩
 unfold q6y at hF
 refine st ?_
 exact ⟨_,_,⟨true,l39,t40,hF,rfl,rfl⟩,(Nat.zero_le _),Gh.toC (n1:=3) ⟨rfl,rfl,rfl,rfl,rfl,trivial⟩ rfl (Nat.zero_le _) (by simp)⟩
 refine WPU.condS (t:=(decide (r26<0))) rfl (fun h38=>?_) (fun h38=>?_)
 replace hF:=q05 h38 hF
 refine st ?_
 obtain ⟨h41,hF⟩:=q0n hF
 refine sr ?_
 refine RS.q (u:=.agg (cGProp p2)) rfl (q0a und33 rfl (q01 inf33) rfl rfl rfl) (RS.q (u:=.sl 3 0 1 1) (σ':=⟨[(3,.row (cGProp p2) 33),(2,.vec (List.map cGProp l14).flatten 33 4 t15),(1,.row [] 33),(0,.row (cGProp p2) 33)],4⟩) rfl (q4g und57 inf33 rfl rfl rfl rfl rfl rfl rfl) (RS.q (u:=.vl 2 (t15+1) 0 ((l14++[p2]).length)) (σ':=⟨[(3,.row (cGProp p2) 33),(2,.vec (List.map cGProp (l14++[p2])).flatten 33 4 (t15+1)),(1,.row [] 33),(0,.row (cGProp p2) 33)],4⟩) rfl (q7i rfl rfl rfl rfl (q8m cGProp ([p2]) und57 und57 inf33 rfl q0b rfl (q72 cGProp [p2] rfl rfl rfl rfl) h41)) ?_))
 refine sd ?_
 exact ⟨_,_,⟨(l14++[p2]),(t15+1),hF,rfl,rfl⟩,(Nat.zero_le _),Gh.toC (n1:=3) ⟨rfl,rfl,rfl,rfl,rfl,trivial⟩ rfl (Nat.zero_le _) (by simp)⟩
 replace hF:=q04 h38 hF
 refine st ?_
 refine WPU.skip ?_
 refine st ?_
 exact ⟨_,_,⟨l14,t15,hF,rfl,rfl⟩,(Nat.zero_le _),Gh.toC (n1:=3) ⟨rfl,rfl,rfl,rfl,rfl,trivial⟩ rfl (Nat.zero_le _) (by simp)⟩
 replace hF:=q04 h31 hF
 refine st ?_
 refine WPU.skip ?_
 refine st ?_
 exact ⟨_,_,⟨b12,l14,t15,hF,rfl,rfl⟩,(Nat.zero_le _),Gh.toC (n1:=3) ⟨rfl,rfl,rfl,rfl,rfl,trivial⟩ rfl (Nat.zero_le _) (by simp)⟩
 rcases q2r (!b12) with h28 | h28
 replace h30:=q05 h28 h30
 replace h30:=Option.some.inj h30
 subst h30
 refine sr ?_
 refine RS.q (u:=.bool (!b12)) rfl (q7l rfl rfl rfl rfl) (RS.mv rfl rfl rfl rfl (RS.op (want1 rfl rfl rfl h28) (q0h rfl) rfl rfl (RS.op (want1 rfl rfl rfl h28) (q02 rfl rfl (qfr _ _ _) rfl) rfl rfl (RS.q (u:=.bool (decide (r26≤0))) rfl (q06 rfl h28 rfl) ?_))))
 refine sd ?_
 exact ⟨_,_,⟨rfl,rfl⟩,(Nat.zero_le _),Gh.toC (n1:=3) ⟨rfl,rfl,rfl,rfl,rfl,rfl,rfl,trivial⟩ rfl (Nat.zero_le _) (by simp)⟩
 replace h30:=q04 h28 h30
 replace h30:=Option.some.inj h30
 subst h30
 refine sr ?_
 refine RS.q (u:=.bool (!b12)) rfl (q7l rfl rfl rfl rfl) (RS.mv rfl rfl rfl rfl ?_)
 repeat refine RS.no (want0 rfl rfl rfl h28) rfl rfl ?_
 refine RS.q (u:=.bool false) rfl (q07 rfl h28 rfl) ?_
 refine sd ?_
 exact ⟨_,_,⟨rfl,rfl⟩,(Nat.zero_le _),Gh.toC (n1:=3) ⟨rfl,rfl,rfl,rfl,rfl,rfl,rfl,trivial⟩ rfl (Nat.zero_le _) (by simp)⟩
 replace hF:=q04 h23 hF
 refine st ?_
 refine WPU.exit ?_
 refine st ?_
 exact ⟨_,_,⟨b12,l14,t15,hF,rfl,rfl⟩,(Nat.zero_le _),Gh.toC (n1:=3) ⟨rfl,rfl,rfl,trivial⟩ rfl (Nat.zero_le _) (by simp)⟩
theorem q8u (n:Nat) (p1:List GProp) (p2:GProp) (r:(List GProp)) (hF:q57 n p1 p2=some r) (σ:Sg):EvU Tryz.prog 87 [.isl false (List.map cGProp p1),.agg (cGProp p2)] σ (fun u σ'=>u = .isl false (List.map cGProp r)∧σ'=σ) :=
 EvU.pure1C (ref45_insert_0 n p1 p2 r hF) σ
def qaw  (l14:List GProp):Option ((List GProp)) :=
 some l14
def q6x (p2:GDeriv) (self:(List GProp)→GDeriv→Option ((List GProp))):Nat→(List GProp)→Int→Option ((List GProp))
 | 0,_,_=>none
 | m2+1,l12,z13 =>
  cond (decide (z13<(p2.Kids.length:Int)))
   (bindO (idxO p2.Kids z13) fun x16 =>
   bindO (self l12 x16) fun r18 =>
   (q6x p2 self m2) r18 (IntKind.i64.wrap (z13+1)))
   (qaw l12)
def q9q (p2:GDeriv) (n:Nat) (self:(List GProp)→GDeriv→Option ((List GProp))) (l4:List GProp):Option ((List GProp)) :=
 q6x p2 self n l4 0
def q9r (p2:GDeriv) (n:Nat) (self:(List GProp)→GDeriv→Option ((List GProp))) (l23:List GProp):Option ((List GProp)) :=
 q9q p2 n self l23
def q9s (p2:GDeriv) (n:Nat) (self:(List GProp)→GDeriv→Option ((List GProp))) (l27:List GProp):Option ((List GProp)) :=
 q9r p2 n self l27
def qdk (n:Nat) (self:(List GProp)→GDeriv→Option ((List GProp))) (p1:List GProp) (p2:GDeriv):Option ((List GProp)) :=
 cond (p2.Kind == 0)
  (bindO (q57 n p1 (GProp.mk 0 p2.Name p2.From p2.To)) fun r20 =>
  q9q p2 n self r20)
  (cond (p2.Kind == 1)
   (bindO (q57 n p1 (GProp.mk 1 p2.Name p2.From p2.To)) fun r24 =>
   q9r p2 n self r24)
   (cond (p2.Kind == 2)
    (bindO (q57 n p1 (GProp.mk 2 p2.Name p2.From p2.To)) fun r28 =>
    bindO (q57 n r28 (GProp.mk 3 [] p2.From p2.To)) fun r30 =>
    q9s p2 n self r30)
    (q9s p2 n self p1)))
def q4o:Nat→(List GProp)→GDeriv→Option ((List GProp))
 | 0,_,_=>none
 | n+1,p1,p2=>qdk n (q4o n) p1 p2
theorem qhy:∀ (n:Nat) (p1:List GProp) (p2:GDeriv) (r:(List GProp)),q4o n p1 p2=some r→EvU Tryz.prog 63 [.isl false (List.map cGProp p1),.agg (xGDeriv p2)] ⟨[],0⟩ (fun u _=>u = .isl false (List.map cGProp r)∧Bel 0 u)
 | 0,p1,p2,r,hF=>by cases hF
 | n+1,p1,p2,r,hF=>by
  have ih:=qhy n
  have ihS:∀ (p1:List GProp) (p2:GDeriv) (r:(List GProp)),q4o n p1 p2=some r→∀ σ,EvU Tryz.prog 63 [.isl false (List.map cGProp p1),.agg (xGDeriv p2)] σ (fun u σ'=>u = .isl false (List.map cGProp r)∧σ'=σ):=fun p1 p2 r h σ=>EvU.pure1C (ih p1 p2 r h) σ
  unfold q4o qdk at hF
  refine EvU.of_body Tryz.tb_ok fn63 rfl ?_
  refine WPU.ghost (tm':=fr 63 [(0,.isl false (List.map cGProp p1)),(1,.agg (xGDeriv p2))]) (Gh.start (Nat.le_of_ble_eq_true rfl)) (Nat.zero_le _) ?_
  refine sr ?_
  refine RS.q (u:=.ptr 0 0 0) (σ':=⟨[(0,.row (xGDeriv p2) 43)],1⟩) rfl (q2j rfl rfl rfl) ?_
  refine se ?_
  refine RS.q (u:=.ptr 0 0 0) rfl (q0c und43 rfl (q01 inf3) rfl rfl rfl) (RS.q (u:=.int .i64 p2.Kind) rfl (q09 und3 rfl rfl rfl rfl) ?_)
  refine sd ?_
  refine WPU.block ?_
  refine sr ?_
  refine RS.q rfl (q02 rfl rfl (q0j _ _ _) rfl) ?_
  refine sd ?_
  refine WPU.joinK (fun tm σ=>∃ l4:List GProp,q9q p2 n (q4o n) l4=some r∧tm=fr 63 [(0,.isl false (List.map cGProp l4)),(3,.ptr 0 0 0)]∧σ=⟨[(0,.row (xGDeriv p2) 43)],1⟩) ?_ ?_
  rintro _ _ ⟨l4,hF,rfl,rfl⟩
  unfold q9q at hF
  refine sr ?_
  refine sd ?_
  refine WPU.ghost (tm':=fr 63 [(0,.isl false (List.map cGProp l4)),(3,.ptr 0 0 0),(5,.int .i64 0)]) (Gh.sub ⟨rfl,rfl,rfl,trivial⟩) (Nat.zero_le _) ?_
  refine WPU.loopK (fun m tm σ=>∃ l12:List GProp,∃ z13:Int,q6x p2 (q4o n) m l12 z13=some r∧tm=fr 63 [(0,.isl false (List.map cGProp l12)),(3,.ptr 0 0 0),(5,.int .i64 z13)]∧σ=⟨[(0,.row (xGDeriv p2) 43)],1⟩) (fun tm σ=>∃ l14:List GProp,qaw l14=some r∧tm=fr 63 [(0,.isl false (List.map cGProp l14))]∧σ=⟨[(0,.row (xGDeriv p2) 43)],1⟩) n ⟨l4,0,hF,rfl,rfl⟩ ?_ ?_
  rintro _ _ ⟨l14,hF,rfl,rfl⟩
  unfold qaw at hF
  refine sr ?_
  refine sd ?_
  refine WPU.ret ?_
  refine st ?_
  have hr:=Option.some.inj hF
  subst hr
  exact ⟨.inr rfl,[.isl false (List.map cGProp l14)],q0l rfl (q0i),.isl false (List.map cGProp l14),⟨[],0⟩,Nat.le_refl _,Gh.toR (.isl false (List.map cGProp l14)) rfl,rfl,BU.h⟩
  rintro m2 _ _ ⟨l12,z13,hF,rfl,rfl⟩
  rcases m2 with _ | m2
  cases hF
  unfold q6x at hF
  refine sr ?_
  refine RS.q (u:=.ptr 0 0 4) rfl (q0c und43 rfl (q01 inf22) rfl rfl rfl) (RS.q (u:=.isl false (List.map cGDeriv p2.Kids)) rfl (q09 und22 rfl rfl rfl rfl) (RS.q rfl (q0k rfl rfl rfl (q0g cGDeriv und22)) (RS.q rfl (q02 rfl rfl (q18 _ _ _) rfl) ?_)))
  refine sd ?_
  refine WPU.condS (t:=(decide (z13<(p2.Kids.length:Int)))) rfl (fun h15=>?_) (fun h15=>?_)
  replace hF:=q05 h15 hF
  refine st ?_
  refine WPU.skip ?_
  refine st ?_
  refine WPU.block ?_
  refine st ?_
  obtain ⟨x16,h17,hF⟩:=q00 hF
  obtain ⟨r18,h19,hF⟩:=q00 hF
  refine sr ?_
  refine RS.q (u:=.ptr 0 0 4) rfl (q0c und43 rfl (q01 inf22) rfl rfl rfl) (RS.q (u:=.isl false (List.map cGDeriv p2.Kids)) rfl (q09 und22 rfl rfl rfl rfl) (RS.mv rfl rfl rfl rfl (RS.q (u:=.iptr (xGDeriv x16)) rfl (q2a rfl rfl (q1f cGDeriv und22 (q01 inf43) q0e h17 (q0m x16))) (RS.q (u:=.agg (xGDeriv x16)) rfl (q2e und43 rfl (q01 inf43) rfl rfl) (RS.call (u:=.isl false (List.map cGProp r18)) (args:=[.isl false (List.map cGProp l12),.agg (xGDeriv x16)]) rfl (q03 rfl rfl fn63 hb63 rfl rfl) (ihS l12 x16 r18 h19 _) rfl rfl ?_)))))
  refine se ?_
  refine RS.q rfl (q02 rfl rfl (q1q _ _ _) rfl) ?_
  refine sd ?_
  exact ⟨m2,_,_,Nat.lt_succ_self _,⟨r18,(IntKind.i64.wrap (z13+1)),hF,rfl,rfl⟩,(Nat.zero_le _),Gh.toC (n1:=1) ⟨rfl,rfl,rfl,trivial⟩ rfl (Nat.zero_le _) (by simp)⟩
  replace hF:=q04 h15 hF
  refine st ?_
  refine WPU.exit ?_
  refine st ?_
  exact ⟨_,_,⟨l12,hF,rfl,rfl⟩,(Nat.zero_le _),Gh.toC (n1:=1) ⟨rfl,trivial⟩ rfl (Nat.zero_le _) (by simp)⟩
  refine WPU.condS (t:=(p2.Kind == 0)) rfl (fun h3=>?_) (fun h3=>?_)
  replace hF:=q05 h3 hF
  refine st ?_
  obtain ⟨r20,h21,hF⟩:=q00 hF
  refine sr ?_
  refine RS.q (u:=.ptr 0 0 1) rfl (q0c und43 rfl (q01 inf9) rfl rfl rfl) (RS.q (u:=.str p2.Name) rfl (q09 und9 rfl rfl rfl rfl) (RS.q (u:=.ptr 0 0 2) rfl (q0c und43 rfl (q01 inf3) rfl rfl rfl) (RS.q (u:=.int .i64 p2.From) rfl (q09 und3 rfl rfl rfl rfl) (RS.q (u:=.ptr 0 0 3) rfl (q0c und43 rfl (q01 inf3) rfl rfl rfl) (RS.q (u:=.int .i64 p2.To) rfl (q09 und3 rfl rfl rfl rfl) (RS.q (u:=.agg [.int .i64 0,.str p2.Name,.int .i64 p2.From,.int .i64 p2.To]) rfl (q4d bd33 rfl rfl rfl) (RS.call (u:=.isl false (List.map cGProp r20)) (args:=[.isl false (List.map cGProp p1),.agg [.int .i64 0,.str p2.Name,.int .i64 p2.From,.int .i64 p2.To]]) rfl (q03 rfl rfl fn87 hb87 rfl rfl) (q8u n p1 (GProp.mk 0 p2.Name p2.From p2.To) r20 h21 _) rfl rfl ?_)))))))
  refine sd ?_
  exact ⟨_,_,⟨r20,hF,rfl,rfl⟩,(Nat.zero_le _),Gh.toC (n1:=1) ⟨rfl,rfl,trivial⟩ rfl (Nat.zero_le _) (by simp)⟩
  replace hF:=q04 h3 hF
  refine sr ?_
  refine RS.q rfl (q02 rfl rfl (q0j _ _ _) rfl) ?_
  refine sd ?_
  refine WPU.joinK (fun tm σ=>∃ l23:List GProp,q9r p2 n (q4o n) l23=some r∧tm=fr 63 [(0,.isl false (List.map cGProp l23)),(3,.ptr 0 0 0)]∧σ=⟨[(0,.row (xGDeriv p2) 43)],1⟩) ?_ ?_
  rintro _ _ ⟨l23,hF,rfl,rfl⟩
  unfold q9r at hF
  refine st ?_
  exact ⟨_,_,⟨l23,hF,rfl,rfl⟩,(Nat.zero_le _),Gh.toC (n1:=1) ⟨rfl,rfl,trivial⟩ rfl (Nat.zero_le _) (by simp)⟩
  refine WPU.condS (t:=(p2.Kind == 1)) rfl (fun h22=>?_) (fun h22=>?_)
  replace hF:=q05 h22 hF
  refine st ?_
  obtain ⟨r24,h25,hF⟩:=q00 hF
  refine sr ?_
  refine RS.q (u:=.ptr 0 0 1) rfl (q0c und43 rfl (q01 inf9) rfl rfl rfl) (RS.q (u:=.str p2.Name) rfl (q09 und9 rfl rfl rfl rfl) (RS.q (u:=.ptr 0 0 2) rfl (q0c und43 rfl (q01 inf3) rfl rfl rfl) (RS.q (u:=.int .i64 p2.From) rfl (q09 und3 rfl rfl rfl rfl) (RS.q (u:=.ptr 0 0 3) rfl (q0c und43 rfl (q01 inf3) rfl rfl rfl) (RS.q (u:=.int .i64 p2.To) rfl (q09 und3 rfl rfl rfl rfl) (RS.q (u:=.agg [.int .i64 1,.str p2.Name,.int .i64 p2.From,.int .i64 p2.To]) rfl (q4d bd33 rfl rfl rfl) (RS.call (u:=.isl false (List.map cGProp r24)) (args:=[.isl false (List.map cGProp p1),.agg [.int .i64 1,.str p2.Name,.int .i64 p2.From,.int .i64 p2.To]]) rfl (q03 rfl rfl fn87 hb87 rfl rfl) (q8u n p1 (GProp.mk 1 p2.Name p2.From p2.To) r24 h25 _) rfl rfl ?_)))))))
  refine sd ?_
  exact ⟨_,_,⟨r24,hF,rfl,rfl⟩,(Nat.zero_le _),Gh.toC (n1:=1) ⟨rfl,rfl,trivial⟩ rfl (Nat.zero_le _) (by simp)⟩
  replace hF:=q04 h22 hF
  refine sr ?_
  refine RS.q rfl (q02 rfl rfl (q0j _ _ _) rfl) ?_
  refine sd ?_
  refine WPU.joinK (fun tm σ=>∃ l27:List GProp,q9s p2 n (q4o n) l27=some r∧tm=fr 63 [(0,.isl false (List.map cGProp l27)),(3,.ptr 0 0 0)]∧σ=⟨[(0,.row (xGDeriv p2) 43)],1⟩) ?_ ?_
  rintro _ _ ⟨l27,hF,rfl,rfl⟩
  unfold q9s at hF
  refine st ?_
  exact ⟨_,_,⟨l27,hF,rfl,rfl⟩,(Nat.zero_le _),Gh.toC (n1:=1) ⟨rfl,rfl,trivial⟩ rfl (Nat.zero_le _) (by simp)⟩
  refine WPU.condS (t:=(p2.Kind == 2)) rfl (fun h26=>?_) (fun h26=>?_)
  replace hF:=q05 h26 hF
  refine st ?_
  obtain ⟨r28,h29,hF⟩:=q00 hF
  refine sr ?_
  refine RS.q (u:=.ptr 0 0 1) rfl (q0c und43 rfl (q01 inf9) rfl rfl rfl) (RS.q (u:=.str p2.Name) rfl (q09 und9 rfl rfl rfl rfl) (RS.q (u:=.ptr 0 0 2) rfl (q0c und43 rfl (q01 inf3) rfl rfl rfl) (RS.q (u:=.int .i64 p2.From) rfl (q09 und3 rfl rfl rfl rfl) (RS.q (u:=.ptr 0 0 3) rfl (q0c und43 rfl (q01 inf3) rfl rfl rfl) (RS.q (u:=.int .i64 p2.To) rfl (q09 und3 rfl rfl rfl rfl) (RS.q (u:=.agg [.int .i64 2,.str p2.Name,.int .i64 p2.From,.int .i64 p2.To]) rfl (q4d bd33 rfl rfl rfl) (RS.call (u:=.isl false (List.map cGProp r28)) (args:=[.isl false (List.map cGProp p1),.agg [.int .i64 2,.str p2.Name,.int .i64 p2.From,.int .i64 p2.To]]) rfl (q03 rfl rfl fn87 hb87 rfl rfl) (q8u n p1 (GProp.mk 2 p2.Name p2.From p2.To) r28 h29 _) rfl rfl ?_)))))))
  refine sd ?_
  obtain ⟨r30,h31,hF⟩:=q00 hF
  refine sr ?_
  refine RS.q (u:=.ptr 0 0 2) rfl (q0c und43 rfl (q01 inf3) rfl rfl rfl) (RS.q (u:=.int .i64 p2.From) rfl (q09 und3 rfl rfl rfl rfl) (RS.q (u:=.ptr 0 0 3) rfl (q0c und43 rfl (q01 inf3) rfl rfl rfl) (RS.q (u:=.int .i64 p2.To) rfl (q09 und3 rfl rfl rfl rfl) (RS.q (u:=.agg [.int .i64 3,.str [],.int .i64 p2.From,.int .i64 p2.To]) rfl (q4d bd33 rfl rfl rfl) (RS.call (u:=.isl false (List.map cGProp r30)) (args:=[.isl false (List.map cGProp r28),.agg [.int .i64 3,.str [],.int .i64 p2.From,.int .i64 p2.To]]) rfl (q03 rfl rfl fn87 hb87 rfl rfl) (q8u n r28 (GProp.mk 3 [] p2.From p2.To) r30 h31 _) rfl rfl ?_)))))
  refine sd ?_
  exact ⟨_,_,⟨r30,hF,rfl,rfl⟩,(Nat.zero_le _),Gh.toC (n1:=1) ⟨rfl,rfl,trivial⟩ rfl (Nat.zero_le _) (by simp)⟩
  replace hF:=q04 h26 hF
  refine st ?_
  refine WPU.skip ?_
  refine st ?_
  exact ⟨_,_,⟨p1,hF,rfl,rfl⟩,(Nat.zero_le _),Gh.toC (n1:=1) ⟨rfl,rfl,trivial⟩ rfl (Nat.zero_le _) (by simp)⟩
theorem qfu (n:Nat) (p1:List GProp) (p2:GDeriv) (r:(List GProp)) (hF:q4o n p1 p2=some r) (σ:Sg):EvU Tryz.prog 63 [.isl false (List.map cGProp p1),.agg (xGDeriv p2)] σ (fun u σ'=>u = .isl false (List.map cGProp r)∧σ'=σ) :=
 EvU.pure1C (qhy n p1 p2 r hF) σ
def q9b (n:Nat) (p1:GDeriv):Option ((List GProp)) :=
 bindO (q4o n [] p1) fun r2 =>
 some r2
theorem ref45_Props_0 (n:Nat) (p1:GDeriv) (r:(List GProp)) (hF:q9b n p1=some r):EvU Tryz.prog 88 [.agg (xGDeriv p1)] ⟨[],0⟩ (fun u _=>u = .isl false (List.map cGProp r)∧Bel 0 u):=by
 unfold q9b at hF
 refine EvU.of_body Tryz.tb_ok fn88 rfl ?_
 refine WPU.ghost (tm':=fr 5 [(0,.agg (xGDeriv p1))]) (Gh.start (Nat.le_of_ble_eq_true rfl)) (Nat.zero_le _) ?_
 refine sr ?_
 refine RS.q (u:=.ptr 0 0 0) (σ':=⟨[(0,.row (xGDeriv p1) 43)],1⟩) rfl (q2j rfl rfl rfl) ?_
 refine sd ?_
 obtain ⟨r2,h3,hF⟩:=q00 hF
 refine sr ?_
 refine RS.q (u:=.agg (xGDeriv p1)) rfl (q0a und43 rfl (q01 inf43) rfl rfl rfl) (RS.call (u:=.isl false (List.map cGProp r2)) (args:=[.nils,.agg (xGDeriv p1)]) rfl (q03 rfl rfl fn63 hb63 rfl rfl) (EvU.wkA (args':=[.isl false [],.agg (xGDeriv p1)]) (.cons (.nil false) (.cons (.refl _) .nil)) (fun s=>qfu n [] p1 r2 h3 s) _) rfl rfl ?_)
 refine sd ?_
 refine WPU.ret ?_
 refine st ?_
 have hr:=Option.some.inj hF
 subst hr
 exact ⟨.inr rfl,[.isl false (List.map cGProp r2)],q0l rfl (q0i),.isl false (List.map cGProp r2),⟨[],0⟩,Nat.le_refl _,Gh.toR (.isl false (List.map cGProp r2)) rfl,rfl,BU.h⟩
theorem ref45_Props_ok (n:Nat) (p1:GDeriv) (r:(List GProp)) (hF:q9b n p1=some r) (σ:Sg):EvU Tryz.prog 88 [.agg (xGDeriv p1)] σ (fun u σ'=>u = .isl false (List.map cGProp r)∧σ'=σ) :=
 EvU.pure1C (ref45_Props_0 n p1 r hF) σ
def qav   : Option (Bool) :=
 some false
def q89 (p1:List GProp) (p2:GProp):Nat→Int→Option (Bool)
 | 0,_=>none
 | m1+1,z9 =>
  cond (decide (z9<(p1.length:Int)))
   (bindO (idxO p1 z9) fun x11 =>
   cond (eqGProp x11 p2)
    (some true)
    ((q89 p1 p2 m1) (IntKind.i64.wrap (z9+1))))
   (qav)
def qan (n:Nat) (p1:List GProp) (p2:GProp):Option (Bool) :=
 q89 p1 p2 n 0
theorem ref45_Has_0 (n:Nat) (p1:List GProp) (p2:GProp) (r:Bool) (hF:qan n p1 p2=some r):EvU Tryz.prog 65 [.isl false (List.map cGProp p1),.agg (cGProp p2)] ⟨[],0⟩ (fun u _=>u = .bool r∧Bel 0 u):=by
 unfold qan at hF
 refine EvU.of_body Tryz.tb_ok fn65 rfl ?_
 refine WPU.ghost (tm':=fr 18 [(0,.isl false (List.map cGProp p1)),(1,.agg (cGProp p2))]) (Gh.start (Nat.le_of_ble_eq_true rfl)) (Nat.zero_le _) ?_
 refine sr ?_
 refine RS.q (u:=.ptr 0 0 0) (σ':=⟨[(0,.row (cGProp p2) 33)],1⟩) rfl (q2j rfl rfl rfl) ?_
 refine se ?_
 refine sd ?_
 refine WPU.ghost (tm':=fr 18 [(0,.isl false (List.map cGProp p1)),(3,.ptr 0 0 0),(5,.int .i64 0)]) (Gh.sub ⟨rfl,rfl,rfl,trivial⟩) (Nat.zero_le _) ?_
 refine WPU.loopK (fun m tm σ=>∃ z9:Int,q89 p1 p2 m z9=some r∧tm=fr 18 [(0,.isl false (List.map cGProp p1)),(3,.ptr 0 0 0),(5,.int .i64 z9)]∧σ=⟨[(0,.row (cGProp p2) 33)],1⟩) (fun tm σ=>qav=some r∧tm=fr 18 []∧σ=⟨[(0,.row (cGProp p2) 33)],1⟩) n ⟨0,hF,rfl,rfl⟩ ?_ ?_
 rintro _ _ ⟨hF,rfl,rfl⟩
 unfold qav at hF
 refine sr ?_
 refine sd ?_
 refine WPU.ret ?_
 refine st ?_
 have hr:=Option.some.inj hF
 subst hr
 exact ⟨.inr rfl,[.bool false],q0l rfl (q0i),.bool false,⟨[],0⟩,Nat.le_refl _,Gh.toR (.bool false) rfl,rfl,BU.h⟩
 rintro m1 _ _ ⟨z9,hF,rfl,rfl⟩
 rcases m1 with _ | m1
 cases hF
 unfold q89 at hF
 refine sr ?_
 repeat refine RS.mv rfl rfl rfl rfl ?_
 refine RS.q rfl (q0k rfl rfl rfl (q0g cGProp und57)) (RS.q rfl (q02 rfl rfl (q18 _ _ _) rfl) ?_)
 refine sd ?_
 refine WPU.condS (t:=(decide (z9<(p1.length:Int)))) rfl (fun h10=>?_) (fun h10=>?_)
 replace hF:=q05 h10 hF
 refine st ?_
 refine WPU.skip ?_
 refine st ?_
 refine WPU.block ?_
 refine st ?_
 obtain ⟨x11,h12,hF⟩:=q00 hF
 refine WPU.drawE Tryz.tb_ok [] (by kernel_rfl) ?_
 repeat refine RD.mv rfl rfl rfl rfl ?_
 refine RD.q (u:=.iptr (cGProp x11)) rfl (q2a rfl rfl (q1f cGProp und57 (q01 inf33) q0b h12 rfl)) (RD.q (u:=.agg (cGProp x11)) rfl (q2e und33 rfl (q01 inf33) rfl rfl) (RD.q (u:=.agg (cGProp p2)) rfl (q0a und33 rfl (q01 inf33) rfl rfl rfl) (RD.q (u:=.bool (eqGProp x11 p2)) rfl (q7j rfl rfl (q5k x11 p2)) ?_)))
 refine RD.done ⟨by kernel_rfl,trivial,?_⟩
 refine st ?_
 refine WPU.condS (t:=(eqGProp x11 p2)) rfl (fun h13=>?_) (fun h13=>?_)
 replace hF:=q05 h13 hF
 refine sr ?_
 refine sd ?_
 refine WPU.ret ?_
 refine st ?_
 have hr:=Option.some.inj hF
 subst hr
 exact ⟨.inr rfl,[.bool true],q0l rfl (q0i),.bool true,⟨[],0⟩,Nat.le_refl _,Gh.toR (.bool true) rfl,rfl,BU.h⟩
 replace hF:=q04 h13 hF
 refine st ?_
 refine WPU.skip ?_
 refine sr ?_
 refine RS.q rfl (q02 rfl rfl (q1q _ _ _) rfl) ?_
 refine sd ?_
 exact ⟨m1,_,_,Nat.lt_succ_self _,⟨(IntKind.i64.wrap (z9+1)),hF,rfl,rfl⟩,(Nat.zero_le _),Gh.toC (n1:=1) ⟨rfl,rfl,rfl,trivial⟩ rfl (Nat.zero_le _) (by simp)⟩
 replace hF:=q04 h10 hF
 refine st ?_
 refine WPU.exit ?_
 refine st ?_
 exact ⟨_,_,⟨hF,rfl,rfl⟩,(Nat.zero_le _),Gh.toC (n1:=1) trivial rfl (Nat.zero_le _) (by simp)⟩
theorem qft (n:Nat) (p1:List GProp) (p2:GProp) (r:Bool) (hF:qan n p1 p2=some r) (σ:Sg):EvU Tryz.prog 65 [.isl false (List.map cGProp p1),.agg (cGProp p2)] σ (fun u σ'=>u = .bool r∧σ'=σ) :=
 EvU.pure1C (ref45_Has_0 n p1 p2 r hF) σ
def q5v (n:Nat) (p1:GDeriv) (p2:GProp):Option (Bool) :=
 bindO (q9b n p1) fun r3 =>
 bindO (qan n r3 p2) fun r5 =>
 some r5
theorem ref45_Holds_0 (n:Nat) (p1:GDeriv) (p2:GProp) (r:Bool) (hF:q5v n p1 p2=some r):EvU Tryz.prog 64 [.agg (xGDeriv p1),.agg (cGProp p2)] ⟨[],0⟩ (fun u _=>u = .bool r∧Bel 0 u):=by
 unfold q5v at hF
 refine EvU.of_body Tryz.tb_ok fn64 rfl ?_
 refine WPU.ghost (tm':=fr 9 [(0,.agg (xGDeriv p1)),(1,.agg (cGProp p2))]) (Gh.start (Nat.le_of_ble_eq_true rfl)) (Nat.zero_le _) ?_
 refine sr ?_
 refine RS.q (u:=.ptr 0 0 0) (σ':=⟨[(0,.row (xGDeriv p1) 43)],1⟩) rfl (q2j rfl rfl rfl) (RS.q (u:=.ptr 1 0 0) (σ':=⟨[(1,.row (cGProp p2) 33),(0,.row (xGDeriv p1) 43)],2⟩) rfl (q2j rfl rfl rfl) ?_)
 refine sd ?_
 obtain ⟨r3,h4,hF⟩:=q00 hF
 obtain ⟨r5,h6,hF⟩:=q00 hF
 refine WPU.drawE Tryz.tb_ok [] (by kernel_rfl) ?_
 refine RD.q (u:=.agg (xGDeriv p1)) rfl (q0a und43 rfl (q01 inf43) rfl rfl rfl) (RD.free (u:=.isl false (List.map cGProp r3)) (args:=[.agg (xGDeriv p1)]) rfl (q03 rfl rfl fn88 hb88 rfl rfl) (fun s=>ref45_Props_ok n p1 r3 h4 s) rfl rfl (RD.q (u:=.agg (cGProp p2)) rfl (q0a und33 rfl (q01 inf33) rfl rfl rfl) (RD.free (u:=.bool r5) (args:=[.isl false (List.map cGProp r3),.agg (cGProp p2)]) rfl (q03 rfl rfl fn65 hb65 rfl rfl) (fun s=>qft n r3 p2 r5 h6 s) rfl rfl (RD.as rfl rfl rfl rfl ?_))))
 refine RD.done ⟨by kernel_rfl,trivial,?_⟩
 refine st ?_
 refine WPU.ret ?_
 refine st ?_
 have hr:=Option.some.inj hF
 subst hr
 exact ⟨.inr rfl,[.bool r5],q0l rfl (q0i),.bool r5,⟨[],0⟩,Nat.le_refl _,Gh.toR (.bool r5) rfl,rfl,BU.h⟩
theorem qb4 (n:Nat) (p1:GDeriv) (p2:GProp) (r:Bool) (hF:q5v n p1 p2=some r) (σ:Sg):EvU Tryz.prog 64 [.agg (xGDeriv p1),.agg (cGProp p2)] σ (fun u σ'=>u = .bool r∧σ'=σ) :=
 EvU.pure1C (ref45_Holds_0 n p1 p2 r hF) σ
def q3y (z13:Int) (rc2:Int→(List GProp)→Option ((List GProp))) (l30:List GProp):Option ((List GProp)) :=
 rc2 (IntKind.i64.wrap (z13+1)) l30
def q3z (z27:Int) (rc3:Int→Int→Option ((List GProp))) (z43:Int):Option ((List GProp)) :=
 rc3 z43 (IntKind.i64.wrap (z27+1))
def q41 (p1:List GDeriv) (l7:List GProp) (z13:Int) (l14:List GProp) (rc2:Int→(List GProp)→Option ((List GProp))) (z28:Int):Option ((List GProp)) :=
 cond (decide (z28<(p1.length:Int)))
  (bindO (idxO l7 z13) fun x32 =>
  needO ((l14.length+1)*40≤140737488355328∧l14.length+1≤140737488355328) (
  q3y z13 rc2 (l14++[x32])))
  (q3y z13 rc2 l14)
def q27 (p1:List GDeriv) (n:Nat) (l7:List GProp) (z13:Int) (l14:List GProp) (rc2:Int→(List GProp)→Option ((List GProp))):Nat→Int→Int→Option ((List GProp))
 | 0,_,_=>none
 | m3+1,z26,z27 =>
  cond (decide (z27<(p1.length:Int)))
   (bindO (idxO p1 z27) fun x36 =>
   bindO (idxO l7 z13) fun x38 =>
   bindO (q5v n x36 x38) fun r40 =>
   cond r40
    (q3z z27 (q27 p1 n l7 z13 l14 rc2 m3) (IntKind.i64.wrap (z26+1)))
    (q3z z27 (q27 p1 n l7 z13 l14 rc2 m3) z26))
   (q41 p1 l7 z13 l14 rc2 z26)
def q4s  (l16:List GProp):Option ((List GProp)) :=
 some l16
def q16 (p1:List GDeriv) (n:Nat) (l7:List GProp):Nat→Int→(List GProp)→Option ((List GProp))
 | 0,_,_=>none
 | m2+1,z13,l14 =>
  cond (decide (z13<(l7.length:Int)))
   (q27 p1 n l7 z13 l14 (q16 p1 n l7 m2) n 0 0)
   (q4s l14)
def q40 (p1:List GDeriv) (n:Nat) (l7:List GProp):Option ((List GProp)) :=
 q16 p1 n l7 n 0 ([]:List GProp)
def q33 (p1:List GDeriv) (n:Nat):Nat→(List GProp)→Int→Option ((List GProp))
 | 0,_,_=>none
 | m1+1,l5,z6 =>
  cond (decide (z6<(p1.length:Int)))
   (bindO (idxO p1 z6) fun x45 =>
   bindO (q4o n l5 x45) fun r47 =>
   (q33 p1 n m1) r47 (IntKind.i64.wrap (z6+1)))
   (q40 p1 n l5)
def q2w (n:Nat) (p1:List GDeriv):Option ((List GProp)) :=
 q33 p1 n n [] 0
theorem qcd (n:Nat) (p1:List GDeriv) (r:(List GProp)) (hF:q2w n p1=some r):EvU Tryz.prog 29 [.isl false (List.map cGDeriv p1)] ⟨[],0⟩ (fun u _=>u = .isl false (List.map cGProp r)∧Bel 0 u):=by
 unfold q2w at hF
 refine EvU.of_body Tryz.tb_ok fn29 rfl ?_
 refine WPU.ghost (tm':=fr 58 [(0,.isl false (List.map cGDeriv p1))]) (Gh.start (Nat.le_of_ble_eq_true rfl)) (Nat.zero_le _) ?_
 refine sr ?_
 refine se ?_
 refine RS.q (u:=.sl 0 0 0 0) (σ':=⟨[(0,.row [] 33)],1⟩) rfl (q4g und57 inf33 rfl rfl rfl rfl rfl rfl rfl) ?_
 refine se ?_
 refine sd ?_
 refine WPU.ghost (tm':=fr 58 [(0,.isl false (List.map cGDeriv p1)),(3,.isl false (List.map cGProp [])),(4,.int .i64 0)]) (σ':=⟨[],1⟩) (Gh.trans (Gh.sub (l':=[(0,.isl false (List.map cGDeriv p1)),(3,.sl 0 0 0 0),(4,.int .i64 0)]) ⟨rfl,rfl,rfl,trivial⟩) (Gh.fzS (l':=[(0,.isl false (List.map cGDeriv p1)),(3,.isl false (List.map cGProp [])),(4,.int .i64 0)]) (h':=[]) 0 (.row [] 33) 4 rfl (by simp) (by simp only [fzS,oneU,q0y,q0o,q1z,q11,q22,q15,q14,q13,q12,q10,q20,q21,q1y,q23,q3k,junkT,q96,q9p,Nat.reduceLeDiff,Nat.reduceMul,List.length_cons,List.length_nil,Nat.reduceAdd]<;>simp only [chunks,List.take,List.drop,List.map,cGProp]) (by simp only [fzH,fzB,ug,Nat.beq,cond_true,cond_false,oneU,q0y,q0o,q1z,q11,q22,q15,q14,q13,q12,q10,q20,q21,q1y,q23,q3k,junkT,q96,q9p,Nat.reduceLeDiff,Nat.reduceMul,List.length_cons,List.length_nil,Nat.reduceAdd]<;>simp only [chunks,List.take,List.drop,List.map,cGProp]))) (Nat.zero_le _) ?_
 refine WPU.ghost (tm':=fr 58 [(0,.isl false (List.map cGDeriv p1)),(3,.isl false (List.map cGProp [])),(4,.int .i64 0)]) (Gh.sub ⟨rfl,rfl,rfl,trivial⟩) (Nat.zero_le _) ?_
 refine WPU.loopK (fun m tm σ=>∃ l5:List GProp,∃ z6:Int,q33 p1 n m l5 z6=some r∧tm=fr 58 [(0,.isl false (List.map cGDeriv p1)),(3,.isl false (List.map cGProp l5)),(4,.int .i64 z6)]∧σ=⟨[],1⟩) (fun tm σ=>∃ l7:List GProp,q40 p1 n l7=some r∧tm=fr 58 [(0,.isl false (List.map cGDeriv p1)),(3,.isl false (List.map cGProp l7))]∧σ=⟨[],1⟩) n ⟨[],0,hF,rfl,rfl⟩ ?_ ?_
 rintro _ _ ⟨l7,hF,rfl,rfl⟩
 unfold q40 at hF
 refine sr ?_
 refine RS.q (u:=.sl 1 0 0 0) (σ':=⟨[(1,.row [] 33)],2⟩) rfl (q4g und57 inf33 rfl rfl rfl rfl rfl rfl rfl) ?_
 refine se ?_
 refine sd ?_
 refine WPU.ghost (tm':=fr 58 [(0,.isl false (List.map cGDeriv p1)),(3,.isl false (List.map cGProp l7)),(5,.vl 2 0 0 (([]:List GProp).length)),(6,.int .i64 0)]) (σ':=⟨[(2,.vec (List.map cGProp ([]:List GProp)).flatten 33 4 0),(1,.row [] 33)],3⟩) (Gh.trans (Gh.empS 5 33 4 (by decide) (Nat.zero_le _) rfl rfl rfl) (Gh.eqS ⟨rfl,rfl,rfl,rfl,trivial⟩ rfl)) (Nat.zero_le _) ?_
 refine WPU.ghost (tm':=fr 58 [(0,.isl false (List.map cGDeriv p1)),(3,.isl false (List.map cGProp l7)),(5,.vl 2 0 0 (([]:List GProp).length)),(6,.int .i64 0)]) (Gh.sub ⟨rfl,rfl,rfl,rfl,trivial⟩) (Nat.zero_le _) ?_
 refine WPU.loopK (fun m tm σ=>∃ z13:Int,∃ l14:List GProp,∃ t15:Nat,q16 p1 n l7 m z13 l14=some r∧tm=fr 58 [(0,.isl false (List.map cGDeriv p1)),(3,.isl false (List.map cGProp l7)),(5,.vl 2 t15 0 l14.length),(6,.int .i64 z13)]∧σ=⟨[(2,.vec (List.map cGProp l14).flatten 33 4 t15),(1,.row [] 33)],3⟩) (fun tm σ=>∃ l16:List GProp,∃ t17:Nat,q4s l16=some r∧tm=fr 58 [(5,.vl 2 t17 0 l16.length)]∧σ=⟨[(2,.vec (List.map cGProp l16).flatten 33 4 t17),(1,.row [] 33)],3⟩) n ⟨0,([]:List GProp),0,hF,rfl,rfl⟩ ?_ ?_
 rintro _ _ ⟨l16,t17,hF,rfl,rfl⟩
 unfold q4s at hF
 refine sr ?_
 refine sd ?_
 refine WPU.ret ?_
 refine st ?_
 have hr:=Option.some.inj hF
 subst hr
 exact ⟨.inr rfl,[.vl 2 t17 0 l16.length],q0l rfl (q0i),.isl false (List.map cGProp l16),⟨[],0⟩,Nat.le_refl _,Gh.trans (Gh.fz (tm':=[.isl false (List.map cGProp l16)]) (h':=[(1,.row [] 33)]) 2 (.vec (List.map cGProp l16).flatten 33 4 t17) 4 rfl (by simp) (by simp only [oneU,q0y,q0o,q1z,q11,q22,q15,q14,q13,q12,q10,q20,q21,q1y,q23,q3k,junkT,q8i q0b]) (by simp only [fzH,fzB,ug,Nat.beq,cond_true,cond_false,oneU,q0y,q0o,q1z,q11,q22,q15,q14,q13,q12,q10,q20,q21,q1y,q23,q3k,junkT,q8i q0b])) (Gh.toR (.isl false (List.map cGProp l16)) rfl),rfl,BU.h⟩
 rintro m2 _ _ ⟨z13,l14,t15,hF,rfl,rfl⟩
 rcases m2 with _ | m2
 cases hF
 unfold q16 at hF
 refine sr ?_
 repeat refine RS.mv rfl rfl rfl rfl ?_
 refine RS.q rfl (q0k rfl rfl rfl (q0g cGProp und57)) (RS.q rfl (q02 rfl rfl (q18 _ _ _) rfl) ?_)
 refine sd ?_
 refine WPU.condS (t:=(decide (z13<(l7.length:Int)))) rfl (fun h18=>?_) (fun h18=>?_)
 replace hF:=q05 h18 hF
 refine st ?_
 refine WPU.skip ?_
 refine st ?_
 refine WPU.block ?_
 refine sr ?_
 refine se ?_
 refine sd ?_
 refine WPU.ghost (tm':=fr 58 [(0,.isl false (List.map cGDeriv p1)),(3,.isl false (List.map cGProp l7)),(5,.vl 2 t15 0 l14.length),(6,.int .i64 z13),(7,.int .i64 0),(8,.int .i64 0)]) (Gh.sub ⟨rfl,rfl,rfl,rfl,rfl,rfl,trivial⟩) (Nat.zero_le _) ?_
 refine WPU.loopK (fun m tm σ=>∃ z26:Int,∃ z27:Int,q27 p1 n l7 z13 l14 (q16 p1 n l7 m2) m z26 z27=some r∧tm=fr 58 [(0,.isl false (List.map cGDeriv p1)),(3,.isl false (List.map cGProp l7)),(5,.vl 2 t15 0 l14.length),(6,.int .i64 z13),(7,.int .i64 z26),(8,.int .i64 z27)]∧σ=⟨[(2,.vec (List.map cGProp l14).flatten 33 4 t15),(1,.row [] 33)],3⟩) (fun tm σ=>∃ z28:Int,q41 p1 l7 z13 l14 (q16 p1 n l7 m2) z28=some r∧tm=fr 58 [(0,.isl false (List.map cGDeriv p1)),(3,.isl false (List.map cGProp l7)),(5,.vl 2 t15 0 l14.length),(6,.int .i64 z13),(7,.int .i64 z28)]∧σ=⟨[(2,.vec (List.map cGProp l14).flatten 33 4 t15),(1,.row [] 33)],3⟩) n ⟨0,0,hF,rfl,rfl⟩ ?_ ?_
 rintro _ _ ⟨z28,hF,rfl,rfl⟩
 unfold q41 at hF
 refine sr ?_
 repeat refine RS.mv rfl rfl rfl rfl ?_
 refine RS.q rfl (q0k rfl rfl rfl (q0g cGDeriv und22)) (RS.q rfl (q02 rfl rfl (q18 _ _ _) rfl) ?_)
 refine sd ?_
 refine WPU.joinK (fun tm σ=>∃ l30:List GProp,∃ t31:Nat,q3y z13 (q16 p1 n l7 m2) l30=some r∧tm=fr 58 [(0,.isl false (List.map cGDeriv p1)),(3,.isl false (List.map cGProp l7)),(5,.vl 2 t31 0 l30.length),(6,.int .i64 z13)]∧σ=⟨[(2,.vec (List.map cGProp l30).flatten 33 4 t31),(1,.row [] 33)],3⟩) ?_ ?_
 rintro _ _ ⟨l30,t31,hF,rfl,rfl⟩
 unfold q3y at hF
 refine sr ?_
 refine RS.q rfl (q02 rfl rfl (q1q _ _ _) rfl) ?_
 refine sd ?_
 exact ⟨m2,_,_,Nat.lt_succ_self _,⟨(IntKind.i64.wrap (z13+1)),l30,t31,hF,rfl,rfl⟩,(Nat.zero_le _),Gh.toC (n1:=3) ⟨rfl,rfl,rfl,rfl,trivial⟩ rfl (Nat.zero_le _) (by simp)⟩
 refine WPU.condS (t:=(decide (z28<(p1.length:Int)))) rfl (fun h29=>?_) (fun h29=>?_)
 replace hF:=q05 h29 hF
 refine st ?_
 obtain ⟨x32,h33,hF⟩:=q00 hF
 obtain ⟨h34,hF⟩:=q0n hF
 refine sr ?_
 repeat refine RS.mv rfl rfl rfl rfl ?_
 refine RS.q (u:=.iptr (cGProp x32)) rfl (q2a rfl rfl (q1f cGProp und57 (q01 inf33) q0b h33 rfl)) (RS.q (u:=.agg (cGProp x32)) rfl (q2e und33 rfl (q01 inf33) rfl rfl) (RS.q (u:=.sl 3 0 1 1) (σ':=⟨[(3,.row (cGProp x32) 33),(2,.vec (List.map cGProp l14).flatten 33 4 t15),(1,.row [] 33)],4⟩) rfl (q4g und57 inf33 rfl rfl rfl rfl rfl rfl rfl) (RS.q (u:=.vl 2 (t15+1) 0 ((l14++[x32]).length)) (σ':=⟨[(3,.row (cGProp x32) 33),(2,.vec (List.map cGProp (l14++[x32])).flatten 33 4 (t15+1)),(1,.row [] 33)],4⟩) rfl (q7i rfl rfl rfl rfl (q8m cGProp ([x32]) und57 und57 inf33 rfl q0b rfl (q72 cGProp [x32] rfl rfl rfl rfl) h34)) ?_)))
 refine sd ?_
 exact ⟨_,_,⟨(l14++[x32]),(t15+1),hF,rfl,rfl⟩,(Nat.zero_le _),Gh.toC (n1:=3) ⟨rfl,rfl,rfl,rfl,trivial⟩ rfl (Nat.zero_le _) (by simp)⟩
 replace hF:=q04 h29 hF
 refine st ?_
 refine WPU.skip ?_
 refine st ?_
 exact ⟨_,_,⟨l14,t15,hF,rfl,rfl⟩,(Nat.zero_le _),Gh.toC (n1:=3) ⟨rfl,rfl,rfl,rfl,trivial⟩ rfl (Nat.zero_le _) (by simp)⟩
 rintro m3 _ _ ⟨z26,z27,hF,rfl,rfl⟩
 rcases m3 with _ | m3
 cases hF
 unfold q27 at hF
 refine sr ?_
 repeat refine RS.mv rfl rfl rfl rfl ?_
 refine RS.q rfl (q0k rfl rfl rfl (q0g cGDeriv und22)) (RS.q rfl (q02 rfl rfl (q18 _ _ _) rfl) ?_)
 refine sd ?_
 refine WPU.condS (t:=(decide (z27<(p1.length:Int)))) rfl (fun h35=>?_) (fun h35=>?_)
 replace hF:=q05 h35 hF
 refine st ?_
 refine WPU.skip ?_
 refine st ?_
 refine WPU.block ?_
 refine st ?_
 obtain ⟨x36,h37,hF⟩:=q00 hF
 obtain ⟨x38,h39,hF⟩:=q00 hF
 obtain ⟨r40,h41,hF⟩:=q00 hF
 refine WPU.drawE Tryz.tb_ok [] (by kernel_rfl) ?_
 repeat refine RD.mv rfl rfl rfl rfl ?_
 refine RD.q (u:=.iptr (xGDeriv x36)) rfl (q2a rfl rfl (q1f cGDeriv und22 (q01 inf43) q0e h37 (q0m x36))) (RD.q (u:=.agg (xGDeriv x36)) rfl (q2e und43 rfl (q01 inf43) rfl rfl) ?_)
 repeat refine RD.mv rfl rfl rfl rfl ?_
 refine RD.q (u:=.iptr (cGProp x38)) rfl (q2a rfl rfl (q1f cGProp und57 (q01 inf33) q0b h39 rfl)) (RD.q (u:=.agg (cGProp x38)) rfl (q2e und33 rfl (q01 inf33) rfl rfl) (RD.free (u:=.bool r40) (args:=[.agg (xGDeriv x36),.agg (cGProp x38)]) rfl (q03 rfl rfl fn64 hb64 rfl rfl) (fun s=>qb4 n x36 x38 r40 h41 s) rfl rfl ?_))
 refine RD.done ⟨by kernel_rfl,trivial,?_⟩
 refine st ?_
 refine WPU.joinK (fun tm σ=>∃ z43:Int,q3z z27 (q27 p1 n l7 z13 l14 (q16 p1 n l7 m2) m3) z43=some r∧tm=fr 58 [(0,.isl false (List.map cGDeriv p1)),(3,.isl false (List.map cGProp l7)),(5,.vl 2 t15 0 l14.length),(6,.int .i64 z13),(7,.int .i64 z43),(8,.int .i64 z27)]∧σ=⟨[(2,.vec (List.map cGProp l14).flatten 33 4 t15),(1,.row [] 33)],3⟩) ?_ ?_
 rintro _ _ ⟨z43,hF,rfl,rfl⟩
 unfold q3z at hF
 refine sr ?_
 refine RS.q rfl (q02 rfl rfl (q1q _ _ _) rfl) ?_
 refine sd ?_
 exact ⟨m3,_,_,Nat.lt_succ_self _,⟨z43,(IntKind.i64.wrap (z27+1)),hF,rfl,rfl⟩,(Nat.zero_le _),Gh.toC (n1:=3) ⟨rfl,rfl,rfl,rfl,rfl,rfl,trivial⟩ rfl (Nat.zero_le _) (by simp)⟩
 refine WPU.condS (t:=r40) rfl (fun h42=>?_) (fun h42=>?_)
 replace hF:=q05 h42 hF
 refine sr ?_
 refine RS.q rfl (q02 rfl rfl (q1q _ _ _) rfl) ?_
 refine sd ?_
 exact ⟨_,_,⟨(IntKind.i64.wrap (z26+1)),hF,rfl,rfl⟩,(Nat.zero_le _),Gh.toC (n1:=3) ⟨rfl,rfl,rfl,rfl,rfl,rfl,trivial⟩ rfl (Nat.zero_le _) (by simp)⟩
 replace hF:=q04 h42 hF
 refine st ?_
 refine WPU.skip ?_
 refine st ?_
 exact ⟨_,_,⟨z26,hF,rfl,rfl⟩,(Nat.zero_le _),Gh.toC (n1:=3) ⟨rfl,rfl,rfl,rfl,rfl,rfl,trivial⟩ rfl (Nat.zero_le _) (by simp)⟩
 replace hF:=q04 h35 hF
 refine st ?_
 refine WPU.exit ?_
 refine st ?_
 exact ⟨_,_,⟨z26,hF,rfl,rfl⟩,(Nat.zero_le _),Gh.toC (n1:=3) ⟨rfl,rfl,rfl,rfl,rfl,trivial⟩ rfl (Nat.zero_le _) (by simp)⟩
 replace hF:=q04 h18 hF
 refine st ?_
 refine WPU.exit ?_
 refine st ?_
 exact ⟨_,_,⟨l14,t15,hF,rfl,rfl⟩,(Nat.zero_le _),Gh.toC (n1:=3) ⟨rfl,trivial⟩ rfl (Nat.zero_le _) (by simp)⟩
 rintro m1 _ _ ⟨l5,z6,hF,rfl,rfl⟩
 rcases m1 with _ | m1
 cases hF
 unfold q33 at hF
 refine sr ?_
 repeat refine RS.mv rfl rfl rfl rfl ?_
 refine RS.q rfl (q0k rfl rfl rfl (q0g cGDeriv und22)) (RS.q rfl (q02 rfl rfl (q18 _ _ _) rfl) ?_)
 refine sd ?_
 refine WPU.condS (t:=(decide (z6<(p1.length:Int)))) rfl (fun h44=>?_) (fun h44=>?_)
 replace hF:=q05 h44 hF
 refine st ?_
 refine WPU.skip ?_
 refine st ?_
 refine WPU.block ?_
 refine st ?_
 obtain ⟨x45,h46,hF⟩:=q00 hF
 obtain ⟨r47,h48,hF⟩:=q00 hF
 refine sr ?_
 repeat refine RS.mv rfl rfl rfl rfl ?_
 refine RS.q (u:=.iptr (xGDeriv x45)) rfl (q2a rfl rfl (q1f cGDeriv und22 (q01 inf43) q0e h46 (q0m x45))) (RS.q (u:=.agg (xGDeriv x45)) rfl (q2e und43 rfl (q01 inf43) rfl rfl) (RS.call (u:=.isl false (List.map cGProp r47)) (args:=[.isl false (List.map cGProp l5),.agg (xGDeriv x45)]) rfl (q03 rfl rfl fn63 hb63 rfl rfl) (qfu n l5 x45 r47 h48 _) rfl rfl ?_))
 refine se ?_
 refine RS.q rfl (q02 rfl rfl (q1q _ _ _) rfl) ?_
 refine sd ?_
 exact ⟨m1,_,_,Nat.lt_succ_self _,⟨r47,(IntKind.i64.wrap (z6+1)),hF,rfl,rfl⟩,(Nat.zero_le _),Gh.toC (n1:=1) ⟨rfl,rfl,rfl,trivial⟩ rfl (Nat.zero_le _) (by simp)⟩
 replace hF:=q04 h44 hF
 refine st ?_
 refine WPU.exit ?_
 refine st ?_
 exact ⟨_,_,⟨l5,hF,rfl,rfl⟩,(Nat.zero_le _),Gh.toC (n1:=1) ⟨rfl,rfl,trivial⟩ rfl (Nat.zero_le _) (by simp)⟩
theorem q6f (n:Nat) (p1:List GDeriv) (r:(List GProp)) (hF:q2w n p1=some r) (σ:Sg):EvU Tryz.prog 29 [.isl false (List.map cGDeriv p1)] σ (fun u σ'=>u = .isl false (List.map cGProp r)∧σ'=σ) :=
 EvU.pure1C (qcd n p1 r hF) σ
def q54 (z8:Int) (rc1:Int→(List Int)→Option ((List Int))) (l25:List Int):Option ((List Int)) :=
 rc1 (IntKind.i64.wrap (z8+1)) l25
def q55 (z8:Int) (l9:List Int) (rc1:Int→(List Int)→Option ((List Int))) (b23:Bool):Option ((List Int)) :=
 cond b23
  (needO ((l9.length+1)*8≤140737488355328∧l9.length+1≤140737488355328) (
  q54 z8 rc1 (l9++[z8])))
  (q54 z8 rc1 l9)
def q4h (p1:List GDeriv) (p2:List GDecision) (n:Nat) (z8:Int) (l9:List Int) (rc1:Int→(List Int)→Option ((List Int))):Nat→Bool→Int→Option ((List Int))
 | 0,_,_=>none
 | m2+1,b21,z22 =>
  cond (decide (z22<(p2.length:Int)))
   (bindO (cond b21
    (bindO (idxO p1 z8) fun x30 =>
    bindO (idxO p2 z22) fun x32 =>
    bindO (q5v n x30 x32.Propx) fun r34 =>
    bindO (idxO p2 z22) fun x36 =>
    some (r34 == x36.Yes))
    (some false)) fun b38 =>
   (q4h p1 p2 n z8 l9 rc1 m2) b38 (IntKind.i64.wrap (z22+1)))
   (q55 z8 l9 rc1 b21)
def q6j  (l11:List Int):Option ((List Int)) :=
 some l11
def q2b (p1:List GDeriv) (p2:List GDecision) (n:Nat):Nat→Int→(List Int)→Option ((List Int))
 | 0,_,_=>none
 | m1+1,z8,l9 =>
  cond (decide (z8<(p1.length:Int)))
   (q4h p1 p2 n z8 l9 (q2b p1 p2 n m1) n true 0)
   (q6j l9)
def q3n (n:Nat) (p1:List GDeriv) (p2:List GDecision):Option ((List Int)) :=
 q2b p1 p2 n n 0 ([]:List Int)
theorem qff (n:Nat) (p1:List GDeriv) (p2:List GDecision) (r:(List Int)) (hF:q3n n p1 p2=some r):EvU Tryz.prog 30 [.isl false (List.map cGDeriv p1),.isl false (List.map cGDecision p2)] ⟨[],0⟩ (fun u _=>u = .isl false (List.map (cI .i64) r)∧Bel 0 u):=by
 unfold q3n at hF
 refine EvU.of_body Tryz.tb_ok fn30 rfl ?_
 refine WPU.ghost (tm':=fr 47 [(0,.isl false (List.map cGDeriv p1)),(1,.isl false (List.map cGDecision p2))]) (Gh.start (Nat.le_of_ble_eq_true rfl)) (Nat.zero_le _) ?_
 refine sr ?_
 refine se ?_
 refine RS.q (u:=.sl 0 0 0 0) (σ':=⟨[(0,.row [] 3)],1⟩) rfl (q4g und55 inf3 rfl rfl rfl rfl rfl rfl rfl) ?_
 refine se ?_
 refine sd ?_
 refine WPU.ghost (tm':=fr 47 [(0,.isl false (List.map cGDeriv p1)),(1,.isl false (List.map cGDecision p2)),(5,.vl 1 0 0 (([]:List Int).length)),(6,.int .i64 0)]) (σ':=⟨[(1,.vec (List.map (cI .i64) ([]:List Int)).flatten 3 1 0),(0,.row [] 3)],2⟩) (Gh.trans (Gh.empS 5 3 1 (by decide) (Nat.zero_le _) rfl rfl rfl) (Gh.eqS ⟨rfl,rfl,rfl,rfl,trivial⟩ rfl)) (Nat.zero_le _) ?_
 refine WPU.ghost (tm':=fr 47 [(0,.isl false (List.map cGDeriv p1)),(1,.isl false (List.map cGDecision p2)),(5,.vl 1 0 0 (([]:List Int).length)),(6,.int .i64 0)]) (Gh.sub ⟨rfl,rfl,rfl,rfl,trivial⟩) (Nat.zero_le _) ?_
 refine WPU.loopK (fun m tm σ=>∃ z8:Int,∃ l9:List Int,∃ t10:Nat,q2b p1 p2 n m z8 l9=some r∧tm=fr 47 [(0,.isl false (List.map cGDeriv p1)),(1,.isl false (List.map cGDecision p2)),(5,.vl 1 t10 0 l9.length),(6,.int .i64 z8)]∧σ=⟨[(1,.vec (List.map (cI .i64) l9).flatten 3 1 t10),(0,.row [] 3)],2⟩) (fun tm σ=>∃ l11:List Int,∃ t12:Nat,q6j l11=some r∧tm=fr 47 [(5,.vl 1 t12 0 l11.length)]∧σ=⟨[(1,.vec (List.map (cI .i64) l11).flatten 3 1 t12),(0,.row [] 3)],2⟩) n ⟨0,([]:List Int),0,hF,rfl,rfl⟩ ?_ ?_
 rintro _ _ ⟨l11,t12,hF,rfl,rfl⟩
 unfold q6j at hF
 refine sr ?_
 refine sd ?_
 refine WPU.ret ?_
 refine st ?_
 have hr:=Option.some.inj hF
 subst hr
 exact ⟨.inr rfl,[.vl 1 t12 0 l11.length],q0l rfl (q0i),.isl false (List.map (cI .i64) l11),⟨[],0⟩,Nat.le_refl _,Gh.trans (Gh.fz (tm':=[.isl false (List.map (cI .i64) l11)]) (h':=[(0,.row [] 3)]) 1 (.vec (List.map (cI .i64) l11).flatten 3 1 t12) 1 rfl (by simp) (by simp only [oneU,q0y,q0o,q1z,q11,q22,q15,q14,q13,q12,q10,q20,q21,q1y,q23,q3k,junkT,q8i (qec .i64)]) (by simp only [fzH,fzB,ug,Nat.beq,cond_true,cond_false,oneU,q0y,q0o,q1z,q11,q22,q15,q14,q13,q12,q10,q20,q21,q1y,q23,q3k,junkT,q8i (qec .i64)])) (Gh.toR (.isl false (List.map (cI .i64) l11)) rfl),rfl,BU.h⟩
 rintro m1 _ _ ⟨z8,l9,t10,hF,rfl,rfl⟩
 rcases m1 with _ | m1
 cases hF
 unfold q2b at hF
 refine sr ?_
 repeat refine RS.mv rfl rfl rfl rfl ?_
 refine RS.q rfl (q0k rfl rfl rfl (q0g cGDeriv und22)) (RS.q rfl (q02 rfl rfl (q18 _ _ _) rfl) ?_)
 refine sd ?_
 refine WPU.condS (t:=(decide (z8<(p1.length:Int)))) rfl (fun h13=>?_) (fun h13=>?_)
 replace hF:=q05 h13 hF
 refine st ?_
 refine WPU.skip ?_
 refine st ?_
 refine WPU.block ?_
 refine sr ?_
 refine se ?_
 refine sd ?_
 refine WPU.ghost (tm':=fr 47 [(0,.isl false (List.map cGDeriv p1)),(1,.isl false (List.map cGDecision p2)),(5,.vl 1 t10 0 l9.length),(6,.int .i64 z8),(7,.bool true),(8,.int .i64 0)]) (Gh.sub ⟨rfl,rfl,rfl,rfl,rfl,rfl,trivial⟩) (Nat.zero_le _) ?_
 refine WPU.loopK (fun m tm σ=>∃ b21:Bool,∃ z22:Int,q4h p1 p2 n z8 l9 (q2b p1 p2 n m1) m b21 z22=some r∧tm=fr 47 [(0,.isl false (List.map cGDeriv p1)),(1,.isl false (List.map cGDecision p2)),(5,.vl 1 t10 0 l9.length),(6,.int .i64 z8),(7,.bool b21),(8,.int .i64 z22)]∧σ=⟨[(1,.vec (List.map (cI .i64) l9).flatten 3 1 t10),(0,.row [] 3)],2⟩) (fun tm σ=>∃ b23:Bool,q55 z8 l9 (q2b p1 p2 n m1) b23=some r∧tm=fr 47 [(0,.isl false (List.map cGDeriv p1)),(1,.isl false (List.map cGDecision p2)),(5,.vl 1 t10 0 l9.length),(6,.int .i64 z8),(7,.bool b23)]∧σ=⟨[(1,.vec (List.map (cI .i64) l9).flatten 3 1 t10),(0,.row [] 3)],2⟩) n ⟨true,0,hF,rfl,rfl⟩ ?_ ?_
 rintro _ _ ⟨b23,hF,rfl,rfl⟩
 unfold q55 at hF
 refine sr ?_
 refine sd ?_
 refine WPU.joinK (fun tm σ=>∃ l25:List Int,∃ t26:Nat,q54 z8 (q2b p1 p2 n m1) l25=some r∧tm=fr 47 [(0,.isl false (List.map cGDeriv p1)),(1,.isl false (List.map cGDecision p2)),(5,.vl 1 t26 0 l25.length),(6,.int .i64 z8)]∧σ=⟨[(1,.vec (List.map (cI .i64) l25).flatten 3 1 t26),(0,.row [] 3)],2⟩) ?_ ?_
 rintro _ _ ⟨l25,t26,hF,rfl,rfl⟩
 unfold q54 at hF
 refine sr ?_
 refine RS.q rfl (q02 rfl rfl (q1q _ _ _) rfl) ?_
 refine sd ?_
 exact ⟨m1,_,_,Nat.lt_succ_self _,⟨(IntKind.i64.wrap (z8+1)),l25,t26,hF,rfl,rfl⟩,(Nat.zero_le _),Gh.toC (n1:=2) ⟨rfl,rfl,rfl,rfl,trivial⟩ rfl (Nat.zero_le _) (by simp)⟩
 refine WPU.condS (t:=b23) rfl (fun h24=>?_) (fun h24=>?_)
 replace hF:=q05 h24 hF
 refine st ?_
 obtain ⟨h27,hF⟩:=q0n hF
 refine sr ?_
 repeat refine RS.mv rfl rfl rfl rfl ?_
 refine RS.q (u:=.sl 2 0 1 1) (σ':=⟨[(2,.row [.int .i64 z8] 3),(1,.vec (List.map (cI .i64) l9).flatten 3 1 t10),(0,.row [] 3)],3⟩) rfl (q4g und55 inf3 rfl rfl rfl rfl rfl rfl rfl) (RS.q (u:=.vl 1 (t10+1) 0 ((l9++[z8]).length)) (σ':=⟨[(2,.row [.int .i64 z8] 3),(1,.vec (List.map (cI .i64) (l9++[z8])).flatten 3 1 (t10+1)),(0,.row [] 3)],3⟩) rfl (q7i rfl rfl rfl rfl (q8m (cI .i64) ([z8]) und55 und55 inf3 rfl (qec .i64) rfl (q72 (cI .i64) [z8] rfl rfl rfl rfl) h27)) ?_)
 refine sd ?_
 exact ⟨_,_,⟨(l9++[z8]),(t10+1),hF,rfl,rfl⟩,(Nat.zero_le _),Gh.toC (n1:=2) ⟨rfl,rfl,rfl,rfl,trivial⟩ rfl (Nat.zero_le _) (by simp)⟩
 replace hF:=q04 h24 hF
 refine st ?_
 refine WPU.skip ?_
 refine st ?_
 exact ⟨_,_,⟨l9,t10,hF,rfl,rfl⟩,(Nat.zero_le _),Gh.toC (n1:=2) ⟨rfl,rfl,rfl,rfl,trivial⟩ rfl (Nat.zero_le _) (by simp)⟩
 rintro m2 _ _ ⟨b21,z22,hF,rfl,rfl⟩
 rcases m2 with _ | m2
 cases hF
 unfold q4h at hF
 refine sr ?_
 repeat refine RS.mv rfl rfl rfl rfl ?_
 refine RS.q rfl (q0k rfl rfl rfl (q0g cGDecision und26)) (RS.q rfl (q02 rfl rfl (q18 _ _ _) rfl) ?_)
 refine sd ?_
 refine WPU.condS (t:=(decide (z22<(p2.length:Int)))) rfl (fun h28=>?_) (fun h28=>?_)
 replace hF:=q05 h28 hF
 refine st ?_
 refine WPU.skip ?_
 refine st ?_
 refine WPU.block ?_
 refine st ?_
 obtain ⟨b38,h39,hF⟩:=q00 hF
 refine WPU.joinK (fun tm σ=>tm=fr 47 [(0,.isl false (List.map cGDeriv p1)),(1,.isl false (List.map cGDecision p2)),(5,.vl 1 t10 0 l9.length),(6,.int .i64 z8),(7,.bool b38),(8,.int .i64 z22)]∧σ=⟨[(1,.vec (List.map (cI .i64) l9).flatten 3 1 t10),(0,.row [] 3)],2⟩) ?_ ?_
 rintro _ _ ⟨rfl,rfl⟩
 refine sr ?_
 refine RS.q rfl (q02 rfl rfl (q1q _ _ _) rfl) ?_
 refine sd ?_
 exact ⟨m2,_,_,Nat.lt_succ_self _,⟨b38,(IntKind.i64.wrap (z22+1)),hF,rfl,rfl⟩,(Nat.zero_le _),Gh.toC (n1:=2) ⟨rfl,rfl,rfl,rfl,rfl,rfl,trivial⟩ rfl (Nat.zero_le _) (by simp)⟩
 rcases q2r b21 with h29 | h29
 replace h39:=q05 h29 h39
 obtain ⟨x30,h31,h39⟩:=q00 h39
 obtain ⟨x32,h33,h39⟩:=q00 h39
 obtain ⟨r34,h35,h39⟩:=q00 h39
 obtain ⟨x36,h37,h39⟩:=q00 h39
 replace h39:=Option.some.inj h39
 subst h39
 refine WPU.drawE Tryz.tb_ok [] (by kernel_rfl) ?_
 repeat refine RD.mv rfl rfl rfl rfl ?_
 refine RD.look (want1 rfl rfl rfl h29) (q0h rfl) rfl rfl (RD.look (want1 rfl rfl rfl h29) (q0h rfl) rfl rfl (RD.look (u:=.iptr (xGDeriv x30)) (want1 rfl rfl rfl h29) (q2a rfl rfl (q1f cGDeriv und22 (q01 inf43) q0e h31 (q0m x30))) rfl rfl (RD.look (u:=.agg (xGDeriv x30)) (want1 rfl rfl rfl h29) (q2e und43 rfl (q01 inf43) rfl rfl) rfl rfl (RD.look (want1 rfl rfl rfl h29) (q0h rfl) rfl rfl (RD.look (want1 rfl rfl rfl h29) (q0h rfl) rfl rfl (RD.look (u:=.iptr (cGDecision x32)) (want1 rfl rfl rfl h29) (q2a rfl rfl (q1f cGDecision und26 (q01 inf62) q0f h33 rfl)) rfl rfl (RD.look (u:=.iptr (cGDecision x32)) (want1 rfl rfl rfl h29) (op_fi und62 rfl (q01 inf33) rfl rfl) rfl rfl ?_)))))))
 refine RD.look (u:=.agg (cGProp x32.Propx)) (want1 rfl rfl rfl h29) (q2e und33 rfl (q01 inf33) rfl rfl) rfl rfl (RD.free (u:=.bool r34) (args:=[.agg (xGDeriv x30),.agg (cGProp x32.Propx)]) (want1 rfl rfl rfl h29) (q03 rfl rfl fn64 hb64 rfl rfl) (fun s=>qb4 n x30 x32.Propx r34 h35 s) rfl rfl (RD.look (want1 rfl rfl rfl h29) (q0h rfl) rfl rfl (RD.look (want1 rfl rfl rfl h29) (q0h rfl) rfl rfl (RD.look (u:=.iptr (cGDecision x36)) (want1 rfl rfl rfl h29) (q2a rfl rfl (q1f cGDecision und26 (q01 inf62) q0f h37 rfl)) rfl rfl (RD.look (u:=.iptr [.bool x36.Yes]) (want1 rfl rfl rfl h29) (op_fi und62 rfl (q01 inf4) rfl rfl) rfl rfl (RD.look (u:=.bool x36.Yes) (want1 rfl rfl rfl h29) (q90 und4 rfl rfl rfl) rfl rfl ?_))))))
 refine RD.look (u:=.bool (r34 == x36.Yes)) (want1 rfl rfl rfl h29) (q7j rfl rfl (by simp only [g2,toV,binX,guardX,eqv,cond_true,ofV,und4])) rfl rfl ?_
 refine RD.q (u:=.bool (r34 == x36.Yes)) rfl (q06 rfl h29 rfl) (RD.as rfl rfl rfl rfl ?_)
 refine RD.done ⟨by kernel_rfl,trivial,?_⟩
 refine st ?_
 exact ⟨_,_,⟨rfl,rfl⟩,(Nat.zero_le _),Gh.toC (n1:=2) ⟨rfl,rfl,rfl,rfl,rfl,rfl,trivial⟩ rfl (Nat.zero_le _) (by simp)⟩
 replace h39:=q04 h29 h39
 replace h39:=Option.some.inj h39
 subst h39
 refine WPU.drawE Tryz.tb_ok [] (by kernel_rfl) ?_
 repeat refine RD.mv rfl rfl rfl rfl ?_
 repeat refine RD.no (want0 rfl rfl rfl h29) rfl rfl ?_
 refine RD.q (u:=.bool false) rfl (q07 rfl h29 rfl) (RD.as rfl rfl rfl rfl ?_)
 refine RD.done ⟨by kernel_rfl,trivial,?_⟩
 refine st ?_
 exact ⟨_,_,⟨rfl,rfl⟩,(Nat.zero_le _),Gh.toC (n1:=2) ⟨rfl,rfl,rfl,rfl,rfl,rfl,trivial⟩ rfl (Nat.zero_le _) (by simp)⟩
 replace hF:=q04 h28 hF
 refine st ?_
 refine WPU.exit ?_
 refine st ?_
 exact ⟨_,_,⟨b21,hF,rfl,rfl⟩,(Nat.zero_le _),Gh.toC (n1:=2) ⟨rfl,rfl,rfl,rfl,rfl,trivial⟩ rfl (Nat.zero_le _) (by simp)⟩
 replace hF:=q04 h13 hF
 refine st ?_
 refine WPU.exit ?_
 refine st ?_
 exact ⟨_,_,⟨l9,t10,hF,rfl,rfl⟩,(Nat.zero_le _),Gh.toC (n1:=2) ⟨rfl,trivial⟩ rfl (Nat.zero_le _) (by simp)⟩
theorem q6k (n:Nat) (p1:List GDeriv) (p2:List GDecision) (r:(List Int)) (hF:q3n n p1 p2=some r) (σ:Sg):EvU Tryz.prog 30 [.isl false (List.map cGDeriv p1),.isl false (List.map cGDecision p2)] σ (fun u σ'=>u = .isl false (List.map (cI .i64) r)∧σ'=σ) :=
 EvU.pure1C (qff n p1 p2 r hF) σ
def q7z   : Option (Bool) :=
 some false
def q4y (p1:List GDecision) (p2:GProp):Nat→Int→Option (Bool)
 | 0,_=>none
 | m1+1,z9 =>
  cond (decide (z9<(p1.length:Int)))
   (bindO (idxO p1 z9) fun x11 =>
   cond (eqGProp x11.Propx p2)
    (some true)
    ((q4y p1 p2 m1) (IntKind.i64.wrap (z9+1))))
   (q7z)
def q4k (n:Nat) (p1:List GDecision) (p2:GProp):Option (Bool) :=
 q4y p1 p2 n 0
theorem qhw (n:Nat) (p1:List GDecision) (p2:GProp) (r:Bool) (hF:q4k n p1 p2=some r):EvU Tryz.prog 32 [.isl false (List.map cGDecision p1),.agg (cGProp p2)] ⟨[],0⟩ (fun u _=>u = .bool r∧Bel 0 u):=by
 unfold q4k at hF
 refine EvU.of_body Tryz.tb_ok fn32 rfl ?_
 refine WPU.ghost (tm':=fr 19 [(0,.isl false (List.map cGDecision p1)),(1,.agg (cGProp p2))]) (Gh.start (Nat.le_of_ble_eq_true rfl)) (Nat.zero_le _) ?_
 refine sr ?_
 refine RS.q (u:=.ptr 0 0 0) (σ':=⟨[(0,.row (cGProp p2) 33)],1⟩) rfl (q2j rfl rfl rfl) ?_
 refine se ?_
 refine sd ?_
 refine WPU.ghost (tm':=fr 19 [(0,.isl false (List.map cGDecision p1)),(3,.ptr 0 0 0),(5,.int .i64 0)]) (Gh.sub ⟨rfl,rfl,rfl,trivial⟩) (Nat.zero_le _) ?_
 refine WPU.loopK (fun m tm σ=>∃ z9:Int,q4y p1 p2 m z9=some r∧tm=fr 19 [(0,.isl false (List.map cGDecision p1)),(3,.ptr 0 0 0),(5,.int .i64 z9)]∧σ=⟨[(0,.row (cGProp p2) 33)],1⟩) (fun tm σ=>q7z=some r∧tm=fr 19 []∧σ=⟨[(0,.row (cGProp p2) 33)],1⟩) n ⟨0,hF,rfl,rfl⟩ ?_ ?_
 rintro _ _ ⟨hF,rfl,rfl⟩
 unfold q7z at hF
 refine sr ?_
 refine sd ?_
 refine WPU.ret ?_
 refine st ?_
 have hr:=Option.some.inj hF
 subst hr
 exact ⟨.inr rfl,[.bool false],q0l rfl (q0i),.bool false,⟨[],0⟩,Nat.le_refl _,Gh.toR (.bool false) rfl,rfl,BU.h⟩
 rintro m1 _ _ ⟨z9,hF,rfl,rfl⟩
 rcases m1 with _ | m1
 cases hF
 unfold q4y at hF
 refine sr ?_
 repeat refine RS.mv rfl rfl rfl rfl ?_
 refine RS.q rfl (q0k rfl rfl rfl (q0g cGDecision und26)) (RS.q rfl (q02 rfl rfl (q18 _ _ _) rfl) ?_)
 refine sd ?_
 refine WPU.condS (t:=(decide (z9<(p1.length:Int)))) rfl (fun h10=>?_) (fun h10=>?_)
 replace hF:=q05 h10 hF
 refine st ?_
 refine WPU.skip ?_
 refine st ?_
 refine WPU.block ?_
 refine st ?_
 obtain ⟨x11,h12,hF⟩:=q00 hF
 refine WPU.drawE Tryz.tb_ok [] (by kernel_rfl) ?_
 repeat refine RD.mv rfl rfl rfl rfl ?_
 refine RD.q (u:=.iptr (cGDecision x11)) rfl (q2a rfl rfl (q1f cGDecision und26 (q01 inf62) q0f h12 rfl)) (RD.q (u:=.iptr (cGDecision x11)) rfl (op_fi und62 rfl (q01 inf33) rfl rfl) (RD.q (u:=.agg (cGProp x11.Propx)) rfl (q2e und33 rfl (q01 inf33) rfl rfl) (RD.q (u:=.agg (cGProp p2)) rfl (q0a und33 rfl (q01 inf33) rfl rfl rfl) (RD.q (u:=.bool (eqGProp x11.Propx p2)) rfl (q7j rfl rfl (q5k x11.Propx p2)) ?_))))
 refine RD.done ⟨by kernel_rfl,trivial,?_⟩
 refine st ?_
 refine WPU.condS (t:=(eqGProp x11.Propx p2)) rfl (fun h13=>?_) (fun h13=>?_)
 replace hF:=q05 h13 hF
 refine sr ?_
 refine sd ?_
 refine WPU.ret ?_
 refine st ?_
 have hr:=Option.some.inj hF
 subst hr
 exact ⟨.inr rfl,[.bool true],q0l rfl (q0i),.bool true,⟨[],0⟩,Nat.le_refl _,Gh.toR (.bool true) rfl,rfl,BU.h⟩
 replace hF:=q04 h13 hF
 refine st ?_
 refine WPU.skip ?_
 refine sr ?_
 refine RS.q rfl (q02 rfl rfl (q1q _ _ _) rfl) ?_
 refine sd ?_
 exact ⟨m1,_,_,Nat.lt_succ_self _,⟨(IntKind.i64.wrap (z9+1)),hF,rfl,rfl⟩,(Nat.zero_le _),Gh.toC (n1:=1) ⟨rfl,rfl,rfl,trivial⟩ rfl (Nat.zero_le _) (by simp)⟩
 replace hF:=q04 h10 hF
 refine st ?_
 refine WPU.exit ?_
 refine st ?_
 exact ⟨_,_,⟨hF,rfl,rfl⟩,(Nat.zero_le _),Gh.toC (n1:=1) trivial rfl (Nat.zero_le _) (by simp)⟩
theorem q4i (n:Nat) (p1:List GDecision) (p2:GProp) (r:Bool) (hF:q4k n p1 p2=some r) (σ:Sg):EvU Tryz.prog 32 [.isl false (List.map cGDecision p1),.agg (cGProp p2)] σ (fun u σ'=>u = .bool r∧σ'=σ) :=
 EvU.pure1C (qhw n p1 p2 r hF) σ
def q8t (z13:Int) (rc1:Int→Int→Option (Int)) (z23:Int):Option (Int) :=
 rc1 z23 (IntKind.i64.wrap (z13+1))
def qa4  (z14:Int):Option (Int) :=
 some z14
def q56 (p1:List GDeriv) (p2:List Int) (p3:GProp) (n:Nat):Nat→Int→Int→Option (Int)
 | 0,_,_=>none
 | m1+1,z12,z13 =>
  cond (decide (z13<(p2.length:Int)))
   (bindO (idxO p2 z13) fun x16 =>
   bindO (idxO p1 x16) fun x18 =>
   bindO (q5v n x18 p3) fun r20 =>
   cond r20
    (q8t z13 (q56 p1 p2 p3 n m1) (IntKind.i64.wrap (z12+1)))
    (q8t z13 (q56 p1 p2 p3 n m1) z12))
   (qa4 z12)
def q9c (n:Nat) (p1:List GDeriv) (p2:List Int) (p3:GProp):Option (Int) :=
 q56 p1 p2 p3 n n 0 0
theorem ref45_With_0 (n:Nat) (p1:List GDeriv) (p2:List Int) (p3:GProp) (r:Int) (hF:q9c n p1 p2 p3=some r):EvU Tryz.prog 33 [.isl false (List.map cGDeriv p1),.isl false (List.map (cI .i64) p2),.agg (cGProp p3)] ⟨[],0⟩ (fun u _=>u = .int .i64 r∧Bel 0 u):=by
 unfold q9c at hF
 refine EvU.of_body Tryz.tb_ok fn33 rfl ?_
 refine WPU.ghost (tm':=fr 27 [(0,.isl false (List.map cGDeriv p1)),(1,.isl false (List.map (cI .i64) p2)),(2,.agg (cGProp p3))]) (Gh.start (Nat.le_of_ble_eq_true rfl)) (Nat.zero_le _) ?_
 refine sr ?_
 refine RS.q (u:=.ptr 0 0 0) (σ':=⟨[(0,.row (cGProp p3) 33)],1⟩) rfl (q2j rfl rfl rfl) ?_
 refine se ?_
 refine se ?_
 refine sd ?_
 refine WPU.ghost (tm':=fr 27 [(0,.isl false (List.map cGDeriv p1)),(1,.isl false (List.map (cI .i64) p2)),(5,.ptr 0 0 0),(7,.int .i64 0),(8,.int .i64 0)]) (Gh.sub ⟨rfl,rfl,rfl,rfl,rfl,trivial⟩) (Nat.zero_le _) ?_
 refine WPU.loopK (fun m tm σ=>∃ z12:Int,∃ z13:Int,q56 p1 p2 p3 n m z12 z13=some r∧tm=fr 27 [(0,.isl false (List.map cGDeriv p1)),(1,.isl false (List.map (cI .i64) p2)),(5,.ptr 0 0 0),(7,.int .i64 z12),(8,.int .i64 z13)]∧σ=⟨[(0,.row (cGProp p3) 33)],1⟩) (fun tm σ=>∃ z14:Int,qa4 z14=some r∧tm=fr 27 [(7,.int .i64 z14)]∧σ=⟨[(0,.row (cGProp p3) 33)],1⟩) n ⟨0,0,hF,rfl,rfl⟩ ?_ ?_
 rintro _ _ ⟨z14,hF,rfl,rfl⟩
 unfold qa4 at hF
 refine sr ?_
 refine sd ?_
 refine WPU.ret ?_
 refine st ?_
 have hr:=Option.some.inj hF
 subst hr
 exact ⟨.inr rfl,[.int .i64 z14],q0l rfl (q0i),.int .i64 z14,⟨[],0⟩,Nat.le_refl _,Gh.toR (.int .i64 z14) rfl,rfl,BU.h⟩
 rintro m1 _ _ ⟨z12,z13,hF,rfl,rfl⟩
 rcases m1 with _ | m1
 cases hF
 unfold q56 at hF
 refine sr ?_
 repeat refine RS.mv rfl rfl rfl rfl ?_
 refine RS.q rfl (q0k rfl rfl rfl (q0g (cI .i64) und55)) (RS.q rfl (q02 rfl rfl (q18 _ _ _) rfl) ?_)
 refine sd ?_
 refine WPU.condS (t:=(decide (z13<(p2.length:Int)))) rfl (fun h15=>?_) (fun h15=>?_)
 replace hF:=q05 h15 hF
 refine st ?_
 refine WPU.skip ?_
 refine st ?_
 refine WPU.block ?_
 refine st ?_
 obtain ⟨x16,h17,hF⟩:=q00 hF
 obtain ⟨x18,h19,hF⟩:=q00 hF
 obtain ⟨r20,h21,hF⟩:=q00 hF
 refine WPU.drawE Tryz.tb_ok [] (by kernel_rfl) ?_
 repeat refine RD.mv rfl rfl rfl rfl ?_
 refine RD.q (u:=.iptr [.int .i64 x16]) rfl (q2a rfl rfl (q1f (cI .i64) und55 (q01 inf3) (qec .i64) h17 rfl)) (RD.q (u:=.int .i64 x16) rfl (q90 und3 rfl rfl rfl) (RD.q (u:=.iptr (xGDeriv x18)) rfl (q2a rfl rfl (q1f cGDeriv und22 (q01 inf43) q0e h19 (q0m x18))) (RD.q (u:=.agg (xGDeriv x18)) rfl (q2e und43 rfl (q01 inf43) rfl rfl) (RD.q (u:=.agg (cGProp p3)) rfl (q0a und33 rfl (q01 inf33) rfl rfl rfl) (RD.free (u:=.bool r20) (args:=[.agg (xGDeriv x18),.agg (cGProp p3)]) rfl (q03 rfl rfl fn64 hb64 rfl rfl) (fun s=>qb4 n x18 p3 r20 h21 s) rfl rfl ?_)))))
 refine RD.done ⟨by kernel_rfl,trivial,?_⟩
 refine st ?_
 refine WPU.joinK (fun tm σ=>∃ z23:Int,q8t z13 (q56 p1 p2 p3 n m1) z23=some r∧tm=fr 27 [(0,.isl false (List.map cGDeriv p1)),(1,.isl false (List.map (cI .i64) p2)),(5,.ptr 0 0 0),(7,.int .i64 z23),(8,.int .i64 z13)]∧σ=⟨[(0,.row (cGProp p3) 33)],1⟩) ?_ ?_
 rintro _ _ ⟨z23,hF,rfl,rfl⟩
 unfold q8t at hF
 refine sr ?_
 refine RS.q rfl (q02 rfl rfl (q1q _ _ _) rfl) ?_
 refine sd ?_
 exact ⟨m1,_,_,Nat.lt_succ_self _,⟨z23,(IntKind.i64.wrap (z13+1)),hF,rfl,rfl⟩,(Nat.zero_le _),Gh.toC (n1:=1) ⟨rfl,rfl,rfl,rfl,rfl,trivial⟩ rfl (Nat.zero_le _) (by simp)⟩
 refine WPU.condS (t:=r20) rfl (fun h22=>?_) (fun h22=>?_)
 replace hF:=q05 h22 hF
 refine sr ?_
 refine RS.q rfl (q02 rfl rfl (q1q _ _ _) rfl) ?_
 refine sd ?_
 exact ⟨_,_,⟨(IntKind.i64.wrap (z12+1)),hF,rfl,rfl⟩,(Nat.zero_le _),Gh.toC (n1:=1) ⟨rfl,rfl,rfl,rfl,rfl,trivial⟩ rfl (Nat.zero_le _) (by simp)⟩
 replace hF:=q04 h22 hF
 refine st ?_
 refine WPU.skip ?_
 refine st ?_
 exact ⟨_,_,⟨z12,hF,rfl,rfl⟩,(Nat.zero_le _),Gh.toC (n1:=1) ⟨rfl,rfl,rfl,rfl,rfl,trivial⟩ rfl (Nat.zero_le _) (by simp)⟩
 replace hF:=q04 h15 hF
 refine st ?_
 refine WPU.exit ?_
 refine st ?_
 exact ⟨_,_,⟨z12,hF,rfl,rfl⟩,(Nat.zero_le _),Gh.toC (n1:=1) ⟨rfl,trivial⟩ rfl (Nat.zero_le _) (by simp)⟩
theorem qej (n:Nat) (p1:List GDeriv) (p2:List Int) (p3:GProp) (r:Int) (hF:q9c n p1 p2 p3=some r) (σ:Sg):EvU Tryz.prog 33 [.isl false (List.map cGDeriv p1),.isl false (List.map (cI .i64) p2),.agg (cGProp p3)] σ (fun u σ'=>u = .int .i64 r∧σ'=σ) :=
 EvU.pure1C (ref45_With_0 n p1 p2 p3 r hF) σ
def q61 (z15:Int) (rc1:Int→(List GDecision)→Option ((List GDecision))) (l34:List GDecision):Option ((List GDecision)) :=
 rc1 (IntKind.i64.wrap (z15+1)) l34
def q80  (l18:List GDecision):Option ((List GDecision)) :=
 some l18
def q3t (p1:List GDeriv) (p2:List GDecision) (n:Nat) (r3:(List Int)) (r6:(List GProp)):Nat→Int→(List GDecision)→Option ((List GDecision))
 | 0,_,_=>none
 | m1+1,z15,l16 =>
  cond (decide (z15<(r6.length:Int)))
   (bindO (idxO r6 z15) fun x21 =>
   bindO (q9c n p1 r3 x21) fun r23 =>
   bindO (bindO (idxO r6 z15) fun x25 =>
   bindO (q4k n p2 x25) fun r27 =>
   cond (!r27)
    (cond (r23 == 0)
     (some true)
     (some (r23 == (r3.length:Int))))
    (some false)) fun b31 =>
   cond b31
    (bindO (idxO r6 z15) fun x36 =>
    needO ((l16.length+1)*48≤140737488355328∧l16.length+1≤140737488355328) (
    q61 z15 (q3t p1 p2 n r3 r6 m1) (l16++[(GDecision.mk x36 (decide (r23 > 0)))])))
    (q61 z15 (q3t p1 p2 n r3 r6 m1) l16))
   (q80 l16)
def q7d (n:Nat) (p1:List GDeriv) (p2:List GDecision):Option ((List GDecision)) :=
 bindO (q3n n p1 p2) fun r3 =>
 cond ((r3.length:Int) == 0)
  (some [])
  (bindO (q2w n p1) fun r6 =>
  q3t p1 p2 n r3 r6 n 0 ([]:List GDecision))
theorem qhx (n:Nat) (p1:List GDeriv) (p2:List GDecision) (r:(List GDecision)) (hF:q7d n p1 p2=some r):EvU Tryz.prog 31 [.isl false (List.map cGDeriv p1),.isl false (List.map cGDecision p2)] ⟨[],0⟩ (fun u _=>u = .isl false (List.map cGDecision r)∧Bel 0 u):=by
 unfold q7d at hF
 refine EvU.of_body Tryz.tb_ok fn31 rfl ?_
 refine WPU.ghost (tm':=fr 61 [(0,.isl false (List.map cGDeriv p1)),(1,.isl false (List.map cGDecision p2))]) (Gh.start (Nat.le_of_ble_eq_true rfl)) (Nat.zero_le _) ?_
 refine sr ?_
 refine sd ?_
 obtain ⟨r3,h4,hF⟩:=q00 hF
 refine sr ?_
 repeat refine RS.mv rfl rfl rfl rfl ?_
 refine RS.call (u:=.isl false (List.map (cI .i64) r3)) (args:=[.isl false (List.map cGDeriv p1),.isl false (List.map cGDecision p2)]) rfl (q03 rfl rfl fn30 hb30 rfl rfl) (q6k n p1 p2 r3 h4 _) rfl rfl ?_
 refine se ?_
 refine RS.q (u:=.sl 0 0 0 0) (σ':=⟨[(0,.row [] 62)],1⟩) rfl (q4g und26 inf62 rfl rfl rfl rfl rfl rfl rfl) ?_
 refine se ?_
 refine RS.q rfl (q0k rfl rfl rfl (q0g (cI .i64) und55)) (RS.q rfl (q02 rfl rfl (q0j _ _ _) rfl) ?_)
 refine sd ?_
 refine WPU.condS (t:=((r3.length:Int) == 0)) rfl (fun h5=>?_) (fun h5=>?_)
 replace hF:=q05 h5 hF
 refine sr ?_
 refine sd ?_
 refine WPU.ret ?_
 refine st ?_
 have hr:=Option.some.inj hF
 subst hr
 exact ⟨.inr rfl,[.sl 0 0 0 0],q0l rfl (q0i),.isl false (List.map cGDecision []),⟨[],0⟩,Nat.le_refl _,Gh.trans (Gh.fz (tm':=[.isl false (List.map cGDecision [])]) (h':=[]) 0 (.row [] 62) 5 rfl (by simp) (by simp only [oneU,q0y,q0o,q1z,q11,q22,q15,q14,q13,q12,q10,q20,q21,q1y,q23,q3k,junkT,q96,q9p,Nat.reduceLeDiff,Nat.reduceMul,List.length_cons,List.length_nil,Nat.reduceAdd]<;>simp only [chunks,List.take,List.drop,List.map,cGDecision]) (by simp only [fzH,fzB,ug,Nat.beq,cond_true,cond_false,oneU,q0y,q0o,q1z,q11,q22,q15,q14,q13,q12,q10,q20,q21,q1y,q23,q3k,junkT,q96,q9p,Nat.reduceLeDiff,Nat.reduceMul,List.length_cons,List.length_nil,Nat.reduceAdd]<;>simp only [chunks,List.take,List.drop,List.map,cGDecision])) (Gh.toR (.isl false (List.map cGDecision [])) rfl),rfl,BU.h⟩
 replace hF:=q04 h5 hF
 refine st ?_
 refine WPU.skip ?_
 refine st ?_
 obtain ⟨r6,h7,hF⟩:=q00 hF
 refine sr ?_
 refine RS.call (u:=.isl false (List.map cGProp r6)) (args:=[.isl false (List.map cGDeriv p1)]) rfl (q03 rfl rfl fn29 hb29 rfl rfl) (q6f n p1 r6 h7 _) rfl rfl ?_
 refine se ?_
 refine sd ?_
 refine WPU.ghost (tm':=fr 61 [(0,.isl false (List.map cGDeriv p1)),(1,.isl false (List.map cGDecision p2)),(5,.isl false (List.map (cI .i64) r3)),(6,.vl 1 0 0 (([]:List GDecision).length)),(7,.isl false (List.map cGProp r6)),(8,.int .i64 0)]) (σ':=⟨[(1,.vec (List.map cGDecision ([]:List GDecision)).flatten 62 5 0),(0,.row [] 62)],2⟩) (Gh.trans (Gh.empS 6 62 5 (by decide) (Nat.zero_le _) rfl rfl rfl) (Gh.eqS ⟨rfl,rfl,rfl,rfl,rfl,rfl,trivial⟩ rfl)) (Nat.zero_le _) ?_
 refine WPU.ghost (tm':=fr 61 [(0,.isl false (List.map cGDeriv p1)),(1,.isl false (List.map cGDecision p2)),(5,.isl false (List.map (cI .i64) r3)),(6,.vl 1 0 0 (([]:List GDecision).length)),(7,.isl false (List.map cGProp r6)),(8,.int .i64 0)]) (Gh.sub ⟨rfl,rfl,rfl,rfl,rfl,rfl,trivial⟩) (Nat.zero_le _) ?_
 refine WPU.loopK (fun m tm σ=>∃ z15:Int,∃ l16:List GDecision,∃ t17:Nat,q3t p1 p2 n r3 r6 m z15 l16=some r∧tm=fr 61 [(0,.isl false (List.map cGDeriv p1)),(1,.isl false (List.map cGDecision p2)),(5,.isl false (List.map (cI .i64) r3)),(6,.vl 1 t17 0 l16.length),(7,.isl false (List.map cGProp r6)),(8,.int .i64 z15)]∧σ=⟨[(1,.vec (List.map cGDecision l16).flatten 62 5 t17),(0,.row [] 62)],2⟩) (fun tm σ=>∃ l18:List GDecision,∃ t19:Nat,q80 l18=some r∧tm=fr 61 [(6,.vl 1 t19 0 l18.length)]∧σ=⟨[(1,.vec (List.map cGDecision l18).flatten 62 5 t19),(0,.row [] 62)],2⟩) n ⟨0,([]:List GDecision),0,hF,rfl,rfl⟩ ?_ ?_
 rintro _ _ ⟨l18,t19,hF,rfl,rfl⟩
 unfold q80 at hF
 refine sr ?_
 refine sd ?_
 refine WPU.ret ?_
 refine st ?_
 have hr:=Option.some.inj hF
 subst hr
 exact ⟨.inr rfl,[.vl 1 t19 0 l18.length],q0l rfl (q0i),.isl false (List.map cGDecision l18),⟨[],0⟩,Nat.le_refl _,Gh.trans (Gh.fz (tm':=[.isl false (List.map cGDecision l18)]) (h':=[(0,.row [] 62)]) 1 (.vec (List.map cGDecision l18).flatten 62 5 t19) 5 rfl (by simp) (by simp only [oneU,q0y,q0o,q1z,q11,q22,q15,q14,q13,q12,q10,q20,q21,q1y,q23,q3k,junkT,q8i q0f]) (by simp only [fzH,fzB,ug,Nat.beq,cond_true,cond_false,oneU,q0y,q0o,q1z,q11,q22,q15,q14,q13,q12,q10,q20,q21,q1y,q23,q3k,junkT,q8i q0f])) (Gh.toR (.isl false (List.map cGDecision l18)) rfl),rfl,BU.h⟩
 rintro m1 _ _ ⟨z15,l16,t17,hF,rfl,rfl⟩
 rcases m1 with _ | m1
 cases hF
 unfold q3t at hF
 refine sr ?_
 repeat refine RS.mv rfl rfl rfl rfl ?_
 refine RS.q rfl (q0k rfl rfl rfl (q0g cGProp und57)) (RS.q rfl (q02 rfl rfl (q18 _ _ _) rfl) ?_)
 refine sd ?_
 refine WPU.condS (t:=(decide (z15<(r6.length:Int)))) rfl (fun h20=>?_) (fun h20=>?_)
 replace hF:=q05 h20 hF
 refine st ?_
 refine WPU.skip ?_
 refine st ?_
 refine WPU.block ?_
 refine st ?_
 obtain ⟨x21,h22,hF⟩:=q00 hF
 obtain ⟨r23,h24,hF⟩:=q00 hF
 refine sr ?_
 repeat refine RS.mv rfl rfl rfl rfl ?_
 refine RS.q (u:=.iptr (cGProp x21)) rfl (q2a rfl rfl (q1f cGProp und57 (q01 inf33) q0b h22 rfl)) (RS.q (u:=.agg (cGProp x21)) rfl (q2e und33 rfl (q01 inf33) rfl rfl) (RS.call (u:=.int .i64 r23) (args:=[.isl false (List.map cGDeriv p1),.isl false (List.map (cI .i64) r3),.agg (cGProp x21)]) rfl (q03 rfl rfl fn33 hb33 rfl rfl) (qej n p1 r3 x21 r23 h24 _) rfl rfl ?_))
 refine sd ?_
 obtain ⟨b31,h32,hF⟩:=q00 hF
 refine WPU.joinK (fun tm σ=>tm=fr 61 [(0,.isl false (List.map cGDeriv p1)),(1,.isl false (List.map cGDecision p2)),(5,.isl false (List.map (cI .i64) r3)),(6,.vl 1 t17 0 l16.length),(7,.isl false (List.map cGProp r6)),(8,.int .i64 z15),(9,.int .i64 r23),(49,.bool b31)]∧σ=⟨[(1,.vec (List.map cGDecision l16).flatten 62 5 t17),(0,.row [] 62)],2⟩) ?_ ?_
 rintro _ _ ⟨rfl,rfl⟩
 refine st ?_
 refine WPU.joinK (fun tm σ=>∃ l34:List GDecision,∃ t35:Nat,q61 z15 (q3t p1 p2 n r3 r6 m1) l34=some r∧tm=fr 61 [(0,.isl false (List.map cGDeriv p1)),(1,.isl false (List.map cGDecision p2)),(5,.isl false (List.map (cI .i64) r3)),(6,.vl 1 t35 0 l34.length),(7,.isl false (List.map cGProp r6)),(8,.int .i64 z15)]∧σ=⟨[(1,.vec (List.map cGDecision l34).flatten 62 5 t35),(0,.row [] 62)],2⟩) ?_ ?_
 rintro _ _ ⟨l34,t35,hF,rfl,rfl⟩
 unfold q61 at hF
 refine sr ?_
 refine RS.q rfl (q02 rfl rfl (q1q _ _ _) rfl) ?_
 refine sd ?_
 exact ⟨m1,_,_,Nat.lt_succ_self _,⟨(IntKind.i64.wrap (z15+1)),l34,t35,hF,rfl,rfl⟩,(Nat.zero_le _),Gh.toC (n1:=2) ⟨rfl,rfl,rfl,rfl,rfl,rfl,trivial⟩ rfl (Nat.zero_le _) (by simp)⟩
 refine WPU.condS (t:=b31) rfl (fun h33=>?_) (fun h33=>?_)
 replace hF:=q05 h33 hF
 refine st ?_
 obtain ⟨x36,h37,hF⟩:=q00 hF
 obtain ⟨h38,hF⟩:=q0n hF
 refine sr ?_
 repeat refine RS.mv rfl rfl rfl rfl ?_
 refine RS.q (u:=.iptr (cGProp x36)) rfl (q2a rfl rfl (q1f cGProp und57 (q01 inf33) q0b h37 rfl)) (RS.q (u:=.agg (cGProp x36)) rfl (q2e und33 rfl (q01 inf33) rfl rfl) (RS.mv rfl rfl rfl rfl (RS.q rfl (q02 rfl rfl (qhi _ _ _) rfl) (RS.q (u:=.agg [.int .i64 x36.Kind,.str x36.Name,.int .i64 x36.From,.int .i64 x36.To,.bool (decide (r23 > 0))]) rfl (q4d bd62 rfl rfl rfl) (RS.q (u:=.sl 2 0 1 1) (σ':=⟨[(2,.row [.int .i64 x36.Kind,.str x36.Name,.int .i64 x36.From,.int .i64 x36.To,.bool (decide (r23 > 0))] 62),(1,.vec (List.map cGDecision l16).flatten 62 5 t17),(0,.row [] 62)],3⟩) rfl (q4g und26 inf62 rfl rfl rfl rfl rfl rfl rfl) (RS.q (u:=.vl 1 (t17+1) 0 ((l16++[(GDecision.mk x36 (decide (r23 > 0)))]).length)) (σ':=⟨[(2,.row [.int .i64 x36.Kind,.str x36.Name,.int .i64 x36.From,.int .i64 x36.To,.bool (decide (r23 > 0))] 62),(1,.vec (List.map cGDecision (l16++[(GDecision.mk x36 (decide (r23 > 0)))])).flatten 62 5 (t17+1)),(0,.row [] 62)],3⟩) rfl (q7i rfl rfl rfl rfl (q8m cGDecision ([(GDecision.mk x36 (decide (r23 > 0)))]) und26 und26 inf62 rfl q0f rfl (q72 cGDecision [(GDecision.mk x36 (decide (r23 > 0)))] rfl rfl rfl rfl) h38)) ?_))))))
 refine sd ?_
 exact ⟨_,_,⟨(l16++[(GDecision.mk x36 (decide (r23 > 0)))]),(t17+1),hF,rfl,rfl⟩,(Nat.zero_le _),Gh.toC (n1:=2) ⟨rfl,rfl,rfl,rfl,rfl,rfl,trivial⟩ rfl (Nat.zero_le _) (by simp)⟩
 replace hF:=q04 h33 hF
 refine st ?_
 refine WPU.skip ?_
 refine st ?_
 exact ⟨_,_,⟨l16,t17,hF,rfl,rfl⟩,(Nat.zero_le _),Gh.toC (n1:=2) ⟨rfl,rfl,rfl,rfl,rfl,rfl,trivial⟩ rfl (Nat.zero_le _) (by simp)⟩
 obtain ⟨x25,h26,h32⟩:=q00 h32
 obtain ⟨r27,h28,h32⟩:=q00 h32
 rcases q2r (!r27) with h29 | h29
 replace h32:=q05 h29 h32
 rcases q2r (r23 == 0) with h30 | h30
 replace h32:=q05 h30 h32
 replace h32:=Option.some.inj h32
 subst h32
 refine sr ?_
 repeat refine RS.mv rfl rfl rfl rfl ?_
 refine RS.q (u:=.iptr (cGProp x25)) rfl (q2a rfl rfl (q1f cGProp und57 (q01 inf33) q0b h26 rfl)) (RS.q (u:=.agg (cGProp x25)) rfl (q2e und33 rfl (q01 inf33) rfl rfl) (RS.call (u:=.bool r27) (args:=[.isl false (List.map cGDecision p2),.agg (cGProp x25)]) rfl (q03 rfl rfl fn32 hb32 rfl rfl) (q4i n p2 x25 r27 h28 _) rfl rfl (RS.q (u:=.bool (!r27)) rfl (q7l rfl rfl rfl rfl) (RS.mv rfl rfl rfl rfl (RS.op (want1 rfl rfl rfl h29) (q0h rfl) rfl rfl (RS.op (want1 rfl rfl rfl h29) (q02 rfl rfl (q0j _ _ _) rfl) rfl rfl (RS.op (want1 rfl rfl rfl h29) (q0h rfl) rfl rfl ?_)))))))
 repeat refine RS.no (want0 rfl rfl rfl h30) rfl rfl ?_
 refine RS.op (u:=.bool true) (want1 rfl rfl rfl h29) (q06 rfl h30 rfl) rfl rfl (RS.q (u:=.bool true) rfl (q06 rfl h29 rfl) ?_)
 refine sd ?_
 exact ⟨_,_,⟨rfl,rfl⟩,(Nat.zero_le _),Gh.toC (n1:=2) ⟨rfl,rfl,rfl,rfl,rfl,rfl,rfl,rfl,trivial⟩ rfl (Nat.zero_le _) (by simp)⟩
 replace h32:=q04 h30 h32
 replace h32:=Option.some.inj h32
 subst h32
 refine sr ?_
 repeat refine RS.mv rfl rfl rfl rfl ?_
 refine RS.q (u:=.iptr (cGProp x25)) rfl (q2a rfl rfl (q1f cGProp und57 (q01 inf33) q0b h26 rfl)) (RS.q (u:=.agg (cGProp x25)) rfl (q2e und33 rfl (q01 inf33) rfl rfl) (RS.call (u:=.bool r27) (args:=[.isl false (List.map cGDecision p2),.agg (cGProp x25)]) rfl (q03 rfl rfl fn32 hb32 rfl rfl) (q4i n p2 x25 r27 h28 _) rfl rfl (RS.q (u:=.bool (!r27)) rfl (q7l rfl rfl rfl rfl) (RS.mv rfl rfl rfl rfl (RS.op (want1 rfl rfl rfl h29) (q0h rfl) rfl rfl (RS.op (want1 rfl rfl rfl h29) (q02 rfl rfl (q0j _ _ _) rfl) rfl rfl (RS.op (want1 rfl rfl rfl h29) (q0h rfl) rfl rfl ?_)))))))
 refine RS.op (want1 rfl rfl rfl h30) (q0h rfl) rfl rfl (RS.op (want1 rfl rfl rfl h30) (q0h rfl) rfl rfl (RS.op (want1 rfl rfl rfl h30) (q0k rfl rfl rfl (q0g (cI .i64) und55)) rfl rfl (RS.op (want1 rfl rfl rfl h30) (q02 rfl rfl (q0j _ _ _) rfl) rfl rfl (RS.op (u:=.bool (r23 == (r3.length:Int))) (want1 rfl rfl rfl h29) (q07 rfl h30 rfl) rfl rfl (RS.q (u:=.bool (r23 == (r3.length:Int))) rfl (q06 rfl h29 rfl) ?_)))))
 refine sd ?_
 exact ⟨_,_,⟨rfl,rfl⟩,(Nat.zero_le _),Gh.toC (n1:=2) ⟨rfl,rfl,rfl,rfl,rfl,rfl,rfl,rfl,trivial⟩ rfl (Nat.zero_le _) (by simp)⟩
 replace h32:=q04 h29 h32
 replace h32:=Option.some.inj h32
 subst h32
 refine sr ?_
 repeat refine RS.mv rfl rfl rfl rfl ?_
 refine RS.q (u:=.iptr (cGProp x25)) rfl (q2a rfl rfl (q1f cGProp und57 (q01 inf33) q0b h26 rfl)) (RS.q (u:=.agg (cGProp x25)) rfl (q2e und33 rfl (q01 inf33) rfl rfl) (RS.call (u:=.bool r27) (args:=[.isl false (List.map cGDecision p2),.agg (cGProp x25)]) rfl (q03 rfl rfl fn32 hb32 rfl rfl) (q4i n p2 x25 r27 h28 _) rfl rfl (RS.q (u:=.bool (!r27)) rfl (q7l rfl rfl rfl rfl) (RS.mv rfl rfl rfl rfl ?_))))
 repeat refine RS.no (want0 rfl rfl rfl h29) rfl rfl ?_
 repeat refine RS.no (wantT rfl rfl rfl) rfl rfl ?_
 refine RS.no (want0 rfl rfl rfl h29) rfl rfl (RS.q (u:=.bool false) rfl (q07 rfl h29 rfl) ?_)
 refine sd ?_
 exact ⟨_,_,⟨rfl,rfl⟩,(Nat.zero_le _),Gh.toC (n1:=2) ⟨rfl,rfl,rfl,rfl,rfl,rfl,rfl,rfl,trivial⟩ rfl (Nat.zero_le _) (by simp)⟩
 replace hF:=q04 h20 hF
 refine st ?_
 refine WPU.exit ?_
 refine st ?_
 exact ⟨_,_,⟨l16,t17,hF,rfl,rfl⟩,(Nat.zero_le _),Gh.toC (n1:=2) ⟨rfl,trivial⟩ rfl (Nat.zero_le _) (by simp)⟩
theorem qg8 (n:Nat) (p1:List GDeriv) (p2:List GDecision) (r:(List GDecision)) (hF:q7d n p1 p2=some r) (σ:Sg):EvU Tryz.prog 31 [.isl false (List.map cGDeriv p1),.isl false (List.map cGDecision p2)] σ (fun u σ'=>u = .isl false (List.map cGDecision r)∧σ'=σ) :=
 EvU.pure1C (qhx n p1 p2 r hF) σ
def qa6 (p2:GDecision) (l15:List GDecision):Option ((List GDecision)) :=
 needO ((l15.length+1)*48≤140737488355328∧l15.length+1≤140737488355328) (
 some (l15++[p2]))
def q7e (p1:List GDecision) (p2:GDecision):Nat→Int→(List GDecision)→Option ((List GDecision))
 | 0,_,_=>none
 | m1+1,z12,l13 =>
  cond (decide (z12<(p1.length:Int)))
   (bindO (idxO p1 z12) fun x19 =>
   needO ((l13.length+1)*48≤140737488355328∧l13.length+1≤140737488355328) (
   (q7e p1 p2 m1) (IntKind.i64.wrap (z12+1)) (l13++[x19])))
   (qa6 p2 l13)
def qaf (n:Nat) (p1:List GDecision) (p2:GDecision):Option ((List GDecision)) :=
 q7e p1 p2 n 0 ([]:List GDecision)
theorem ref46_more_0 (n:Nat) (p1:List GDecision) (p2:GDecision) (r:(List GDecision)) (hF:qaf n p1 p2=some r):EvU Tryz.prog 66 [.isl false (List.map cGDecision p1),.agg (cGDecision p2)] ⟨[],0⟩ (fun u _=>u = .isl false (List.map cGDecision r)∧Bel 0 u):=by
 unfold qaf at hF
 refine EvU.of_body Tryz.tb_ok fn66 rfl ?_
 refine WPU.ghost (tm':=fr 25 [(0,.isl false (List.map cGDecision p1)),(1,.agg (cGDecision p2))]) (Gh.start (Nat.le_of_ble_eq_true rfl)) (Nat.zero_le _) ?_
 refine sr ?_
 refine RS.q (u:=.ptr 0 0 0) (σ':=⟨[(0,.row (cGDecision p2) 62)],1⟩) rfl (q2j rfl rfl rfl) ?_
 refine se ?_
 refine RS.q (u:=.sl 1 0 0 0) (σ':=⟨[(1,.row [] 62),(0,.row (cGDecision p2) 62)],2⟩) rfl (q4g und26 inf62 rfl rfl rfl rfl rfl rfl rfl) ?_
 refine se ?_
 refine sd ?_
 refine WPU.ghost (tm':=fr 25 [(0,.isl false (List.map cGDecision p1)),(3,.ptr 0 0 0),(5,.vl 2 0 0 (([]:List GDecision).length)),(6,.int .i64 0)]) (σ':=⟨[(2,.vec (List.map cGDecision ([]:List GDecision)).flatten 62 5 0),(1,.row [] 62),(0,.row (cGDecision p2) 62)],3⟩) (Gh.trans (Gh.empS 5 62 5 (by decide) (Nat.zero_le _) rfl rfl rfl) (Gh.eqS ⟨rfl,rfl,rfl,rfl,trivial⟩ rfl)) (Nat.zero_le _) ?_
 refine WPU.ghost (tm':=fr 25 [(0,.isl false (List.map cGDecision p1)),(3,.ptr 0 0 0),(5,.vl 2 0 0 (([]:List GDecision).length)),(6,.int .i64 0)]) (Gh.sub ⟨rfl,rfl,rfl,rfl,trivial⟩) (Nat.zero_le _) ?_
 refine WPU.loopK (fun m tm σ=>∃ z12:Int,∃ l13:List GDecision,∃ t14:Nat,q7e p1 p2 m z12 l13=some r∧tm=fr 25 [(0,.isl false (List.map cGDecision p1)),(3,.ptr 0 0 0),(5,.vl 2 t14 0 l13.length),(6,.int .i64 z12)]∧σ=⟨[(2,.vec (List.map cGDecision l13).flatten 62 5 t14),(1,.row [] 62),(0,.row (cGDecision p2) 62)],3⟩) (fun tm σ=>∃ l15:List GDecision,∃ t16:Nat,qa6 p2 l15=some r∧tm=fr 25 [(3,.ptr 0 0 0),(5,.vl 2 t16 0 l15.length)]∧σ=⟨[(2,.vec (List.map cGDecision l15).flatten 62 5 t16),(1,.row [] 62),(0,.row (cGDecision p2) 62)],3⟩) n ⟨0,([]:List GDecision),0,hF,rfl,rfl⟩ ?_ ?_
 rintro _ _ ⟨l15,t16,hF,rfl,rfl⟩
 unfold qa6 at hF
 refine st ?_
 obtain ⟨h17,hF⟩:=q0n hF
 refine sr ?_
 refine RS.q (u:=.agg (cGDecision p2)) rfl (q0a und62 rfl (q01 inf62) rfl rfl rfl) (RS.q (u:=.sl 3 0 1 1) (σ':=⟨[(3,.row (cGDecision p2) 62),(2,.vec (List.map cGDecision l15).flatten 62 5 t16),(1,.row [] 62),(0,.row (cGDecision p2) 62)],4⟩) rfl (q4g und26 inf62 rfl rfl rfl rfl rfl rfl rfl) (RS.q (u:=.vl 2 (t16+1) 0 ((l15++[p2]).length)) (σ':=⟨[(3,.row (cGDecision p2) 62),(2,.vec (List.map cGDecision (l15++[p2])).flatten 62 5 (t16+1)),(1,.row [] 62),(0,.row (cGDecision p2) 62)],4⟩) rfl (q7i rfl rfl rfl rfl (q8m cGDecision ([p2]) und26 und26 inf62 rfl q0f rfl (q72 cGDecision [p2] rfl rfl rfl rfl) h17)) ?_))
 refine sd ?_
 refine WPU.ret ?_
 refine st ?_
 have hr:=Option.some.inj hF
 subst hr
 exact ⟨.inr rfl,[.vl 2 (t16+1) 0 ((l15++[p2]).length)],q0l rfl (q0i),.isl false (List.map cGDecision (l15++[p2])),⟨[],0⟩,Nat.le_refl _,Gh.trans (Gh.fz (tm':=[.isl false (List.map cGDecision (l15++[p2]))]) (h':=[(3,.row (cGDecision p2) 62),(1,.row [] 62),(0,.row (cGDecision p2) 62)]) 2 (.vec (List.map cGDecision (l15++[p2])).flatten 62 5 (t16+1)) 5 rfl (by simp) (by simp only [oneU,q0y,q0o,q1z,q11,q22,q15,q14,q13,q12,q10,q20,q21,q1y,q23,q3k,junkT,q8i q0f,qe7]) (by simp only [fzH,fzB,ug,Nat.beq,cond_true,cond_false,oneU,q0y,q0o,q1z,q11,q22,q15,q14,q13,q12,q10,q20,q21,q1y,q23,q3k,junkT,q8i q0f,qe7])) (Gh.toR (.isl false (List.map cGDecision (l15++[p2]))) rfl),rfl,BU.h⟩
 rintro m1 _ _ ⟨z12,l13,t14,hF,rfl,rfl⟩
 rcases m1 with _ | m1
 cases hF
 unfold q7e at hF
 refine sr ?_
 repeat refine RS.mv rfl rfl rfl rfl ?_
 refine RS.q rfl (q0k rfl rfl rfl (q0g cGDecision und26)) (RS.q rfl (q02 rfl rfl (q18 _ _ _) rfl) ?_)
 refine sd ?_
 refine WPU.condS (t:=(decide (z12<(p1.length:Int)))) rfl (fun h18=>?_) (fun h18=>?_)
 replace hF:=q05 h18 hF
 refine st ?_
 refine WPU.skip ?_
 refine st ?_
 refine WPU.block ?_
 refine st ?_
 obtain ⟨x19,h20,hF⟩:=q00 hF
 obtain ⟨h21,hF⟩:=q0n hF
 refine sr ?_
 repeat refine RS.mv rfl rfl rfl rfl ?_
 refine RS.q (u:=.iptr (cGDecision x19)) rfl (q2a rfl rfl (q1f cGDecision und26 (q01 inf62) q0f h20 rfl)) (RS.q (u:=.agg (cGDecision x19)) rfl (q2e und62 rfl (q01 inf62) rfl rfl) (RS.q (u:=.sl 3 0 1 1) (σ':=⟨[(3,.row (cGDecision x19) 62),(2,.vec (List.map cGDecision l13).flatten 62 5 t14),(1,.row [] 62),(0,.row (cGDecision p2) 62)],4⟩) rfl (q4g und26 inf62 rfl rfl rfl rfl rfl rfl rfl) (RS.q (u:=.vl 2 (t14+1) 0 ((l13++[x19]).length)) (σ':=⟨[(3,.row (cGDecision x19) 62),(2,.vec (List.map cGDecision (l13++[x19])).flatten 62 5 (t14+1)),(1,.row [] 62),(0,.row (cGDecision p2) 62)],4⟩) rfl (q7i rfl rfl rfl rfl (q8m cGDecision ([x19]) und26 und26 inf62 rfl q0f rfl (q72 cGDecision [x19] rfl rfl rfl rfl) h21)) ?_)))
 refine se ?_
 refine RS.q rfl (q02 rfl rfl (q1q _ _ _) rfl) ?_
 refine sd ?_
 exact ⟨m1,_,_,Nat.lt_succ_self _,⟨(IntKind.i64.wrap (z12+1)),(l13++[x19]),(t14+1),hF,rfl,rfl⟩,(Nat.zero_le _),Gh.toC (n1:=3) ⟨rfl,rfl,rfl,rfl,trivial⟩ rfl (Nat.zero_le _) (by simp)⟩
 replace hF:=q04 h18 hF
 refine st ?_
 refine WPU.exit ?_
 refine st ?_
 exact ⟨_,_,⟨l13,t14,hF,rfl,rfl⟩,(Nat.zero_le _),Gh.toC (n1:=3) ⟨rfl,rfl,trivial⟩ rfl (Nat.zero_le _) (by simp)⟩
theorem ref46_more_ok (n:Nat) (p1:List GDecision) (p2:GDecision) (r:(List GDecision)) (hF:qaf n p1 p2=some r) (σ:Sg):EvU Tryz.prog 66 [.isl false (List.map cGDecision p1),.agg (cGDecision p2)] σ (fun u σ'=>u = .isl false (List.map cGDecision r)∧σ'=σ) :=
 EvU.pure1C (ref46_more_0 n p1 p2 r hF) σ
def q70 (n:Nat) (p1:GSession) (p2:GProp) (p3:Bool):Option (GSession×Int) :=
 cond (p1.State != 0)
  (some (p1,15))
  (bindO (q2w n p1.Readings) fun r5 =>
  bindO (qan n r5 p2) fun r7 =>
  cond (!r7)
   (some (p1,16))
   (bindO (q4k n p1.Decisions p2) fun r10 =>
   cond r10
    (some (p1,4))
    (bindO (qaf n p1.Decisions (GDecision.mk p2 p3)) fun r13 =>
    bindO (q3n n p1.Readings r13) fun r15 =>
    cond ((r15.length:Int) == 0)
     (some (p1,17))
     (some ((GSession.mk p1.Readings r13 p1.State),0)))))
theorem ref46_Decide_0 (n:Nat) (p1:GSession) (p2:GProp) (p3:Bool) (r:GSession×Int) (hF:q70 n p1 p2 p3=some r):EvU Tryz.prog 37 [.agg (cGSession p1),.agg (cGProp p2),.bool p3] ⟨[],0⟩ (fun u _=>u = .tup [.agg (cGSession r.1),.int .i64 r.2]∧Bel 0 u):=by
 unfold q70 at hF
 refine EvU.of_body Tryz.tb_ok fn37 rfl ?_
 refine WPU.ghost (tm':=fr 44 [(0,.agg (cGSession p1)),(1,.agg (cGProp p2)),(2,.bool p3)]) (Gh.start (Nat.le_of_ble_eq_true rfl)) (Nat.zero_le _) ?_
 refine sr ?_
 refine RS.q (u:=.ptr 0 0 0) (σ':=⟨[(0,.row (cGSession p1) 28)],1⟩) rfl (q2j rfl rfl rfl) (RS.q (u:=.ptr 1 0 0) (σ':=⟨[(1,.row (cGProp p2) 33),(0,.row (cGSession p1) 28)],2⟩) rfl (q2j rfl rfl rfl) (RS.q (u:=.ptr 2 0 0) (σ':=⟨[(2,.row [.nils,.nils,.int .i64 0] 28),(1,.row (cGProp p2) 33),(0,.row (cGSession p1) 28)],3⟩) rfl (q0v inf28 rfl rfl) ?_))
 refine se ?_
 refine RS.q (u:=.ptr 0 0 2) rfl (q0c und28 rfl (q01 inf3) rfl rfl rfl) (RS.q (u:=.int .i64 p1.State) rfl (q09 und3 rfl rfl rfl rfl) (RS.q rfl (q02 rfl rfl (q52 _ _ _) rfl) ?_))
 refine sd ?_
 refine WPU.condS (t:=(p1.State != 0)) rfl (fun h4=>?_) (fun h4=>?_)
 replace hF:=q05 h4 hF
 refine sr ?_
 refine RS.q (u:=.agg (cGSession p1)) rfl (q0a und28 rfl (q01 inf28) rfl rfl rfl) (RS.opn (u:=.junk) (σ':=⟨[(2,.row (cGSession p1) 28),(1,.row (cGProp p2) 33),(0,.row (cGSession p1) 28)],3⟩) rfl (q0d (q01 inf28) rfl rfl rfl rfl rfl rfl rfl rfl) rfl ?_)
 refine sd ?_
 refine WPU.ret ?_
 refine st ?_
 have hr:=Option.some.inj hF
 subst hr
 exact ⟨.inr rfl,[.agg (cGSession p1),.int .i64 15],q5f (q0a und28 rfl (q01 inf28) rfl rfl rfl) (q0l rfl (q0i)),.tup [.agg (cGSession p1),.int .i64 15],⟨[],0⟩,Nat.le_refl _,Gh.toR (.tup [.agg (cGSession p1),.int .i64 15]) rfl,rfl,BU.h⟩
 replace hF:=q04 h4 hF
 refine st ?_
 refine WPU.skip ?_
 refine st ?_
 obtain ⟨r5,h6,hF⟩:=q00 hF
 obtain ⟨r7,h8,hF⟩:=q00 hF
 refine WPU.drawE Tryz.tb_ok [] (by kernel_rfl) ?_
 refine RD.q (u:=.ptr 0 0 0) rfl (q0c und28 rfl (q01 inf22) rfl rfl rfl) (RD.q (u:=.isl false (List.map cGDeriv p1.Readings)) rfl (q09 und22 rfl rfl rfl rfl) (RD.free (u:=.isl false (List.map cGProp r5)) (args:=[.isl false (List.map cGDeriv p1.Readings)]) rfl (q03 rfl rfl fn29 hb29 rfl rfl) (fun s=>q6f n p1.Readings r5 h6 s) rfl rfl (RD.q (u:=.agg (cGProp p2)) rfl (q0a und33 rfl (q01 inf33) rfl rfl rfl) (RD.free (u:=.bool r7) (args:=[.isl false (List.map cGProp r5),.agg (cGProp p2)]) rfl (q03 rfl rfl fn65 hb65 rfl rfl) (fun s=>qft n r5 p2 r7 h8 s) rfl rfl (RD.q (u:=.bool (!r7)) rfl (q7l rfl rfl rfl rfl) ?_)))))
 refine RD.done ⟨by kernel_rfl,trivial,?_⟩
 refine st ?_
 refine WPU.condS (t:=(!r7)) rfl (fun h9=>?_) (fun h9=>?_)
 replace hF:=q05 h9 hF
 refine sr ?_
 refine RS.q (u:=.agg (cGSession p1)) rfl (q0a und28 rfl (q01 inf28) rfl rfl rfl) (RS.opn (u:=.junk) (σ':=⟨[(2,.row (cGSession p1) 28),(1,.row (cGProp p2) 33),(0,.row (cGSession p1) 28)],3⟩) rfl (q0d (q01 inf28) rfl rfl rfl rfl rfl rfl rfl rfl) rfl ?_)
 refine sd ?_
 refine WPU.ret ?_
 refine st ?_
 have hr:=Option.some.inj hF
 subst hr
 exact ⟨.inr rfl,[.agg (cGSession p1),.int .i64 16],q5f (q0a und28 rfl (q01 inf28) rfl rfl rfl) (q0l rfl (q0i)),.tup [.agg (cGSession p1),.int .i64 16],⟨[],0⟩,Nat.le_refl _,Gh.toR (.tup [.agg (cGSession p1),.int .i64 16]) rfl,rfl,BU.h⟩
 replace hF:=q04 h9 hF
 refine st ?_
 refine WPU.skip ?_
 refine st ?_
 obtain ⟨r10,h11,hF⟩:=q00 hF
 refine sr ?_
 refine RS.q (u:=.ptr 0 0 1) rfl (q0c und28 rfl (q01 inf26) rfl rfl rfl) (RS.q (u:=.isl false (List.map cGDecision p1.Decisions)) rfl (q09 und26 rfl rfl rfl rfl) (RS.q (u:=.agg (cGProp p2)) rfl (q0a und33 rfl (q01 inf33) rfl rfl rfl) (RS.call (u:=.bool r10) (args:=[.isl false (List.map cGDecision p1.Decisions),.agg (cGProp p2)]) rfl (q03 rfl rfl fn32 hb32 rfl rfl) (q4i n p1.Decisions p2 r10 h11 _) rfl rfl ?_)))
 refine sd ?_
 refine WPU.condS (t:=r10) rfl (fun h12=>?_) (fun h12=>?_)
 replace hF:=q05 h12 hF
 refine sr ?_
 refine RS.q (u:=.agg (cGSession p1)) rfl (q0a und28 rfl (q01 inf28) rfl rfl rfl) (RS.opn (u:=.junk) (σ':=⟨[(2,.row (cGSession p1) 28),(1,.row (cGProp p2) 33),(0,.row (cGSession p1) 28)],3⟩) rfl (q0d (q01 inf28) rfl rfl rfl rfl rfl rfl rfl rfl) rfl ?_)
 refine sd ?_
 refine WPU.ret ?_
 refine st ?_
 have hr:=Option.some.inj hF
 subst hr
 exact ⟨.inr rfl,[.agg (cGSession p1),.int .i64 4],q5f (q0a und28 rfl (q01 inf28) rfl rfl rfl) (q0l rfl (q0i)),.tup [.agg (cGSession p1),.int .i64 4],⟨[],0⟩,Nat.le_refl _,Gh.toR (.tup [.agg (cGSession p1),.int .i64 4]) rfl,rfl,BU.h⟩
 replace hF:=q04 h12 hF
 refine st ?_
 refine WPU.skip ?_
 refine st ?_
 obtain ⟨r13,h14,hF⟩:=q00 hF
 refine sr ?_
 refine RS.q (u:=.ptr 0 0 1) rfl (q0c und28 rfl (q01 inf26) rfl rfl rfl) (RS.q (u:=.isl false (List.map cGDecision p1.Decisions)) rfl (q09 und26 rfl rfl rfl rfl) (RS.q (u:=.agg (cGProp p2)) rfl (q0a und33 rfl (q01 inf33) rfl rfl rfl) (RS.mv rfl rfl rfl rfl (RS.q (u:=.agg [.int .i64 p2.Kind,.str p2.Name,.int .i64 p2.From,.int .i64 p2.To,.bool p3]) rfl (q4d bd62 rfl rfl rfl) (RS.call (u:=.isl false (List.map cGDecision r13)) (args:=[.isl false (List.map cGDecision p1.Decisions),.agg [.int .i64 p2.Kind,.str p2.Name,.int .i64 p2.From,.int .i64 p2.To,.bool p3]]) rfl (q03 rfl rfl fn66 hb66 rfl rfl) (ref46_more_ok n p1.Decisions (GDecision.mk p2 p3) r13 h14 _) rfl rfl ?_)))))
 refine sd ?_
 obtain ⟨r15,h16,hF⟩:=q00 hF
 refine sr ?_
 refine RS.q (u:=.ptr 0 0 0) rfl (q0c und28 rfl (q01 inf22) rfl rfl rfl) (RS.q (u:=.isl false (List.map cGDeriv p1.Readings)) rfl (q09 und22 rfl rfl rfl rfl) (RS.mv rfl rfl rfl rfl (RS.call (u:=.isl false (List.map (cI .i64) r15)) (args:=[.isl false (List.map cGDeriv p1.Readings),.isl false (List.map cGDecision r13)]) rfl (q03 rfl rfl fn30 hb30 rfl rfl) (q6k n p1.Readings r13 r15 h16 _) rfl rfl (RS.q rfl (q0k rfl rfl rfl (q0g (cI .i64) und55)) (RS.q rfl (q02 rfl rfl (q0j _ _ _) rfl) ?_)))))
 refine sd ?_
 refine WPU.condS (t:=((r15.length:Int) == 0)) rfl (fun h17=>?_) (fun h17=>?_)
 replace hF:=q05 h17 hF
 refine sr ?_
 refine RS.q (u:=.agg (cGSession p1)) rfl (q0a und28 rfl (q01 inf28) rfl rfl rfl) (RS.opn (u:=.junk) (σ':=⟨[(2,.row (cGSession p1) 28),(1,.row (cGProp p2) 33),(0,.row (cGSession p1) 28)],3⟩) rfl (q0d (q01 inf28) rfl rfl rfl rfl rfl rfl rfl rfl) rfl ?_)
 refine sd ?_
 refine WPU.ret ?_
 refine st ?_
 have hr:=Option.some.inj hF
 subst hr
 exact ⟨.inr rfl,[.agg (cGSession p1),.int .i64 17],q5f (q0a und28 rfl (q01 inf28) rfl rfl rfl) (q0l rfl (q0i)),.tup [.agg (cGSession p1),.int .i64 17],⟨[],0⟩,Nat.le_refl _,Gh.toR (.tup [.agg (cGSession p1),.int .i64 17]) rfl,rfl,BU.h⟩
 replace hF:=q04 h17 hF
 refine st ?_
 refine WPU.skip ?_
 refine sr ?_
 refine RS.q (u:=.ptr 0 0 0) rfl (q0c und28 rfl (q01 inf22) rfl rfl rfl) (RS.q (u:=.isl false (List.map cGDeriv p1.Readings)) rfl (q09 und22 rfl rfl rfl rfl) (RS.mv rfl rfl rfl rfl (RS.q (u:=.ptr 0 0 2) rfl (q0c und28 rfl (q01 inf3) rfl rfl rfl) (RS.q (u:=.int .i64 p1.State) rfl (q09 und3 rfl rfl rfl rfl) (RS.q (u:=.agg [.isl false (List.map cGDeriv p1.Readings),.isl false (List.map cGDecision r13),.int .i64 p1.State]) rfl (q4d bd28 rfl rfl rfl) (RS.opn (u:=.junk) (σ':=⟨[(2,.row [.isl false (List.map cGDeriv p1.Readings),.isl false (List.map cGDecision r13),.int .i64 p1.State] 28),(1,.row (cGProp p2) 33),(0,.row (cGSession p1) 28)],3⟩) rfl (q0d (q01 inf28) rfl rfl rfl rfl rfl rfl rfl rfl) rfl ?_))))))
 refine sd ?_
 refine WPU.ret ?_
 refine st ?_
 have hr:=Option.some.inj hF
 subst hr
 exact ⟨.inr rfl,[.agg [.isl false (List.map cGDeriv p1.Readings),.isl false (List.map cGDecision r13),.int .i64 p1.State],.int .i64 0],q5f (q0a und28 rfl (q01 inf28) rfl rfl rfl) (q0l rfl (q0i)),.tup [.agg [.isl false (List.map cGDeriv p1.Readings),.isl false (List.map cGDecision r13),.int .i64 p1.State],.int .i64 0],⟨[],0⟩,Nat.le_refl _,Gh.toR (.tup [.agg [.isl false (List.map cGDeriv p1.Readings),.isl false (List.map cGDecision r13),.int .i64 p1.State],.int .i64 0]) rfl,rfl,BU.h⟩
theorem qcf (n:Nat) (p1:GSession) (p2:GProp) (p3:Bool) (r:GSession×Int) (hF:q70 n p1 p2 p3=some r) (σ:Sg):EvU Tryz.prog 37 [.agg (cGSession p1),.agg (cGProp p2),.bool p3] σ (fun u σ'=>u = .tup [.agg (cGSession r.1),.int .i64 r.2]∧σ'=σ) :=
 EvU.pure1C (ref46_Decide_0 n p1 p2 p3 r hF) σ
def qae (n:Nat) (p1:GSession):Option (GSession×Int) :=
 cond (p1.State != 0)
  (some ((GSession.mk p1.Readings p1.Decisions 0),0))
  (cond ((p1.Decisions.length:Int) == 0)
   (some (p1,16))
   (bindO (cutO p1.Decisions 0 (IntKind.i64.wrap ((p1.Decisions.length:Int) - 1))) fun l4 =>
   some ((GSession.mk p1.Readings l4 p1.State),0)))
theorem ref46_Undo_0 (n:Nat) (p1:GSession) (r:GSession×Int) (hF:qae n p1=some r):EvU Tryz.prog 38 [.agg (cGSession p1)] ⟨[],0⟩ (fun u _=>u = .tup [.agg (cGSession r.1),.int .i64 r.2]∧Bel 0 u):=by
 unfold qae at hF
 refine EvU.of_body Tryz.tb_ok fn38 rfl ?_
 refine WPU.ghost (tm':=fr 29 [(0,.agg (cGSession p1))]) (Gh.start (Nat.le_of_ble_eq_true rfl)) (Nat.zero_le _) ?_
 refine sr ?_
 refine RS.q (u:=.ptr 0 0 0) (σ':=⟨[(0,.row (cGSession p1) 28)],1⟩) rfl (q2j rfl rfl rfl) (RS.q (u:=.ptr 1 0 0) (σ':=⟨[(1,.row [.nils,.nils,.int .i64 0] 28),(0,.row (cGSession p1) 28)],2⟩) rfl (q0v inf28 rfl rfl) ?_)
 refine se ?_
 refine RS.q (u:=.ptr 0 0 2) rfl (q0c und28 rfl (q01 inf3) rfl rfl rfl) (RS.q (u:=.int .i64 p1.State) rfl (q09 und3 rfl rfl rfl rfl) (RS.q rfl (q02 rfl rfl (q52 _ _ _) rfl) ?_))
 refine sd ?_
 refine WPU.condS (t:=(p1.State != 0)) rfl (fun h2=>?_) (fun h2=>?_)
 replace hF:=q05 h2 hF
 refine sr ?_
 refine RS.q (u:=.ptr 0 0 0) rfl (q0c und28 rfl (q01 inf22) rfl rfl rfl) (RS.q (u:=.isl false (List.map cGDeriv p1.Readings)) rfl (q09 und22 rfl rfl rfl rfl) (RS.q (u:=.ptr 0 0 1) rfl (q0c und28 rfl (q01 inf26) rfl rfl rfl) (RS.q (u:=.isl false (List.map cGDecision p1.Decisions)) rfl (q09 und26 rfl rfl rfl rfl) (RS.q (u:=.agg [.isl false (List.map cGDeriv p1.Readings),.isl false (List.map cGDecision p1.Decisions),.int .i64 0]) rfl (q4d bd28 rfl rfl rfl) (RS.opn (u:=.junk) (σ':=⟨[(1,.row [.isl false (List.map cGDeriv p1.Readings),.isl false (List.map cGDecision p1.Decisions),.int .i64 0] 28),(0,.row (cGSession p1) 28)],2⟩) rfl (q0d (q01 inf28) rfl rfl rfl rfl rfl rfl rfl rfl) rfl ?_)))))
 refine sd ?_
 refine WPU.ret ?_
 refine st ?_
 have hr:=Option.some.inj hF
 subst hr
 exact ⟨.inr rfl,[.agg [.isl false (List.map cGDeriv p1.Readings),.isl false (List.map cGDecision p1.Decisions),.int .i64 0],.int .i64 0],q5f (q0a und28 rfl (q01 inf28) rfl rfl rfl) (q0l rfl (q0i)),.tup [.agg [.isl false (List.map cGDeriv p1.Readings),.isl false (List.map cGDecision p1.Decisions),.int .i64 0],.int .i64 0],⟨[],0⟩,Nat.le_refl _,Gh.toR (.tup [.agg [.isl false (List.map cGDeriv p1.Readings),.isl false (List.map cGDecision p1.Decisions),.int .i64 0],.int .i64 0]) rfl,rfl,BU.h⟩
 replace hF:=q04 h2 hF
 refine st ?_
 refine WPU.skip ?_
 refine sr ?_
 refine RS.q (u:=.ptr 0 0 1) rfl (q0c und28 rfl (q01 inf26) rfl rfl rfl) (RS.q (u:=.isl false (List.map cGDecision p1.Decisions)) rfl (q09 und26 rfl rfl rfl rfl) (RS.q rfl (q0k rfl rfl rfl (q0g cGDecision und26)) (RS.q rfl (q02 rfl rfl (q0j _ _ _) rfl) ?_)))
 refine sd ?_
 refine WPU.condS (t:=((p1.Decisions.length:Int) == 0)) rfl (fun h3=>?_) (fun h3=>?_)
 replace hF:=q05 h3 hF
 refine sr ?_
 refine RS.q (u:=.agg (cGSession p1)) rfl (q0a und28 rfl (q01 inf28) rfl rfl rfl) (RS.opn (u:=.junk) (σ':=⟨[(1,.row (cGSession p1) 28),(0,.row (cGSession p1) 28)],2⟩) rfl (q0d (q01 inf28) rfl rfl rfl rfl rfl rfl rfl rfl) rfl ?_)
 refine sd ?_
 refine WPU.ret ?_
 refine st ?_
 have hr:=Option.some.inj hF
 subst hr
 exact ⟨.inr rfl,[.agg (cGSession p1),.int .i64 16],q5f (q0a und28 rfl (q01 inf28) rfl rfl rfl) (q0l rfl (q0i)),.tup [.agg (cGSession p1),.int .i64 16],⟨[],0⟩,Nat.le_refl _,Gh.toR (.tup [.agg (cGSession p1),.int .i64 16]) rfl,rfl,BU.h⟩
 replace hF:=q04 h3 hF
 refine st ?_
 refine WPU.skip ?_
 refine st ?_
 obtain ⟨l4,h5,hF⟩:=q00 hF
 obtain ⟨h6,h7⟩:=cut_hi cGDecision .i64 h5
 refine WPU.drawE Tryz.tb_ok [] (by kernel_rfl) ?_
 refine RD.q (u:=.ptr 0 0 0) rfl (q0c und28 rfl (q01 inf22) rfl rfl rfl) (RD.q (u:=.isl false (List.map cGDeriv p1.Readings)) rfl (q09 und22 rfl rfl rfl rfl) (RD.q (u:=.ptr 0 0 1) rfl (q0c und28 rfl (q01 inf26) rfl rfl rfl) (RD.q (u:=.isl false (List.map cGDecision p1.Decisions)) rfl (q09 und26 rfl rfl rfl rfl) (RD.q (u:=.ptr 0 0 1) rfl (q0c und28 rfl (q01 inf26) rfl rfl rfl) (RD.q (u:=.isl false (List.map cGDecision p1.Decisions)) rfl (q09 und26 rfl rfl rfl rfl) (RD.q rfl (q0k rfl rfl rfl (q0g cGDecision und26)) (RD.q rfl (q02 rfl rfl (q8z _ _ _) rfl) ?_)))))))
 refine RD.q (u:=.isl false (List.map cGDecision l4)) rfl (q7a rfl em_n (em_s rfl) em_n (sl_isl cGDecision und26 (q01 inf62) q0f h6 h7)) (RD.q (u:=.ptr 0 0 2) rfl (q0c und28 rfl (q01 inf3) rfl rfl rfl) (RD.q (u:=.int .i64 p1.State) rfl (q09 und3 rfl rfl rfl rfl) (RD.q (u:=.agg [.isl false (List.map cGDeriv p1.Readings),.isl false (List.map cGDecision l4),.int .i64 p1.State]) rfl (q4d bd28 rfl rfl rfl) (RD.actn (u:=.junk) (σ':=⟨[(1,.row [.isl false (List.map cGDeriv p1.Readings),.isl false (List.map cGDecision l4),.int .i64 p1.State] 28),(0,.row (cGSession p1) 28)],2⟩) rfl (q0d (q01 inf28) rfl rfl rfl rfl rfl rfl rfl rfl) rfl (RD.as rfl rfl rfl rfl ?_)))))
 refine RD.done ⟨by kernel_rfl,trivial,?_⟩
 refine st ?_
 refine WPU.ret ?_
 refine st ?_
 have hr:=Option.some.inj hF
 subst hr
 exact ⟨.inr rfl,[.agg [.isl false (List.map cGDeriv p1.Readings),.isl false (List.map cGDecision l4),.int .i64 p1.State],.int .i64 0],q5f (q0a und28 rfl (q01 inf28) rfl rfl rfl) (q0l rfl (q0i)),.tup [.agg [.isl false (List.map cGDeriv p1.Readings),.isl false (List.map cGDecision l4),.int .i64 p1.State],.int .i64 0],⟨[],0⟩,Nat.le_refl _,Gh.toR (.tup [.agg [.isl false (List.map cGDeriv p1.Readings),.isl false (List.map cGDecision l4),.int .i64 p1.State],.int .i64 0]) rfl,rfl,BU.h⟩
theorem ref46_Undo_ok (n:Nat) (p1:GSession) (r:GSession×Int) (hF:qae n p1=some r) (σ:Sg):EvU Tryz.prog 38 [.agg (cGSession p1)] σ (fun u σ'=>u = .tup [.agg (cGSession r.1),.int .i64 r.2]∧σ'=σ) :=
 EvU.pure1C (ref46_Undo_0 n p1 r hF) σ
def qcg (n:Nat) (p1:Int):Option (Int) :=
 some (if (IntKind.i64.wrap (0 - p1)) > p1 then (IntKind.i64.wrap (0 - p1)) else p1)
theorem ref46_abs_0 (n:Nat) (p1:Int) (r:Int) (hF:qcg n p1=some r):EvU Tryz.prog 34 [.int .i64 p1] ⟨[],0⟩ (fun u _=>u = .int .i64 r∧Bel 0 u):=by
 unfold qcg at hF
 refine EvU.of_body Tryz.tb_ok fn34 rfl ?_
 refine WPU.ghost (tm':=fr 7 [(0,.int .i64 p1)]) (Gh.start (Nat.le_of_ble_eq_true rfl)) (Nat.zero_le _) ?_
 refine sr ?_
 refine se ?_
 repeat refine RS.mv rfl rfl rfl rfl ?_
 refine RS.q (u:=.int .i64 (IntKind.i64.wrap (0 - p1))) rfl (q7l rfl rfl rfl rfl) (RS.q (u:=.int .i64 (if (IntKind.i64.wrap (0 - p1)) > p1 then (IntKind.i64.wrap (0 - p1)) else p1)) rfl (op_max rfl rfl rfl rfl rfl rfl rfl) ?_)
 refine sd ?_
 refine WPU.ret ?_
 refine st ?_
 have hr:=Option.some.inj hF
 subst hr
 exact ⟨.inr rfl,[.int .i64 (if (IntKind.i64.wrap (0 - p1)) > p1 then (IntKind.i64.wrap (0 - p1)) else p1)],q0l rfl (q0i),.int .i64 (if (IntKind.i64.wrap (0 - p1)) > p1 then (IntKind.i64.wrap (0 - p1)) else p1),⟨[],0⟩,Nat.le_refl _,Gh.toR (.int .i64 (if (IntKind.i64.wrap (0 - p1)) > p1 then (IntKind.i64.wrap (0 - p1)) else p1)) rfl,rfl,BU.h⟩
theorem ref46_abs_ok (n:Nat) (p1:Int) (r:Int) (hF:qcg n p1=some r) (σ:Sg):EvU Tryz.prog 34 [.int .i64 p1] σ (fun u σ'=>u = .int .i64 r∧σ'=σ) :=
 EvU.pure1C (ref46_abs_0 n p1 r hF) σ
def q62 (z27:Int) (rc1:Bool→Int→Int→Int→(List UInt8)→Int→Int→Option (GProp×Bool)) (b60:Bool) (z61:Int) (z62:Int) (s63:List UInt8) (z64:Int) (z65:Int):Option (GProp×Bool) :=
 rc1 b60 z61 (IntKind.i64.wrap (z27+1)) z62 s63 z64 z65
def q81  (b32:Bool) (z33:Int) (s34:List UInt8) (z35:Int) (z36:Int):Option (GProp×Bool) :=
 some ((GProp.mk z33 s34 z35 z36),b32)
def q39 (p1:GSession) (n:Nat) (r2:(List GProp)) (r4:(List Int)) (r6:(List GDecision)):Nat→Bool→Int→Int→Int→(List UInt8)→Int→Int→Option (GProp×Bool)
 | 0,_,_,_,_,_,_,_=>none
 | m1+1,b25,z26,z27,z28,s29,z30,z31 =>
  cond (decide (z27<(r2.length:Int)))
   (bindO (bindO (idxO r2 z27) fun x38 =>
   bindO (q4k n p1.Decisions x38) fun r40 =>
   cond r40
    (some true)
    (bindO (idxO r2 z27) fun x43 =>
    bindO (q4k n r6 x43) fun r45 =>
    some r45)) fun b47 =>
   cond b47
    ((q39 p1 n r2 r4 r6 m1) b25 z26 (IntKind.i64.wrap (z27+1)) z28 s29 z30 z31)
    (bindO (idxO r2 z27) fun x50 =>
    bindO (q9c n p1.Readings r4 x50) fun r52 =>
    bindO (qcg n (IntKind.i64.wrap (r52 - (IntKind.i64.wrap ((r4.length:Int) - r52))))) fun r54 =>
    bindO (cond (!b25)
     (some true)
     (some (decide (r54<z26)))) fun b57 =>
    cond b57
     (bindO (idxO r2 z27) fun x66 =>
     q62 z27 (q39 p1 n r2 r4 r6 m1) true r54 x66.Kind x66.Name x66.From x66.To)
     (q62 z27 (q39 p1 n r2 r4 r6 m1) b25 z26 z28 s29 z30 z31)))
   (q81 b25 z28 s29 z30 z31)
def q5w (n:Nat) (p1:GSession):Option (GProp×Bool) :=
 bindO (q2w n p1.Readings) fun r2 =>
 bindO (q3n n p1.Readings p1.Decisions) fun r4 =>
 bindO (q7d n p1.Readings p1.Decisions) fun r6 =>
 q39 p1 n r2 r4 r6 n false 0 0 0 [] 0 0
theorem qi2 (n:Nat) (p1:GSession) (r:GProp×Bool) (hF:q5w n p1=some r):EvU Tryz.prog 9 [.agg (cGSession p1)] ⟨[],0⟩ (fun u _=>u = .tup [.agg (cGProp r.1),.bool r.2]∧Bel 0 u):=by
 unfold q5w at hF
 refine EvU.of_body Tryz.tb_ok fn9 rfl ?_
 refine WPU.ghost (tm':=fr 77 [(0,.agg (cGSession p1))]) (Gh.start (Nat.le_of_ble_eq_true rfl)) (Nat.zero_le _) ?_
 refine sr ?_
 refine RS.q (u:=.ptr 0 0 0) (σ':=⟨[(0,.row (cGSession p1) 28)],1⟩) rfl (q2j rfl rfl rfl) (RS.q (u:=.ptr 1 0 0) (σ':=⟨[(1,.row [.int .i64 0,.str [],.int .i64 0,.int .i64 0] 33),(0,.row (cGSession p1) 28)],2⟩) rfl (q0v inf33 rfl rfl) ?_)
 refine sd ?_
 obtain ⟨r2,h3,hF⟩:=q00 hF
 refine sr ?_
 refine RS.q (u:=.ptr 0 0 0) rfl (q0c und28 rfl (q01 inf22) rfl rfl rfl) (RS.q (u:=.isl false (List.map cGDeriv p1.Readings)) rfl (q09 und22 rfl rfl rfl rfl) (RS.call (u:=.isl false (List.map cGProp r2)) (args:=[.isl false (List.map cGDeriv p1.Readings)]) rfl (q03 rfl rfl fn29 hb29 rfl rfl) (q6f n p1.Readings r2 h3 _) rfl rfl ?_))
 refine sd ?_
 obtain ⟨r4,h5,hF⟩:=q00 hF
 refine sr ?_
 refine RS.q (u:=.ptr 0 0 0) rfl (q0c und28 rfl (q01 inf22) rfl rfl rfl) (RS.q (u:=.isl false (List.map cGDeriv p1.Readings)) rfl (q09 und22 rfl rfl rfl rfl) (RS.q (u:=.ptr 0 0 1) rfl (q0c und28 rfl (q01 inf26) rfl rfl rfl) (RS.q (u:=.isl false (List.map cGDecision p1.Decisions)) rfl (q09 und26 rfl rfl rfl rfl) (RS.call (u:=.isl false (List.map (cI .i64) r4)) (args:=[.isl false (List.map cGDeriv p1.Readings),.isl false (List.map cGDecision p1.Decisions)]) rfl (q03 rfl rfl fn30 hb30 rfl rfl) (q6k n p1.Readings p1.Decisions r4 h5 _) rfl rfl ?_))))
 refine sd ?_
 obtain ⟨r6,h7,hF⟩:=q00 hF
 refine sr ?_
 refine RS.q (u:=.ptr 0 0 0) rfl (q0c und28 rfl (q01 inf22) rfl rfl rfl) (RS.q (u:=.isl false (List.map cGDeriv p1.Readings)) rfl (q09 und22 rfl rfl rfl rfl) (RS.q (u:=.ptr 0 0 1) rfl (q0c und28 rfl (q01 inf26) rfl rfl rfl) (RS.q (u:=.isl false (List.map cGDecision p1.Decisions)) rfl (q09 und26 rfl rfl rfl rfl) (RS.call (u:=.isl false (List.map cGDecision r6)) (args:=[.isl false (List.map cGDeriv p1.Readings),.isl false (List.map cGDecision p1.Decisions)]) rfl (q03 rfl rfl fn31 hb31 rfl rfl) (qg8 n p1.Readings p1.Decisions r6 h7 _) rfl rfl ?_))))
 refine se ?_
 refine RS.q (u:=.agg [.int .i64 0,.str [],.int .i64 0,.int .i64 0]) rfl (q4d bd33 rfl rfl rfl) (RS.q (u:=.ptr 2 0 0) (σ':=⟨[(2,.row [.int .i64 0,.str [],.int .i64 0,.int .i64 0] 33),(1,.row [.int .i64 0,.str [],.int .i64 0,.int .i64 0] 33),(0,.row (cGSession p1) 28)],3⟩) rfl (q0v inf33 rfl rfl) (RS.opn (u:=.junk) (σ':=⟨[(2,.row [.int .i64 0,.str [],.int .i64 0,.int .i64 0] 33),(1,.row [.int .i64 0,.str [],.int .i64 0,.int .i64 0] 33),(0,.row (cGSession p1) 28)],3⟩) rfl (q0d (q01 inf33) rfl rfl rfl rfl rfl rfl rfl rfl) rfl ?_))
 refine se ?_
 refine se ?_
 refine se ?_
 refine sd ?_
 refine WPU.ghost (tm':=fr 77 [(1,.ptr 0 0 0),(2,.ptr 1 0 0),(4,.isl false (List.map cGProp r2)),(5,.isl false (List.map (cI .i64) r4)),(6,.isl false (List.map cGDecision r6)),(7,.ptr 2 0 0),(8,.bool false),(9,.int .i64 0),(10,.int .i64 0)]) (Gh.sub ⟨rfl,rfl,rfl,rfl,rfl,rfl,rfl,rfl,rfl,trivial⟩) (Nat.zero_le _) ?_
 refine WPU.loopK (fun m tm σ=>∃ b25:Bool,∃ z26:Int,∃ z27:Int,∃ z28:Int,∃ s29:List UInt8,∃ z30:Int,∃ z31:Int,q39 p1 n r2 r4 r6 m b25 z26 z27 z28 s29 z30 z31=some r∧tm=fr 77 [(1,.ptr 0 0 0),(2,.ptr 1 0 0),(4,.isl false (List.map cGProp r2)),(5,.isl false (List.map (cI .i64) r4)),(6,.isl false (List.map cGDecision r6)),(7,.ptr 2 0 0),(8,.bool b25),(9,.int .i64 z26),(10,.int .i64 z27)]∧σ=⟨[(2,.row [.int .i64 z28,.str s29,.int .i64 z30,.int .i64 z31] 33),(1,.row [.int .i64 0,.str [],.int .i64 0,.int .i64 0] 33),(0,.row (cGSession p1) 28)],3⟩) (fun tm σ=>∃ b32:Bool,∃ z33:Int,∃ s34:List UInt8,∃ z35:Int,∃ z36:Int,q81 b32 z33 s34 z35 z36=some r∧tm=fr 77 [(2,.ptr 1 0 0),(7,.ptr 2 0 0),(8,.bool b32)]∧σ=⟨[(2,.row [.int .i64 z33,.str s34,.int .i64 z35,.int .i64 z36] 33),(1,.row [.int .i64 0,.str [],.int .i64 0,.int .i64 0] 33),(0,.row (cGSession p1) 28)],3⟩) n ⟨false,0,0,0,[],0,0,hF,rfl,rfl⟩ ?_ ?_
 rintro _ _ ⟨b32,z33,s34,z35,z36,hF,rfl,rfl⟩
 unfold q81 at hF
 refine sr ?_
 refine RS.q (u:=.agg [.int .i64 z33,.str s34,.int .i64 z35,.int .i64 z36]) rfl (q0a und33 rfl (q01 inf33) rfl rfl rfl) (RS.mv rfl rfl rfl rfl (RS.opn (u:=.junk) (σ':=⟨[(2,.row [.int .i64 z33,.str s34,.int .i64 z35,.int .i64 z36] 33),(1,.row [.int .i64 z33,.str s34,.int .i64 z35,.int .i64 z36] 33),(0,.row (cGSession p1) 28)],3⟩) rfl (q0d (q01 inf33) rfl rfl rfl rfl rfl rfl rfl rfl) rfl ?_))
 refine sd ?_
 refine WPU.ret ?_
 refine st ?_
 have hr:=Option.some.inj hF
 subst hr
 exact ⟨.inr rfl,[.agg [.int .i64 z33,.str s34,.int .i64 z35,.int .i64 z36],.bool b32],q5f (q0a und33 rfl (q01 inf33) rfl rfl rfl) (q0l rfl (q0i)),.tup [.agg [.int .i64 z33,.str s34,.int .i64 z35,.int .i64 z36],.bool b32],⟨[],0⟩,Nat.le_refl _,Gh.toR (.tup [.agg [.int .i64 z33,.str s34,.int .i64 z35,.int .i64 z36],.bool b32]) rfl,rfl,BU.h⟩
 rintro m1 _ _ ⟨b25,z26,z27,z28,s29,z30,z31,hF,rfl,rfl⟩
 rcases m1 with _ | m1
 cases hF
 unfold q39 at hF
 refine sr ?_
 repeat refine RS.mv rfl rfl rfl rfl ?_
 refine RS.q rfl (q0k rfl rfl rfl (q0g cGProp und57)) (RS.q rfl (q02 rfl rfl (q18 _ _ _) rfl) ?_)
 refine sd ?_
 refine WPU.condS (t:=(decide (z27<(r2.length:Int)))) rfl (fun h37=>?_) (fun h37=>?_)
 replace hF:=q05 h37 hF
 refine st ?_
 refine WPU.skip ?_
 refine st ?_
 refine WPU.block ?_
 refine st ?_
 obtain ⟨b47,h48,hF⟩:=q00 hF
 refine WPU.joinK (fun tm σ=>tm=fr 77 [(1,.ptr 0 0 0),(2,.ptr 1 0 0),(4,.isl false (List.map cGProp r2)),(5,.isl false (List.map (cI .i64) r4)),(6,.isl false (List.map cGDecision r6)),(7,.ptr 2 0 0),(8,.bool b25),(9,.int .i64 z26),(10,.int .i64 z27),(47,.bool b47)]∧σ=⟨[(2,.row [.int .i64 z28,.str s29,.int .i64 z30,.int .i64 z31] 33),(1,.row [.int .i64 0,.str [],.int .i64 0,.int .i64 0] 33),(0,.row (cGSession p1) 28)],3⟩) ?_ ?_
 rintro _ _ ⟨rfl,rfl⟩
 refine st ?_
 refine WPU.condS (t:=b47) rfl (fun h49=>?_) (fun h49=>?_)
 replace hF:=q05 h49 hF
 refine st ?_
 refine WPU.exit ?_
 refine sr ?_
 refine RS.q rfl (q02 rfl rfl (q1q _ _ _) rfl) ?_
 refine sd ?_
 exact ⟨m1,_,_,Nat.lt_succ_self _,⟨b25,z26,(IntKind.i64.wrap (z27+1)),z28,s29,z30,z31,hF,rfl,rfl⟩,(Nat.zero_le _),Gh.toC (n1:=3) ⟨rfl,rfl,rfl,rfl,rfl,rfl,rfl,rfl,rfl,trivial⟩ rfl (Nat.zero_le _) (by simp)⟩
 replace hF:=q04 h49 hF
 refine st ?_
 refine WPU.skip ?_
 refine st ?_
 obtain ⟨x50,h51,hF⟩:=q00 hF
 obtain ⟨r52,h53,hF⟩:=q00 hF
 refine WPU.drawE Tryz.tb_ok [] (by kernel_rfl) ?_
 refine RD.q (u:=.ptr 0 0 0) rfl (q0c und28 rfl (q01 inf22) rfl rfl rfl) (RD.q (u:=.isl false (List.map cGDeriv p1.Readings)) rfl (q09 und22 rfl rfl rfl rfl) ?_)
 repeat refine RD.mv rfl rfl rfl rfl ?_
 refine RD.q (u:=.iptr (cGProp x50)) rfl (q2a rfl rfl (q1f cGProp und57 (q01 inf33) q0b h51 rfl)) (RD.q (u:=.agg (cGProp x50)) rfl (q2e und33 rfl (q01 inf33) rfl rfl) (RD.free (u:=.int .i64 r52) (args:=[.isl false (List.map cGDeriv p1.Readings),.isl false (List.map (cI .i64) r4),.agg (cGProp x50)]) rfl (q03 rfl rfl fn33 hb33 rfl rfl) (fun s=>qej n p1.Readings r4 x50 r52 h53 s) rfl rfl (RD.as rfl rfl rfl rfl ?_)))
 refine RD.done ⟨by kernel_rfl,trivial,?_⟩
 refine st ?_
 obtain ⟨r54,h55,hF⟩:=q00 hF
 refine sr ?_
 repeat refine RS.mv rfl rfl rfl rfl ?_
 refine RS.q rfl (q0k rfl rfl rfl (q0g (cI .i64) und55)) (RS.mv rfl rfl rfl rfl (RS.q rfl (q02 rfl rfl (q8z _ _ _) rfl) (RS.q rfl (q02 rfl rfl (q8z _ _ _) rfl) (RS.call (u:=.int .i64 r54) (args:=[.int .i64 (IntKind.i64.wrap (r52 - (IntKind.i64.wrap ((r4.length:Int) - r52))))]) rfl (q03 rfl rfl fn34 hb34 rfl rfl) (ref46_abs_ok n (IntKind.i64.wrap (r52 - (IntKind.i64.wrap ((r4.length:Int) - r52)))) r54 h55 _) rfl rfl ?_))))
 refine sd ?_
 obtain ⟨b57,h58,hF⟩:=q00 hF
 refine WPU.joinK (fun tm σ=>tm=fr 77 [(1,.ptr 0 0 0),(2,.ptr 1 0 0),(4,.isl false (List.map cGProp r2)),(5,.isl false (List.map (cI .i64) r4)),(6,.isl false (List.map cGDecision r6)),(7,.ptr 2 0 0),(8,.bool b25),(9,.int .i64 z26),(10,.int .i64 z27),(12,.int .i64 r54),(69,.bool b57)]∧σ=⟨[(2,.row [.int .i64 z28,.str s29,.int .i64 z30,.int .i64 z31] 33),(1,.row [.int .i64 0,.str [],.int .i64 0,.int .i64 0] 33),(0,.row (cGSession p1) 28)],3⟩) ?_ ?_
 rintro _ _ ⟨rfl,rfl⟩
 refine st ?_
 refine WPU.joinK (fun tm σ=>∃ b60:Bool,∃ z61:Int,∃ z62:Int,∃ s63:List UInt8,∃ z64:Int,∃ z65:Int,q62 z27 (q39 p1 n r2 r4 r6 m1) b60 z61 z62 s63 z64 z65=some r∧tm=fr 77 [(1,.ptr 0 0 0),(2,.ptr 1 0 0),(4,.isl false (List.map cGProp r2)),(5,.isl false (List.map (cI .i64) r4)),(6,.isl false (List.map cGDecision r6)),(7,.ptr 2 0 0),(8,.bool b60),(9,.int .i64 z61),(10,.int .i64 z27)]∧σ=⟨[(2,.row [.int .i64 z62,.str s63,.int .i64 z64,.int .i64 z65] 33),(1,.row [.int .i64 0,.str [],.int .i64 0,.int .i64 0] 33),(0,.row (cGSession p1) 28)],3⟩) ?_ ?_
 rintro _ _ ⟨b60,z61,z62,s63,z64,z65,hF,rfl,rfl⟩
 unfold q62 at hF
 refine sr ?_
 refine RS.q rfl (q02 rfl rfl (q1q _ _ _) rfl) ?_
 refine sd ?_
 exact ⟨m1,_,_,Nat.lt_succ_self _,⟨b60,z61,(IntKind.i64.wrap (z27+1)),z62,s63,z64,z65,hF,rfl,rfl⟩,(Nat.zero_le _),Gh.toC (n1:=3) ⟨rfl,rfl,rfl,rfl,rfl,rfl,rfl,rfl,rfl,trivial⟩ rfl (Nat.zero_le _) (by simp)⟩
 refine WPU.condS (t:=b57) rfl (fun h59=>?_) (fun h59=>?_)
 replace hF:=q05 h59 hF
 refine sr ?_
 refine se ?_
 refine sd ?_
 obtain ⟨x66,h67,hF⟩:=q00 hF
 refine sr ?_
 repeat refine RS.mv rfl rfl rfl rfl ?_
 refine RS.q (u:=.iptr (cGProp x66)) rfl (q2a rfl rfl (q1f cGProp und57 (q01 inf33) q0b h67 rfl)) (RS.q (u:=.agg (cGProp x66)) rfl (q2e und33 rfl (q01 inf33) rfl rfl) (RS.opn (u:=.junk) (σ':=⟨[(2,.row (cGProp x66) 33),(1,.row [.int .i64 0,.str [],.int .i64 0,.int .i64 0] 33),(0,.row (cGSession p1) 28)],3⟩) rfl (q0d (q01 inf33) rfl rfl rfl rfl rfl rfl rfl rfl) rfl ?_))
 refine sd ?_
 exact ⟨_,_,⟨true,r54,x66.Kind,x66.Name,x66.From,x66.To,hF,rfl,rfl⟩,(Nat.zero_le _),Gh.toC (n1:=3) ⟨rfl,rfl,rfl,rfl,rfl,rfl,rfl,rfl,rfl,trivial⟩ rfl (Nat.zero_le _) (by simp)⟩
 replace hF:=q04 h59 hF
 refine st ?_
 refine WPU.skip ?_
 refine st ?_
 exact ⟨_,_,⟨b25,z26,z28,s29,z30,z31,hF,rfl,rfl⟩,(Nat.zero_le _),Gh.toC (n1:=3) ⟨rfl,rfl,rfl,rfl,rfl,rfl,rfl,rfl,rfl,trivial⟩ rfl (Nat.zero_le _) (by simp)⟩
 rcases q2r (!b25) with h56 | h56
 replace h58:=q05 h56 h58
 replace h58:=Option.some.inj h58
 subst h58
 refine sr ?_
 refine RS.q (u:=.bool (!b25)) rfl (q7l rfl rfl rfl rfl) (RS.mv rfl rfl rfl rfl ?_)
 repeat refine RS.no (want0 rfl rfl rfl h56) rfl rfl ?_
 refine RS.q (u:=.bool true) rfl (q06 rfl h56 rfl) ?_
 refine sd ?_
 exact ⟨_,_,⟨rfl,rfl⟩,(Nat.zero_le _),Gh.toC (n1:=3) ⟨rfl,rfl,rfl,rfl,rfl,rfl,rfl,rfl,rfl,rfl,rfl,trivial⟩ rfl (Nat.zero_le _) (by simp)⟩
 replace h58:=q04 h56 h58
 replace h58:=Option.some.inj h58
 subst h58
 refine sr ?_
 refine RS.q (u:=.bool (!b25)) rfl (q7l rfl rfl rfl rfl) (RS.mv rfl rfl rfl rfl (RS.op (want1 rfl rfl rfl h56) (q0h rfl) rfl rfl (RS.op (want1 rfl rfl rfl h56) (q0h rfl) rfl rfl (RS.op (want1 rfl rfl rfl h56) (q02 rfl rfl (q18 _ _ _) rfl) rfl rfl (RS.q (u:=.bool (decide (r54<z26))) rfl (q07 rfl h56 rfl) ?_)))))
 refine sd ?_
 exact ⟨_,_,⟨rfl,rfl⟩,(Nat.zero_le _),Gh.toC (n1:=3) ⟨rfl,rfl,rfl,rfl,rfl,rfl,rfl,rfl,rfl,rfl,rfl,trivial⟩ rfl (Nat.zero_le _) (by simp)⟩
 obtain ⟨x38,h39,h48⟩:=q00 h48
 obtain ⟨r40,h41,h48⟩:=q00 h48
 rcases q2r r40 with h42 | h42
 replace h48:=q05 h42 h48
 replace h48:=Option.some.inj h48
 subst h48
 refine WPU.drawE Tryz.tb_ok [] (by kernel_rfl) ?_
 refine RD.q (u:=.ptr 0 0 1) rfl (q0c und28 rfl (q01 inf26) rfl rfl rfl) (RD.q (u:=.isl false (List.map cGDecision p1.Decisions)) rfl (q09 und26 rfl rfl rfl rfl) ?_)
 repeat refine RD.mv rfl rfl rfl rfl ?_
 refine RD.q (u:=.iptr (cGProp x38)) rfl (q2a rfl rfl (q1f cGProp und57 (q01 inf33) q0b h39 rfl)) (RD.q (u:=.agg (cGProp x38)) rfl (q2e und33 rfl (q01 inf33) rfl rfl) (RD.free (u:=.bool r40) (args:=[.isl false (List.map cGDecision p1.Decisions),.agg (cGProp x38)]) rfl (q03 rfl rfl fn32 hb32 rfl rfl) (fun s=>q4i n p1.Decisions x38 r40 h41 s) rfl rfl (RD.mv rfl rfl rfl rfl ?_)))
 repeat refine RD.no (want0 rfl rfl rfl h42) rfl rfl ?_
 refine RD.q (u:=.bool true) rfl (q06 rfl h42 rfl) ?_
 refine RD.done ⟨by kernel_rfl,trivial,?_⟩
 refine st ?_
 exact ⟨_,_,⟨rfl,rfl⟩,(Nat.zero_le _),Gh.toC (n1:=3) ⟨rfl,rfl,rfl,rfl,rfl,rfl,rfl,rfl,rfl,rfl,trivial⟩ rfl (Nat.zero_le _) (by simp)⟩
 replace h48:=q04 h42 h48
 obtain ⟨x43,h44,h48⟩:=q00 h48
 obtain ⟨r45,h46,h48⟩:=q00 h48
 replace h48:=Option.some.inj h48
 subst h48
 refine WPU.drawE Tryz.tb_ok [] (by kernel_rfl) ?_
 refine RD.q (u:=.ptr 0 0 1) rfl (q0c und28 rfl (q01 inf26) rfl rfl rfl) (RD.q (u:=.isl false (List.map cGDecision p1.Decisions)) rfl (q09 und26 rfl rfl rfl rfl) ?_)
 repeat refine RD.mv rfl rfl rfl rfl ?_
 refine RD.q (u:=.iptr (cGProp x38)) rfl (q2a rfl rfl (q1f cGProp und57 (q01 inf33) q0b h39 rfl)) (RD.q (u:=.agg (cGProp x38)) rfl (q2e und33 rfl (q01 inf33) rfl rfl) (RD.free (u:=.bool r40) (args:=[.isl false (List.map cGDecision p1.Decisions),.agg (cGProp x38)]) rfl (q03 rfl rfl fn32 hb32 rfl rfl) (fun s=>q4i n p1.Decisions x38 r40 h41 s) rfl rfl (RD.mv rfl rfl rfl rfl (RD.look (want1 rfl rfl rfl h42) (q0h rfl) rfl rfl (RD.look (want1 rfl rfl rfl h42) (q0h rfl) rfl rfl (RD.look (want1 rfl rfl rfl h42) (q0h rfl) rfl rfl (RD.look (u:=.iptr (cGProp x43)) (want1 rfl rfl rfl h42) (q2a rfl rfl (q1f cGProp und57 (q01 inf33) q0b h44 rfl)) rfl rfl ?_)))))))
 refine RD.look (u:=.agg (cGProp x43)) (want1 rfl rfl rfl h42) (q2e und33 rfl (q01 inf33) rfl rfl) rfl rfl (RD.free (u:=.bool r45) (args:=[.isl false (List.map cGDecision r6),.agg (cGProp x43)]) (want1 rfl rfl rfl h42) (q03 rfl rfl fn32 hb32 rfl rfl) (fun s=>q4i n r6 x43 r45 h46 s) rfl rfl (RD.q (u:=.bool r45) rfl (q07 rfl h42 rfl) ?_))
 refine RD.done ⟨by kernel_rfl,trivial,?_⟩
 refine st ?_
 exact ⟨_,_,⟨rfl,rfl⟩,(Nat.zero_le _),Gh.toC (n1:=3) ⟨rfl,rfl,rfl,rfl,rfl,rfl,rfl,rfl,rfl,rfl,trivial⟩ rfl (Nat.zero_le _) (by simp)⟩
 replace hF:=q04 h37 hF
 refine st ?_
 refine WPU.exit ?_
 refine st ?_
 exact ⟨_,_,⟨b25,z28,s29,z30,z31,hF,rfl,rfl⟩,(Nat.zero_le _),Gh.toC (n1:=3) ⟨rfl,rfl,rfl,trivial⟩ rfl (Nat.zero_le _) (by simp)⟩
theorem qbz (n:Nat) (p1:GSession) (r:GProp×Bool) (hF:q5w n p1=some r) (σ:Sg):EvU Tryz.prog 9 [.agg (cGSession p1)] σ (fun u σ'=>u = .tup [.agg (cGProp r.1),.bool r.2]∧σ'=σ) :=
 EvU.pure1C (qi2 n p1 r hF) σ
def q8b (n:Nat) (p1:GSession):Option (GSession×Int) :=
 cond (p1.State != 0)
  (some (p1,15))
  (bindO (q3n n p1.Readings p1.Decisions) fun r3 =>
  cond ((r3.length:Int) != 1)
   (some (p1,17))
   (some ((GSession.mk p1.Readings p1.Decisions 1),0)))
theorem ref46_Accept_0 (n:Nat) (p1:GSession) (r:GSession×Int) (hF:q8b n p1=some r):EvU Tryz.prog 39 [.agg (cGSession p1)] ⟨[],0⟩ (fun u _=>u = .tup [.agg (cGSession r.1),.int .i64 r.2]∧Bel 0 u):=by
 unfold q8b at hF
 refine EvU.of_body Tryz.tb_ok fn39 rfl ?_
 refine WPU.ghost (tm':=fr 21 [(0,.agg (cGSession p1))]) (Gh.start (Nat.le_of_ble_eq_true rfl)) (Nat.zero_le _) ?_
 refine sr ?_
 refine RS.q (u:=.ptr 0 0 0) (σ':=⟨[(0,.row (cGSession p1) 28)],1⟩) rfl (q2j rfl rfl rfl) (RS.q (u:=.ptr 1 0 0) (σ':=⟨[(1,.row [.nils,.nils,.int .i64 0] 28),(0,.row (cGSession p1) 28)],2⟩) rfl (q0v inf28 rfl rfl) ?_)
 refine se ?_
 refine RS.q (u:=.ptr 0 0 2) rfl (q0c und28 rfl (q01 inf3) rfl rfl rfl) (RS.q (u:=.int .i64 p1.State) rfl (q09 und3 rfl rfl rfl rfl) (RS.q rfl (q02 rfl rfl (q52 _ _ _) rfl) ?_))
 refine sd ?_
 refine WPU.condS (t:=(p1.State != 0)) rfl (fun h2=>?_) (fun h2=>?_)
 replace hF:=q05 h2 hF
 refine sr ?_
 refine RS.q (u:=.agg (cGSession p1)) rfl (q0a und28 rfl (q01 inf28) rfl rfl rfl) (RS.opn (u:=.junk) (σ':=⟨[(1,.row (cGSession p1) 28),(0,.row (cGSession p1) 28)],2⟩) rfl (q0d (q01 inf28) rfl rfl rfl rfl rfl rfl rfl rfl) rfl ?_)
 refine sd ?_
 refine WPU.ret ?_
 refine st ?_
 have hr:=Option.some.inj hF
 subst hr
 exact ⟨.inr rfl,[.agg (cGSession p1),.int .i64 15],q5f (q0a und28 rfl (q01 inf28) rfl rfl rfl) (q0l rfl (q0i)),.tup [.agg (cGSession p1),.int .i64 15],⟨[],0⟩,Nat.le_refl _,Gh.toR (.tup [.agg (cGSession p1),.int .i64 15]) rfl,rfl,BU.h⟩
 replace hF:=q04 h2 hF
 refine st ?_
 refine WPU.skip ?_
 refine st ?_
 obtain ⟨r3,h4,hF⟩:=q00 hF
 refine sr ?_
 refine RS.q (u:=.ptr 0 0 0) rfl (q0c und28 rfl (q01 inf22) rfl rfl rfl) (RS.q (u:=.isl false (List.map cGDeriv p1.Readings)) rfl (q09 und22 rfl rfl rfl rfl) (RS.q (u:=.ptr 0 0 1) rfl (q0c und28 rfl (q01 inf26) rfl rfl rfl) (RS.q (u:=.isl false (List.map cGDecision p1.Decisions)) rfl (q09 und26 rfl rfl rfl rfl) (RS.call (u:=.isl false (List.map (cI .i64) r3)) (args:=[.isl false (List.map cGDeriv p1.Readings),.isl false (List.map cGDecision p1.Decisions)]) rfl (q03 rfl rfl fn30 hb30 rfl rfl) (q6k n p1.Readings p1.Decisions r3 h4 _) rfl rfl (RS.q rfl (q0k rfl rfl rfl (q0g (cI .i64) und55)) (RS.q rfl (q02 rfl rfl (q52 _ _ _) rfl) ?_))))))
 refine sd ?_
 refine WPU.condS (t:=((r3.length:Int) != 1)) rfl (fun h5=>?_) (fun h5=>?_)
 replace hF:=q05 h5 hF
 refine sr ?_
 refine RS.q (u:=.agg (cGSession p1)) rfl (q0a und28 rfl (q01 inf28) rfl rfl rfl) (RS.opn (u:=.junk) (σ':=⟨[(1,.row (cGSession p1) 28),(0,.row (cGSession p1) 28)],2⟩) rfl (q0d (q01 inf28) rfl rfl rfl rfl rfl rfl rfl rfl) rfl ?_)
 refine sd ?_
 refine WPU.ret ?_
 refine st ?_
 have hr:=Option.some.inj hF
 subst hr
 exact ⟨.inr rfl,[.agg (cGSession p1),.int .i64 17],q5f (q0a und28 rfl (q01 inf28) rfl rfl rfl) (q0l rfl (q0i)),.tup [.agg (cGSession p1),.int .i64 17],⟨[],0⟩,Nat.le_refl _,Gh.toR (.tup [.agg (cGSession p1),.int .i64 17]) rfl,rfl,BU.h⟩
 replace hF:=q04 h5 hF
 refine st ?_
 refine WPU.skip ?_
 refine sr ?_
 refine RS.q (u:=.ptr 0 0 0) rfl (q0c und28 rfl (q01 inf22) rfl rfl rfl) (RS.q (u:=.isl false (List.map cGDeriv p1.Readings)) rfl (q09 und22 rfl rfl rfl rfl) (RS.q (u:=.ptr 0 0 1) rfl (q0c und28 rfl (q01 inf26) rfl rfl rfl) (RS.q (u:=.isl false (List.map cGDecision p1.Decisions)) rfl (q09 und26 rfl rfl rfl rfl) (RS.q (u:=.agg [.isl false (List.map cGDeriv p1.Readings),.isl false (List.map cGDecision p1.Decisions),.int .i64 1]) rfl (q4d bd28 rfl rfl rfl) (RS.opn (u:=.junk) (σ':=⟨[(1,.row [.isl false (List.map cGDeriv p1.Readings),.isl false (List.map cGDecision p1.Decisions),.int .i64 1] 28),(0,.row (cGSession p1) 28)],2⟩) rfl (q0d (q01 inf28) rfl rfl rfl rfl rfl rfl rfl rfl) rfl ?_)))))
 refine sd ?_
 refine WPU.ret ?_
 refine st ?_
 have hr:=Option.some.inj hF
 subst hr
 exact ⟨.inr rfl,[.agg [.isl false (List.map cGDeriv p1.Readings),.isl false (List.map cGDecision p1.Decisions),.int .i64 1],.int .i64 0],q5f (q0a und28 rfl (q01 inf28) rfl rfl rfl) (q0l rfl (q0i)),.tup [.agg [.isl false (List.map cGDeriv p1.Readings),.isl false (List.map cGDecision p1.Decisions),.int .i64 1],.int .i64 0],⟨[],0⟩,Nat.le_refl _,Gh.toR (.tup [.agg [.isl false (List.map cGDeriv p1.Readings),.isl false (List.map cGDecision p1.Decisions),.int .i64 1],.int .i64 0]) rfl,rfl,BU.h⟩
theorem qhz (n:Nat) (p1:GSession) (r:GSession×Int) (hF:q8b n p1=some r) (σ:Sg):EvU Tryz.prog 39 [.agg (cGSession p1)] σ (fun u σ'=>u = .tup [.agg (cGSession r.1),.int .i64 r.2]∧σ'=σ) :=
 EvU.pure1C (ref46_Accept_0 n p1 r hF) σ
def q8e (n:Nat) (p1:GSession):Option (GSession×Int) :=
 cond (p1.State != 0)
  (some (p1,15))
  (some ((GSession.mk p1.Readings p1.Decisions 2),0))
end Go.Proofs
end
