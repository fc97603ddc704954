/-
  Texts of the walk: A1z.
-/
import Derived.Test.YtkpfhafbkfbaoaaGreatP9
section
namespace Go.Proofs
open Go Go.Rx Go.Vx Tryz
set_option maxRecDepth 10000
set_option linter.unusedSimpArgs false
set_option linter.unusedVariables false
instance:TbI Tryz.prog Tryz.tb:=⟨Tryz.tb_ok⟩
structure GProp where
 Kind:Int
 Name:List UInt8
 From:Int
 To:Int
instance:Inhabited GProp:=⟨.mk default default default default⟩
def cGProp (x:GProp):List U:=[.int .i64 x.Kind,.str x.Name,.int .i64 x.From,.int .i64 x.To]
theorem qb6 (n:Nat) (x:GProp):BelL n (cGProp x):=by
 simp only [cGProp,BelL,Bel,true_and,and_true]
theorem q0b (x:GProp):(cGProp x).length=4:=rfl
instance:BF cGProp:=⟨qb6⟩
instance (n:Nat) (x:GProp):BUL n (cGProp x):=⟨qb6 n x⟩
theorem q3x (K:Nat) (b:B) (sz:Nat) (x:GProp):fzL K b sz (cGProp x)=cGProp x:=q5u _ _ _ (qb6 K x)
def eqGProp (x y:GProp):Bool:=((x.Kind == y.Kind)&&(bytesEq x.Name y.Name&&((x.From == y.From)&&(x.To == y.To))))
inductive GDeriv where
 | mk (Kind:Int) (Name:List UInt8) (From:Int) (To:Int) (Kids:List GDeriv)
instance:Inhabited GDeriv:=⟨.mk default default default default []⟩
def GDeriv.Kind:GDeriv→Int
 | .mk a0 _ _ _ _=>a0
def GDeriv.Name:GDeriv→List UInt8
 | .mk _ a1 _ _ _=>a1
def GDeriv.From:GDeriv→Int
 | .mk _ _ a2 _ _=>a2
def GDeriv.To:GDeriv→Int
 | .mk _ _ _ a3 _=>a3
def GDeriv.Kids:GDeriv→List GDeriv
 | .mk _ _ _ _ a4=>a4
mutual
def cGDeriv:GDeriv→List U
 | .mk a0 a1 a2 a3 a4=>[.int .i64 a0,.str a1,.int .i64 a2,.int .i64 a3,.isl false (q9l a4)]
def q9l:List GDeriv→List (List U)
 | []=>[]
 | x::l=>cGDeriv x::q9l l
end
theorem qfk:∀ l,q9l l=l.map cGDeriv
 | []=>by simp [q9l]
 | x::l=>by simp [q9l,qfk l]
def xGDeriv (x:GDeriv):List U:=[.int .i64 x.Kind,.str x.Name,.int .i64 x.From,.int .i64 x.To,.isl false (List.map cGDeriv x.Kids)]
theorem q0m (x:GDeriv):cGDeriv x=xGDeriv x:=by
 cases x; simp only [cGDeriv,qfk]; rfl
mutual
theorem qag (n:Nat):∀ x,BelL n (cGDeriv x)
 | .mk a0 a1 a2 a3 a4=>by simp only [cGDeriv,BelL,Bel,true_and,and_true]; exact qdt n a4
theorem qdt (n:Nat):∀ l,BelR n (q9l l)
 | []=>by simp [q9l,BelR]
 | x::l=>by simp only [q9l,BelR]; exact ⟨qag n x,qdt n l⟩
end
theorem q0e (x:GDeriv):(cGDeriv x).length=5:=by rw [q0m]; rfl
theorem qgx (n:Nat) (x:GDeriv):BelL n (xGDeriv x):=by rw [← q0m]; exact qag n x
instance:BF cGDeriv:=⟨qag⟩
instance (n:Nat) (x:GDeriv):BUL n (xGDeriv x):=⟨qgx n x⟩
theorem qcn (K:Nat) (b:B) (sz:Nat) (x:GDeriv):fzL K b sz (xGDeriv x)=xGDeriv x:=q5u _ _ _ (qgx K x)
structure GDecision where
 Propx:GProp
 Yes:Bool
def cGDecision (x:GDecision):List U:=[.int .i64 x.Propx.Kind,.str x.Propx.Name,.int .i64 x.Propx.From,.int .i64 x.Propx.To,.bool x.Yes]
theorem q68 (n:Nat) (x:GDecision):BelL n (cGDecision x):=by
 simp only [cGDecision,BelL,Bel,true_and,and_true]
theorem q0f (x:GDecision):(cGDecision x).length=5:=rfl
instance:BF cGDecision:=⟨q68⟩
instance (n:Nat) (x:GDecision):BUL n (cGDecision x):=⟨q68 n x⟩
theorem qe7 (K:Nat) (b:B) (sz:Nat) (x:GDecision):fzL K b sz (cGDecision x)=cGDecision x:=q5u _ _ _ (q68 K x)
def eqGDecision (x y:GDecision):Bool:=(((x.Propx.Kind == y.Propx.Kind)&&(bytesEq x.Propx.Name y.Propx.Name&&((x.Propx.From == y.Propx.From)&&(x.Propx.To == y.Propx.To))))&&(x.Yes == y.Yes))
structure GSession where
 Readings:List GDeriv
 Decisions:List GDecision
 State:Int
def cGSession (x:GSession):List U:=[.isl false (List.map cGDeriv x.Readings),.isl false (List.map cGDecision x.Decisions),.int .i64 x.State]
theorem qdu (n:Nat) (x:GSession):BelL n (cGSession x):=by
 simp only [cGSession,BelL,Bel,true_and,and_true]
 exact ⟨qga _ (fun q=>qag _ q) _,qga _ (fun q=>q68 _ q) _⟩
instance (n:Nat) (x:GSession):BUL n (cGSession x):=⟨qdu n x⟩
theorem q31 (K:Nat) (b:B) (sz:Nat) (x:GSession):fzL K b sz (cGSession x)=cGSession x:=q5u _ _ _ (qdu K x)
structure Gwork where
 Session:GSession
theorem Tryz.eqs33:Tryz.tb.eqs 33=true:=by kernel_rfl
theorem eqv33 (x y:GProp):eqv Tryz.tb 50 33 (.agg ⟨[.int .i64 x.Kind,.string ⟨⟨x.Name⟩⟩,.int .i64 x.From,.int .i64 x.To]⟩) (.agg ⟨[.int .i64 y.Kind,.string ⟨⟨y.Name⟩⟩,.int .i64 y.From,.int .i64 y.To]⟩)=some (eqGProp x y):=by
 simp only [eqv,cond_true,cond_false,eqFs,partX,isAggD,nth,sizeX,List.drop,List.take,List.toList_toArray,eqGProp,ne_eq,String.reduceEq,not_false_eq_true,if_true,und3,und9,und33,eqs33,inf33]
 cases (x.Kind == y.Kind)<;>cases bytesEq x.Name y.Name<;>cases (x.From == y.From)<;>cases (x.To == y.To)<;>rfl
theorem q5k (x y:GProp):g2 (binX Tryz.tb .eql 33) (.agg [.int .i64 x.Kind,.str x.Name,.int .i64 x.From,.int .i64 x.To]) (.agg [.int .i64 y.Kind,.str y.Name,.int .i64 y.From,.int .i64 y.To])=some (.bool (eqGProp x y)):=by
 simp only [g2,toV,toVL,okL,okC,cond_true,binX,guardX,eqs33,eqv33,ofV]
theorem qhc (x y:GProp):g2 (binX Tryz.tb .neq 33) (.agg [.int .i64 x.Kind,.str x.Name,.int .i64 x.From,.int .i64 x.To]) (.agg [.int .i64 y.Kind,.str y.Name,.int .i64 y.From,.int .i64 y.To])=some (.bool (!eqGProp x y)):=by
 simp only [g2,toV,toVL,okL,okC,cond_true,binX,guardX,eqs33,eqv33,ofV]
theorem Tryz.eqs62:Tryz.tb.eqs 62=true:=by kernel_rfl
theorem eqv62 (x y:GDecision):eqv Tryz.tb 50 62 (.agg ⟨[.int .i64 x.Propx.Kind,.string ⟨⟨x.Propx.Name⟩⟩,.int .i64 x.Propx.From,.int .i64 x.Propx.To,.bool x.Yes]⟩) (.agg ⟨[.int .i64 y.Propx.Kind,.string ⟨⟨y.Propx.Name⟩⟩,.int .i64 y.Propx.From,.int .i64 y.Propx.To,.bool y.Yes]⟩)=some (eqGDecision x y):=by
 simp only [eqv,cond_true,cond_false,eqFs,partX,isAggD,nth,sizeX,List.drop,List.take,List.toList_toArray,eqGDecision,ne_eq,String.reduceEq,not_false_eq_true,if_true,und3,und4,und9,und33,und62,eqs33,eqs62,inf33,inf62]
 cases (x.Propx.Kind == y.Propx.Kind)<;>cases bytesEq x.Propx.Name y.Propx.Name<;>cases (x.Propx.From == y.Propx.From)<;>cases (x.Propx.To == y.Propx.To)<;>cases (x.Yes == y.Yes)<;>rfl
theorem eqq62_neq (x y:GDecision):g2 (binX Tryz.tb .neq 62) (.agg [.int .i64 x.Propx.Kind,.str x.Propx.Name,.int .i64 x.Propx.From,.int .i64 x.Propx.To,.bool x.Yes]) (.agg [.int .i64 y.Propx.Kind,.str y.Propx.Name,.int .i64 y.Propx.From,.int .i64 y.Propx.To,.bool y.Yes])=some (.bool (!eqGDecision x y)):=by
 simp only [g2,toV,toVL,okL,okC,cond_true,binX,guardX,eqs62,eqv62,ofV]
theorem Tryz.bd28:BdT Tryz.tb 28 [.nils,.nils,.int .i64 0] [(0,1),(1,1),(2,1)]:=bdT und28 inf28 rfl (by kernel_rfl)
theorem Tryz.bd33:BdT Tryz.tb 33 [.int .i64 0,.str [],.int .i64 0,.int .i64 0] [(0,1),(1,1),(2,1),(3,1)]:=bdT und33 inf33 rfl (by kernel_rfl)
theorem Tryz.bd43:BdT Tryz.tb 43 [.int .i64 0,.str [],.int .i64 0,.int .i64 0,.nils] [(0,1),(1,1),(2,1),(3,1),(4,1)]:=bdT und43 inf43 rfl (by kernel_rfl)
theorem Tryz.bd53:BdT Tryz.tb 53 [.nils,.nils,.int .i64 0] [(0,3)]:=bdT und53 inf53 rfl (by kernel_rfl)
theorem Tryz.bd62:BdT Tryz.tb 62 [.int .i64 0,.str [],.int .i64 0,.int .i64 0,.bool false] [(0,4),(4,1)]:=bdT und62 inf62 rfl (by kernel_rfl)
def q1g (rc1:Int→Int→Option (Int×Bool)) (z28:Int) (z29:Int):Option (Int×Bool) :=
 rc1 z28 z29
def q29 (p1:List GProp) (p2:GProp) (f2:GProp→GProp→Option (Int)) (z13:Int):Option (Int×Bool) :=
 bindO (cond (decide (z13<(p1.length:Int)))
  (bindO (idxO p1 z13) fun x15 =>
  bindO (f2 x15 p2) fun r17 =>
  some (r17 == 0))
  (some false)) fun b19 =>
 some (z13,b19)
def q0p (p1:List GProp) (p2:GProp) (f2:GProp→GProp→Option (Int)):Nat→Int→Int→Option (Int×Bool)
 | 0,_,_=>none
 | m1+1,z11,z12 =>
  cond (decide (z11<z12))
   (bindO (idxO p1 (IntKind.i64.wrap ((IntKind.u64.wrap (IntKind.i64.wrap (z11+z12))).fdiv (2 ^ (min (1:Int).toNat IntKind.u64.bits))))) fun x23 =>
   bindO (f2 x23 p2) fun r25 =>
   cond (decide (r25<0))
    (q1g (q0p p1 p2 f2 m1) (IntKind.i64.wrap ((IntKind.i64.wrap ((IntKind.u64.wrap (IntKind.i64.wrap (z11+z12))).fdiv (2 ^ (min (1:Int).toNat IntKind.u64.bits))))+1)) z12)
    (q1g (q0p p1 p2 f2 m1) z11 (IntKind.i64.wrap ((IntKind.u64.wrap (IntKind.i64.wrap (z11+z12))).fdiv (2 ^ (min (1:Int).toNat IntKind.u64.bits))))))
   (q29 p1 p2 f2 z11)
def q1r (f2:GProp→GProp→Option (Int)) (n:Nat) (p1:List GProp) (p2:GProp):Option (Int×Bool) :=
 q0p p1 p2 f2 n 0 (p1.length:Int)
theorem q7v (f2:GProp→GProp→Option (Int)) (hf2:∀ (a0:GProp) (a1:GProp) (r:Int),f2 a0 a1=some r→EvU Tryz.prog 84 [.agg (cGProp a0),.agg (cGProp a1)] ⟨[],0⟩ (fun u _=>u = .int .i64 r∧Bel 0 u)) (n:Nat) (p1:List GProp) (p2:GProp) (r:Int×Bool) (hF:q1r f2 n p1 p2=some r):EvU Tryz.prog 85 [.isl false (List.map cGProp p1),.agg (cGProp p2),.fn (.func 84) [] []] ⟨[],0⟩ (fun u _=>u = .tup [.int .i64 r.1,.bool r.2]∧Bel 0 u):=by
 unfold q1r at hF
 have hf2S:∀ (a0:GProp) (a1:GProp) (r:Int),f2 a0 a1=some r→∀ σ,EvU Tryz.prog 84 [.agg (cGProp a0),.agg (cGProp a1)] σ (fun u σ'=>u = .int .i64 r∧σ'=σ):=fun a0 a1 r h σ=>EvU.pure1C (hf2 a0 a1 r h) σ
 refine EvU.of_body Tryz.tb_ok fn85 rfl ?_
 refine WPU.ghost (tm':=fr 49 [(0,.isl false (List.map cGProp p1)),(1,.agg (cGProp p2)),(2,.fn (.func 84) [] [])]) (Gh.start (Nat.le_of_ble_eq_true rfl)) (Nat.zero_le _) ?_
 refine sr ?_
 refine RS.q (u:=.ptr 0 0 0) (σ':=⟨[(0,.row (cGProp p2) 33)],1⟩) rfl (q2j rfl rfl rfl) ?_
 repeat refine RS.as rfl rfl rfl rfl ?_
 refine se ?_
 refine RS.q rfl (q0k rfl rfl rfl (q0g cGProp und57)) ?_
 refine se ?_
 repeat refine RS.as rfl rfl rfl rfl ?_
 refine sd ?_
 refine WPU.ghost (tm':=fr 49 [(0,.isl false (List.map cGProp p1)),(2,.fn (.func 84) [] []),(4,.ptr 0 0 0),(8,.int .i64 (p1.length:Int)),(9,.int .i64 0),(10,.int .i64 (p1.length:Int))]) (Gh.sub ⟨rfl,rfl,rfl,rfl,rfl,rfl,trivial⟩) (Nat.zero_le _) ?_
 refine WPU.loopK (fun m tm σ=>∃ z11:Int,∃ z12:Int,q0p p1 p2 f2 m z11 z12=some r∧tm=fr 49 [(0,.isl false (List.map cGProp p1)),(2,.fn (.func 84) [] []),(4,.ptr 0 0 0),(8,.int .i64 (p1.length:Int)),(9,.int .i64 z11),(10,.int .i64 z12)]∧σ=⟨[(0,.row (cGProp p2) 33)],1⟩) (fun tm σ=>∃ z13:Int,q29 p1 p2 f2 z13=some r∧tm=fr 49 [(0,.isl false (List.map cGProp p1)),(2,.fn (.func 84) [] []),(4,.ptr 0 0 0),(8,.int .i64 (p1.length:Int)),(9,.int .i64 z13)]∧σ=⟨[(0,.row (cGProp p2) 33)],1⟩) n ⟨0,(p1.length:Int),hF,rfl,rfl⟩ ?_ ?_
 rintro _ _ ⟨z13,hF,rfl,rfl⟩
 unfold q29 at hF
 refine st ?_
 obtain ⟨b19,h20,hF⟩:=q00 hF
 refine WPU.joinK (fun tm σ=>tm=fr 49 [(6,.int .i64 z13),(7,.bool b19)]∧σ=⟨[(0,.row (cGProp p2) 33)],1⟩) ?_ ?_
 rintro _ _ ⟨rfl,rfl⟩
 refine st ?_
 refine WPU.ret ?_
 refine st ?_
 have hr:=Option.some.inj hF
 subst hr
 exact ⟨.inr rfl,[.int .i64 z13,.bool b19],q0l rfl (q0l rfl (q0i)),.tup [.int .i64 z13,.bool b19],⟨[],0⟩,Nat.le_refl _,Gh.toR (.tup [.int .i64 z13,.bool b19]) rfl,rfl,BU.h⟩
 rcases q2r (decide (z13<(p1.length:Int))) with h14 | h14
 replace h20:=q05 h14 h20
 obtain ⟨x15,h16,h20⟩:=q00 h20
 obtain ⟨r17,h18,h20⟩:=q00 h20
 replace h20:=Option.some.inj h20
 subst h20
 refine WPU.drawE Tryz.tb_ok [] (by kernel_rfl) ?_
 repeat refine RD.mv rfl rfl rfl rfl ?_
 refine RD.q rfl (q02 rfl rfl (q18 _ _ _) rfl) (RD.mv rfl rfl rfl rfl (RD.look (want1 rfl rfl rfl h14) (q0h rfl) rfl rfl (RD.look (want1 rfl rfl rfl h14) (q0h rfl) rfl rfl (RD.look (want1 rfl rfl rfl h14) (q0h rfl) rfl rfl (RD.look (u:=.iptr (cGProp x15)) (want1 rfl rfl rfl h14) (q2a rfl rfl (q1f cGProp und57 (q01 inf33) q0b h16 rfl)) rfl rfl (RD.look (u:=.agg (cGProp x15)) (want1 rfl rfl rfl h14) (q2e und33 rfl (q01 inf33) rfl rfl) rfl rfl (RD.look (u:=.agg (cGProp p2)) (want1 rfl rfl rfl h14) (q0a und33 rfl (q01 inf33) rfl rfl rfl) rfl rfl ?_)))))))
 refine RD.free (u:=.int .i64 r17) (args:=[.agg (cGProp x15),.agg (cGProp p2)]) (want1 rfl rfl rfl h14) (q03 rfl rfl fn84 hb84 rfl rfl) (fun s=>hf2S x15 p2 r17 h18 s) rfl rfl (RD.look (want1 rfl rfl rfl h14) (q02 rfl rfl (q0j _ _ _) rfl) rfl rfl (RD.q (u:=.bool (r17 == 0)) rfl (q06 rfl h14 rfl) ?_))
 repeat refine RD.as rfl rfl rfl rfl ?_
 refine RD.done ⟨by kernel_rfl,trivial,?_⟩
 refine st ?_
 exact ⟨_,_,⟨rfl,rfl⟩,(Nat.zero_le _),Gh.toC (n1:=1) ⟨rfl,rfl,trivial⟩ rfl (Nat.zero_le _) (by simp)⟩
 replace h20:=q04 h14 h20
 replace h20:=Option.some.inj h20
 subst h20
 refine WPU.drawE Tryz.tb_ok [] (by kernel_rfl) ?_
 repeat refine RD.mv rfl rfl rfl rfl ?_
 refine RD.q rfl (q02 rfl rfl (q18 _ _ _) rfl) (RD.mv rfl rfl rfl rfl ?_)
 repeat refine RD.no (want0 rfl rfl rfl h14) rfl rfl ?_
 refine RD.q (u:=.bool false) rfl (q07 rfl h14 rfl) ?_
 repeat refine RD.as rfl rfl rfl rfl ?_
 refine RD.done ⟨by kernel_rfl,trivial,?_⟩
 refine st ?_
 exact ⟨_,_,⟨rfl,rfl⟩,(Nat.zero_le _),Gh.toC (n1:=1) ⟨rfl,rfl,trivial⟩ rfl (Nat.zero_le _) (by simp)⟩
 rintro m1 _ _ ⟨z11,z12,hF,rfl,rfl⟩
 rcases m1 with _ | m1
 cases hF
 unfold q0p at hF
 refine sr ?_
 repeat refine RS.mv rfl rfl rfl rfl ?_
 refine RS.q rfl (q02 rfl rfl (q18 _ _ _) rfl) ?_
 refine sd ?_
 refine WPU.condS (t:=(decide (z11<z12))) rfl (fun h21=>?_) (fun h21=>?_)
 replace hF:=q05 h21 hF
 refine st ?_
 refine WPU.skip ?_
 refine st ?_
 refine WPU.block ?_
 refine sr ?_
 repeat refine RS.mv rfl rfl rfl rfl ?_
 refine RS.q rfl (q02 rfl rfl (q1q _ _ _) rfl) ?_
 refine RS.q (u:=.int .u64 (IntKind.u64.wrap (IntKind.i64.wrap (z11+z12)))) rfl (op_conv rfl rfl (by simp only [convX,und3,und75]<;>rfl) rfl) ?_
 refine RS.q rfl (q02 rfl rfl (ix_shr _ (by decide)) rfl) ?_
 refine RS.q (u:=.int .i64 (IntKind.i64.wrap ((IntKind.u64.wrap (IntKind.i64.wrap (z11+z12))).fdiv (2 ^ (min (1:Int).toNat IntKind.u64.bits))))) rfl (op_conv rfl rfl (by simp only [convX,und75,und3]<;>rfl) rfl) ?_
 refine sd ?_
 obtain ⟨x23,h24,hF⟩:=q00 hF
 obtain ⟨r25,h26,hF⟩:=q00 hF
 refine WPU.drawE Tryz.tb_ok [] (by kernel_rfl) ?_
 repeat refine RD.mv rfl rfl rfl rfl ?_
 refine RD.q (u:=.iptr (cGProp x23)) rfl (q2a rfl rfl (q1f cGProp und57 (q01 inf33) q0b h24 rfl)) (RD.q (u:=.agg (cGProp x23)) rfl (q2e und33 rfl (q01 inf33) rfl rfl) (RD.q (u:=.agg (cGProp p2)) rfl (q0a und33 rfl (q01 inf33) rfl rfl rfl) (RD.free (u:=.int .i64 r25) (args:=[.agg (cGProp x23),.agg (cGProp p2)]) rfl (q03 rfl rfl fn84 hb84 rfl rfl) (fun s=>hf2S x23 p2 r25 h26 s) rfl rfl (RD.q rfl (q02 rfl rfl (q18 _ _ _) rfl) ?_))))
 refine RD.done ⟨by kernel_rfl,trivial,?_⟩
 refine st ?_
 refine WPU.joinK (fun tm σ=>∃ z28:Int,∃ z29:Int,q1g (q0p p1 p2 f2 m1) z28 z29=some r∧tm=fr 49 [(0,.isl false (List.map cGProp p1)),(2,.fn (.func 84) [] []),(4,.ptr 0 0 0),(8,.int .i64 (p1.length:Int)),(9,.int .i64 z28),(10,.int .i64 z29)]∧σ=⟨[(0,.row (cGProp p2) 33)],1⟩) ?_ ?_
 rintro _ _ ⟨z28,z29,hF,rfl,rfl⟩
 unfold q1g at hF
 refine st ?_
 exact ⟨m1,_,_,Nat.lt_succ_self _,⟨z28,z29,hF,rfl,rfl⟩,(Nat.zero_le _),Gh.toC (n1:=1) ⟨rfl,rfl,rfl,rfl,rfl,rfl,trivial⟩ rfl (Nat.zero_le _) (by simp)⟩
 refine WPU.condS (t:=(decide (r25<0))) rfl (fun h27=>?_) (fun h27=>?_)
 replace hF:=q05 h27 hF
 refine sr ?_
 refine RS.q rfl (q02 rfl rfl (q1q _ _ _) rfl) ?_
 refine sd ?_
 exact ⟨_,_,⟨(IntKind.i64.wrap ((IntKind.i64.wrap ((IntKind.u64.wrap (IntKind.i64.wrap (z11+z12))).fdiv (2 ^ (min (1:Int).toNat IntKind.u64.bits))))+1)),z12,hF,rfl,rfl⟩,(Nat.zero_le _),Gh.toC (n1:=1) ⟨rfl,rfl,rfl,rfl,rfl,rfl,trivial⟩ rfl (Nat.zero_le _) (by simp)⟩
 replace hF:=q04 h27 hF
 refine sr ?_
 refine sd ?_
 exact ⟨_,_,⟨z11,(IntKind.i64.wrap ((IntKind.u64.wrap (IntKind.i64.wrap (z11+z12))).fdiv (2 ^ (min (1:Int).toNat IntKind.u64.bits)))),hF,rfl,rfl⟩,(Nat.zero_le _),Gh.toC (n1:=1) ⟨rfl,rfl,rfl,rfl,rfl,rfl,trivial⟩ rfl (Nat.zero_le _) (by simp)⟩
 replace hF:=q04 h21 hF
 refine st ?_
 refine WPU.exit ?_
 refine st ?_
 exact ⟨_,_,⟨z11,hF,rfl,rfl⟩,(Nat.zero_le _),Gh.toC (n1:=1) ⟨rfl,rfl,rfl,rfl,rfl,trivial⟩ rfl (Nat.zero_le _) (by simp)⟩
theorem q7m (f2:GProp→GProp→Option (Int)) (hf2:∀ (a0:GProp) (a1:GProp) (r:Int),f2 a0 a1=some r→EvU Tryz.prog 84 [.agg (cGProp a0),.agg (cGProp a1)] ⟨[],0⟩ (fun u _=>u = .int .i64 r∧Bel 0 u)) (n:Nat) (p1:List GProp) (p2:GProp) (r:Int×Bool) (hF:q1r f2 n p1 p2=some r) (σ:Sg):EvU Tryz.prog 85 [.isl false (List.map cGProp p1),.agg (cGProp p2),.fn (.func 84) [] []] σ (fun u σ'=>u = .tup [.int .i64 r.1,.bool r.2]∧σ'=σ) :=
 EvU.pure1C (q7v f2 hf2 n p1 p2 r hF) σ
def q9x   : Option (Int) :=
 some 0
def q51 (p1:List Int):Nat→Int→Option (Int)
 | 0,_=>none
 | m1+1,z6 =>
  cond (decide (z6<(p1.length:Int)))
   (bindO (idxO p1 z6) fun x8 =>
   cond (x8 != 0)
    (some x8)
    ((q51 p1 m1) (IntKind.i64.wrap (z6+1))))
   (q9x)
def q86 (n:Nat) (p1:List Int):Option (Int) :=
 q51 p1 n 0
theorem qfm (n:Nat) (p1:List Int) (r:Int) (hF:q86 n p1=some r):EvU Tryz.prog 49 [.isl false (List.map (cI .i64) p1)] ⟨[],0⟩ (fun u _=>u = .int .i64 r∧Bel 0 u):=by
 unfold q86 at hF
 refine EvU.of_body Tryz.tb_ok fn49 rfl ?_
 refine WPU.ghost (tm':=fr 18 [(0,.isl false (List.map (cI .i64) p1))]) (Gh.start (Nat.le_of_ble_eq_true rfl)) (Nat.zero_le _) ?_
 refine sr ?_
 refine se ?_
 refine se ?_
 refine RS.q rfl (q0k rfl rfl rfl (q0g (cI .i64) und55)) (RS.mv rfl rfl rfl rfl ?_)
 refine sd ?_
 refine WPU.ghost (tm':=fr 18 [(3,.int .i64 0),(6,.isl false (List.map (cI .i64) p1)),(7,.int .i64 (p1.length:Int)),(8,.int .i64 0)]) (Gh.sub ⟨rfl,rfl,rfl,rfl,trivial⟩) (Nat.zero_le _) ?_
 refine WPU.loopK (fun m tm σ=>∃ z6:Int,q51 p1 m z6=some r∧tm=fr 18 [(3,.int .i64 0),(6,.isl false (List.map (cI .i64) p1)),(7,.int .i64 (p1.length:Int)),(8,.int .i64 z6)]∧σ=⟨[],0⟩) (fun tm σ=>q9x=some r∧tm=fr 18 [(3,.int .i64 0)]∧σ=⟨[],0⟩) n ⟨0,hF,rfl,rfl⟩ ?_ ?_
 rintro _ _ ⟨hF,rfl,rfl⟩
 unfold q9x at hF
 refine sr ?_
 refine sd ?_
 refine WPU.ret ?_
 refine st ?_
 have hr:=Option.some.inj hF
 subst hr
 exact ⟨.inr rfl,[.int .i64 0],q0l rfl (q0i),.int .i64 0,⟨[],0⟩,Nat.le_refl _,Gh.toR (.int .i64 0) rfl,rfl,BU.h⟩
 rintro m1 _ _ ⟨z6,hF,rfl,rfl⟩
 rcases m1 with _ | m1
 cases hF
 unfold q51 at hF
 refine sr ?_
 refine RS.q rfl (q02 rfl rfl (q18 _ _ _) rfl) ?_
 refine sd ?_
 refine WPU.condS (t:=(decide (z6<(p1.length:Int)))) rfl (fun h7=>?_) (fun h7=>?_)
 replace hF:=q05 h7 hF
 refine st ?_
 refine WPU.skip ?_
 refine st ?_
 refine WPU.block ?_
 refine st ?_
 obtain ⟨x8,h9,hF⟩:=q00 hF
 refine sr ?_
 refine RS.q (u:=.iptr [.int .i64 x8]) rfl (q2a rfl rfl (q1f (cI .i64) und55 (q01 inf3) (qec .i64) h9 rfl)) (RS.q (u:=.int .i64 x8) rfl (q90 und3 rfl rfl rfl) ?_)
 refine se ?_
 repeat refine RS.mv rfl rfl rfl rfl ?_
 refine RS.q rfl (q02 rfl rfl (q52 _ _ _) rfl) ?_
 refine sd ?_
 refine WPU.condS (t:=(x8 != 0)) rfl (fun h10=>?_) (fun h10=>?_)
 replace hF:=q05 h10 hF
 refine sr ?_
 refine sd ?_
 refine WPU.ret ?_
 refine st ?_
 have hr:=Option.some.inj hF
 subst hr
 exact ⟨.inr rfl,[.int .i64 x8],q0l rfl (q0i),.int .i64 x8,⟨[],0⟩,Nat.le_refl _,Gh.toR (.int .i64 x8) rfl,rfl,BU.h⟩
 replace hF:=q04 h10 hF
 refine st ?_
 refine WPU.skip ?_
 refine sr ?_
 refine RS.q rfl (q02 rfl rfl (q1q _ _ _) rfl) (RS.mv rfl rfl rfl rfl ?_)
 refine sd ?_
 exact ⟨m1,_,_,Nat.lt_succ_self _,⟨(IntKind.i64.wrap (z6+1)),hF,rfl,rfl⟩,(Nat.zero_le _),Gh.toC (n1:=0) ⟨rfl,rfl,rfl,rfl,trivial⟩ rfl (Nat.zero_le _) (by simp)⟩
 replace hF:=q04 h7 hF
 refine st ?_
 refine WPU.exit ?_
 refine st ?_
 exact ⟨_,_,⟨hF,rfl,rfl⟩,(Nat.zero_le _),Gh.toC (n1:=0) ⟨rfl,trivial⟩ rfl (Nat.zero_le _) (by simp)⟩
def q75 (n:Nat) (p1:Int):Option (Bool) :=
 some (p1 != p1)
theorem qh4 (n:Nat) (p1:Int) (r:Bool) (hF:q75 n p1=some r):EvU Tryz.prog 78 [.int .i64 p1] ⟨[],0⟩ (fun u _=>u = .bool r∧Bel 0 u):=by
 unfold q75 at hF
 refine EvU.of_body Tryz.tb_ok fn78 rfl ?_
 refine WPU.ghost (tm':=fr 6 [(0,.int .i64 p1)]) (Gh.start (Nat.le_of_ble_eq_true rfl)) (Nat.zero_le _) ?_
 refine sr ?_
 refine se ?_
 repeat refine RS.mv rfl rfl rfl rfl ?_
 refine RS.q rfl (q02 rfl rfl (q52 _ _ _) rfl) ?_
 refine sd ?_
 refine WPU.ret ?_
 refine st ?_
 have hr:=Option.some.inj hF
 subst hr
 exact ⟨.inr rfl,[.bool (p1 != p1)],q0l rfl (q0i),.bool (p1 != p1),⟨[],0⟩,Nat.le_refl _,Gh.toR (.bool (p1 != p1)) rfl,rfl,BU.h⟩
theorem qbw (n:Nat) (p1:Int) (r:Bool) (hF:q75 n p1=some r) (σ:Sg):EvU Tryz.prog 78 [.int .i64 p1] σ (fun u σ'=>u = .bool r∧σ'=σ) :=
 EvU.pure1C (qh4 n p1 r hF) σ
def q2v (n:Nat) (p1:Int) (p2:Int):Option (Int) :=
 bindO (q75 n p1) fun r3 =>
 bindO (q75 n p2) fun r5 =>
 cond r3
  (cond r5
   (some 0)
   (some (-1)))
  (cond r5
   (some 1)
   (cond (decide (p1<p2))
    (some (-1))
    (cond (decide (p1 > p2))
     (some 1)
     (some 0))))
theorem qf5 (n:Nat) (p1:Int) (p2:Int) (r:Int) (hF:q2v n p1 p2=some r):EvU Tryz.prog 50 [.int .i64 p1,.int .i64 p2] ⟨[],0⟩ (fun u _=>u = .int .i64 r∧Bel 0 u):=by
 unfold q2v at hF
 refine EvU.of_body Tryz.tb_ok fn50 rfl ?_
 refine WPU.ghost (tm':=fr 20 [(0,.int .i64 p1),(1,.int .i64 p2)]) (Gh.start (Nat.le_of_ble_eq_true rfl)) (Nat.zero_le _) ?_
 refine sr ?_
 refine sd ?_
 obtain ⟨r3,h4,hF⟩:=q00 hF
 refine sr ?_
 refine RS.call (u:=.bool r3) (args:=[.int .i64 p1]) rfl (q03 rfl rfl fn78 hb78 rfl rfl) (qbw n p1 r3 h4 _) rfl rfl ?_
 refine sd ?_
 obtain ⟨r5,h6,hF⟩:=q00 hF
 refine sr ?_
 refine RS.call (u:=.bool r5) (args:=[.int .i64 p2]) rfl (q03 rfl rfl fn78 hb78 rfl rfl) (qbw n p2 r5 h6 _) rfl rfl ?_
 refine se ?_
 refine sd ?_
 refine WPU.condS (t:=r3) rfl (fun h7=>?_) (fun h7=>?_)
 replace hF:=q05 h7 hF
 refine sr ?_
 refine sd ?_
 refine WPU.condS (t:=r5) rfl (fun h8=>?_) (fun h8=>?_)
 replace hF:=q05 h8 hF
 refine sr ?_
 refine sd ?_
 refine WPU.ret ?_
 refine st ?_
 have hr:=Option.some.inj hF
 subst hr
 exact ⟨.inr rfl,[.int .i64 0],q0l rfl (q0i),.int .i64 0,⟨[],0⟩,Nat.le_refl _,Gh.toR (.int .i64 0) rfl,rfl,BU.h⟩
 replace hF:=q04 h8 hF
 refine st ?_
 refine WPU.skip ?_
 refine sr ?_
 refine sd ?_
 refine WPU.ret ?_
 refine st ?_
 have hr:=Option.some.inj hF
 subst hr
 exact ⟨.inr rfl,[.int .i64 (-1)],q0l rfl (q0i),.int .i64 (-1),⟨[],0⟩,Nat.le_refl _,Gh.toR (.int .i64 (-1)) rfl,rfl,BU.h⟩
 replace hF:=q04 h7 hF
 refine st ?_
 refine WPU.skip ?_
 refine sr ?_
 refine sd ?_
 refine WPU.condS (t:=r5) rfl (fun h9=>?_) (fun h9=>?_)
 replace hF:=q05 h9 hF
 refine sr ?_
 refine sd ?_
 refine WPU.ret ?_
 refine st ?_
 have hr:=Option.some.inj hF
 subst hr
 exact ⟨.inr rfl,[.int .i64 1],q0l rfl (q0i),.int .i64 1,⟨[],0⟩,Nat.le_refl _,Gh.toR (.int .i64 1) rfl,rfl,BU.h⟩
 replace hF:=q04 h9 hF
 refine st ?_
 refine WPU.skip ?_
 refine sr ?_
 repeat refine RS.mv rfl rfl rfl rfl ?_
 refine RS.q rfl (q02 rfl rfl (q18 _ _ _) rfl) ?_
 refine sd ?_
 refine WPU.condS (t:=(decide (p1<p2))) rfl (fun h10=>?_) (fun h10=>?_)
 replace hF:=q05 h10 hF
 refine sr ?_
 refine sd ?_
 refine WPU.ret ?_
 refine st ?_
 have hr:=Option.some.inj hF
 subst hr
 exact ⟨.inr rfl,[.int .i64 (-1)],q0l rfl (q0i),.int .i64 (-1),⟨[],0⟩,Nat.le_refl _,Gh.toR (.int .i64 (-1)) rfl,rfl,BU.h⟩
 replace hF:=q04 h10 hF
 refine st ?_
 refine WPU.skip ?_
 refine sr ?_
 repeat refine RS.mv rfl rfl rfl rfl ?_
 refine RS.q rfl (q02 rfl rfl (qhi _ _ _) rfl) ?_
 refine sd ?_
 refine WPU.condS (t:=(decide (p1 > p2))) rfl (fun h11=>?_) (fun h11=>?_)
 replace hF:=q05 h11 hF
 refine sr ?_
 refine sd ?_
 refine WPU.ret ?_
 refine st ?_
 have hr:=Option.some.inj hF
 subst hr
 exact ⟨.inr rfl,[.int .i64 1],q0l rfl (q0i),.int .i64 1,⟨[],0⟩,Nat.le_refl _,Gh.toR (.int .i64 1) rfl,rfl,BU.h⟩
 replace hF:=q04 h11 hF
 refine st ?_
 refine WPU.skip ?_
 refine sr ?_
 refine sd ?_
 refine WPU.ret ?_
 refine st ?_
 have hr:=Option.some.inj hF
 subst hr
 exact ⟨.inr rfl,[.int .i64 0],q0l rfl (q0i),.int .i64 0,⟨[],0⟩,Nat.le_refl _,Gh.toR (.int .i64 0) rfl,rfl,BU.h⟩
theorem q4e (n:Nat) (p1:Int) (p2:Int) (r:Int) (hF:q2v n p1 p2=some r) (σ:Sg):EvU Tryz.prog 50 [.int .i64 p1,.int .i64 p2] σ (fun u σ'=>u = .int .i64 r∧σ'=σ) :=
 EvU.pure1C (qf5 n p1 p2 r hF) σ
def q4w (n:Nat) (p1:List UInt8):Option (Bool) :=
 some (!bytesEq p1 p1)
theorem qe1 (n:Nat) (p1:List UInt8) (r:Bool) (hF:q4w n p1=some r):EvU Tryz.prog 79 [.str p1] ⟨[],0⟩ (fun u _=>u = .bool r∧Bel 0 u):=by
 unfold q4w at hF
 refine EvU.of_body Tryz.tb_ok fn79 rfl ?_
 refine WPU.ghost (tm':=fr 6 [(0,.str p1)]) (Gh.start (Nat.le_of_ble_eq_true rfl)) (Nat.zero_le _) ?_
 refine sr ?_
 refine se ?_
 repeat refine RS.mv rfl rfl rfl rfl ?_
 refine RS.q (u:=.bool (!bytesEq p1 p1)) rfl (qau rfl rfl rfl rfl) ?_
 refine sd ?_
 refine WPU.ret ?_
 refine st ?_
 have hr:=Option.some.inj hF
 subst hr
 exact ⟨.inr rfl,[.bool (!bytesEq p1 p1)],q0l rfl (q0i),.bool (!bytesEq p1 p1),⟨[],0⟩,Nat.le_refl _,Gh.toR (.bool (!bytesEq p1 p1)) rfl,rfl,BU.h⟩
theorem qah (n:Nat) (p1:List UInt8) (r:Bool) (hF:q4w n p1=some r) (σ:Sg):EvU Tryz.prog 79 [.str p1] σ (fun u σ'=>u = .bool r∧σ'=σ) :=
 EvU.pure1C (qe1 n p1 r hF) σ
def q3h (n:Nat) (p1:List UInt8) (p2:List UInt8):Option (Int) :=
 bindO (q4w n p1) fun r3 =>
 bindO (q4w n p2) fun r5 =>
 cond r3
  (cond r5
   (some 0)
   (some (-1)))
  (cond r5
   (some 1)
   (cond (bytesLt p1 p2)
    (some (-1))
    (cond (!(bytesLt p1 p2 || bytesEq p1 p2))
     (some 1)
     (some 0))))
theorem qcv (n:Nat) (p1:List UInt8) (p2:List UInt8) (r:Int) (hF:q3h n p1 p2=some r):EvU Tryz.prog 51 [.str p1,.str p2] ⟨[],0⟩ (fun u _=>u = .int .i64 r∧Bel 0 u):=by
 unfold q3h at hF
 refine EvU.of_body Tryz.tb_ok fn51 rfl ?_
 refine WPU.ghost (tm':=fr 20 [(0,.str p1),(1,.str p2)]) (Gh.start (Nat.le_of_ble_eq_true rfl)) (Nat.zero_le _) ?_
 refine sr ?_
 refine sd ?_
 obtain ⟨r3,h4,hF⟩:=q00 hF
 refine sr ?_
 refine RS.call (u:=.bool r3) (args:=[.str p1]) rfl (q03 rfl rfl fn79 hb79 rfl rfl) (qah n p1 r3 h4 _) rfl rfl ?_
 refine sd ?_
 obtain ⟨r5,h6,hF⟩:=q00 hF
 refine sr ?_
 refine RS.call (u:=.bool r5) (args:=[.str p2]) rfl (q03 rfl rfl fn79 hb79 rfl rfl) (qah n p2 r5 h6 _) rfl rfl ?_
 refine se ?_
 refine sd ?_
 refine WPU.condS (t:=r3) rfl (fun h7=>?_) (fun h7=>?_)
 replace hF:=q05 h7 hF
 refine sr ?_
 refine sd ?_
 refine WPU.condS (t:=r5) rfl (fun h8=>?_) (fun h8=>?_)
 replace hF:=q05 h8 hF
 refine sr ?_
 refine sd ?_
 refine WPU.ret ?_
 refine st ?_
 have hr:=Option.some.inj hF
 subst hr
 exact ⟨.inr rfl,[.int .i64 0],q0l rfl (q0i),.int .i64 0,⟨[],0⟩,Nat.le_refl _,Gh.toR (.int .i64 0) rfl,rfl,BU.h⟩
 replace hF:=q04 h8 hF
 refine st ?_
 refine WPU.skip ?_
 refine sr ?_
 refine sd ?_
 refine WPU.ret ?_
 refine st ?_
 have hr:=Option.some.inj hF
 subst hr
 exact ⟨.inr rfl,[.int .i64 (-1)],q0l rfl (q0i),.int .i64 (-1),⟨[],0⟩,Nat.le_refl _,Gh.toR (.int .i64 (-1)) rfl,rfl,BU.h⟩
 replace hF:=q04 h7 hF
 refine st ?_
 refine WPU.skip ?_
 refine sr ?_
 refine sd ?_
 refine WPU.condS (t:=r5) rfl (fun h9=>?_) (fun h9=>?_)
 replace hF:=q05 h9 hF
 refine sr ?_
 refine sd ?_
 refine WPU.ret ?_
 refine st ?_
 have hr:=Option.some.inj hF
 subst hr
 exact ⟨.inr rfl,[.int .i64 1],q0l rfl (q0i),.int .i64 1,⟨[],0⟩,Nat.le_refl _,Gh.toR (.int .i64 1) rfl,rfl,BU.h⟩
 replace hF:=q04 h9 hF
 refine st ?_
 refine WPU.skip ?_
 refine sr ?_
 repeat refine RS.mv rfl rfl rfl rfl ?_
 refine RS.q (u:=.bool (bytesLt p1 p2)) rfl (qau rfl rfl rfl rfl) ?_
 refine sd ?_
 refine WPU.condS (t:=(bytesLt p1 p2)) rfl (fun h10=>?_) (fun h10=>?_)
 replace hF:=q05 h10 hF
 refine sr ?_
 refine sd ?_
 refine WPU.ret ?_
 refine st ?_
 have hr:=Option.some.inj hF
 subst hr
 exact ⟨.inr rfl,[.int .i64 (-1)],q0l rfl (q0i),.int .i64 (-1),⟨[],0⟩,Nat.le_refl _,Gh.toR (.int .i64 (-1)) rfl,rfl,BU.h⟩
 replace hF:=q04 h10 hF
 refine st ?_
 refine WPU.skip ?_
 refine sr ?_
 repeat refine RS.mv rfl rfl rfl rfl ?_
 refine RS.q (u:=.bool (!(bytesLt p1 p2 || bytesEq p1 p2))) rfl (qau rfl rfl rfl rfl) ?_
 refine sd ?_
 refine WPU.condS (t:=(!(bytesLt p1 p2 || bytesEq p1 p2))) rfl (fun h11=>?_) (fun h11=>?_)
 replace hF:=q05 h11 hF
 refine sr ?_
 refine sd ?_
 refine WPU.ret ?_
 refine st ?_
 have hr:=Option.some.inj hF
 subst hr
 exact ⟨.inr rfl,[.int .i64 1],q0l rfl (q0i),.int .i64 1,⟨[],0⟩,Nat.le_refl _,Gh.toR (.int .i64 1) rfl,rfl,BU.h⟩
 replace hF:=q04 h11 hF
 refine st ?_
 refine WPU.skip ?_
 refine sr ?_
 refine sd ?_
 refine WPU.ret ?_
 refine st ?_
 have hr:=Option.some.inj hF
 subst hr
 exact ⟨.inr rfl,[.int .i64 0],q0l rfl (q0i),.int .i64 0,⟨[],0⟩,Nat.le_refl _,Gh.toR (.int .i64 0) rfl,rfl,BU.h⟩
theorem q9m (n:Nat) (p1:List UInt8) (p2:List UInt8) (r:Int) (hF:q3h n p1 p2=some r) (σ:Sg):EvU Tryz.prog 51 [.str p1,.str p2] σ (fun u σ'=>u = .int .i64 r∧σ'=σ) :=
 EvU.pure1C (qcv n p1 p2 r hF) σ
def q88 (n:Nat) (p1:GProp) (p2:GProp):Option (Int) :=
 bindO (q2v n p1.From p2.From) fun r3 =>
 bindO (q2v n p1.To p2.To) fun r5 =>
 bindO (q2v n p1.Kind p2.Kind) fun r7 =>
 bindO (q3h n p1.Name p2.Name) fun r9 =>
 bindO (q86 n ([r3,r5,r7,r9])) fun r11 =>
 some r11
theorem qc6 (n:Nat) (p1:GProp) (p2:GProp) (r:Int) (hF:q88 n p1 p2=some r):EvU Tryz.prog 84 [.agg (cGProp p1),.agg (cGProp p2)] ⟨[],0⟩ (fun u _=>u = .int .i64 r∧Bel 0 u):=by
 unfold q88 at hF
 refine EvU.of_body Tryz.tb_ok fn84 rfl ?_
 refine WPU.ghost (tm':=fr 27 [(0,.agg (cGProp p1)),(1,.agg (cGProp p2))]) (Gh.start (Nat.le_of_ble_eq_true rfl)) (Nat.zero_le _) ?_
 refine sr ?_
 refine RS.q (u:=.ptr 0 0 0) (σ':=⟨[(0,.row (cGProp p1) 33)],1⟩) rfl (q2j rfl rfl rfl) (RS.q (u:=.ptr 1 0 0) (σ':=⟨[(1,.row (cGProp p2) 33),(0,.row (cGProp p1) 33)],2⟩) rfl (q2j rfl rfl rfl) ?_)
 refine sd ?_
 obtain ⟨r3,h4,hF⟩:=q00 hF
 obtain ⟨r5,h6,hF⟩:=q00 hF
 obtain ⟨r7,h8,hF⟩:=q00 hF
 obtain ⟨r9,h10,hF⟩:=q00 hF
 obtain ⟨r11,h12,hF⟩:=q00 hF
 refine WPU.drawE Tryz.tb_ok [] (by kernel_rfl) ?_
 refine RD.q (u:=.ptr 0 0 2) rfl (q0c und33 rfl (q01 inf3) rfl rfl rfl) (RD.q (u:=.int .i64 p1.From) rfl (q09 und3 rfl rfl rfl rfl) (RD.q (u:=.ptr 1 0 2) rfl (q0c und33 rfl (q01 inf3) rfl rfl rfl) (RD.q (u:=.int .i64 p2.From) rfl (q09 und3 rfl rfl rfl rfl) (RD.free (u:=.int .i64 r3) (args:=[.int .i64 p1.From,.int .i64 p2.From]) rfl (q03 rfl rfl fn50 hb50 rfl rfl) (fun s=>q4e n p1.From p2.From r3 h4 s) rfl rfl (RD.q (u:=.ptr 0 0 3) rfl (q0c und33 rfl (q01 inf3) rfl rfl rfl) (RD.q (u:=.int .i64 p1.To) rfl (q09 und3 rfl rfl rfl rfl) (RD.q (u:=.ptr 1 0 3) rfl (q0c und33 rfl (q01 inf3) rfl rfl rfl) ?_)))))))
 refine RD.q (u:=.int .i64 p2.To) rfl (q09 und3 rfl rfl rfl rfl) (RD.free (u:=.int .i64 r5) (args:=[.int .i64 p1.To,.int .i64 p2.To]) rfl (q03 rfl rfl fn50 hb50 rfl rfl) (fun s=>q4e n p1.To p2.To r5 h6 s) rfl rfl (RD.q (u:=.ptr 0 0 0) rfl (q0c und33 rfl (q01 inf3) rfl rfl rfl) (RD.q (u:=.int .i64 p1.Kind) rfl (q09 und3 rfl rfl rfl rfl) (RD.q (u:=.ptr 1 0 0) rfl (q0c und33 rfl (q01 inf3) rfl rfl rfl) (RD.q (u:=.int .i64 p2.Kind) rfl (q09 und3 rfl rfl rfl rfl) (RD.free (u:=.int .i64 r7) (args:=[.int .i64 p1.Kind,.int .i64 p2.Kind]) rfl (q03 rfl rfl fn50 hb50 rfl rfl) (fun s=>q4e n p1.Kind p2.Kind r7 h8 s) rfl rfl (RD.q (u:=.ptr 0 0 1) rfl (q0c und33 rfl (q01 inf9) rfl rfl rfl) ?_)))))))
 refine RD.q (u:=.str p1.Name) rfl (q09 und9 rfl rfl rfl rfl) (RD.q (u:=.ptr 1 0 1) rfl (q0c und33 rfl (q01 inf9) rfl rfl rfl) (RD.q (u:=.str p2.Name) rfl (q09 und9 rfl rfl rfl rfl) (RD.free (u:=.int .i64 r9) (args:=[.str p1.Name,.str p2.Name]) rfl (q03 rfl rfl fn51 hb51 rfl rfl) (fun s=>q9m n p1.Name p2.Name r9 h10 s) rfl rfl (RD.act (u:=.sl 2 0 4 4) (σ':=⟨[(2,.row [.int .i64 r3,.int .i64 r5,.int .i64 r7,.int .i64 r9] 3),(1,.row (cGProp p2) 33),(0,.row (cGProp p1) 33)],3⟩) rfl (q4g und55 inf3 rfl rfl rfl rfl rfl rfl rfl) rfl rfl ?_))))
 refine RD.call (u:=.int .i64 r11) (args:=[.sl 2 0 4 4]) rfl (q03 rfl rfl fn49 hb49 rfl rfl) (EvU.view (qfm n ([r3,r5,r7,r9]) r11 h12) BUL.h (by simp only [toV,toVL,okL,okC,cond_true]<;>rfl) (fun m=>by simp [ren,renL]) (Gh.fz (tm':=[.isl false (List.map (cI .i64) ([r3,r5,r7,r9]))]) (h':=[(1,.row (cGProp p2) 33),(0,.row (cGProp p1) 33)]) 2 (.row [.int .i64 r3,.int .i64 r5,.int .i64 r7,.int .i64 r9] 3) 1 rfl (by simp) (by simp only [oneU,q0y,q0o,q1z,q11,q22,q15,q14,q13,q12,q10,q20,q21,q1y,q23,q3k,junkT,q96,q9p,q3x,Nat.reduceLeDiff,Nat.reduceMul,List.length_cons,List.length_nil,Nat.reduceAdd]<;>simp only [chunks,List.take,List.drop,List.map,cI,cB,cS,cL]) (by simp only [fzH,fzB,ug,Nat.beq,cond_true,cond_false,oneU,q0y,q0o,q1z,q11,q22,q15,q14,q13,q12,q10,q20,q21,q1y,q23,q3k,junkT,q96,q9p,q3x,Nat.reduceLeDiff,Nat.reduceMul,List.length_cons,List.length_nil,Nat.reduceAdd]<;>simp only [chunks,List.take,List.drop,List.map,cI,cB,cS,cL]))) rfl rfl ?_
 refine RD.as rfl rfl rfl rfl ?_
 refine RD.done ⟨by kernel_rfl,trivial,?_⟩
 refine st ?_
 refine WPU.ret ?_
 refine st ?_
 have hr:=Option.some.inj hF
 subst hr
 exact ⟨.inr rfl,[.int .i64 r11],q0l rfl (q0i),.int .i64 r11,⟨[],0⟩,Nat.le_refl _,Gh.toR (.int .i64 r11) rfl,rfl,BU.h⟩
def q8r  (l24:List GProp):Option ((List GProp)) :=
 some l24
def q4n (p2:GDeriv) (self:(List GProp)→GDeriv→Option ((List GProp))):Nat→Int→(List GProp)→Option ((List GProp))
 | 0,_,_=>none
 | m2+1,z21,l22 =>
  cond (decide (z21<(p2.Kids.length:Int)))
   (bindO (idxO p2.Kids z21) fun x27 =>
   bindO (self l22 x27) fun r29 =>
   (q4n p2 self m2) (IntKind.i64.wrap (z21+1)) r29)
   (q8r l22)
def q6t (p2:GDeriv) (n:Nat) (self:(List GProp)→GDeriv→Option ((List GProp))) (z4:Int) (l5:List GProp):Option ((List GProp)) :=
 q4n p2 self n 0 l5
def q6u (p2:GDeriv) (n:Nat) (self:(List GProp)→GDeriv→Option ((List GProp))) (z34:Int) (l35:List GProp):Option ((List GProp)) :=
 q6t p2 n self z34 l35
def q6v (p2:GDeriv) (n:Nat) (self:(List GProp)→GDeriv→Option ((List GProp))) (z39:Int) (l40:List GProp):Option ((List GProp)) :=
 q6u p2 n self z39 l40
def qb2 (n:Nat) (self:(List GProp)→GDeriv→Option ((List GProp))) (p1:List GProp) (p2:GDeriv):Option ((List GProp)) :=
 cond (p2.Kind == 0)
  (needO ((p1.length+1)*40≤140737488355328∧p1.length+1≤140737488355328) (
  q6t p2 n self 0 (p1++[(GProp.mk 0 p2.Name p2.From p2.To)])))
  (cond (p2.Kind == 1)
   (needO ((p1.length+1)*40≤140737488355328∧p1.length+1≤140737488355328) (
   q6u p2 n self 1 (p1++[(GProp.mk 1 p2.Name p2.From p2.To)])))
   (cond (p2.Kind == 2)
    (needO ((p1.length+2)*40≤140737488355328∧p1.length+2≤140737488355328) (
    q6v p2 n self 2 (p1++[(GProp.mk 2 p2.Name p2.From p2.To),(GProp.mk 3 [] p2.From p2.To)])))
    (q6v p2 n self 0 p1)))
def q30:Nat→(List GProp)→GDeriv→Option ((List GProp))
 | 0,_,_=>none
 | n+1,p1,p2=>qb2 n (q30 n) p1 p2
theorem qd2:∀ (n:Nat) (p1:List GProp) (p2:GDeriv) (r:(List GProp)),q30 n p1 p2=some r→∀ t0,EvU Tryz.prog 94 [.vl 0 t0 0 p1.length,.agg (xGDeriv p2)] ⟨[(0,.vec (List.map cGProp p1).flatten 33 4 t0)],1⟩ (fun u σ'=>∃ t,u = .vl 0 t 0 r.length∧σ'=⟨[(0,.vec (List.map cGProp r).flatten 33 4 t)],1⟩)
 | 0,p1,p2,r,hF=>by cases hF
 | n+1,p1,p2,r,hF=>by
  have ih:=qd2 n
  have ihS:∀ (p1:List GProp) (p2:GDeriv) (r:(List GProp)),q30 n p1 p2=some r→∀ (σ:Sg) {K t0:Nat},Nat.blt K σ.nx=true→gt σ.h K=some (.vec (List.map cGProp p1).flatten 33 4 t0)→EvU Tryz.prog 94 [.vl K t0 0 p1.length,.agg (xGDeriv p2)] σ (fun u σ'=>∃ t,u = .vl K t 0 r.length∧σ'=⟨ug σ.h K (.vec (List.map cGProp r).flatten 33 4 t),σ.nx⟩):=fun p1 p2 r h σ K t0 hK hg=>EvU.acc1 cGProp (BF.h 0) (BUL.h) (ih p1 p2 r h) σ hK hg
  unfold q30 qb2 at hF
  intro t0
  refine EvU.of_body Tryz.tb_ok fn94 rfl ?_
  refine WPU.ghost (tm':=fr 55 [(0,.vl 0 t0 0 p1.length),(1,.agg (xGDeriv p2))]) (Gh.start (Nat.le_of_ble_eq_true rfl)) (Nat.le_refl _) ?_
  refine sr ?_
  refine RS.q (u:=.ptr 1 0 0) (σ':=⟨[(1,.row (xGDeriv p2) 43),(0,.vec (List.map cGProp p1).flatten 33 4 t0)],2⟩) rfl (q2j rfl rfl rfl) ?_
  refine se ?_
  refine RS.q (u:=.ptr 1 0 1) rfl (q0c und43 rfl (q01 inf9) rfl rfl rfl) (RS.q (u:=.str p2.Name) rfl (q09 und9 rfl rfl rfl rfl) (RS.q (u:=.ptr 1 0 2) rfl (q0c und43 rfl (q01 inf3) rfl rfl rfl) (RS.q (u:=.int .i64 p2.From) rfl (q09 und3 rfl rfl rfl rfl) (RS.q (u:=.ptr 1 0 3) rfl (q0c und43 rfl (q01 inf3) rfl rfl rfl) (RS.q (u:=.int .i64 p2.To) rfl (q09 und3 rfl rfl rfl rfl) (RS.q (u:=.agg [.int .i64 0,.str p2.Name,.int .i64 p2.From,.int .i64 p2.To]) rfl (q4d bd33 rfl rfl rfl) (RS.q (u:=.ptr 2 0 0) (σ':=⟨[(2,.row [.int .i64 0,.str [],.int .i64 0,.int .i64 0] 33),(1,.row (xGDeriv p2) 43),(0,.vec (List.map cGProp p1).flatten 33 4 t0)],3⟩) rfl (q0v inf33 rfl rfl) ?_)))))))
  refine RS.opn (u:=.junk) (σ':=⟨[(2,.row [.int .i64 0,.str p2.Name,.int .i64 p2.From,.int .i64 p2.To] 33),(1,.row (xGDeriv p2) 43),(0,.vec (List.map cGProp p1).flatten 33 4 t0)],3⟩) rfl (q0d (q01 inf33) rfl rfl rfl rfl rfl rfl rfl rfl) rfl ?_
  refine se ?_
  refine RS.q (u:=.ptr 1 0 0) rfl (q0c und43 rfl (q01 inf3) rfl rfl rfl) (RS.q (u:=.int .i64 p2.Kind) rfl (q09 und3 rfl rfl rfl rfl) ?_)
  refine sd ?_
  refine WPU.block ?_
  refine sr ?_
  refine RS.q rfl (q02 rfl rfl (q0j _ _ _) rfl) ?_
  refine sd ?_
  refine WPU.joinK (fun tm σ=>∃ z4:Int,∃ l5:List GProp,∃ t6:Nat,q6t p2 n (q30 n) z4 l5=some r∧tm=fr 55 [(0,.vl 0 t6 0 l5.length),(3,.ptr 1 0 0)]∧σ=⟨[(2,.row [.int .i64 z4,.str p2.Name,.int .i64 p2.From,.int .i64 p2.To] 33),(1,.row (xGDeriv p2) 43),(0,.vec (List.map cGProp l5).flatten 33 4 t6)],3⟩) ?_ ?_
  rintro _ _ ⟨z4,l5,t6,hF,rfl,rfl⟩
  unfold q6t at hF
  refine sr ?_
  refine RS.q (u:=.ptr 1 0 4) rfl (q0c und43 rfl (q01 inf22) rfl rfl rfl) (RS.q (u:=.isl false (List.map cGDeriv p2.Kids)) rfl (q09 und22 rfl rfl rfl rfl) (RS.q rfl (q0k rfl rfl rfl (q0g cGDeriv und22)) (RS.mv rfl rfl rfl rfl ?_)))
  refine sd ?_
  refine WPU.ghost (tm':=fr 55 [(0,.vl 0 t6 0 l5.length),(44,.isl false (List.map cGDeriv p2.Kids)),(45,.int .i64 (p2.Kids.length:Int)),(46,.int .i64 0)]) (Gh.sub ⟨rfl,rfl,rfl,rfl,trivial⟩) (Nat.le_of_ble_eq_true rfl) ?_
  refine WPU.loopK (fun m tm σ=>∃ z21:Int,∃ l22:List GProp,∃ t23:Nat,q4n p2 (q30 n) m z21 l22=some r∧tm=fr 55 [(0,.vl 0 t23 0 l22.length),(44,.isl false (List.map cGDeriv p2.Kids)),(45,.int .i64 (p2.Kids.length:Int)),(46,.int .i64 z21)]∧σ=⟨[(2,.row [.int .i64 z4,.str p2.Name,.int .i64 p2.From,.int .i64 p2.To] 33),(1,.row (xGDeriv p2) 43),(0,.vec (List.map cGProp l22).flatten 33 4 t23)],3⟩) (fun tm σ=>∃ l24:List GProp,∃ t25:Nat,q8r l24=some r∧tm=fr 55 [(0,.vl 0 t25 0 l24.length)]∧σ=⟨[(2,.row [.int .i64 z4,.str p2.Name,.int .i64 p2.From,.int .i64 p2.To] 33),(1,.row (xGDeriv p2) 43),(0,.vec (List.map cGProp l24).flatten 33 4 t25)],3⟩) n ⟨0,l5,t6,hF,rfl,rfl⟩ ?_ ?_
  rintro _ _ ⟨l24,t25,hF,rfl,rfl⟩
  unfold q8r at hF
  refine sr ?_
  refine sd ?_
  refine WPU.ret ?_
  refine st ?_
  have hr:=Option.some.inj hF
  subst hr
  exact ⟨.inr rfl,[.vl 0 t25 0 l24.length],q0l rfl q0i,.vl 0 t25 0 l24.length,⟨[(0,.vec (List.map cGProp l24).flatten 33 4 t25)],1⟩,Nat.le_refl _,Gh.to (n1:=1) [] rfl rfl (Nat.le_refl _) (Nat.le_of_ble_eq_true rfl) BUL.h BH.h,t25,rfl,rfl⟩
  rintro m2 _ _ ⟨z21,l22,t23,hF,rfl,rfl⟩
  rcases m2 with _ | m2
  cases hF
  unfold q4n at hF
  refine sr ?_
  refine RS.q rfl (q02 rfl rfl (q18 _ _ _) rfl) ?_
  refine sd ?_
  refine WPU.condS (t:=(decide (z21<(p2.Kids.length:Int)))) rfl (fun h26=>?_) (fun h26=>?_)
  replace hF:=q05 h26 hF
  refine st ?_
  refine WPU.skip ?_
  refine st ?_
  refine WPU.block ?_
  refine st ?_
  obtain ⟨x27,h28,hF⟩:=q00 hF
  refine sr ?_
  refine RS.q (u:=.iptr (xGDeriv x27)) rfl (q2a rfl rfl (q1f cGDeriv und22 (q01 inf43) q0e h28 (q0m x27))) (RS.q (u:=.agg (xGDeriv x27)) rfl (q2e und43 rfl (q01 inf43) rfl rfl) (RS.q (u:=.ptr 3 0 0) (σ':=⟨[(3,.row [.int .i64 0,.str [],.int .i64 0,.int .i64 0,.nils] 43),(2,.row [.int .i64 z4,.str p2.Name,.int .i64 p2.From,.int .i64 p2.To] 33),(1,.row (xGDeriv p2) 43),(0,.vec (List.map cGProp l22).flatten 33 4 t23)],4⟩) rfl (q0v inf43 rfl rfl) (RS.opn (u:=.junk) (σ':=⟨[(3,.row (xGDeriv x27) 43),(2,.row [.int .i64 z4,.str p2.Name,.int .i64 p2.From,.int .i64 p2.To] 33),(1,.row (xGDeriv p2) 43),(0,.vec (List.map cGProp l22).flatten 33 4 t23)],4⟩) rfl (q0d (q01 inf43) rfl rfl rfl rfl rfl rfl rfl rfl) rfl ?_)))
  refine sd ?_
  obtain ⟨r29,h30,hF⟩:=q00 hF
  refine sr ?_
  refine RS.q (u:=.agg (xGDeriv x27)) rfl (q0a und43 rfl (q01 inf43) rfl rfl rfl) (RS.callx (args:=[.vl 0 t23 0 l22.length,.agg (xGDeriv x27)]) rfl (q03 rfl rfl fn94 hb94 rfl rfl) (ihS l22 x27 r29 h30 _ rfl rfl) rfl rfl ?_)
  rintro _ _ ⟨t31,rfl,rfl⟩
  refine se ?_
  refine RS.q rfl (q02 rfl rfl (q1q _ _ _) rfl) (RS.mv rfl rfl rfl rfl ?_)
  refine sd ?_
  exact ⟨m2,_,_,Nat.lt_succ_self _,⟨(IntKind.i64.wrap (z21+1)),r29,t31,hF,rfl,rfl⟩,(Nat.le_of_ble_eq_true rfl),Gh.toC (n1:=3) ⟨rfl,rfl,rfl,rfl,trivial⟩ rfl (Nat.le_of_ble_eq_true rfl) (by simp)⟩
  replace hF:=q04 h26 hF
  refine st ?_
  refine WPU.exit ?_
  refine st ?_
  exact ⟨_,_,⟨l22,t23,hF,rfl,rfl⟩,(Nat.le_of_ble_eq_true rfl),Gh.toC (n1:=3) ⟨rfl,trivial⟩ rfl (Nat.le_of_ble_eq_true rfl) (by simp)⟩
  refine WPU.condS (t:=(p2.Kind == 0)) rfl (fun h3=>?_) (fun h3=>?_)
  replace hF:=q05 h3 hF
  refine sr ?_
  refine RS.q (u:=.ptr 2 0 0) rfl (q0c und33 rfl (q01 inf3) rfl rfl rfl) (RS.opn (u:=.junk) (σ':=⟨[(2,.row [.int .i64 0,.str p2.Name,.int .i64 p2.From,.int .i64 p2.To] 33),(1,.row (xGDeriv p2) 43),(0,.vec (List.map cGProp p1).flatten 33 4 t0)],3⟩) rfl (q0d (q01 inf3) rfl rfl rfl rfl rfl rfl rfl rfl) rfl ?_)
  refine sd ?_
  obtain ⟨h32,hF⟩:=q0n hF
  refine sr ?_
  refine RS.q (u:=.agg [.int .i64 0,.str p2.Name,.int .i64 p2.From,.int .i64 p2.To]) rfl (q0a und33 rfl (q01 inf33) rfl rfl rfl) (RS.q (u:=.sl 3 0 1 1) (σ':=⟨[(3,.row [.int .i64 0,.str p2.Name,.int .i64 p2.From,.int .i64 p2.To] 33),(2,.row [.int .i64 0,.str p2.Name,.int .i64 p2.From,.int .i64 p2.To] 33),(1,.row (xGDeriv p2) 43),(0,.vec (List.map cGProp p1).flatten 33 4 t0)],4⟩) rfl (q4g und57 inf33 rfl rfl rfl rfl rfl rfl rfl) (RS.q (u:=.vl 0 (t0+1) 0 ((p1++[(GProp.mk 0 p2.Name p2.From p2.To)]).length)) (σ':=⟨[(3,.row [.int .i64 0,.str p2.Name,.int .i64 p2.From,.int .i64 p2.To] 33),(2,.row [.int .i64 0,.str p2.Name,.int .i64 p2.From,.int .i64 p2.To] 33),(1,.row (xGDeriv p2) 43),(0,.vec (List.map cGProp (p1++[(GProp.mk 0 p2.Name p2.From p2.To)])).flatten 33 4 (t0+1))],4⟩) rfl (q7i rfl rfl rfl rfl (q8m cGProp ([(GProp.mk 0 p2.Name p2.From p2.To)]) und57 und57 inf33 rfl q0b rfl (q72 cGProp [(GProp.mk 0 p2.Name p2.From p2.To)] rfl rfl rfl rfl) h32)) ?_))
  refine sd ?_
  exact ⟨_,_,⟨0,(p1++[(GProp.mk 0 p2.Name p2.From p2.To)]),(t0+1),hF,rfl,rfl⟩,(Nat.le_of_ble_eq_true rfl),Gh.toC (n1:=3) ⟨rfl,rfl,trivial⟩ rfl (Nat.le_of_ble_eq_true rfl) (by simp)⟩
  replace hF:=q04 h3 hF
  refine sr ?_
  refine RS.q rfl (q02 rfl rfl (q0j _ _ _) rfl) ?_
  refine sd ?_
  refine WPU.joinK (fun tm σ=>∃ z34:Int,∃ l35:List GProp,∃ t36:Nat,q6u p2 n (q30 n) z34 l35=some r∧tm=fr 55 [(0,.vl 0 t36 0 l35.length),(3,.ptr 1 0 0)]∧σ=⟨[(2,.row [.int .i64 z34,.str p2.Name,.int .i64 p2.From,.int .i64 p2.To] 33),(1,.row (xGDeriv p2) 43),(0,.vec (List.map cGProp l35).flatten 33 4 t36)],3⟩) ?_ ?_
  rintro _ _ ⟨z34,l35,t36,hF,rfl,rfl⟩
  unfold q6u at hF
  refine st ?_
  exact ⟨_,_,⟨z34,l35,t36,hF,rfl,rfl⟩,(Nat.le_of_ble_eq_true rfl),Gh.toC (n1:=3) ⟨rfl,rfl,trivial⟩ rfl (Nat.le_of_ble_eq_true rfl) (by simp)⟩
  refine WPU.condS (t:=(p2.Kind == 1)) rfl (fun h33=>?_) (fun h33=>?_)
  replace hF:=q05 h33 hF
  refine sr ?_
  refine RS.q (u:=.ptr 2 0 0) rfl (q0c und33 rfl (q01 inf3) rfl rfl rfl) (RS.opn (u:=.junk) (σ':=⟨[(2,.row [.int .i64 1,.str p2.Name,.int .i64 p2.From,.int .i64 p2.To] 33),(1,.row (xGDeriv p2) 43),(0,.vec (List.map cGProp p1).flatten 33 4 t0)],3⟩) rfl (q0d (q01 inf3) rfl rfl rfl rfl rfl rfl rfl rfl) rfl ?_)
  refine sd ?_
  obtain ⟨h37,hF⟩:=q0n hF
  refine sr ?_
  refine RS.q (u:=.agg [.int .i64 1,.str p2.Name,.int .i64 p2.From,.int .i64 p2.To]) rfl (q0a und33 rfl (q01 inf33) rfl rfl rfl) (RS.q (u:=.sl 3 0 1 1) (σ':=⟨[(3,.row [.int .i64 1,.str p2.Name,.int .i64 p2.From,.int .i64 p2.To] 33),(2,.row [.int .i64 1,.str p2.Name,.int .i64 p2.From,.int .i64 p2.To] 33),(1,.row (xGDeriv p2) 43),(0,.vec (List.map cGProp p1).flatten 33 4 t0)],4⟩) rfl (q4g und57 inf33 rfl rfl rfl rfl rfl rfl rfl) (RS.q (u:=.vl 0 (t0+1) 0 ((p1++[(GProp.mk 1 p2.Name p2.From p2.To)]).length)) (σ':=⟨[(3,.row [.int .i64 1,.str p2.Name,.int .i64 p2.From,.int .i64 p2.To] 33),(2,.row [.int .i64 1,.str p2.Name,.int .i64 p2.From,.int .i64 p2.To] 33),(1,.row (xGDeriv p2) 43),(0,.vec (List.map cGProp (p1++[(GProp.mk 1 p2.Name p2.From p2.To)])).flatten 33 4 (t0+1))],4⟩) rfl (q7i rfl rfl rfl rfl (q8m cGProp ([(GProp.mk 1 p2.Name p2.From p2.To)]) und57 und57 inf33 rfl q0b rfl (q72 cGProp [(GProp.mk 1 p2.Name p2.From p2.To)] rfl rfl rfl rfl) h37)) ?_))
  refine sd ?_
  exact ⟨_,_,⟨1,(p1++[(GProp.mk 1 p2.Name p2.From p2.To)]),(t0+1),hF,rfl,rfl⟩,(Nat.le_of_ble_eq_true rfl),Gh.toC (n1:=3) ⟨rfl,rfl,trivial⟩ rfl (Nat.le_of_ble_eq_true rfl) (by simp)⟩
  replace hF:=q04 h33 hF
  refine sr ?_
  refine RS.q rfl (q02 rfl rfl (q0j _ _ _) rfl) ?_
  refine sd ?_
  refine WPU.joinK (fun tm σ=>∃ z39:Int,∃ l40:List GProp,∃ t41:Nat,q6v p2 n (q30 n) z39 l40=some r∧tm=fr 55 [(0,.vl 0 t41 0 l40.length),(3,.ptr 1 0 0)]∧σ=⟨[(2,.row [.int .i64 z39,.str p2.Name,.int .i64 p2.From,.int .i64 p2.To] 33),(1,.row (xGDeriv p2) 43),(0,.vec (List.map cGProp l40).flatten 33 4 t41)],3⟩) ?_ ?_
  rintro _ _ ⟨z39,l40,t41,hF,rfl,rfl⟩
  unfold q6v at hF
  refine st ?_
  exact ⟨_,_,⟨z39,l40,t41,hF,rfl,rfl⟩,(Nat.le_of_ble_eq_true rfl),Gh.toC (n1:=3) ⟨rfl,rfl,trivial⟩ rfl (Nat.le_of_ble_eq_true rfl) (by simp)⟩
  refine WPU.condS (t:=(p2.Kind == 2)) rfl (fun h38=>?_) (fun h38=>?_)
  replace hF:=q05 h38 hF
  refine sr ?_
  refine RS.q (u:=.ptr 2 0 0) rfl (q0c und33 rfl (q01 inf3) rfl rfl rfl) (RS.opn (u:=.junk) (σ':=⟨[(2,.row [.int .i64 2,.str p2.Name,.int .i64 p2.From,.int .i64 p2.To] 33),(1,.row (xGDeriv p2) 43),(0,.vec (List.map cGProp p1).flatten 33 4 t0)],3⟩) rfl (q0d (q01 inf3) rfl rfl rfl rfl rfl rfl rfl rfl) rfl ?_)
  refine sd ?_
  obtain ⟨h42,hF⟩:=q0n hF
  refine sr ?_
  refine RS.q (u:=.agg [.int .i64 2,.str p2.Name,.int .i64 p2.From,.int .i64 p2.To]) rfl (q0a und33 rfl (q01 inf33) rfl rfl rfl) (RS.q (u:=.ptr 1 0 2) rfl (q0c und43 rfl (q01 inf3) rfl rfl rfl) (RS.q (u:=.int .i64 p2.From) rfl (q09 und3 rfl rfl rfl rfl) (RS.q (u:=.ptr 1 0 3) rfl (q0c und43 rfl (q01 inf3) rfl rfl rfl) (RS.q (u:=.int .i64 p2.To) rfl (q09 und3 rfl rfl rfl rfl) (RS.q (u:=.agg [.int .i64 3,.str [],.int .i64 p2.From,.int .i64 p2.To]) rfl (q4d bd33 rfl rfl rfl) (RS.q (u:=.sl 3 0 2 2) (σ':=⟨[(3,.row [.int .i64 2,.str p2.Name,.int .i64 p2.From,.int .i64 p2.To,.int .i64 3,.str [],.int .i64 p2.From,.int .i64 p2.To] 33),(2,.row [.int .i64 2,.str p2.Name,.int .i64 p2.From,.int .i64 p2.To] 33),(1,.row (xGDeriv p2) 43),(0,.vec (List.map cGProp p1).flatten 33 4 t0)],4⟩) rfl (q4g und57 inf33 rfl rfl rfl rfl rfl rfl rfl) (RS.q (u:=.vl 0 (t0+1) 0 ((p1++[(GProp.mk 2 p2.Name p2.From p2.To),(GProp.mk 3 [] p2.From p2.To)]).length)) (σ':=⟨[(3,.row [.int .i64 2,.str p2.Name,.int .i64 p2.From,.int .i64 p2.To,.int .i64 3,.str [],.int .i64 p2.From,.int .i64 p2.To] 33),(2,.row [.int .i64 2,.str p2.Name,.int .i64 p2.From,.int .i64 p2.To] 33),(1,.row (xGDeriv p2) 43),(0,.vec (List.map cGProp (p1++[(GProp.mk 2 p2.Name p2.From p2.To),(GProp.mk 3 [] p2.From p2.To)])).flatten 33 4 (t0+1))],4⟩) rfl (q7i rfl rfl rfl rfl (q8m cGProp ([(GProp.mk 2 p2.Name p2.From p2.To),(GProp.mk 3 [] p2.From p2.To)]) und57 und57 inf33 rfl q0b rfl (q72 cGProp [(GProp.mk 2 p2.Name p2.From p2.To),(GProp.mk 3 [] p2.From p2.To)] rfl rfl rfl rfl) h42)) ?_)))))))
  refine sd ?_
  exact ⟨_,_,⟨2,(p1++[(GProp.mk 2 p2.Name p2.From p2.To),(GProp.mk 3 [] p2.From p2.To)]),(t0+1),hF,rfl,rfl⟩,(Nat.le_of_ble_eq_true rfl),Gh.toC (n1:=3) ⟨rfl,rfl,trivial⟩ rfl (Nat.le_of_ble_eq_true rfl) (by simp)⟩
  replace hF:=q04 h38 hF
  refine st ?_
  refine WPU.skip ?_
  refine st ?_
  exact ⟨_,_,⟨0,p1,t0,hF,rfl,rfl⟩,(Nat.le_of_ble_eq_true rfl),Gh.toC (n1:=3) ⟨rfl,rfl,trivial⟩ rfl (Nat.le_of_ble_eq_true rfl) (by simp)⟩
theorem qha (n:Nat) (p1:List GProp) (p2:GDeriv) (r:(List GProp)) (hF:q30 n p1 p2=some r):∀ (σ:Sg) {K t0:Nat},Nat.blt K σ.nx=true→gt σ.h K=some (.vec (List.map cGProp p1).flatten 33 4 t0)→EvU Tryz.prog 94 [.vl K t0 0 p1.length,.agg (xGDeriv p2)] σ (fun u σ'=>∃ t,u = .vl K t 0 r.length∧σ'=⟨ug σ.h K (.vec (List.map cGProp r).flatten 33 4 t),σ.nx⟩):=fun σ K t0 hK hg =>
 EvU.acc1 cGProp (BF.h 0) (BUL.h) (qd2 n p1 p2 r hF) σ hK hg
def q42 (z21:Int) (rc2:Int→Int→(List GProp)→Option ((List GProp))) (z35:Int) (l36:List GProp):Option ((List GProp)) :=
 rc2 z35 (IntKind.i64.wrap (z21+1)) l36
def q4v  (z23:Int) (l24:List GProp):Option ((List GProp)) :=
 needO ((0:Int)≤z23∧z23≤((l24.length:Nat):Int)) (
 needO ((0+z23.toNat)+(l24.length - z23.toNat)≤l24.length) (
 needO ((0:Int)≤z23∧z23≤(((clrV l24 (0+z23.toNat) (l24.length - z23.toNat) (GProp.mk 0 [] 0 0)).length:Nat):Int)) (
 needO (z23.toNat≤(clrV l24 (0+z23.toNat) (l24.length - z23.toNat) (GProp.mk 0 [] 0 0)).length) (
  some ((clrV l24 (0+z23.toNat) (l24.length - z23.toNat) (GProp.mk 0 [] 0 0)).take z23.toNat)))))
def q28 (p1:List GProp) (z6:Int):Nat→Int→Int→(List GProp)→Option ((List GProp))
 | 0,_,_,_=>none
 | m2+1,z20,z21,l22 =>
  cond (decide (z21<(((p1.length - z6.toNat):Nat):Int)))
   (bindO (idxV l22 (0+z6.toNat) (p1.length - z6.toNat) z21) fun x30 =>
   bindO (idxV l22 (0+z6.toNat) (p1.length - z6.toNat) (IntKind.i64.wrap (z21 - 1))) fun x32 =>
   cond (!(eqGProp x30 x32))
    (bindO (idxV l22 (0+z6.toNat) (p1.length - z6.toNat) z21) fun x37 =>
    bindO (idxO l22 z20) fun x39 =>
    q42 z21 (q28 p1 z6 m2) (IntKind.i64.wrap (z20+1)) (l22.set (0+z20.toNat) x37))
    (q42 z21 (q28 p1 z6 m2) z20 l22))
   (q4v z20 l22)
def q4u (p1:List GProp)  : Option ((List GProp)) :=
 some p1
def q35 (p1:List GProp) (n:Nat):Nat→Int→Option ((List GProp))
 | 0,_=>none
 | m1+1,z6 =>
  cond (decide (z6<(p1.length:Int)))
   (bindO (idxO p1 z6) fun x8 =>
   bindO (idxO p1 (IntKind.i64.wrap (z6 - 1))) fun x10 =>
   cond (eqGProp x8 x10)
    (needO ((0:Int)≤z6∧z6≤((p1.length:Nat):Int)) (
    q28 p1 z6 n z6 1 p1))
    ((q35 p1 n m1) (IntKind.i64.wrap (z6+1))))
   (q4u p1)
def q46 (n:Nat) (p1:List GProp):Option ((List GProp)) :=
 cond (decide ((p1.length:Int)<2))
  (some p1)
  (q35 p1 n n 1)
theorem qch (n:Nat) (p1:List GProp) (r:(List GProp)) (hF:q46 n p1=some r):∀ t0,EvU Tryz.prog 95 [.vl 0 t0 0 p1.length] ⟨[(0,.vec (List.map cGProp p1).flatten 33 4 t0)],1⟩ (fun u σ'=>∃ t,u = .vl 0 t 0 r.length∧σ'=⟨[(0,.vec (List.map cGProp r).flatten 33 4 t)],1⟩):=by
 unfold q46 at hF
 intro t0
 refine EvU.of_body Tryz.tb_ok fn95 rfl ?_
 refine WPU.ghost (tm':=fr 61 [(0,.vl 0 t0 0 p1.length)]) (Gh.start (Nat.le_of_ble_eq_true rfl)) (Nat.le_refl _) ?_
 refine sr ?_
 refine se ?_
 refine RS.q rfl (q0k rfl rfl rfl (qhn und57 rfl)) (RS.q rfl (q02 rfl rfl (q18 _ _ _) rfl) ?_)
 refine sd ?_
 refine WPU.condS (t:=(decide ((p1.length:Int)<2))) rfl (fun h2=>?_) (fun h2=>?_)
 replace hF:=q05 h2 hF
 refine sr ?_
 refine sd ?_
 refine WPU.ret ?_
 refine st ?_
 have hr:=Option.some.inj hF
 subst hr
 exact ⟨.inr rfl,[.vl 0 t0 0 p1.length],q0l rfl q0i,.vl 0 t0 0 p1.length,⟨[(0,.vec (List.map cGProp p1).flatten 33 4 t0)],1⟩,Nat.le_refl _,Gh.to (n1:=1) [] rfl rfl (Nat.le_refl _) (Nat.le_of_ble_eq_true rfl) BUL.h BH.h,t0,rfl,rfl⟩
 replace hF:=q04 h2 hF
 refine st ?_
 refine WPU.skip ?_
 refine sr ?_
 refine sd ?_
 refine WPU.ghost (tm':=fr 61 [(0,.vl 0 t0 0 p1.length),(3,.int .i64 1)]) (Gh.sub ⟨rfl,rfl,trivial⟩) (Nat.le_of_ble_eq_true rfl) ?_
 refine WPU.loopK (fun m tm σ=>∃ z6:Int,q35 p1 n m z6=some r∧tm=fr 61 [(0,.vl 0 t0 0 p1.length),(3,.int .i64 z6)]∧σ=⟨[(0,.vec (List.map cGProp p1).flatten 33 4 t0)],1⟩) (fun tm σ=>q4u p1=some r∧tm=fr 61 [(0,.vl 0 t0 0 p1.length)]∧σ=⟨[(0,.vec (List.map cGProp p1).flatten 33 4 t0)],1⟩) n ⟨1,hF,rfl,rfl⟩ ?_ ?_
 rintro _ _ ⟨hF,rfl,rfl⟩
 unfold q4u at hF
 refine sr ?_
 refine sd ?_
 refine WPU.ret ?_
 refine st ?_
 have hr:=Option.some.inj hF
 subst hr
 exact ⟨.inr rfl,[.vl 0 t0 0 p1.length],q0l rfl q0i,.vl 0 t0 0 p1.length,⟨[(0,.vec (List.map cGProp p1).flatten 33 4 t0)],1⟩,Nat.le_refl _,Gh.to (n1:=1) [] rfl rfl (Nat.le_refl _) (Nat.le_of_ble_eq_true rfl) BUL.h BH.h,t0,rfl,rfl⟩
 rintro m1 _ _ ⟨z6,hF,rfl,rfl⟩
 rcases m1 with _ | m1
 cases hF
 unfold q35 at hF
 refine sr ?_
 repeat refine RS.mv rfl rfl rfl rfl ?_
 refine RS.q rfl (q0k rfl rfl rfl (qhn und57 rfl)) (RS.q rfl (q02 rfl rfl (q18 _ _ _) rfl) ?_)
 refine sd ?_
 refine WPU.condS (t:=(decide (z6<(p1.length:Int)))) rfl (fun h7=>?_) (fun h7=>?_)
 replace hF:=q05 h7 hF
 refine st ?_
 refine WPU.skip ?_
 refine st ?_
 refine WPU.block ?_
 refine st ?_
 obtain ⟨x8,h9,hF⟩:=q00 hF
 obtain ⟨x10,h11,hF⟩:=q00 hF
 refine WPU.drawE Tryz.tb_ok [] (by kernel_rfl) ?_
 repeat refine RD.mv rfl rfl rfl rfl ?_
 refine RD.q (u:=.ptr 0 t0 (0*4+z6.toNat*4)) rfl (q2a rfl rfl (ia_vl cGProp und57 (q01 inf33) (by decide) q0b (vo rfl) h9)) ?_
 refine RD.q (u:=.agg (cGProp x8)) rfl (qhm cGProp und33 rfl (q01 inf33) q0b rfl rfl h9 rfl) ?_
 repeat refine RD.mv rfl rfl rfl rfl ?_
 refine RD.q rfl (q02 rfl rfl (q8z _ _ _) rfl) ?_
 refine RD.q (u:=.ptr 0 t0 (0*4+(IntKind.i64.wrap (z6 - 1)).toNat*4)) rfl (q2a rfl rfl (ia_vl cGProp und57 (q01 inf33) (by decide) q0b (vo rfl) h11)) ?_
 refine RD.q (u:=.agg (cGProp x10)) rfl (qhm cGProp und33 rfl (q01 inf33) q0b rfl rfl h11 rfl) (RD.q (u:=.bool (eqGProp x8 x10)) rfl (q7j rfl rfl (q5k x8 x10)) ?_)
 refine RD.done ⟨by kernel_rfl,trivial,?_⟩
 refine st ?_
 refine WPU.condS (t:=(eqGProp x8 x10)) rfl (fun h12=>?_) (fun h12=>?_)
 replace hF:=q05 h12 hF
 refine st ?_
 obtain ⟨h13,hF⟩:=q0n hF
 refine sr ?_
 repeat refine RS.mv rfl rfl rfl rfl ?_
 refine RS.q (u:=.vl 0 t0 (0+z6.toNat) (p1.length - z6.toNat)) rfl (q7a rfl (em_s rfl) em_n em_n (sl_vp cGProp und57 (q01 inf33) q0b (vo rfl) (Nat.le_of_eq (Nat.zero_add _)) (bnd_lo h13.1 h13.2))) ?_
 refine se ?_
 refine sd ?_
 refine WPU.ghost (tm':=fr 61 [(0,.vl 0 t0 0 p1.length),(3,.int .i64 z6),(4,.vl 0 t0 (0+z6.toNat) (p1.length - z6.toNat)),(5,.int .i64 1)]) (Gh.sub ⟨rfl,rfl,rfl,rfl,trivial⟩) (Nat.le_of_ble_eq_true rfl) ?_
 refine WPU.loopK (fun m tm σ=>∃ z20:Int,∃ z21:Int,∃ l22:List GProp,q28 p1 z6 m z20 z21 l22=some r∧tm=fr 61 [(0,.vl 0 t0 0 l22.length),(3,.int .i64 z20),(4,.vl 0 t0 (0+z6.toNat) (p1.length - z6.toNat)),(5,.int .i64 z21)]∧σ=⟨[(0,.vec (List.map cGProp l22).flatten 33 4 t0)],1⟩) (fun tm σ=>∃ z23:Int,∃ l24:List GProp,q4v z23 l24=some r∧tm=fr 61 [(0,.vl 0 t0 0 l24.length),(3,.int .i64 z23)]∧σ=⟨[(0,.vec (List.map cGProp l24).flatten 33 4 t0)],1⟩) n ⟨z6,1,p1,hF,rfl,rfl⟩ ?_ ?_
 rintro _ _ ⟨z23,l24,hF,rfl,rfl⟩
 unfold q4v at hF
 refine st ?_
 obtain ⟨h25,hF⟩:=q0n hF
 obtain ⟨h26,hF⟩:=q0n hF
 refine WPU.joinK (fun tm σ=>tm=fr 61 [(0,.vl 0 t0 0 ((clrV l24 (0+z23.toNat) (l24.length - z23.toNat) (GProp.mk 0 [] 0 0)).length)),(3,.int .i64 z23)]∧σ=⟨[(0,.vec (List.map cGProp (clrV l24 (0+z23.toNat) (l24.length - z23.toNat) (GProp.mk 0 [] 0 0))).flatten 33 4 t0)],1⟩) ?_ ?_
 rintro _ _ ⟨rfl,rfl⟩
 refine st ?_
 obtain ⟨h27,hF⟩:=q0n hF
 refine sr ?_
 repeat refine RS.mv rfl rfl rfl rfl ?_
 refine RS.q (u:=.vl 0 t0 0 z23.toNat) rfl (q7a rfl em_n (em_s rfl) em_n (sl_vp cGProp und57 (q01 inf33) q0b (vo rfl) (Nat.le_of_eq (Nat.zero_add _)) (bnd_hi h27.1 h27.2))) ?_
 refine sd ?_
 refine WPU.ret ?_
 refine st ?_
 obtain ⟨h28,hF⟩:=q0n hF
 have hr:=Option.some.inj hF
 subst hr
 exact ⟨.inr rfl,[.vl 0 t0 0 z23.toNat],q0l rfl q0i,.vl 0 t0 0 z23.toNat,⟨[(0,.vec (List.map cGProp ((clrV l24 (0+z23.toNat) (l24.length - z23.toNat) (GProp.mk 0 [] 0 0)).take z23.toNat)).flatten 33 4 t0)],1⟩,Nat.le_refl _,Gh.trans (Gh.truncL (K:=0) cGProp q0b rfl z23.toNat) (Gh.to (n1:=1) [] rfl rfl (Nat.le_refl _) (Nat.le_of_ble_eq_true rfl) BUL.h BH.h),t0,by rw [List.length_take_of_le h28],rfl⟩
 refine sr ?_
 repeat refine RS.mv rfl rfl rfl rfl ?_
 refine RS.q (u:=.vl 0 t0 (0+z23.toNat) (l24.length - z23.toNat)) rfl (q7a rfl (em_s rfl) em_n em_n (sl_vp cGProp und57 (q01 inf33) q0b (vo rfl) (Nat.le_of_eq (Nat.zero_add _)) (bnd_lo h25.1 h25.2))) (RS.opn (u:=.junk) (σ':=⟨[(0,.vec (List.map cGProp (clrV l24 (0+z23.toNat) (l24.length - z23.toNat) (GProp.mk 0 [] 0 0))).flatten 33 4 t0)],1⟩) rfl (op_clr cGProp rfl rfl rfl und57 inf33 rfl rfl rfl rfl q0b rfl h26 rfl) rfl ?_)
 refine sd ?_
 exact ⟨_,_,⟨rfl,rfl⟩,(Nat.le_of_ble_eq_true rfl),Gh.eqS ⟨(by simp only [qgb h26]; rfl),rfl,trivial⟩ rfl⟩
 rintro m2 _ _ ⟨z20,z21,l22,hF,rfl,rfl⟩
 rcases m2 with _ | m2
 cases hF
 unfold q28 at hF
 refine sr ?_
 repeat refine RS.mv rfl rfl rfl rfl ?_
 refine RS.q rfl (q0k rfl rfl rfl (len_vp und57 rfl)) (RS.q rfl (q02 rfl rfl (q18 _ _ _) rfl) ?_)
 refine sd ?_
 refine WPU.condS (t:=(decide (z21<(((p1.length - z6.toNat):Nat):Int)))) rfl (fun h29=>?_) (fun h29=>?_)
 replace hF:=q05 h29 hF
 refine st ?_
 refine WPU.skip ?_
 refine st ?_
 refine WPU.block ?_
 refine st ?_
 obtain ⟨x30,h31,hF⟩:=q00 hF
 obtain ⟨x32,h33,hF⟩:=q00 hF
 refine WPU.drawE Tryz.tb_ok [] (by kernel_rfl) ?_
 repeat refine RD.mv rfl rfl rfl rfl ?_
 refine RD.q (u:=.ptr 0 t0 ((0+z6.toNat)*4+z21.toNat*4)) rfl (q2a rfl rfl (ia_vp cGProp und57 (q01 inf33) (by decide) q0b (vo rfl) h31)) ?_
 refine RD.q (u:=.agg (cGProp x30)) rfl (ld_vp cGProp und33 rfl (q01 inf33) q0b rfl rfl h31 rfl) ?_
 repeat refine RD.mv rfl rfl rfl rfl ?_
 refine RD.q rfl (q02 rfl rfl (q8z _ _ _) rfl) ?_
 refine RD.q (u:=.ptr 0 t0 ((0+z6.toNat)*4+(IntKind.i64.wrap (z21 - 1)).toNat*4)) rfl (q2a rfl rfl (ia_vp cGProp und57 (q01 inf33) (by decide) q0b (vo rfl) h33)) ?_
 refine RD.q (u:=.agg (cGProp x32)) rfl (ld_vp cGProp und33 rfl (q01 inf33) q0b rfl rfl h33 rfl) (RD.q (u:=.bool (!(eqGProp x30 x32))) rfl (q7j rfl rfl (qhc x30 x32)) ?_)
 refine RD.done ⟨by kernel_rfl,trivial,?_⟩
 refine st ?_
 refine WPU.joinK (fun tm σ=>∃ z35:Int,∃ l36:List GProp,q42 z21 (q28 p1 z6 m2) z35 l36=some r∧tm=fr 61 [(0,.vl 0 t0 0 l36.length),(3,.int .i64 z35),(4,.vl 0 t0 (0+z6.toNat) (p1.length - z6.toNat)),(5,.int .i64 z21)]∧σ=⟨[(0,.vec (List.map cGProp l36).flatten 33 4 t0)],1⟩) ?_ ?_
 rintro _ _ ⟨z35,l36,hF,rfl,rfl⟩
 unfold q42 at hF
 refine sr ?_
 refine RS.q rfl (q02 rfl rfl (q1q _ _ _) rfl) ?_
 refine sd ?_
 exact ⟨m2,_,_,Nat.lt_succ_self _,⟨z35,(IntKind.i64.wrap (z21+1)),l36,hF,rfl,rfl⟩,(Nat.le_of_ble_eq_true rfl),Gh.toC (n1:=1) ⟨rfl,rfl,rfl,rfl,trivial⟩ rfl (Nat.le_of_ble_eq_true rfl) (by simp)⟩
 refine WPU.condS (t:=(!(eqGProp x30 x32))) rfl (fun h34=>?_) (fun h34=>?_)
 replace hF:=q05 h34 hF
 refine st ?_
 obtain ⟨x37,h38,hF⟩:=q00 hF
 obtain ⟨x39,h40,hF⟩:=q00 hF
 refine WPU.joinK (fun tm σ=>tm=fr 61 [(0,.vl 0 t0 0 ((l22.set (0+z20.toNat) x37).length)),(3,.int .i64 z20),(4,.vl 0 t0 (0+z6.toNat) (p1.length - z6.toNat)),(5,.int .i64 z21)]∧σ=⟨[(0,.vec (List.map cGProp (l22.set (0+z20.toNat) x37)).flatten 33 4 t0)],1⟩) ?_ ?_
 rintro _ _ ⟨rfl,rfl⟩
 refine sr ?_
 refine RS.q rfl (q02 rfl rfl (q1q _ _ _) rfl) ?_
 refine sd ?_
 exact ⟨_,_,⟨(IntKind.i64.wrap (z20+1)),(l22.set (0+z20.toNat) x37),hF,rfl,rfl⟩,(Nat.le_of_ble_eq_true rfl),Gh.toC (n1:=1) ⟨rfl,rfl,rfl,rfl,trivial⟩ rfl (Nat.le_of_ble_eq_true rfl) (by simp)⟩
 refine sr ?_
 repeat refine RS.mv rfl rfl rfl rfl ?_
 refine RS.q (u:=.ptr 0 t0 ((0+z6.toNat)*4+z21.toNat*4)) rfl (q2a rfl rfl (ia_vp cGProp und57 (q01 inf33) (by decide) q0b (vo rfl) h38)) ?_
 refine RS.q (u:=.agg (cGProp x37)) rfl (ld_vp cGProp und33 rfl (q01 inf33) q0b rfl rfl h38 rfl) ?_
 refine RS.q (u:=.ptr 0 t0 (0*4+z20.toNat*4)) rfl (q2a rfl rfl (ia_vl cGProp und57 (q01 inf33) (by decide) q0b (vo rfl) h40)) ?_
 refine RS.opn (u:=.junk) (σ':=⟨[(0,.vec (List.map cGProp (l22.set (0+z20.toNat) x37)).flatten 33 4 t0)],1⟩) rfl (st_vp cGProp (q01 inf33) q0b rfl rfl rfl rfl rfl rfl rfl (idxO_V h40) rfl) rfl ?_
 refine sd ?_
 exact ⟨_,_,⟨rfl,rfl⟩,(Nat.le_of_ble_eq_true rfl),Gh.eqS ⟨(by simp only [List.length_set]; rfl),rfl,rfl,rfl,trivial⟩ rfl⟩
 replace hF:=q04 h34 hF
 refine st ?_
 refine WPU.skip ?_
 refine st ?_
 exact ⟨_,_,⟨z20,l22,hF,rfl,rfl⟩,(Nat.le_of_ble_eq_true rfl),Gh.toC (n1:=1) ⟨rfl,rfl,rfl,rfl,trivial⟩ rfl (Nat.le_of_ble_eq_true rfl) (by simp)⟩
 replace hF:=q04 h29 hF
 refine st ?_
 refine WPU.exit ?_
 refine st ?_
 exact ⟨_,_,⟨z20,l22,hF,rfl,rfl⟩,(Nat.le_of_ble_eq_true rfl),Gh.toC (n1:=1) ⟨rfl,rfl,trivial⟩ rfl (Nat.le_of_ble_eq_true rfl) (by simp)⟩
 replace hF:=q04 h12 hF
 refine st ?_
 refine WPU.skip ?_
 refine sr ?_
 refine RS.q rfl (q02 rfl rfl (q1q _ _ _) rfl) ?_
 refine sd ?_
 exact ⟨m1,_,_,Nat.lt_succ_self _,⟨(IntKind.i64.wrap (z6+1)),hF,rfl,rfl⟩,(Nat.le_of_ble_eq_true rfl),Gh.toC (n1:=1) ⟨rfl,rfl,trivial⟩ rfl (Nat.le_of_ble_eq_true rfl) (by simp)⟩
 replace hF:=q04 h7 hF
 refine st ?_
 refine WPU.exit ?_
 refine st ?_
 exact ⟨_,_,⟨hF,rfl,rfl⟩,(Nat.le_of_ble_eq_true rfl),Gh.toC (n1:=1) ⟨rfl,trivial⟩ rfl (Nat.le_of_ble_eq_true rfl) (by simp)⟩
theorem qc1 (n:Nat) (p1:List GProp) (r:(List GProp)) (hF:q46 n p1=some r):∀ (σ:Sg) {K t0:Nat},Nat.blt K σ.nx=true→gt σ.h K=some (.vec (List.map cGProp p1).flatten 33 4 t0)→EvU Tryz.prog 95 [.vl K t0 0 p1.length] σ (fun u σ'=>∃ t,u = .vl K t 0 r.length∧σ'=⟨ug σ.h K (.vec (List.map cGProp r).flatten 33 4 t),σ.nx⟩):=fun σ K t0 hK hg =>
 EvU.acc1 cGProp (BF.h 0) (BUL.h) (qch n p1 r hF) σ hK hg
def q64 (n:Nat) (p1:Int):Option ((List GProp)) :=
 cond (decide (p1<0))
  (none)
  (cond (decide ((IntKind.i64.wrap (p1 - 0)) > 0))
   (needO (0<(IntKind.i64.wrap (p1 - 0))∧(IntKind.i64.wrap (p1 - 0)).toNat*40≤140737488355328∧(IntKind.i64.wrap (p1 - 0)).toNat≤140737488355328) (
   needO (0+(IntKind.i64.wrap (p1 - 0)).toNat≤(List.replicate (IntKind.i64.wrap (p1 - 0)).toNat (GProp.mk 0 [] 0 0)).length) (
   needO ((0:Int)≤0∧0≤(((IntKind.i64.wrap (p1 - 0)).toNat:Nat):Int)) (
   needO (0≤(List.replicate (IntKind.i64.wrap (p1 - 0)).toNat (GProp.mk 0 [] 0 0)).length) (
    some ((List.replicate (IntKind.i64.wrap (p1 - 0)).toNat (GProp.mk 0 [] 0 0)).take 0))))))
   (some ([]:List GProp)))
theorem qep (n:Nat) (p1:Int) (r:(List GProp)) (hF:q64 n p1=some r):EvU Tryz.prog 96 [.nils,.int .i64 p1] ⟨[],0⟩ (fun u σ'=>∃ t,u = .vl 0 t 0 r.length∧σ'=⟨[(0,.vec (List.map cGProp r).flatten 33 4 t)],0+1⟩):=by
 unfold q64 at hF
 refine EvU.of_body Tryz.tb_ok fn96 rfl ?_
 refine WPU.ghost (tm':=fr 27 [(0,.nils),(1,.int .i64 p1)]) (Gh.start (Nat.le_of_ble_eq_true rfl)) (Nat.zero_le _) ?_
 refine sr ?_
 refine se ?_
 refine RS.q rfl (q02 rfl rfl (q18 _ _ _) rfl) ?_
 refine sd ?_
 refine WPU.condS (t:=(decide (p1<0))) rfl (fun h2=>?_) (fun h2=>?_)
 replace hF:=q05 h2 hF
 cases hF
 replace hF:=q04 h2 hF
 refine st ?_
 refine WPU.skip ?_
 refine sr ?_
 repeat refine RS.mv rfl rfl rfl rfl ?_
 refine RS.q (u:=.int .i64 0) rfl (op_cap0 rfl rfl rfl und57) (RS.mv rfl rfl rfl rfl ?_)
 refine RS.q (u:=.int .i64 0) rfl (q0k rfl rfl rfl (by simp only [lenU,und57])) ?_
 refine RS.q rfl (q02 rfl rfl (q8z _ _ _) rfl) (RS.q rfl (q02 rfl rfl (q8z _ _ _) rfl) ?_)
 refine se ?_
 refine RS.q rfl (q02 rfl rfl (qhi _ _ _) rfl) ?_
 refine sd ?_
 refine WPU.condS (t:=(decide ((IntKind.i64.wrap (p1 - 0)) > 0))) rfl (fun h3=>?_) (fun h3=>?_)
 replace hF:=q05 h3 hF
 refine st ?_
 obtain ⟨h4,hF⟩:=q0n hF
 obtain ⟨h5,hF⟩:=q0n hF
 obtain ⟨h6,hF⟩:=q0n hF
 refine sr ?_
 repeat refine RS.mv rfl rfl rfl rfl ?_
 refine RS.q (u:=.int .i64 0) rfl (op_cap0 rfl rfl rfl und57) ?_
 refine RS.q (u:=.nils) rfl (q7a rfl em_n (em_s rfl) em_n (by simp only [sliceU,und57,sizeX,inf33]; rfl)) ?_
 refine RS.mv rfl rfl rfl rfl (RS.q (u:=.vl 0 0 0 ((IntKind.i64.wrap (p1 - 0)).toNat)) (σ':=⟨[(0,.vec (List.map cGProp (List.replicate (IntKind.i64.wrap (p1 - 0)).toNat (GProp.mk 0 [] 0 0))).flatten 33 4 0)],1⟩) rfl (op_appm cGProp (GProp.mk 0 [] 0 0) rfl rfl rfl rfl und57 und3 inf33 rfl rfl rfl rfl h4) (RS.mv rfl rfl rfl rfl ?_))
 refine RS.q (u:=.int .i64 0) rfl (q0k rfl rfl rfl (by simp only [lenU,und57])) ?_
 refine RS.q (u:=.vl 0 0 0 0) rfl (q7a rfl em_n (em_s rfl) em_n (sl_vp cGProp und57 (q01 inf33) q0b (vo rfl) h5 (bnd_hi h6.1 h6.2))) ?_
 refine se ?_
 refine sd ?_
 refine WPU.ret ?_
 refine st ?_
 obtain ⟨h7,hF⟩:=q0n hF
 have hr:=Option.some.inj hF
 subst hr
 exact ⟨.inr rfl,[.vl 0 0 0 0],q0l rfl q0i,.vl 0 0 0 0,⟨[(0,.vec (List.map cGProp ((List.replicate (IntKind.i64.wrap (p1 - 0)).toNat (GProp.mk 0 [] 0 0)).take 0)).flatten 33 4 0)],1⟩,(Nat.zero_le _),Gh.trans (Gh.truncL (K:=0) cGProp q0b rfl 0) (Gh.trans (Gh.only (fun k=>Nat.beq k 0)) (Gh.to (n1:=1) [] rfl rfl (Nat.zero_le _) (Nat.le_of_ble_eq_true rfl) BUL.h BH.h)),0,(by rw [List.length_take_of_le h7]),rfl⟩
 replace hF:=q04 h3 hF
 refine st ?_
 refine WPU.skip ?_
 refine sr ?_
 refine sd ?_
 refine WPU.ret ?_
 refine st ?_
 have hr:=Option.some.inj hF
 subst hr
 exact ⟨.inr rfl,[.nils],q0l rfl q0i,.vl 0 0 0 0,⟨[(0,.vec (List.map cGProp ([]:List GProp)).flatten 33 4 0)],1⟩,(Nat.zero_le _),Gh.trans (Gh.nilvec (tm:=[.nils]) 0 33 4 (by decide) (Nat.zero_le _) rfl) (Gh.trans (Gh.only (fun k=>Nat.beq k 0)) (Gh.to (n1:=1) [] rfl rfl (Nat.zero_le _) (Nat.le_of_ble_eq_true rfl) BUL.h BH.h)),0,rfl,rfl⟩
def q5b  (l21:List GProp):Option ((List GProp)) :=
 some l21
def q3e (p1:List (List GProp)):Nat→Int→(List GProp)→Option ((List GProp))
 | 0,_,_=>none
 | m2+1,z18,l19 =>
  cond (decide (z18<(p1.length:Int)))
   (bindO (idxO p1 z18) fun x24 =>
   needO ((l19.length+x24.length)*40≤140737488355328∧l19.length+x24.length≤140737488355328) (
   (q3e p1 m2) (IntKind.i64.wrap (z18+1)) (l19++x24)))
   (q5b l19)
def q5a (p1:List (List GProp)) (n:Nat) (z9:Int):Option ((List GProp)) :=
 bindO (q64 n z9) fun r10 =>
 q3e p1 n 0 r10
def q3d (p1:List (List GProp)) (n:Nat):Nat→Int→Int→Option ((List GProp))
 | 0,_,_=>none
 | m1+1,z7,z8 =>
  cond (decide (z8<(p1.length:Int)))
   (bindO (idxO p1 z8) fun x28 =>
   cond (decide ((IntKind.i64.wrap (z7+(x28.length:Int)))<0))
    (none)
    ((q3d p1 n m1) (IntKind.i64.wrap (z7+(x28.length:Int))) (IntKind.i64.wrap (z8+1))))
   (q5a p1 n z7)
def q59 (n:Nat) (p1:List (List GProp)):Option ((List GProp)) :=
 q3d p1 n n 0 0
theorem qd0 (n:Nat) (p1:List (List GProp)) (r:(List GProp)) (hF:q59 n p1=some r):EvU Tryz.prog 82 [.isl false (List.map (cL cGProp) p1)] ⟨[],0⟩ (fun u σ'=>∃ t,u = .vl 0 t 0 r.length∧σ'=⟨[(0,.vec (List.map cGProp r).flatten 33 4 t)],0+1⟩):=by
 unfold q59 at hF
 refine EvU.of_body Tryz.tb_ok fn82 rfl ?_
 refine WPU.ghost (tm':=fr 36 [(0,.isl false (List.map (cL cGProp) p1))]) (Gh.start (Nat.le_of_ble_eq_true rfl)) (Nat.zero_le _) ?_
 refine sr ?_
 refine se ?_
 refine se ?_
 refine RS.q rfl (q0k rfl rfl rfl (q0g (cL cGProp) und80)) (RS.mv rfl rfl rfl rfl ?_)
 refine sd ?_
 refine WPU.ghost (tm':=fr 36 [(0,.isl false (List.map (cL cGProp) p1)),(3,.int .i64 0),(9,.isl false (List.map (cL cGProp) p1)),(10,.int .i64 (p1.length:Int)),(11,.int .i64 0)]) (Gh.sub ⟨rfl,rfl,rfl,rfl,rfl,trivial⟩) (Nat.zero_le _) ?_
 refine WPU.loopK (fun m tm σ=>∃ z7:Int,∃ z8:Int,q3d p1 n m z7 z8=some r∧tm=fr 36 [(0,.isl false (List.map (cL cGProp) p1)),(3,.int .i64 z7),(9,.isl false (List.map (cL cGProp) p1)),(10,.int .i64 (p1.length:Int)),(11,.int .i64 z8)]∧σ=⟨[],0⟩) (fun tm σ=>∃ z9:Int,q5a p1 n z9=some r∧tm=fr 36 [(0,.isl false (List.map (cL cGProp) p1)),(3,.int .i64 z9)]∧σ=⟨[],0⟩) n ⟨0,0,hF,rfl,rfl⟩ ?_ ?_
 rintro _ _ ⟨z9,hF,rfl,rfl⟩
 unfold q5a at hF
 refine st ?_
 obtain ⟨r10,h11,hF⟩:=q00 hF
 refine sr ?_
 refine RS.callx (R:=fun u σ'=>∃ t12,u = .vl 0 t12 0 r10.length∧σ'=⟨[(0,.vec (List.map cGProp r10).flatten 33 4 t12)],1⟩) (args:=[.nils,.int .i64 z9]) rfl (q03 rfl rfl fn96 hb96 rfl rfl) (EvU.own1 cGProp (qep n z9 r10 h11) _ 0 rfl) rfl rfl ?_
 rintro _ _ ⟨t12,rfl,rfl⟩
 refine se ?_
 refine RS.q rfl (q0k rfl rfl rfl (q0g (cL cGProp) und80)) (RS.mv rfl rfl rfl rfl ?_)
 refine sd ?_
 refine WPU.ghost (tm':=fr 36 [(6,.vl 0 t12 0 r10.length),(25,.isl false (List.map (cL cGProp) p1)),(26,.int .i64 (p1.length:Int)),(27,.int .i64 0)]) (Gh.sub ⟨rfl,rfl,rfl,rfl,trivial⟩) (Nat.zero_le _) ?_
 refine WPU.loopK (fun m tm σ=>∃ z18:Int,∃ l19:List GProp,∃ t20:Nat,q3e p1 m z18 l19=some r∧tm=fr 36 [(6,.vl 0 t20 0 l19.length),(25,.isl false (List.map (cL cGProp) p1)),(26,.int .i64 (p1.length:Int)),(27,.int .i64 z18)]∧σ=⟨[(0,.vec (List.map cGProp l19).flatten 33 4 t20)],1⟩) (fun tm σ=>∃ l21:List GProp,∃ t22:Nat,q5b l21=some r∧tm=fr 36 [(6,.vl 0 t22 0 l21.length)]∧σ=⟨[(0,.vec (List.map cGProp l21).flatten 33 4 t22)],1⟩) n ⟨0,r10,t12,hF,rfl,rfl⟩ ?_ ?_
 rintro _ _ ⟨l21,t22,hF,rfl,rfl⟩
 unfold q5b at hF
 refine sr ?_
 refine sd ?_
 refine WPU.ret ?_
 refine st ?_
 have hr:=Option.some.inj hF
 subst hr
 exact ⟨.inr rfl,[.vl 0 t22 0 l21.length],q0l rfl q0i,.vl 0 t22 0 l21.length,⟨[(0,.vec (List.map cGProp l21).flatten 33 4 t22)],1⟩,(Nat.zero_le _),Gh.trans (Gh.only (fun k=>Nat.beq k 0)) (Gh.to (n1:=1) [] rfl rfl (Nat.zero_le _) (Nat.le_of_ble_eq_true rfl) BUL.h BH.h),t22,rfl,rfl⟩
 rintro m2 _ _ ⟨z18,l19,t20,hF,rfl,rfl⟩
 rcases m2 with _ | m2
 cases hF
 unfold q3e at hF
 refine sr ?_
 refine RS.q rfl (q02 rfl rfl (q18 _ _ _) rfl) ?_
 refine sd ?_
 refine WPU.condS (t:=(decide (z18<(p1.length:Int)))) rfl (fun h23=>?_) (fun h23=>?_)
 replace hF:=q05 h23 hF
 refine st ?_
 refine WPU.skip ?_
 refine st ?_
 refine WPU.block ?_
 refine st ?_
 obtain ⟨x24,h25,hF⟩:=q00 hF
 refine sr ?_
 refine RS.q (u:=.iptr [.isl false (List.map cGProp x24)]) rfl (q2a rfl rfl (q1f (cL cGProp) und80 (q01 inf57) (qed cGProp) h25 rfl)) (RS.q (u:=.isl false (List.map cGProp x24)) rfl (q90 und57 rfl rfl rfl) ?_)
 refine sd ?_
 obtain ⟨h26,hF⟩:=q0n hF
 refine sr ?_
 repeat refine RS.mv rfl rfl rfl rfl ?_
 refine RS.q (u:=.vl 0 (t20+1) 0 ((l19++x24).length)) (σ':=⟨[(0,.vec (List.map cGProp (l19++x24)).flatten 33 4 (t20+1))],1⟩) rfl (q7i rfl rfl rfl rfl (q8m cGProp x24 und57 und57 inf33 rfl q0b rfl (qi9 cGProp q0b) h26)) ?_
 refine se ?_
 refine RS.q rfl (q02 rfl rfl (q1q _ _ _) rfl) (RS.mv rfl rfl rfl rfl ?_)
 refine sd ?_
 exact ⟨m2,_,_,Nat.lt_succ_self _,⟨(IntKind.i64.wrap (z18+1)),(l19++x24),(t20+1),hF,rfl,rfl⟩,(Nat.zero_le _),Gh.toC (n1:=1) ⟨rfl,rfl,rfl,rfl,trivial⟩ rfl (Nat.zero_le _) (by simp)⟩
 replace hF:=q04 h23 hF
 refine st ?_
 refine WPU.exit ?_
 refine st ?_
 exact ⟨_,_,⟨l19,t20,hF,rfl,rfl⟩,(Nat.zero_le _),Gh.toC (n1:=1) ⟨rfl,trivial⟩ rfl (Nat.zero_le _) (by simp)⟩
 rintro m1 _ _ ⟨z7,z8,hF,rfl,rfl⟩
 rcases m1 with _ | m1
 cases hF
 unfold q3d at hF
 refine sr ?_
 refine RS.q rfl (q02 rfl rfl (q18 _ _ _) rfl) ?_
 refine sd ?_
 refine WPU.condS (t:=(decide (z8<(p1.length:Int)))) rfl (fun h27=>?_) (fun h27=>?_)
 replace hF:=q05 h27 hF
 refine st ?_
 refine WPU.skip ?_
 refine st ?_
 refine WPU.block ?_
 refine st ?_
 obtain ⟨x28,h29,hF⟩:=q00 hF
 refine sr ?_
 refine RS.q (u:=.iptr [.isl false (List.map cGProp x28)]) rfl (q2a rfl rfl (q1f (cL cGProp) und80 (q01 inf57) (qed cGProp) h29 rfl)) (RS.q (u:=.isl false (List.map cGProp x28)) rfl (q90 und57 rfl rfl rfl) ?_)
 refine se ?_
 repeat refine RS.mv rfl rfl rfl rfl ?_
 refine RS.q rfl (q0k rfl rfl rfl (q0g cGProp und57)) (RS.q rfl (q02 rfl rfl (q1q _ _ _) rfl) ?_)
 refine se ?_
 refine RS.q rfl (q02 rfl rfl (q18 _ _ _) rfl) ?_
 refine sd ?_
 refine WPU.condS (t:=(decide ((IntKind.i64.wrap (z7+(x28.length:Int)))<0))) rfl (fun h30=>?_) (fun h30=>?_)
 replace hF:=q05 h30 hF
 cases hF
 replace hF:=q04 h30 hF
 refine st ?_
 refine WPU.skip ?_
 refine sr ?_
 refine RS.q rfl (q02 rfl rfl (q1q _ _ _) rfl) (RS.mv rfl rfl rfl rfl ?_)
 refine sd ?_
 exact ⟨m1,_,_,Nat.lt_succ_self _,⟨(IntKind.i64.wrap (z7+(x28.length:Int))),(IntKind.i64.wrap (z8+1)),hF,rfl,rfl⟩,(Nat.zero_le _),Gh.toC (n1:=0) ⟨rfl,rfl,rfl,rfl,rfl,trivial⟩ rfl (Nat.zero_le _) (by simp)⟩
 replace hF:=q04 h27 hF
 refine st ?_
 refine WPU.exit ?_
 refine st ?_
 exact ⟨_,_,⟨z7,hF,rfl,rfl⟩,(Nat.zero_le _),Gh.toC (n1:=0) ⟨rfl,rfl,trivial⟩ rfl (Nat.zero_le _) (by simp)⟩
def qbl (n:Nat) (p1:List GProp) (p2:GProp):Option (Bool) :=
 bindO (q1r (q88 n) n p1 p2) fun r3 =>
 some r3.2
theorem disc_has_0 (n:Nat) (p1:List GProp) (p2:GProp) (r:Bool) (hF:qbl n p1 p2=some r):EvU Tryz.prog 58 [.isl false (List.map cGProp p1),.agg (cGProp p2)] ⟨[],0⟩ (fun u _=>u = .bool r∧Bel 0 u):=by
 unfold qbl at hF
 refine EvU.of_body Tryz.tb_ok fn58 rfl ?_
 refine WPU.ghost (tm':=fr 14 [(0,.isl false (List.map cGProp p1)),(1,.agg (cGProp p2))]) (Gh.start (Nat.le_of_ble_eq_true rfl)) (Nat.zero_le _) ?_
 refine sr ?_
 refine RS.q (u:=.ptr 0 0 0) (σ':=⟨[(0,.row (cGProp p2) 33)],1⟩) rfl (q2j rfl rfl rfl) ?_
 refine sd ?_
 obtain ⟨r3,h4,hF⟩:=q00 hF
 refine sr ?_
 refine RS.q (u:=.agg (cGProp p2)) rfl (q0a und33 rfl (q01 inf33) rfl rfl rfl) (RS.call (u:=.tup [.int .i64 r3.1,.bool r3.2]) (args:=[.isl false (List.map cGProp p1),.agg (cGProp p2),.fn (.func 84) [] []]) rfl (q03 rfl rfl fn85 hb85 rfl rfl) (q7m (q88 n) (qc6 n) n p1 p2 r3 h4 _) rfl rfl (RS.mv rfl rfl rfl rfl (RS.q rfl (q26 rfl rfl) (RS.q rfl (q26 rfl rfl) ?_))))
 repeat refine RS.as rfl rfl rfl rfl ?_
 refine se ?_
 refine sd ?_
 refine WPU.ret ?_
 refine st ?_
 have hr:=Option.some.inj hF
 subst hr
 exact ⟨.inr rfl,[.bool r3.2],q0l rfl (q0i),.bool r3.2,⟨[],0⟩,Nat.le_refl _,Gh.toR (.bool r3.2) rfl,rfl,BU.h⟩
theorem qhb (n:Nat) (p1:List GProp) (p2:GProp) (r:Bool) (hF:qbl n p1 p2=some r) (σ:Sg):EvU Tryz.prog 58 [.isl false (List.map cGProp p1),.agg (cGProp p2)] σ (fun u σ'=>u = .bool r∧σ'=σ) :=
 EvU.pure1C (disc_has_0 n p1 p2 r hF) σ
def q4t   : Option (Bool) :=
 some true
def q34 (p1:List GDecision) (p2:List GDecision):Nat→Int→Option (Bool)
 | 0,_=>none
 | m1+1,z7 =>
  cond (decide (z7<(p1.length:Int)))
   (bindO (idxO p1 z7) fun x9 =>
   bindO (idxO p2 z7) fun x11 =>
   cond (!(eqGDecision x9 x11))
    (some false)
    ((q34 p1 p2 m1) (IntKind.i64.wrap (z7+1))))
   (q4t)
def q45 (n:Nat) (p1:List GDecision) (p2:List GDecision):Option (Bool) :=
 cond ((p1.length:Int) != (p2.length:Int))
  (some false)
  (q34 p1 p2 n 0)
theorem qce (n:Nat) (p1:List GDecision) (p2:List GDecision) (r:Bool) (hF:q45 n p1 p2=some r):EvU Tryz.prog 41 [.isl false (List.map cGDecision p1),.isl false (List.map cGDecision p2)] ⟨[],0⟩ (fun u _=>u = .bool r∧Bel 0 u):=by
 unfold q45 at hF
 refine EvU.of_body Tryz.tb_ok fn41 rfl ?_
 refine WPU.ghost (tm':=fr 26 [(0,.isl false (List.map cGDecision p1)),(1,.isl false (List.map cGDecision p2))]) (Gh.start (Nat.le_of_ble_eq_true rfl)) (Nat.zero_le _) ?_
 refine sr ?_
 refine se ?_
 refine RS.q rfl (q0k rfl rfl rfl (q0g cGDecision und26)) (RS.mv rfl rfl rfl rfl (RS.q rfl (q0k rfl rfl rfl (q0g cGDecision und26)) (RS.q rfl (q02 rfl rfl (q52 _ _ _) rfl) ?_)))
 refine sd ?_
 refine WPU.condS (t:=((p1.length:Int) != (p2.length:Int))) rfl (fun h3=>?_) (fun h3=>?_)
 replace hF:=q05 h3 hF
 refine sr ?_
 refine sd ?_
 refine WPU.ret ?_
 refine st ?_
 have hr:=Option.some.inj hF
 subst hr
 exact ⟨.inr rfl,[.bool false],q0l rfl (q0i),.bool false,⟨[],0⟩,Nat.le_refl _,Gh.toR (.bool false) rfl,rfl,BU.h⟩
 replace hF:=q04 h3 hF
 refine st ?_
 refine WPU.skip ?_
 refine sr ?_
 refine sd ?_
 refine WPU.ghost (tm':=fr 26 [(0,.isl false (List.map cGDecision p1)),(1,.isl false (List.map cGDecision p2)),(5,.int .i64 0)]) (Gh.sub ⟨rfl,rfl,rfl,trivial⟩) (Nat.zero_le _) ?_
 refine WPU.loopK (fun m tm σ=>∃ z7:Int,q34 p1 p2 m z7=some r∧tm=fr 26 [(0,.isl false (List.map cGDecision p1)),(1,.isl false (List.map cGDecision p2)),(5,.int .i64 z7)]∧σ=⟨[],0⟩) (fun tm σ=>q4t=some r∧tm=fr 26 []∧σ=⟨[],0⟩) n ⟨0,hF,rfl,rfl⟩ ?_ ?_
 rintro _ _ ⟨hF,rfl,rfl⟩
 unfold q4t at hF
 refine sr ?_
 refine sd ?_
 refine WPU.ret ?_
 refine st ?_
 have hr:=Option.some.inj hF
 subst hr
 exact ⟨.inr rfl,[.bool true],q0l rfl (q0i),.bool true,⟨[],0⟩,Nat.le_refl _,Gh.toR (.bool true) rfl,rfl,BU.h⟩
 rintro m1 _ _ ⟨z7,hF,rfl,rfl⟩
 rcases m1 with _ | m1
 cases hF
 unfold q34 at hF
 refine sr ?_
 repeat refine RS.mv rfl rfl rfl rfl ?_
 refine RS.q rfl (q0k rfl rfl rfl (q0g cGDecision und26)) (RS.q rfl (q02 rfl rfl (q18 _ _ _) rfl) ?_)
 refine sd ?_
 refine WPU.condS (t:=(decide (z7<(p1.length:Int)))) rfl (fun h8=>?_) (fun h8=>?_)
 replace hF:=q05 h8 hF
 refine st ?_
 refine WPU.skip ?_
 refine st ?_
 refine WPU.block ?_
 refine st ?_
 obtain ⟨x9,h10,hF⟩:=q00 hF
 obtain ⟨x11,h12,hF⟩:=q00 hF
 refine WPU.drawE Tryz.tb_ok [] (by kernel_rfl) ?_
 repeat refine RD.mv rfl rfl rfl rfl ?_
 refine RD.q (u:=.iptr (cGDecision x9)) rfl (q2a rfl rfl (q1f cGDecision und26 (q01 inf62) q0f h10 rfl)) (RD.q (u:=.agg (cGDecision x9)) rfl (q2e und62 rfl (q01 inf62) rfl rfl) ?_)
 repeat refine RD.mv rfl rfl rfl rfl ?_
 refine RD.q (u:=.iptr (cGDecision x11)) rfl (q2a rfl rfl (q1f cGDecision und26 (q01 inf62) q0f h12 rfl)) (RD.q (u:=.agg (cGDecision x11)) rfl (q2e und62 rfl (q01 inf62) rfl rfl) (RD.q (u:=.bool (!(eqGDecision x9 x11))) rfl (q7j rfl rfl (eqq62_neq x9 x11)) ?_))
 refine RD.done ⟨by kernel_rfl,trivial,?_⟩
 refine st ?_
 refine WPU.condS (t:=(!(eqGDecision x9 x11))) rfl (fun h13=>?_) (fun h13=>?_)
 replace hF:=q05 h13 hF
 refine sr ?_
 refine sd ?_
 refine WPU.ret ?_
 refine st ?_
 have hr:=Option.some.inj hF
 subst hr
 exact ⟨.inr rfl,[.bool false],q0l rfl (q0i),.bool false,⟨[],0⟩,Nat.le_refl _,Gh.toR (.bool false) rfl,rfl,BU.h⟩
 replace hF:=q04 h13 hF
 refine st ?_
 refine WPU.skip ?_
 refine sr ?_
 refine RS.q rfl (q02 rfl rfl (q1q _ _ _) rfl) ?_
 refine sd ?_
 exact ⟨m1,_,_,Nat.lt_succ_self _,⟨(IntKind.i64.wrap (z7+1)),hF,rfl,rfl⟩,(Nat.zero_le _),Gh.toC (n1:=0) ⟨rfl,rfl,rfl,trivial⟩ rfl (Nat.zero_le _) (by simp)⟩
 replace hF:=q04 h8 hF
 refine st ?_
 refine WPU.exit ?_
 refine st ?_
 exact ⟨_,_,⟨hF,rfl,rfl⟩,(Nat.zero_le _),Gh.toC (n1:=0) trivial rfl (Nat.zero_le _) (by simp)⟩
theorem q92 (n:Nat) (p1:List GDecision) (p2:List GDecision) (r:Bool) (hF:q45 n p1 p2=some r) (σ:Sg):EvU Tryz.prog 41 [.isl false (List.map cGDecision p1),.isl false (List.map cGDecision p2)] σ (fun u σ'=>u = .bool r∧σ'=σ) :=
 EvU.pure1C (qce n p1 p2 r hF) σ
def q7b (n:Nat) (p1:Int) (p2:Int):Option (Int) :=
 cond (decide (p1<p2))
  (some (-1))
  (cond (decide (p1 > p2))
   (some 1)
   (some 0))
theorem ref28_ints_0 (n:Nat) (p1:Int) (p2:Int) (r:Int) (hF:q7b n p1 p2=some r):EvU Tryz.prog 53 [.int .i64 p1,.int .i64 p2] ⟨[],0⟩ (fun u _=>u = .int .i64 r∧Bel 0 u):=by
 unfold q7b at hF
 refine EvU.of_body Tryz.tb_ok fn53 rfl ?_
 refine WPU.ghost (tm':=fr 11 [(0,.int .i64 p1),(1,.int .i64 p2)]) (Gh.start (Nat.le_of_ble_eq_true rfl)) (Nat.zero_le _) ?_
 refine sr ?_
 refine se ?_
 repeat refine RS.mv rfl rfl rfl rfl ?_
 refine RS.q rfl (q02 rfl rfl (q18 _ _ _) rfl) ?_
 refine sd ?_
 refine WPU.condS (t:=(decide (p1<p2))) rfl (fun h3=>?_) (fun h3=>?_)
 replace hF:=q05 h3 hF
 refine sr ?_
 refine sd ?_
 refine WPU.ret ?_
 refine st ?_
 have hr:=Option.some.inj hF
 subst hr
 exact ⟨.inr rfl,[.int .i64 (-1)],q0l rfl (q0i),.int .i64 (-1),⟨[],0⟩,Nat.le_refl _,Gh.toR (.int .i64 (-1)) rfl,rfl,BU.h⟩
 replace hF:=q04 h3 hF
 refine st ?_
 refine WPU.skip ?_
 refine sr ?_
 repeat refine RS.mv rfl rfl rfl rfl ?_
 refine RS.q rfl (q02 rfl rfl (qhi _ _ _) rfl) ?_
 refine sd ?_
 refine WPU.condS (t:=(decide (p1 > p2))) rfl (fun h4=>?_) (fun h4=>?_)
 replace hF:=q05 h4 hF
 refine sr ?_
 refine sd ?_
 refine WPU.ret ?_
 refine st ?_
 have hr:=Option.some.inj hF
 subst hr
 exact ⟨.inr rfl,[.int .i64 1],q0l rfl (q0i),.int .i64 1,⟨[],0⟩,Nat.le_refl _,Gh.toR (.int .i64 1) rfl,rfl,BU.h⟩
 replace hF:=q04 h4 hF
 refine st ?_
 refine WPU.skip ?_
 refine sr ?_
 refine sd ?_
 refine WPU.ret ?_
 refine st ?_
 have hr:=Option.some.inj hF
 subst hr
 exact ⟨.inr rfl,[.int .i64 0],q0l rfl (q0i),.int .i64 0,⟨[],0⟩,Nat.le_refl _,Gh.toR (.int .i64 0) rfl,rfl,BU.h⟩
theorem qa3 (n:Nat) (p1:Int) (p2:Int) (r:Int) (hF:q7b n p1 p2=some r) (σ:Sg):EvU Tryz.prog 53 [.int .i64 p1,.int .i64 p2] σ (fun u σ'=>u = .int .i64 r∧σ'=σ) :=
 EvU.pure1C (ref28_ints_0 n p1 p2 r hF) σ
def q60 (p1:GDeriv) (p2:GDeriv) (n:Nat)  : Option (Int) :=
 bindO (q7b n (p1.Kids.length:Int) (p2.Kids.length:Int)) fun r26 =>
 some r26
def q4x (p1:GDeriv) (p2:GDeriv) (n:Nat) (self:GDeriv→GDeriv→Option (Int)):Nat→Int→Option (Int)
 | 0,_=>none
 | m1+1,z25 =>
  bindO (cond (decide (z25<(p1.Kids.length:Int)))
   (some (decide (z25<(p2.Kids.length:Int))))
   (some false)) fun b29 =>
  cond b29
   (bindO (idxO p1.Kids z25) fun x32 =>
   bindO (idxO p2.Kids z25) fun x34 =>
   bindO (self x32 x34) fun r36 =>
   cond (r36 != 0)
    (some r36)
    ((q4x p1 p2 n self m1) (IntKind.i64.wrap (z25+1))))
   (q60 p1 p2 n)
def qal (n:Nat) (self:GDeriv→GDeriv→Option (Int)) (p1:GDeriv) (p2:GDeriv):Option (Int) :=
 cond (p1.From != p2.From)
  (bindO (q7b n p1.From p2.From) fun r4 =>
  some r4)
  (cond (p1.To != p2.To)
   (bindO (q7b n p1.To p2.To) fun r7 =>
   some r7)
   (cond (p1.Kind != p2.Kind)
    (bindO (q7b n p1.Kind p2.Kind) fun r10 =>
    some r10)
    (cond (!bytesEq p1.Name p2.Name)
     (cond (bytesLt p1.Name p2.Name)
      (some (-1))
      (some 1))
     (q4x p1 p2 n self n 0))))
def q3m:Nat→GDeriv→GDeriv→Option (Int)
 | 0,_,_=>none
 | n+1,p1,p2=>qal n (q3m n) p1 p2
theorem qcc:∀ (n:Nat) (p1:GDeriv) (p2:GDeriv) (r:Int),q3m n p1 p2=some r→EvU Tryz.prog 22 [.agg (xGDeriv p1),.agg (xGDeriv p2)] ⟨[],0⟩ (fun u _=>u = .int .i64 r∧Bel 0 u)
 | 0,p1,p2,r,hF=>by cases hF
 | n+1,p1,p2,r,hF=>by
  have ih:=qcc n
  have ihS:∀ (p1:GDeriv) (p2:GDeriv) (r:Int),q3m n p1 p2=some r→∀ σ,EvU Tryz.prog 22 [.agg (xGDeriv p1),.agg (xGDeriv p2)] σ (fun u σ'=>u = .int .i64 r∧σ'=σ):=fun p1 p2 r h σ=>EvU.pure1C (ih p1 p2 r h) σ
  unfold q3m qal at hF
  refine EvU.of_body Tryz.tb_ok fn22 rfl ?_
  refine WPU.ghost (tm':=fr 82 [(0,.agg (xGDeriv p1)),(1,.agg (xGDeriv p2))]) (Gh.start (Nat.le_of_ble_eq_true rfl)) (Nat.zero_le _) ?_
  refine sr ?_
  refine RS.q (u:=.ptr 0 0 0) (σ':=⟨[(0,.row (xGDeriv p1) 43)],1⟩) rfl (q2j rfl rfl rfl) (RS.q (u:=.ptr 1 0 0) (σ':=⟨[(1,.row (xGDeriv p2) 43),(0,.row (xGDeriv p1) 43)],2⟩) rfl (q2j rfl rfl rfl) ?_)
  refine se ?_
  refine RS.q (u:=.ptr 0 0 2) rfl (q0c und43 rfl (q01 inf3) rfl rfl rfl) (RS.q (u:=.int .i64 p1.From) rfl (q09 und3 rfl rfl rfl rfl) (RS.q (u:=.ptr 1 0 2) rfl (q0c und43 rfl (q01 inf3) rfl rfl rfl) (RS.q (u:=.int .i64 p2.From) rfl (q09 und3 rfl rfl rfl rfl) (RS.q rfl (q02 rfl rfl (q52 _ _ _) rfl) ?_))))
  refine sd ?_
  refine WPU.condS (t:=(p1.From != p2.From)) rfl (fun h3=>?_) (fun h3=>?_)
  replace hF:=q05 h3 hF
  refine st ?_
  obtain ⟨r4,h5,hF⟩:=q00 hF
  refine sr ?_
  refine RS.q (u:=.ptr 0 0 2) rfl (q0c und43 rfl (q01 inf3) rfl rfl rfl) (RS.q (u:=.int .i64 p1.From) rfl (q09 und3 rfl rfl rfl rfl) (RS.q (u:=.ptr 1 0 2) rfl (q0c und43 rfl (q01 inf3) rfl rfl rfl) (RS.q (u:=.int .i64 p2.From) rfl (q09 und3 rfl rfl rfl rfl) (RS.call (u:=.int .i64 r4) (args:=[.int .i64 p1.From,.int .i64 p2.From]) rfl (q03 rfl rfl fn53 hb53 rfl rfl) (qa3 n p1.From p2.From r4 h5 _) rfl rfl ?_))))
  refine sd ?_
  refine WPU.ret ?_
  refine st ?_
  have hr:=Option.some.inj hF
  subst hr
  exact ⟨.inr rfl,[.int .i64 r4],q0l rfl (q0i),.int .i64 r4,⟨[],0⟩,Nat.le_refl _,Gh.toR (.int .i64 r4) rfl,rfl,BU.h⟩
  replace hF:=q04 h3 hF
  refine st ?_
  refine WPU.skip ?_
  refine sr ?_
  refine RS.q (u:=.ptr 0 0 3) rfl (q0c und43 rfl (q01 inf3) rfl rfl rfl) (RS.q (u:=.int .i64 p1.To) rfl (q09 und3 rfl rfl rfl rfl) (RS.q (u:=.ptr 1 0 3) rfl (q0c und43 rfl (q01 inf3) rfl rfl rfl) (RS.q (u:=.int .i64 p2.To) rfl (q09 und3 rfl rfl rfl rfl) (RS.q rfl (q02 rfl rfl (q52 _ _ _) rfl) ?_))))
  refine sd ?_
  refine WPU.condS (t:=(p1.To != p2.To)) rfl (fun h6=>?_) (fun h6=>?_)
  replace hF:=q05 h6 hF
  refine st ?_
  obtain ⟨r7,h8,hF⟩:=q00 hF
  refine sr ?_
  refine RS.q (u:=.ptr 0 0 3) rfl (q0c und43 rfl (q01 inf3) rfl rfl rfl) (RS.q (u:=.int .i64 p1.To) rfl (q09 und3 rfl rfl rfl rfl) (RS.q (u:=.ptr 1 0 3) rfl (q0c und43 rfl (q01 inf3) rfl rfl rfl) (RS.q (u:=.int .i64 p2.To) rfl (q09 und3 rfl rfl rfl rfl) (RS.call (u:=.int .i64 r7) (args:=[.int .i64 p1.To,.int .i64 p2.To]) rfl (q03 rfl rfl fn53 hb53 rfl rfl) (qa3 n p1.To p2.To r7 h8 _) rfl rfl ?_))))
  refine sd ?_
  refine WPU.ret ?_
  refine st ?_
  have hr:=Option.some.inj hF
  subst hr
  exact ⟨.inr rfl,[.int .i64 r7],q0l rfl (q0i),.int .i64 r7,⟨[],0⟩,Nat.le_refl _,Gh.toR (.int .i64 r7) rfl,rfl,BU.h⟩
  replace hF:=q04 h6 hF
  refine st ?_
  refine WPU.skip ?_
  refine sr ?_
  refine RS.q (u:=.ptr 0 0 0) rfl (q0c und43 rfl (q01 inf3) rfl rfl rfl) (RS.q (u:=.int .i64 p1.Kind) rfl (q09 und3 rfl rfl rfl rfl) (RS.q (u:=.ptr 1 0 0) rfl (q0c und43 rfl (q01 inf3) rfl rfl rfl) (RS.q (u:=.int .i64 p2.Kind) rfl (q09 und3 rfl rfl rfl rfl) (RS.q rfl (q02 rfl rfl (q52 _ _ _) rfl) ?_))))
  refine sd ?_
  refine WPU.condS (t:=(p1.Kind != p2.Kind)) rfl (fun h9=>?_) (fun h9=>?_)
  replace hF:=q05 h9 hF
  refine st ?_
  obtain ⟨r10,h11,hF⟩:=q00 hF
  refine sr ?_
  refine RS.q (u:=.ptr 0 0 0) rfl (q0c und43 rfl (q01 inf3) rfl rfl rfl) (RS.q (u:=.int .i64 p1.Kind) rfl (q09 und3 rfl rfl rfl rfl) (RS.q (u:=.ptr 1 0 0) rfl (q0c und43 rfl (q01 inf3) rfl rfl rfl) (RS.q (u:=.int .i64 p2.Kind) rfl (q09 und3 rfl rfl rfl rfl) (RS.call (u:=.int .i64 r10) (args:=[.int .i64 p1.Kind,.int .i64 p2.Kind]) rfl (q03 rfl rfl fn53 hb53 rfl rfl) (qa3 n p1.Kind p2.Kind r10 h11 _) rfl rfl ?_))))
  refine sd ?_
  refine WPU.ret ?_
  refine st ?_
  have hr:=Option.some.inj hF
  subst hr
  exact ⟨.inr rfl,[.int .i64 r10],q0l rfl (q0i),.int .i64 r10,⟨[],0⟩,Nat.le_refl _,Gh.toR (.int .i64 r10) rfl,rfl,BU.h⟩
  replace hF:=q04 h9 hF
  refine st ?_
  refine WPU.skip ?_
  refine sr ?_
  refine RS.q (u:=.ptr 0 0 1) rfl (q0c und43 rfl (q01 inf9) rfl rfl rfl) (RS.q (u:=.str p1.Name) rfl (q09 und9 rfl rfl rfl rfl) (RS.q (u:=.ptr 1 0 1) rfl (q0c und43 rfl (q01 inf9) rfl rfl rfl) (RS.q (u:=.str p2.Name) rfl (q09 und9 rfl rfl rfl rfl) (RS.q (u:=.bool (!bytesEq p1.Name p2.Name)) rfl (qau rfl rfl rfl rfl) ?_))))
  refine sd ?_
  refine WPU.condS (t:=(!bytesEq p1.Name p2.Name)) rfl (fun h12=>?_) (fun h12=>?_)
  replace hF:=q05 h12 hF
  refine sr ?_
  refine RS.q (u:=.ptr 0 0 1) rfl (q0c und43 rfl (q01 inf9) rfl rfl rfl) (RS.q (u:=.str p1.Name) rfl (q09 und9 rfl rfl rfl rfl) (RS.q (u:=.ptr 1 0 1) rfl (q0c und43 rfl (q01 inf9) rfl rfl rfl) (RS.q (u:=.str p2.Name) rfl (q09 und9 rfl rfl rfl rfl) (RS.q (u:=.bool (bytesLt p1.Name p2.Name)) rfl (qau rfl rfl rfl rfl) ?_))))
  refine sd ?_
  refine WPU.condS (t:=(bytesLt p1.Name p2.Name)) rfl (fun h13=>?_) (fun h13=>?_)
  replace hF:=q05 h13 hF
  refine sr ?_
  refine sd ?_
  refine WPU.ret ?_
  refine st ?_
  have hr:=Option.some.inj hF
  subst hr
  exact ⟨.inr rfl,[.int .i64 (-1)],q0l rfl (q0i),.int .i64 (-1),⟨[],0⟩,Nat.le_refl _,Gh.toR (.int .i64 (-1)) rfl,rfl,BU.h⟩
  replace hF:=q04 h13 hF
  refine st ?_
  refine WPU.skip ?_
  refine sr ?_
  refine sd ?_
  refine WPU.ret ?_
  refine st ?_
  have hr:=Option.some.inj hF
  subst hr
  exact ⟨.inr rfl,[.int .i64 1],q0l rfl (q0i),.int .i64 1,⟨[],0⟩,Nat.le_refl _,Gh.toR (.int .i64 1) rfl,rfl,BU.h⟩
  replace hF:=q04 h12 hF
  refine st ?_
  refine WPU.skip ?_
  refine sr ?_
  refine sd ?_
  refine WPU.ghost (tm':=fr 82 [(2,.ptr 0 0 0),(3,.ptr 1 0 0),(5,.int .i64 0)]) (Gh.sub ⟨rfl,rfl,rfl,trivial⟩) (Nat.zero_le _) ?_
  refine WPU.loopK (fun m tm σ=>∃ z25:Int,q4x p1 p2 n (q3m n) m z25=some r∧tm=fr 82 [(2,.ptr 0 0 0),(3,.ptr 1 0 0),(5,.int .i64 z25)]∧σ=⟨[(1,.row (xGDeriv p2) 43),(0,.row (xGDeriv p1) 43)],2⟩) (fun tm σ=>q60 p1 p2 n=some r∧tm=fr 82 [(2,.ptr 0 0 0),(3,.ptr 1 0 0)]∧σ=⟨[(1,.row (xGDeriv p2) 43),(0,.row (xGDeriv p1) 43)],2⟩) n ⟨0,hF,rfl,rfl⟩ ?_ ?_
  rintro _ _ ⟨hF,rfl,rfl⟩
  unfold q60 at hF
  refine st ?_
  obtain ⟨r26,h27,hF⟩:=q00 hF
  refine sr ?_
  refine RS.q (u:=.ptr 0 0 4) rfl (q0c und43 rfl (q01 inf22) rfl rfl rfl) (RS.q (u:=.isl false (List.map cGDeriv p1.Kids)) rfl (q09 und22 rfl rfl rfl rfl) (RS.q rfl (q0k rfl rfl rfl (q0g cGDeriv und22)) (RS.q (u:=.ptr 1 0 4) rfl (q0c und43 rfl (q01 inf22) rfl rfl rfl) (RS.q (u:=.isl false (List.map cGDeriv p2.Kids)) rfl (q09 und22 rfl rfl rfl rfl) (RS.q rfl (q0k rfl rfl rfl (q0g cGDeriv und22)) (RS.call (u:=.int .i64 r26) (args:=[.int .i64 (p1.Kids.length:Int),.int .i64 (p2.Kids.length:Int)]) rfl (q03 rfl rfl fn53 hb53 rfl rfl) (qa3 n (p1.Kids.length:Int) (p2.Kids.length:Int) r26 h27 _) rfl rfl ?_))))))
  refine sd ?_
  refine WPU.ret ?_
  refine st ?_
  have hr:=Option.some.inj hF
  subst hr
  exact ⟨.inr rfl,[.int .i64 r26],q0l rfl (q0i),.int .i64 r26,⟨[],0⟩,Nat.le_refl _,Gh.toR (.int .i64 r26) rfl,rfl,BU.h⟩
  rintro m1 _ _ ⟨z25,hF,rfl,rfl⟩
  rcases m1 with _ | m1
  cases hF
  unfold q4x at hF
  refine st ?_
  obtain ⟨b29,h30,hF⟩:=q00 hF
  refine WPU.joinK (fun tm σ=>tm=fr 82 [(2,.ptr 0 0 0),(3,.ptr 1 0 0),(5,.int .i64 z25),(58,.bool b29)]∧σ=⟨[(1,.row (xGDeriv p2) 43),(0,.row (xGDeriv p1) 43)],2⟩) ?_ ?_
  rintro _ _ ⟨rfl,rfl⟩
  refine st ?_
  refine WPU.condS (t:=b29) rfl (fun h31=>?_) (fun h31=>?_)
  replace hF:=q05 h31 hF
  refine st ?_
  refine WPU.skip ?_
  refine st ?_
  refine WPU.block ?_
  refine st ?_
  obtain ⟨x32,h33,hF⟩:=q00 hF
  obtain ⟨x34,h35,hF⟩:=q00 hF
  obtain ⟨r36,h37,hF⟩:=q00 hF
  refine WPU.drawE Tryz.tb_ok [] (by kernel_rfl) ?_
  refine RD.q (u:=.ptr 0 0 4) rfl (q0c und43 rfl (q01 inf22) rfl rfl rfl) (RD.q (u:=.isl false (List.map cGDeriv p1.Kids)) rfl (q09 und22 rfl rfl rfl rfl) (RD.mv rfl rfl rfl rfl (RD.q (u:=.iptr (xGDeriv x32)) rfl (q2a rfl rfl (q1f cGDeriv und22 (q01 inf43) q0e h33 (q0m x32))) (RD.q (u:=.agg (xGDeriv x32)) rfl (q2e und43 rfl (q01 inf43) rfl rfl) (RD.q (u:=.ptr 1 0 4) rfl (q0c und43 rfl (q01 inf22) rfl rfl rfl) (RD.q (u:=.isl false (List.map cGDeriv p2.Kids)) rfl (q09 und22 rfl rfl rfl rfl) (RD.mv rfl rfl rfl rfl ?_)))))))
  refine RD.q (u:=.iptr (xGDeriv x34)) rfl (q2a rfl rfl (q1f cGDeriv und22 (q01 inf43) q0e h35 (q0m x34))) (RD.q (u:=.agg (xGDeriv x34)) rfl (q2e und43 rfl (q01 inf43) rfl rfl) (RD.free (u:=.int .i64 r36) (args:=[.agg (xGDeriv x32),.agg (xGDeriv x34)]) rfl (q03 rfl rfl fn22 hb22 rfl rfl) (fun s=>ihS x32 x34 r36 h37 s) rfl rfl (RD.as rfl rfl rfl rfl ?_)))
  refine RD.done ⟨by kernel_rfl,trivial,?_⟩
  refine sr ?_
  refine RS.q rfl (q02 rfl rfl (q52 _ _ _) rfl) ?_
  refine sd ?_
  refine WPU.condS (t:=(r36 != 0)) rfl (fun h38=>?_) (fun h38=>?_)
  replace hF:=q05 h38 hF
  refine sr ?_
  refine sd ?_
  refine WPU.ret ?_
  refine st ?_
  have hr:=Option.some.inj hF
  subst hr
  exact ⟨.inr rfl,[.int .i64 r36],q0l rfl (q0i),.int .i64 r36,⟨[],0⟩,Nat.le_refl _,Gh.toR (.int .i64 r36) rfl,rfl,BU.h⟩
  replace hF:=q04 h38 hF
  refine st ?_
  refine WPU.skip ?_
  refine sr ?_
  refine RS.q rfl (q02 rfl rfl (q1q _ _ _) rfl) ?_
  refine sd ?_
  exact ⟨m1,_,_,Nat.lt_succ_self _,⟨(IntKind.i64.wrap (z25+1)),hF,rfl,rfl⟩,(Nat.zero_le _),Gh.toC (n1:=2) ⟨rfl,rfl,rfl,trivial⟩ rfl (Nat.zero_le _) (by simp)⟩
  replace hF:=q04 h31 hF
  refine st ?_
  refine WPU.exit ?_
  refine st ?_
  exact ⟨_,_,⟨hF,rfl,rfl⟩,(Nat.zero_le _),Gh.toC (n1:=2) ⟨rfl,rfl,trivial⟩ rfl (Nat.zero_le _) (by simp)⟩
  rcases q2r (decide (z25<(p1.Kids.length:Int))) with h28 | h28
  replace h30:=q05 h28 h30
  replace h30:=Option.some.inj h30
  subst h30
  refine sr ?_
  refine RS.q (u:=.ptr 0 0 4) rfl (q0c und43 rfl (q01 inf22) rfl rfl rfl) (RS.q (u:=.isl false (List.map cGDeriv p1.Kids)) rfl (q09 und22 rfl rfl rfl rfl) (RS.q rfl (q0k rfl rfl rfl (q0g cGDeriv und22)) (RS.q rfl (q02 rfl rfl (q18 _ _ _) rfl) (RS.mv rfl rfl rfl rfl (RS.op (want1 rfl rfl rfl h28) (q0h rfl) rfl rfl (RS.op (u:=.ptr 1 0 4) (want1 rfl rfl rfl h28) (q0c und43 rfl (q01 inf22) rfl rfl rfl) rfl rfl (RS.op (u:=.isl false (List.map cGDeriv p2.Kids)) (want1 rfl rfl rfl h28) (q09 und22 rfl rfl rfl rfl) rfl rfl ?_)))))))
  refine RS.op (want1 rfl rfl rfl h28) (q0k rfl rfl rfl (q0g cGDeriv und22)) rfl rfl (RS.op (want1 rfl rfl rfl h28) (q02 rfl rfl (q18 _ _ _) rfl) rfl rfl (RS.q (u:=.bool (decide (z25<(p2.Kids.length:Int)))) rfl (q06 rfl h28 rfl) ?_))
  refine sd ?_
  exact ⟨_,_,⟨rfl,rfl⟩,(Nat.zero_le _),Gh.toC (n1:=2) ⟨rfl,rfl,rfl,rfl,trivial⟩ rfl (Nat.zero_le _) (by simp)⟩
  replace h30:=q04 h28 h30
  replace h30:=Option.some.inj h30
  subst h30
  refine sr ?_
  refine RS.q (u:=.ptr 0 0 4) rfl (q0c und43 rfl (q01 inf22) rfl rfl rfl) (RS.q (u:=.isl false (List.map cGDeriv p1.Kids)) rfl (q09 und22 rfl rfl rfl rfl) (RS.q rfl (q0k rfl rfl rfl (q0g cGDeriv und22)) (RS.q rfl (q02 rfl rfl (q18 _ _ _) rfl) (RS.mv rfl rfl rfl rfl ?_))))
  repeat refine RS.no (want0 rfl rfl rfl h28) rfl rfl ?_
  refine RS.q (u:=.bool false) rfl (q07 rfl h28 rfl) ?_
  refine sd ?_
  exact ⟨_,_,⟨rfl,rfl⟩,(Nat.zero_le _),Gh.toC (n1:=2) ⟨rfl,rfl,rfl,rfl,trivial⟩ rfl (Nat.zero_le _) (by simp)⟩
theorem qby (n:Nat) (p1:GDeriv) (p2:GDeriv) (r:Int) (hF:q3m n p1 p2=some r) (σ:Sg):EvU Tryz.prog 22 [.agg (xGDeriv p1),.agg (xGDeriv p2)] σ (fun u σ'=>u = .int .i64 r∧σ'=σ) :=
 EvU.pure1C (qcc n p1 p2 r hF) σ
def q8v   : Option (Bool) :=
 some true
def q5o (p1:List GDeriv) (p2:List GDeriv) (n:Nat):Nat→Int→Option (Bool)
 | 0,_=>none
 | m1+1,z7 =>
  cond (decide (z7<(p1.length:Int)))
   (bindO (idxO p1 z7) fun x9 =>
   bindO (idxO p2 z7) fun x11 =>
   bindO (q3m n x9 x11) fun r13 =>
   cond (r13 != 0)
    (some false)
    ((q5o p1 p2 n m1) (IntKind.i64.wrap (z7+1))))
   (q8v)
def q9t (n:Nat) (p1:List GDeriv) (p2:List GDeriv):Option (Bool) :=
 cond ((p1.length:Int) != (p2.length:Int))
  (some false)
  (q5o p1 p2 n n 0)
theorem ref46_Derivs_0 (n:Nat) (p1:List GDeriv) (p2:List GDeriv) (r:Bool) (hF:q9t n p1 p2=some r):EvU Tryz.prog 42 [.isl false (List.map cGDeriv p1),.isl false (List.map cGDeriv p2)] ⟨[],0⟩ (fun u _=>u = .bool r∧Bel 0 u):=by
 unfold q9t at hF
 refine EvU.of_body Tryz.tb_ok fn42 rfl ?_
 refine WPU.ghost (tm':=fr 27 [(0,.isl false (List.map cGDeriv p1)),(1,.isl false (List.map cGDeriv p2))]) (Gh.start (Nat.le_of_ble_eq_true rfl)) (Nat.zero_le _) ?_
 refine sr ?_
 refine se ?_
 refine RS.q rfl (q0k rfl rfl rfl (q0g cGDeriv und22)) (RS.mv rfl rfl rfl rfl (RS.q rfl (q0k rfl rfl rfl (q0g cGDeriv und22)) (RS.q rfl (q02 rfl rfl (q52 _ _ _) rfl) ?_)))
 refine sd ?_
 refine WPU.condS (t:=((p1.length:Int) != (p2.length:Int))) rfl (fun h3=>?_) (fun h3=>?_)
 replace hF:=q05 h3 hF
 refine sr ?_
 refine sd ?_
 refine WPU.ret ?_
 refine st ?_
 have hr:=Option.some.inj hF
 subst hr
 exact ⟨.inr rfl,[.bool false],q0l rfl (q0i),.bool false,⟨[],0⟩,Nat.le_refl _,Gh.toR (.bool false) rfl,rfl,BU.h⟩
 replace hF:=q04 h3 hF
 refine st ?_
 refine WPU.skip ?_
 refine sr ?_
 refine sd ?_
 refine WPU.ghost (tm':=fr 27 [(0,.isl false (List.map cGDeriv p1)),(1,.isl false (List.map cGDeriv p2)),(5,.int .i64 0)]) (Gh.sub ⟨rfl,rfl,rfl,trivial⟩) (Nat.zero_le _) ?_
 refine WPU.loopK (fun m tm σ=>∃ z7:Int,q5o p1 p2 n m z7=some r∧tm=fr 27 [(0,.isl false (List.map cGDeriv p1)),(1,.isl false (List.map cGDeriv p2)),(5,.int .i64 z7)]∧σ=⟨[],0⟩) (fun tm σ=>q8v=some r∧tm=fr 27 []∧σ=⟨[],0⟩) n ⟨0,hF,rfl,rfl⟩ ?_ ?_
 rintro _ _ ⟨hF,rfl,rfl⟩
 unfold q8v at hF
 refine sr ?_
 refine sd ?_
 refine WPU.ret ?_
 refine st ?_
 have hr:=Option.some.inj hF
 subst hr
 exact ⟨.inr rfl,[.bool true],q0l rfl (q0i),.bool true,⟨[],0⟩,Nat.le_refl _,Gh.toR (.bool true) rfl,rfl,BU.h⟩
 rintro m1 _ _ ⟨z7,hF,rfl,rfl⟩
 rcases m1 with _ | m1
 cases hF
 unfold q5o at hF
 refine sr ?_
 repeat refine RS.mv rfl rfl rfl rfl ?_
 refine RS.q rfl (q0k rfl rfl rfl (q0g cGDeriv und22)) (RS.q rfl (q02 rfl rfl (q18 _ _ _) rfl) ?_)
 refine sd ?_
 refine WPU.condS (t:=(decide (z7<(p1.length:Int)))) rfl (fun h8=>?_) (fun h8=>?_)
 replace hF:=q05 h8 hF
 refine st ?_
 refine WPU.skip ?_
 refine st ?_
 refine WPU.block ?_
 refine st ?_
 obtain ⟨x9,h10,hF⟩:=q00 hF
 obtain ⟨x11,h12,hF⟩:=q00 hF
 obtain ⟨r13,h14,hF⟩:=q00 hF
 refine WPU.drawE Tryz.tb_ok [] (by kernel_rfl) ?_
 repeat refine RD.mv rfl rfl rfl rfl ?_
 refine RD.q (u:=.iptr (xGDeriv x9)) rfl (q2a rfl rfl (q1f cGDeriv und22 (q01 inf43) q0e h10 (q0m x9))) (RD.q (u:=.agg (xGDeriv x9)) rfl (q2e und43 rfl (q01 inf43) rfl rfl) ?_)
 repeat refine RD.mv rfl rfl rfl rfl ?_
 refine RD.q (u:=.iptr (xGDeriv x11)) rfl (q2a rfl rfl (q1f cGDeriv und22 (q01 inf43) q0e h12 (q0m x11))) (RD.q (u:=.agg (xGDeriv x11)) rfl (q2e und43 rfl (q01 inf43) rfl rfl) ?_)
 refine RD.free (u:=.int .i64 r13) (args:=[.agg (xGDeriv x9),.agg (xGDeriv x11)]) rfl (q03 rfl rfl fn22 hb22 rfl rfl) (fun s=>qby n x9 x11 r13 h14 s) rfl rfl ?_
 refine RD.q rfl (q02 rfl rfl (q52 _ _ _) rfl) ?_
 refine RD.done ⟨by kernel_rfl,trivial,?_⟩
 refine st ?_
 refine WPU.condS (t:=(r13 != 0)) rfl (fun h15=>?_) (fun h15=>?_)
 replace hF:=q05 h15 hF
 refine sr ?_
 refine sd ?_
 refine WPU.ret ?_
 refine st ?_
 have hr:=Option.some.inj hF
 subst hr
 exact ⟨.inr rfl,[.bool false],q0l rfl (q0i),.bool false,⟨[],0⟩,Nat.le_refl _,Gh.toR (.bool false) rfl,rfl,BU.h⟩
 replace hF:=q04 h15 hF
 refine st ?_
 refine WPU.skip ?_
 refine sr ?_
 refine RS.q rfl (q02 rfl rfl (q1q _ _ _) rfl) ?_
 refine sd ?_
 exact ⟨m1,_,_,Nat.lt_succ_self _,⟨(IntKind.i64.wrap (z7+1)),hF,rfl,rfl⟩,(Nat.zero_le _),Gh.toC (n1:=0) ⟨rfl,rfl,rfl,trivial⟩ rfl (Nat.zero_le _) (by simp)⟩
 replace hF:=q04 h8 hF
 refine st ?_
 refine WPU.exit ?_
 refine st ?_
 exact ⟨_,_,⟨hF,rfl,rfl⟩,(Nat.zero_le _),Gh.toC (n1:=0) trivial rfl (Nat.zero_le _) (by simp)⟩
theorem qi0 (n:Nat) (p1:List GDeriv) (p2:List GDeriv) (r:Bool) (hF:q9t n p1 p2=some r) (σ:Sg):EvU Tryz.prog 42 [.isl false (List.map cGDeriv p1),.isl false (List.map cGDeriv p2)] σ (fun u σ'=>u = .bool r∧σ'=σ) :=
 EvU.pure1C (ref46_Derivs_0 n p1 p2 r hF) σ
def qad (n:Nat) (p1:GSession) (p2:GSession):Option (Bool) :=
 bindO (cond (p1.State == p2.State)
  (bindO (q45 n p1.Decisions p2.Decisions) fun r4 =>
  cond r4
   (bindO (q9t n p1.Readings p2.Readings) fun r7 =>
   some r7)
   (some false))
  (some false)) fun b9 =>
 some b9
theorem ref46_Same_0 (n:Nat) (p1:GSession) (p2:GSession) (r:Bool) (hF:qad n p1 p2=some r):EvU Tryz.prog 12 [.agg (cGSession p1),.agg (cGSession p2)] ⟨[],0⟩ (fun u _=>u = .bool r∧Bel 0 u):=by
 unfold qad at hF
 refine EvU.of_body Tryz.tb_ok fn12 rfl ?_
 refine WPU.ghost (tm':=fr 24 [(0,.agg (cGSession p1)),(1,.agg (cGSession p2))]) (Gh.start (Nat.le_of_ble_eq_true rfl)) (Nat.zero_le _) ?_
 refine sr ?_
 refine RS.q (u:=.ptr 0 0 0) (σ':=⟨[(0,.row (cGSession p1) 28)],1⟩) rfl (q2j rfl rfl rfl) (RS.q (u:=.ptr 1 0 0) (σ':=⟨[(1,.row (cGSession p2) 28),(0,.row (cGSession p1) 28)],2⟩) rfl (q2j rfl rfl rfl) ?_)
 refine sd ?_
 obtain ⟨b9,h10,hF⟩:=q00 hF
 refine WPU.joinK (fun tm σ=>tm=fr 24 [(4,.bool b9)]∧σ=⟨[(1,.row (cGSession p2) 28),(0,.row (cGSession p1) 28)],2⟩) ?_ ?_
 rintro _ _ ⟨rfl,rfl⟩
 refine st ?_
 refine WPU.ret ?_
 refine st ?_
 have hr:=Option.some.inj hF
 subst hr
 exact ⟨.inr rfl,[.bool b9],q0l rfl (q0i),.bool b9,⟨[],0⟩,Nat.le_refl _,Gh.toR (.bool b9) rfl,rfl,BU.h⟩
 rcases q2r (p1.State == p2.State) with h3 | h3
 replace h10:=q05 h3 h10
 obtain ⟨r4,h5,h10⟩:=q00 h10
 rcases q2r r4 with h6 | h6
 replace h10:=q05 h6 h10
 obtain ⟨r7,h8,h10⟩:=q00 h10
 replace h10:=Option.some.inj h10
 subst h10
 refine sr ?_
 refine RS.q (u:=.ptr 0 0 2) rfl (q0c und28 rfl (q01 inf3) rfl rfl rfl) (RS.q (u:=.int .i64 p1.State) rfl (q09 und3 rfl rfl rfl rfl) (RS.q (u:=.ptr 1 0 2) rfl (q0c und28 rfl (q01 inf3) rfl rfl rfl) (RS.q (u:=.int .i64 p2.State) rfl (q09 und3 rfl rfl rfl rfl) (RS.q rfl (q02 rfl rfl (q0j _ _ _) rfl) (RS.mv rfl rfl rfl rfl (RS.op (u:=.ptr 0 0 1) (want1 rfl rfl rfl h3) (q0c und28 rfl (q01 inf26) rfl rfl rfl) rfl rfl (RS.op (u:=.isl false (List.map cGDecision p1.Decisions)) (want1 rfl rfl rfl h3) (q09 und26 rfl rfl rfl rfl) rfl rfl ?_)))))))
 refine RS.op (u:=.ptr 1 0 1) (want1 rfl rfl rfl h3) (q0c und28 rfl (q01 inf26) rfl rfl rfl) rfl rfl (RS.op (u:=.isl false (List.map cGDecision p2.Decisions)) (want1 rfl rfl rfl h3) (q09 und26 rfl rfl rfl rfl) rfl rfl (RS.call (u:=.bool r4) (args:=[.isl false (List.map cGDecision p1.Decisions),.isl false (List.map cGDecision p2.Decisions)]) (want1 rfl rfl rfl h3) (q03 rfl rfl fn41 hb41 rfl rfl) (q92 n p1.Decisions p2.Decisions r4 h5 _) rfl rfl (RS.q (u:=.bool r4) rfl (q06 rfl h3 rfl) (RS.mv rfl rfl rfl rfl (RS.op (u:=.ptr 0 0 0) (want1 rfl rfl rfl h6) (q0c und28 rfl (q01 inf22) rfl rfl rfl) rfl rfl (RS.op (u:=.isl false (List.map cGDeriv p1.Readings)) (want1 rfl rfl rfl h6) (q09 und22 rfl rfl rfl rfl) rfl rfl (RS.op (u:=.ptr 1 0 0) (want1 rfl rfl rfl h6) (q0c und28 rfl (q01 inf22) rfl rfl rfl) rfl rfl ?_)))))))
 refine RS.op (u:=.isl false (List.map cGDeriv p2.Readings)) (want1 rfl rfl rfl h6) (q09 und22 rfl rfl rfl rfl) rfl rfl (RS.call (u:=.bool r7) (args:=[.isl false (List.map cGDeriv p1.Readings),.isl false (List.map cGDeriv p2.Readings)]) (want1 rfl rfl rfl h6) (q03 rfl rfl fn42 hb42 rfl rfl) (qi0 n p1.Readings p2.Readings r7 h8 _) rfl rfl (RS.q (u:=.bool r7) rfl (q06 rfl h6 rfl) ?_))
 refine sd ?_
 exact ⟨_,_,⟨rfl,rfl⟩,(Nat.zero_le _),Gh.toC (n1:=2) ⟨rfl,trivial⟩ rfl (Nat.zero_le _) (by simp)⟩
 replace h10:=q04 h6 h10
 replace h10:=Option.some.inj h10
 subst h10
 refine sr ?_
 refine RS.q (u:=.ptr 0 0 2) rfl (q0c und28 rfl (q01 inf3) rfl rfl rfl) (RS.q (u:=.int .i64 p1.State) rfl (q09 und3 rfl rfl rfl rfl) (RS.q (u:=.ptr 1 0 2) rfl (q0c und28 rfl (q01 inf3) rfl rfl rfl) (RS.q (u:=.int .i64 p2.State) rfl (q09 und3 rfl rfl rfl rfl) (RS.q rfl (q02 rfl rfl (q0j _ _ _) rfl) (RS.mv rfl rfl rfl rfl (RS.op (u:=.ptr 0 0 1) (want1 rfl rfl rfl h3) (q0c und28 rfl (q01 inf26) rfl rfl rfl) rfl rfl (RS.op (u:=.isl false (List.map cGDecision p1.Decisions)) (want1 rfl rfl rfl h3) (q09 und26 rfl rfl rfl rfl) rfl rfl ?_)))))))
 refine RS.op (u:=.ptr 1 0 1) (want1 rfl rfl rfl h3) (q0c und28 rfl (q01 inf26) rfl rfl rfl) rfl rfl (RS.op (u:=.isl false (List.map cGDecision p2.Decisions)) (want1 rfl rfl rfl h3) (q09 und26 rfl rfl rfl rfl) rfl rfl (RS.call (u:=.bool r4) (args:=[.isl false (List.map cGDecision p1.Decisions),.isl false (List.map cGDecision p2.Decisions)]) (want1 rfl rfl rfl h3) (q03 rfl rfl fn41 hb41 rfl rfl) (q92 n p1.Decisions p2.Decisions r4 h5 _) rfl rfl (RS.q (u:=.bool r4) rfl (q06 rfl h3 rfl) (RS.mv rfl rfl rfl rfl ?_))))
 repeat refine RS.no (want0 rfl rfl rfl h6) rfl rfl ?_
 refine RS.q (u:=.bool false) rfl (q07 rfl h6 rfl) ?_
 refine sd ?_
 exact ⟨_,_,⟨rfl,rfl⟩,(Nat.zero_le _),Gh.toC (n1:=2) ⟨rfl,trivial⟩ rfl (Nat.zero_le _) (by simp)⟩
 replace h10:=q04 h3 h10
 replace h10:=Option.some.inj h10
 subst h10
 refine sr ?_
 refine RS.q (u:=.ptr 0 0 2) rfl (q0c und28 rfl (q01 inf3) rfl rfl rfl) (RS.q (u:=.int .i64 p1.State) rfl (q09 und3 rfl rfl rfl rfl) (RS.q (u:=.ptr 1 0 2) rfl (q0c und28 rfl (q01 inf3) rfl rfl rfl) (RS.q (u:=.int .i64 p2.State) rfl (q09 und3 rfl rfl rfl rfl) (RS.q rfl (q02 rfl rfl (q0j _ _ _) rfl) (RS.mv rfl rfl rfl rfl ?_)))))
 repeat refine RS.no (want0 rfl rfl rfl h3) rfl rfl ?_
 refine RS.q (u:=.bool false) rfl (q07 rfl h3 rfl) (RS.mv rfl rfl rfl rfl ?_)
 repeat refine RS.no (want0 rfl rfl rfl rfl) rfl rfl ?_
 refine RS.q (u:=.bool false) rfl (q07 rfl rfl rfl) ?_
 refine sd ?_
 exact ⟨_,_,⟨rfl,rfl⟩,(Nat.zero_le _),Gh.toC (n1:=2) ⟨rfl,trivial⟩ rfl (Nat.zero_le _) (by simp)⟩
theorem ref46_Same_ok (n:Nat) (p1:GSession) (p2:GSession) (r:Bool) (hF:qad n p1 p2=some r) (σ:Sg):EvU Tryz.prog 12 [.agg (cGSession p1),.agg (cGSession p2)] σ (fun u σ'=>u = .bool r∧σ'=σ) :=
 EvU.pure1C (ref46_Same_0 n p1 p2 r hF) σ
def q7u  (z13:Int):Option (Int) :=
 some z13
def q6e (p1:GDeriv) (p2:Int) (self:GDeriv→Int→Option (Int)):Nat→Int→Int→Option (Int)
 | 0,_,_=>none
 | m1+1,z11,z12 =>
  bindO (cond (decide (z12<(p1.Kids.length:Int)))
   (some (decide (z11<p2)))
   (some false)) fun b15 =>
  cond b15
   (bindO (idxO p1.Kids z12) fun x18 =>
   bindO (self x18 (IntKind.i64.wrap (p2 - z11))) fun r20 =>
   (q6e p1 p2 self m1) (IntKind.i64.wrap (z11+r20)) (IntKind.i64.wrap (z12+1)))
   (q7u z11)
def qbs (n:Nat) (self:GDeriv→Int→Option (Int)) (p1:GDeriv) (p2:Int):Option (Int) :=
 q6e p1 p2 self n 1 0
def q5e:Nat→GDeriv→Int→Option (Int)
 | 0,_,_=>none
 | n+1,p1,p2=>qbs n (q5e n) p1 p2
theorem qei:∀ (n:Nat) (p1:GDeriv) (p2:Int) (r:Int),q5e n p1 p2=some r→EvU Tryz.prog 43 [.agg (xGDeriv p1),.int .i64 p2] ⟨[],0⟩ (fun u _=>u = .int .i64 r∧Bel 0 u)
 | 0,p1,p2,r,hF=>by cases hF
 | n+1,p1,p2,r,hF=>by
  have ih:=qei n
  have ihS:∀ (p1:GDeriv) (p2:Int) (r:Int),q5e n p1 p2=some r→∀ σ,EvU Tryz.prog 43 [.agg (xGDeriv p1),.int .i64 p2] σ (fun u σ'=>u = .int .i64 r∧σ'=σ):=fun p1 p2 r h σ=>EvU.pure1C (ih p1 p2 r h) σ
  unfold q5e qbs at hF
  refine EvU.of_body Tryz.tb_ok fn43 rfl ?_
  refine WPU.ghost (tm':=fr 31 [(0,.agg (xGDeriv p1)),(1,.int .i64 p2)]) (Gh.start (Nat.le_of_ble_eq_true rfl)) (Nat.zero_le _) ?_
  refine sr ?_
  refine RS.q (u:=.ptr 0 0 0) (σ':=⟨[(0,.row (xGDeriv p1) 43)],1⟩) rfl (q2j rfl rfl rfl) ?_
  refine se ?_
  refine se ?_
  refine sd ?_
  refine WPU.ghost (tm':=fr 31 [(1,.int .i64 p2),(2,.ptr 0 0 0),(5,.int .i64 1),(6,.int .i64 0)]) (Gh.sub ⟨rfl,rfl,rfl,rfl,trivial⟩) (Nat.zero_le _) ?_
  refine WPU.loopK (fun m tm σ=>∃ z11:Int,∃ z12:Int,q6e p1 p2 (q5e n) m z11 z12=some r∧tm=fr 31 [(1,.int .i64 p2),(2,.ptr 0 0 0),(5,.int .i64 z11),(6,.int .i64 z12)]∧σ=⟨[(0,.row (xGDeriv p1) 43)],1⟩) (fun tm σ=>∃ z13:Int,q7u z13=some r∧tm=fr 31 [(5,.int .i64 z13)]∧σ=⟨[(0,.row (xGDeriv p1) 43)],1⟩) n ⟨1,0,hF,rfl,rfl⟩ ?_ ?_
  rintro _ _ ⟨z13,hF,rfl,rfl⟩
  unfold q7u at hF
  refine sr ?_
  refine sd ?_
  refine WPU.ret ?_
  refine st ?_
  have hr:=Option.some.inj hF
  subst hr
  exact ⟨.inr rfl,[.int .i64 z13],q0l rfl (q0i),.int .i64 z13,⟨[],0⟩,Nat.le_refl _,Gh.toR (.int .i64 z13) rfl,rfl,BU.h⟩
  rintro m1 _ _ ⟨z11,z12,hF,rfl,rfl⟩
  rcases m1 with _ | m1
  cases hF
  unfold q6e at hF
  refine st ?_
  obtain ⟨b15,h16,hF⟩:=q00 hF
  refine WPU.joinK (fun tm σ=>tm=fr 31 [(1,.int .i64 p2),(2,.ptr 0 0 0),(5,.int .i64 z11),(6,.int .i64 z12),(16,.bool b15)]∧σ=⟨[(0,.row (xGDeriv p1) 43)],1⟩) ?_ ?_
  rintro _ _ ⟨rfl,rfl⟩
  refine st ?_
  refine WPU.condS (t:=b15) rfl (fun h17=>?_) (fun h17=>?_)
  replace hF:=q05 h17 hF
  refine st ?_
  refine WPU.skip ?_
  refine st ?_
  refine WPU.block ?_
  refine st ?_
  obtain ⟨x18,h19,hF⟩:=q00 hF
  obtain ⟨r20,h21,hF⟩:=q00 hF
  refine sr ?_
  refine RS.q (u:=.ptr 0 0 4) rfl (q0c und43 rfl (q01 inf22) rfl rfl rfl) (RS.q (u:=.isl false (List.map cGDeriv p1.Kids)) rfl (q09 und22 rfl rfl rfl rfl) (RS.mv rfl rfl rfl rfl (RS.q (u:=.iptr (xGDeriv x18)) rfl (q2a rfl rfl (q1f cGDeriv und22 (q01 inf43) q0e h19 (q0m x18))) (RS.q (u:=.agg (xGDeriv x18)) rfl (q2e und43 rfl (q01 inf43) rfl rfl) ?_))))
  repeat refine RS.mv rfl rfl rfl rfl ?_
  refine RS.q rfl (q02 rfl rfl (q8z _ _ _) rfl) (RS.call (u:=.int .i64 r20) (args:=[.agg (xGDeriv x18),.int .i64 (IntKind.i64.wrap (p2 - z11))]) rfl (q03 rfl rfl fn43 hb43 rfl rfl) (ihS x18 (IntKind.i64.wrap (p2 - z11)) r20 h21 _) rfl rfl (RS.q rfl (q02 rfl rfl (q1q _ _ _) rfl) ?_))
  refine se ?_
  refine RS.q rfl (q02 rfl rfl (q1q _ _ _) rfl) ?_
  refine sd ?_
  exact ⟨m1,_,_,Nat.lt_succ_self _,⟨(IntKind.i64.wrap (z11+r20)),(IntKind.i64.wrap (z12+1)),hF,rfl,rfl⟩,(Nat.zero_le _),Gh.toC (n1:=1) ⟨rfl,rfl,rfl,rfl,trivial⟩ rfl (Nat.zero_le _) (by simp)⟩
  replace hF:=q04 h17 hF
  refine st ?_
  refine WPU.exit ?_
  refine st ?_
  exact ⟨_,_,⟨z11,hF,rfl,rfl⟩,(Nat.zero_le _),Gh.toC (n1:=1) ⟨rfl,trivial⟩ rfl (Nat.zero_le _) (by simp)⟩
  rcases q2r (decide (z12<(p1.Kids.length:Int))) with h14 | h14
  replace h16:=q05 h14 h16
  replace h16:=Option.some.inj h16
  subst h16
  refine sr ?_
  refine RS.q (u:=.ptr 0 0 4) rfl (q0c und43 rfl (q01 inf22) rfl rfl rfl) (RS.q (u:=.isl false (List.map cGDeriv p1.Kids)) rfl (q09 und22 rfl rfl rfl rfl) (RS.q rfl (q0k rfl rfl rfl (q0g cGDeriv und22)) (RS.q rfl (q02 rfl rfl (q18 _ _ _) rfl) (RS.mv rfl rfl rfl rfl (RS.op (want1 rfl rfl rfl h14) (q0h rfl) rfl rfl (RS.op (want1 rfl rfl rfl h14) (q0h rfl) rfl rfl (RS.op (want1 rfl rfl rfl h14) (q02 rfl rfl (q18 _ _ _) rfl) rfl rfl ?_)))))))
  refine RS.q (u:=.bool (decide (z11<p2))) rfl (q06 rfl h14 rfl) ?_
  refine sd ?_
  exact ⟨_,_,⟨rfl,rfl⟩,(Nat.zero_le _),Gh.toC (n1:=1) ⟨rfl,rfl,rfl,rfl,rfl,trivial⟩ rfl (Nat.zero_le _) (by simp)⟩
  replace h16:=q04 h14 h16
  replace h16:=Option.some.inj h16
  subst h16
  refine sr ?_
  refine RS.q (u:=.ptr 0 0 4) rfl (q0c und43 rfl (q01 inf22) rfl rfl rfl) (RS.q (u:=.isl false (List.map cGDeriv p1.Kids)) rfl (q09 und22 rfl rfl rfl rfl) (RS.q rfl (q0k rfl rfl rfl (q0g cGDeriv und22)) (RS.q rfl (q02 rfl rfl (q18 _ _ _) rfl) (RS.mv rfl rfl rfl rfl ?_))))
  repeat refine RS.no (want0 rfl rfl rfl h14) rfl rfl ?_
  refine RS.q (u:=.bool false) rfl (q07 rfl h14 rfl) ?_
  refine sd ?_
  exact ⟨_,_,⟨rfl,rfl⟩,(Nat.zero_le _),Gh.toC (n1:=1) ⟨rfl,rfl,rfl,rfl,rfl,trivial⟩ rfl (Nat.zero_le _) (by simp)⟩
theorem ref37_Nodes_ok (n:Nat) (p1:GDeriv) (p2:Int) (r:Int) (hF:q5e n p1 p2=some r) (σ:Sg):EvU Tryz.prog 43 [.agg (xGDeriv p1),.int .i64 p2] σ (fun u σ'=>u = .int .i64 r∧σ'=σ) :=
 EvU.pure1C (qei n p1 p2 r hF) σ
def q7t (p2:Int) (z9:Int):Option (Bool) :=
 some (decide (z9≤p2))
def q6d (p1:List GDeriv) (p2:Int) (n:Nat):Nat→Int→Int→Option (Bool)
 | 0,_,_=>none
 | m1+1,z7,z8 =>
  bindO (cond (decide (z8<(p1.length:Int)))
   (some (decide (z7≤p2)))
   (some false)) fun b11 =>
  cond b11
   (bindO (idxO p1 z8) fun x14 =>
   bindO (q5e n x14 (IntKind.i64.wrap (p2+1))) fun r16 =>
   (q6d p1 p2 n m1) (IntKind.i64.wrap (z7+r16)) (IntKind.i64.wrap (z8+1)))
   (q7t p2 z7)
def qam (n:Nat) (p1:List GDeriv) (p2:Int):Option (Bool) :=
 q6d p1 p2 n n 0 0
theorem ref37_Light_0 (n:Nat) (p1:List GDeriv) (p2:Int) (r:Bool) (hF:qam n p1 p2=some r):EvU Tryz.prog 13 [.isl false (List.map cGDeriv p1),.int .i64 p2] ⟨[],0⟩ (fun u _=>u = .bool r∧Bel 0 u):=by
 unfold qam at hF
 refine EvU.of_body Tryz.tb_ok fn13 rfl ?_
 refine WPU.ghost (tm':=fr 30 [(0,.isl false (List.map cGDeriv p1)),(1,.int .i64 p2)]) (Gh.start (Nat.le_of_ble_eq_true rfl)) (Nat.zero_le _) ?_
 refine sr ?_
 refine se ?_
 refine se ?_
 refine sd ?_
 refine WPU.ghost (tm':=fr 30 [(0,.isl false (List.map cGDeriv p1)),(1,.int .i64 p2),(5,.int .i64 0),(6,.int .i64 0)]) (Gh.sub ⟨rfl,rfl,rfl,rfl,trivial⟩) (Nat.zero_le _) ?_
 refine WPU.loopK (fun m tm σ=>∃ z7:Int,∃ z8:Int,q6d p1 p2 n m z7 z8=some r∧tm=fr 30 [(0,.isl false (List.map cGDeriv p1)),(1,.int .i64 p2),(5,.int .i64 z7),(6,.int .i64 z8)]∧σ=⟨[],0⟩) (fun tm σ=>∃ z9:Int,q7t p2 z9=some r∧tm=fr 30 [(1,.int .i64 p2),(5,.int .i64 z9)]∧σ=⟨[],0⟩) n ⟨0,0,hF,rfl,rfl⟩ ?_ ?_
 rintro _ _ ⟨z9,hF,rfl,rfl⟩
 unfold q7t at hF
 refine sr ?_
 repeat refine RS.mv rfl rfl rfl rfl ?_
 refine RS.q rfl (q02 rfl rfl (qfr _ _ _) rfl) ?_
 refine sd ?_
 refine WPU.ret ?_
 refine st ?_
 have hr:=Option.some.inj hF
 subst hr
 exact ⟨.inr rfl,[.bool (decide (z9≤p2))],q0l rfl (q0i),.bool (decide (z9≤p2)),⟨[],0⟩,Nat.le_refl _,Gh.toR (.bool (decide (z9≤p2))) rfl,rfl,BU.h⟩
 rintro m1 _ _ ⟨z7,z8,hF,rfl,rfl⟩
 rcases m1 with _ | m1
 cases hF
 unfold q6d at hF
 refine st ?_
 obtain ⟨b11,h12,hF⟩:=q00 hF
 refine WPU.joinK (fun tm σ=>tm=fr 30 [(0,.isl false (List.map cGDeriv p1)),(1,.int .i64 p2),(5,.int .i64 z7),(6,.int .i64 z8),(15,.bool b11)]∧σ=⟨[],0⟩) ?_ ?_
 rintro _ _ ⟨rfl,rfl⟩
 refine st ?_
 refine WPU.condS (t:=b11) rfl (fun h13=>?_) (fun h13=>?_)
 replace hF:=q05 h13 hF
 refine st ?_
 refine WPU.skip ?_
 refine st ?_
 refine WPU.block ?_
 refine st ?_
 obtain ⟨x14,h15,hF⟩:=q00 hF
 obtain ⟨r16,h17,hF⟩:=q00 hF
 refine sr ?_
 repeat refine RS.mv rfl rfl rfl rfl ?_
 refine RS.q (u:=.iptr (xGDeriv x14)) rfl (q2a rfl rfl (q1f cGDeriv und22 (q01 inf43) q0e h15 (q0m x14))) (RS.q (u:=.agg (xGDeriv x14)) rfl (q2e und43 rfl (q01 inf43) rfl rfl) (RS.mv rfl rfl rfl rfl (RS.q rfl (q02 rfl rfl (q1q _ _ _) rfl) (RS.call (u:=.int .i64 r16) (args:=[.agg (xGDeriv x14),.int .i64 (IntKind.i64.wrap (p2+1))]) rfl (q03 rfl rfl fn43 hb43 rfl rfl) (ref37_Nodes_ok n x14 (IntKind.i64.wrap (p2+1)) r16 h17 _) rfl rfl (RS.q rfl (q02 rfl rfl (q1q _ _ _) rfl) ?_)))))
 refine se ?_
 refine RS.q rfl (q02 rfl rfl (q1q _ _ _) rfl) ?_
 refine sd ?_
 exact ⟨m1,_,_,Nat.lt_succ_self _,⟨(IntKind.i64.wrap (z7+r16)),(IntKind.i64.wrap (z8+1)),hF,rfl,rfl⟩,(Nat.zero_le _),Gh.toC (n1:=0) ⟨rfl,rfl,rfl,rfl,trivial⟩ rfl (Nat.zero_le _) (by simp)⟩
 replace hF:=q04 h13 hF
 refine st ?_
 refine WPU.exit ?_
 refine st ?_
 exact ⟨_,_,⟨z7,hF,rfl,rfl⟩,(Nat.zero_le _),Gh.toC (n1:=0) ⟨rfl,rfl,trivial⟩ rfl (Nat.zero_le _) (by simp)⟩
 rcases q2r (decide (z8<(p1.length:Int))) with h10 | h10
 replace h12:=q05 h10 h12
 replace h12:=Option.some.inj h12
 subst h12
 refine sr ?_
 repeat refine RS.mv rfl rfl rfl rfl ?_
 refine RS.q rfl (q0k rfl rfl rfl (q0g cGDeriv und22)) (RS.q rfl (q02 rfl rfl (q18 _ _ _) rfl) (RS.mv rfl rfl rfl rfl (RS.op (want1 rfl rfl rfl h10) (q0h rfl) rfl rfl (RS.op (want1 rfl rfl rfl h10) (q0h rfl) rfl rfl (RS.op (want1 rfl rfl rfl h10) (q02 rfl rfl (qfr _ _ _) rfl) rfl rfl (RS.q (u:=.bool (decide (z7≤p2))) rfl (q06 rfl h10 rfl) ?_))))))
 refine sd ?_
 exact ⟨_,_,⟨rfl,rfl⟩,(Nat.zero_le _),Gh.toC (n1:=0) ⟨rfl,rfl,rfl,rfl,rfl,trivial⟩ rfl (Nat.zero_le _) (by simp)⟩
 replace h12:=q04 h10 h12
 replace h12:=Option.some.inj h12
 subst h12
 refine sr ?_
 repeat refine RS.mv rfl rfl rfl rfl ?_
 refine RS.q rfl (q0k rfl rfl rfl (q0g cGDeriv und22)) (RS.q rfl (q02 rfl rfl (q18 _ _ _) rfl) (RS.mv rfl rfl rfl rfl ?_))
 repeat refine RS.no (want0 rfl rfl rfl h10) rfl rfl ?_
 refine RS.q (u:=.bool false) rfl (q07 rfl h10 rfl) ?_
 refine sd ?_
 exact ⟨_,_,⟨rfl,rfl⟩,(Nat.zero_le _),Gh.toC (n1:=0) ⟨rfl,rfl,rfl,rfl,rfl,trivial⟩ rfl (Nat.zero_le _) (by simp)⟩
theorem ref37_Light_ok (n:Nat) (p1:List GDeriv) (p2:Int) (r:Bool) (hF:qam n p1 p2=some r) (σ:Sg):EvU Tryz.prog 13 [.isl false (List.map cGDeriv p1),.int .i64 p2] σ (fun u σ'=>u = .bool r∧σ'=σ) :=
 EvU.pure1C (ref37_Light_0 n p1 p2 r hF) σ
def q98 (n:Nat) (p1:List GDeriv):Option (Bool) :=
 bindO (cond (decide ((p1.length:Int)≤5))
  (bindO (qam n p1 50) fun r3 =>
  some r3)
  (some false)) fun b5 =>
 some b5
theorem law46_light_0 (n:Nat) (p1:List GDeriv) (r:Bool) (hF:q98 n p1=some r):EvU Tryz.prog 4 [.isl false (List.map cGDeriv p1)] ⟨[],0⟩ (fun u _=>u = .bool r∧Bel 0 u):=by
 unfold q98 at hF
 refine EvU.of_body Tryz.tb_ok fn4 rfl ?_
 refine WPU.ghost (tm':=fr 10 [(0,.isl false (List.map cGDeriv p1))]) (Gh.start (Nat.le_of_ble_eq_true rfl)) (Nat.zero_le _) ?_
 refine sr ?_
 refine sd ?_
 obtain ⟨b5,h6,hF⟩:=q00 hF
 refine WPU.joinK (fun tm σ=>tm=fr 10 [(2,.bool b5)]∧σ=⟨[],0⟩) ?_ ?_
 rintro _ _ ⟨rfl,rfl⟩
 refine st ?_
 refine WPU.ret ?_
 refine st ?_
 have hr:=Option.some.inj hF
 subst hr
 exact ⟨.inr rfl,[.bool b5],q0l rfl (q0i),.bool b5,⟨[],0⟩,Nat.le_refl _,Gh.toR (.bool b5) rfl,rfl,BU.h⟩
 rcases q2r (decide ((p1.length:Int)≤5)) with h2 | h2
 replace h6:=q05 h2 h6
 obtain ⟨r3,h4,h6⟩:=q00 h6
 replace h6:=Option.some.inj h6
 subst h6
 refine sr ?_
 refine RS.q rfl (q0k rfl rfl rfl (q0g cGDeriv und22)) (RS.q rfl (q02 rfl rfl (qfr _ _ _) rfl) (RS.mv rfl rfl rfl rfl (RS.op (want1 rfl rfl rfl h2) (q0h rfl) rfl rfl (RS.call (u:=.bool r3) (args:=[.isl false (List.map cGDeriv p1),.int .i64 50]) (want1 rfl rfl rfl h2) (q03 rfl rfl fn13 hb13 rfl rfl) (ref37_Light_ok n p1 50 r3 h4 _) rfl rfl (RS.q (u:=.bool r3) rfl (q06 rfl h2 rfl) ?_)))))
 refine sd ?_
 exact ⟨_,_,⟨rfl,rfl⟩,(Nat.zero_le _),Gh.toC (n1:=0) ⟨rfl,trivial⟩ rfl (Nat.zero_le _) (by simp)⟩
 replace h6:=q04 h2 h6
 replace h6:=Option.some.inj h6
 subst h6
 refine sr ?_
 refine RS.q rfl (q0k rfl rfl rfl (q0g cGDeriv und22)) (RS.q rfl (q02 rfl rfl (qfr _ _ _) rfl) (RS.mv rfl rfl rfl rfl ?_))
 repeat refine RS.no (want0 rfl rfl rfl h2) rfl rfl ?_
 refine RS.q (u:=.bool false) rfl (q07 rfl h2 rfl) ?_
 refine sd ?_
 exact ⟨_,_,⟨rfl,rfl⟩,(Nat.zero_le _),Gh.toC (n1:=0) ⟨rfl,trivial⟩ rfl (Nat.zero_le _) (by simp)⟩
theorem qd5 (n:Nat) (p1:List GDeriv) (r:Bool) (hF:q98 n p1=some r) (σ:Sg):EvU Tryz.prog 4 [.isl false (List.map cGDeriv p1)] σ (fun u σ'=>u = .bool r∧σ'=σ) :=
 EvU.pure1C (law46_light_0 n p1 r hF) σ
def q97 (n:Nat) (p1:List UInt8):Option (GDeriv) :=
 some (GDeriv.mk 0 p1 0 1 [])
theorem law46_leaf_0 (n:Nat) (p1:List UInt8) (r:GDeriv) (hF:q97 n p1=some r):EvU Tryz.prog 14 [.str p1] ⟨[],0⟩ (fun u _=>u = .agg (xGDeriv r)∧Bel 0 u):=by
 unfold q97 at hF
 refine EvU.of_body Tryz.tb_ok fn14 rfl ?_
 refine WPU.ghost (tm':=fr 5 [(0,.str p1)]) (Gh.start (Nat.le_of_ble_eq_true rfl)) (Nat.zero_le _) ?_
 refine sr ?_
 refine RS.q (u:=.ptr 0 0 0) (σ':=⟨[(0,.row [.int .i64 0,.str [],.int .i64 0,.int .i64 0,.nils] 43)],1⟩) rfl (q0v inf43 rfl rfl) ?_
 refine se ?_
 refine RS.q (u:=.agg [.int .i64 0,.str p1,.int .i64 0,.int .i64 1,.nils]) rfl (q4d bd43 rfl rfl rfl) (RS.opn (u:=.junk) (σ':=⟨[(0,.row [.int .i64 0,.str p1,.int .i64 0,.int .i64 1,.nils] 43)],1⟩) rfl (q0d (q01 inf43) rfl rfl rfl rfl rfl rfl rfl rfl) rfl ?_)
 refine sd ?_
 refine WPU.ret ?_
 refine st ?_
 have hr:=Option.some.inj hF
 subst hr
 exact ⟨.inr rfl,[.agg [.int .i64 0,.str p1,.int .i64 0,.int .i64 1,.nils]],q5f (q0a und43 rfl (q01 inf43) rfl rfl rfl) (q0i),.agg [.int .i64 0,.str p1,.int .i64 0,.int .i64 1,.isl false []],⟨[],0⟩,Nat.le_refl _,Gh.trans (Gh.wk (.cons (.agg (.cons (.refl _) (.cons (.refl _) (.cons (.refl _) (.cons (.refl _) (.cons (.nil false) .nil)))))) .nil)) (Gh.toR (.agg [.int .i64 0,.str p1,.int .i64 0,.int .i64 1,.isl false []]) rfl),rfl,BU.h⟩
theorem qa0 (n:Nat) (p1:List UInt8) (r:GDeriv) (hF:q97 n p1=some r) (σ:Sg):EvU Tryz.prog 14 [.str p1] σ (fun u σ'=>u = .agg (xGDeriv r)∧σ'=σ) :=
 EvU.pure1C (law46_leaf_0 n p1 r hF) σ
def q1s   : Option (Int) :=
 some (-1)
def q0t (p1:List GDecision) (c2:List GProp) (f1:GDecision→(List GProp)→Option (Bool)):Nat→Int→Option (Int)
 | 0,_=>none
 | m1+1,z6 =>
  cond (decide (z6<(p1.length:Int)))
   (bindO (idxO p1 z6) fun x8 =>
   bindO (f1 x8 c2) fun r10 =>
   cond r10
    (some z6)
    ((q0t p1 c2 f1 m1) (IntKind.i64.wrap (z6+1))))
   (q1s)
def q1h (f1:GDecision→(List GProp)→Option (Bool)) (n:Nat) (p1:List GDecision) (c2:List GProp):Option (Int) :=
 q0t p1 c2 f1 n 0
theorem q71 (f1:GDecision→(List GProp)→Option (Bool)) (hf1:∀ (a0:GDecision) (a1:List GProp) (r:Bool),f1 a0 a1=some r→EvU Tryz.prog 81 [.agg (cGDecision a0),.iptr [.isl false (List.map cGProp a1)]] ⟨[],0⟩ (fun u _=>u = .bool r∧Bel 0 u)) (n:Nat) (p1:List GDecision) (c2:List GProp) (r:Int) (hF:q1h f1 n p1 c2=some r):EvU Tryz.prog 62 [.isl false (List.map cGDecision p1),.fn (.func 81) [] [.iptr [.isl false (List.map cGProp c2)]]] ⟨[],0⟩ (fun u _=>u = .int .i64 r∧Bel 0 u):=by
 unfold q1h at hF
 have hf1S:∀ (a0:GDecision) (a1:List GProp) (r:Bool),f1 a0 a1=some r→∀ σ,EvU Tryz.prog 81 [.agg (cGDecision a0),.iptr [.isl false (List.map cGProp a1)]] σ (fun u σ'=>u = .bool r∧σ'=σ):=fun a0 a1 r h σ=>EvU.pure1C (hf1 a0 a1 r h) σ
 refine EvU.of_body Tryz.tb_ok fn62 rfl ?_
 refine WPU.ghost (tm':=fr 19 [(0,.isl false (List.map cGDecision p1)),(1,.fn (.func 81) [] [.iptr [.isl false (List.map cGProp c2)]])]) (Gh.start (Nat.le_of_ble_eq_true rfl)) (Nat.zero_le _) ?_
 refine sr ?_
 refine se ?_
 refine RS.q rfl (q0k rfl rfl rfl (q0g cGDecision und26)) (RS.mv rfl rfl rfl rfl ?_)
 refine sd ?_
 refine WPU.ghost (tm':=fr 19 [(0,.isl false (List.map cGDecision p1)),(1,.fn (.func 81) [] [.iptr [.isl false (List.map cGProp c2)]]),(7,.int .i64 (p1.length:Int)),(8,.int .i64 0)]) (Gh.sub ⟨rfl,rfl,rfl,rfl,trivial⟩) (Nat.zero_le _) ?_
 refine WPU.loopK (fun m tm σ=>∃ z6:Int,q0t p1 c2 f1 m z6=some r∧tm=fr 19 [(0,.isl false (List.map cGDecision p1)),(1,.fn (.func 81) [] [.iptr [.isl false (List.map cGProp c2)]]),(7,.int .i64 (p1.length:Int)),(8,.int .i64 z6)]∧σ=⟨[],0⟩) (fun tm σ=>q1s=some r∧tm=fr 19 []∧σ=⟨[],0⟩) n ⟨0,hF,rfl,rfl⟩ ?_ ?_
 rintro _ _ ⟨hF,rfl,rfl⟩
 unfold q1s at hF
 refine sr ?_
 refine sd ?_
 refine WPU.ret ?_
 refine st ?_
 have hr:=Option.some.inj hF
 subst hr
 exact ⟨.inr rfl,[.int .i64 (-1)],q0l rfl (q0i),.int .i64 (-1),⟨[],0⟩,Nat.le_refl _,Gh.toR (.int .i64 (-1)) rfl,rfl,BU.h⟩
 rintro m1 _ _ ⟨z6,hF,rfl,rfl⟩
 rcases m1 with _ | m1
 cases hF
 unfold q0t at hF
 refine sr ?_
 refine RS.q rfl (q02 rfl rfl (q18 _ _ _) rfl) ?_
 refine sd ?_
 refine WPU.condS (t:=(decide (z6<(p1.length:Int)))) rfl (fun h7=>?_) (fun h7=>?_)
 replace hF:=q05 h7 hF
 refine st ?_
 refine WPU.skip ?_
 refine st ?_
 refine WPU.block ?_
 refine sr ?_
 refine sd ?_
 obtain ⟨x8,h9,hF⟩:=q00 hF
 obtain ⟨r10,h11,hF⟩:=q00 hF
 refine sr ?_
 repeat refine RS.mv rfl rfl rfl rfl ?_
 refine RS.q (u:=.iptr (cGDecision x8)) rfl (q2a rfl rfl (q1f cGDecision und26 (q01 inf62) q0f h9 rfl)) (RS.q (u:=.agg (cGDecision x8)) rfl (q2e und62 rfl (q01 inf62) rfl rfl) (RS.call (u:=.bool r10) (args:=[.agg (cGDecision x8),.iptr [.isl false (List.map cGProp c2)]]) rfl (q03 rfl rfl fn81 hb81 rfl rfl) (hf1S x8 c2 r10 h11 _) rfl rfl ?_))
 refine sd ?_
 refine WPU.condS (t:=r10) rfl (fun h12=>?_) (fun h12=>?_)
 replace hF:=q05 h12 hF
 refine sr ?_
 refine sd ?_
 refine WPU.ret ?_
 refine st ?_
 have hr:=Option.some.inj hF
 subst hr
 exact ⟨.inr rfl,[.int .i64 z6],q0l rfl (q0i),.int .i64 z6,⟨[],0⟩,Nat.le_refl _,Gh.toR (.int .i64 z6) rfl,rfl,BU.h⟩
 replace hF:=q04 h12 hF
 refine st ?_
 refine WPU.skip ?_
 refine sr ?_
 refine RS.q rfl (q02 rfl rfl (q1q _ _ _) rfl) (RS.mv rfl rfl rfl rfl ?_)
 refine sd ?_
 exact ⟨m1,_,_,Nat.lt_succ_self _,⟨(IntKind.i64.wrap (z6+1)),hF,rfl,rfl⟩,(Nat.zero_le _),Gh.toC (n1:=0) ⟨rfl,rfl,rfl,rfl,trivial⟩ rfl (Nat.zero_le _) (by simp)⟩
 replace hF:=q04 h7 hF
 refine st ?_
 refine WPU.exit ?_
 refine st ?_
 exact ⟨_,_,⟨hF,rfl,rfl⟩,(Nat.zero_le _),Gh.toC (n1:=0) trivial rfl (Nat.zero_le _) (by simp)⟩
theorem q6n (f1:GDecision→(List GProp)→Option (Bool)) (hf1:∀ (a0:GDecision) (a1:List GProp) (r:Bool),f1 a0 a1=some r→EvU Tryz.prog 81 [.agg (cGDecision a0),.iptr [.isl false (List.map cGProp a1)]] ⟨[],0⟩ (fun u _=>u = .bool r∧Bel 0 u)) (n:Nat) (p1:List GDecision) (c2:List GProp) (r:Int) (hF:q1h f1 n p1 c2=some r) (σ:Sg):EvU Tryz.prog 62 [.isl false (List.map cGDecision p1),.fn (.func 81) [] [.iptr [.isl false (List.map cGProp c2)]]] σ (fun u σ'=>u = .int .i64 r∧σ'=σ) :=
 EvU.pure1C (q71 f1 hf1 n p1 c2 r hF) σ
def q1a (f1:GDecision→(List GProp)→Option (Bool)) (n:Nat) (p1:List GDecision) (c2:List GProp):Option (Bool) :=
 bindO (q1h f1 n p1 c2) fun r3 =>
 some (decide (r3 ≥ 0))
theorem q63 (f1:GDecision→(List GProp)→Option (Bool)) (hf1:∀ (a0:GDecision) (a1:List GProp) (r:Bool),f1 a0 a1=some r→EvU Tryz.prog 81 [.agg (cGDecision a0),.iptr [.isl false (List.map cGProp a1)]] ⟨[],0⟩ (fun u _=>u = .bool r∧Bel 0 u)) (n:Nat) (p1:List GDecision) (c2:List GProp) (r:Bool) (hF:q1a f1 n p1 c2=some r):EvU Tryz.prog 27 [.isl false (List.map cGDecision p1),.fn (.func 81) [] [.iptr [.isl false (List.map cGProp c2)]]] ⟨[],0⟩ (fun u _=>u = .bool r∧Bel 0 u):=by
 unfold q1a at hF
 have hf1S:∀ (a0:GDecision) (a1:List GProp) (r:Bool),f1 a0 a1=some r→∀ σ,EvU Tryz.prog 81 [.agg (cGDecision a0),.iptr [.isl false (List.map cGProp a1)]] σ (fun u σ'=>u = .bool r∧σ'=σ):=fun a0 a1 r h σ=>EvU.pure1C (hf1 a0 a1 r h) σ
 refine EvU.of_body Tryz.tb_ok fn27 rfl ?_
 refine WPU.ghost (tm':=fr 9 [(0,.isl false (List.map cGDecision p1)),(1,.fn (.func 81) [] [.iptr [.isl false (List.map cGProp c2)]])]) (Gh.start (Nat.le_of_ble_eq_true rfl)) (Nat.zero_le _) ?_
 refine sr ?_
 refine sd ?_
 obtain ⟨r3,h4,hF⟩:=q00 hF
 refine sr ?_
 repeat refine RS.mv rfl rfl rfl rfl ?_
 refine RS.call (u:=.int .i64 r3) (args:=[.isl false (List.map cGDecision p1),.fn (.func 81) [] [.iptr [.isl false (List.map cGProp c2)]]]) rfl (q03 rfl rfl fn62 hb62 rfl rfl) (q6n f1 hf1 n p1 c2 r3 h4 _) rfl rfl (RS.q rfl (q02 rfl rfl (ix_geq _ _ _) rfl) ?_)
 refine sd ?_
 refine WPU.ret ?_
 refine st ?_
 have hr:=Option.some.inj hF
 subst hr
 exact ⟨.inr rfl,[.bool (decide (r3 ≥ 0))],q0l rfl (q0i),.bool (decide (r3 ≥ 0)),⟨[],0⟩,Nat.le_refl _,Gh.toR (.bool (decide (r3 ≥ 0))) rfl,rfl,BU.h⟩
def q3r (n:Nat) (p1:GDecision) (c2:List GProp):Option (Bool) :=
 bindO (qbl n c2 p1.Propx) fun r3 =>
 some (!(r3 == p1.Yes))
theorem qe3 (n:Nat) (p1:GDecision) (c2:List GProp) (r:Bool) (hF:q3r n p1 c2=some r):EvU Tryz.prog 81 [.agg (cGDecision p1),.iptr [.isl false (List.map cGProp c2)]] ⟨[],0⟩ (fun u _=>u = .bool r∧Bel 0 u):=by
 unfold q3r at hF
 refine EvU.of_body Tryz.tb_ok fn81 rfl ?_
 refine WPU.ghost (tm':=fr 11 [(0,.agg (cGDecision p1)),(1,.iptr [.isl false (List.map cGProp c2)])]) (Gh.start (Nat.le_of_ble_eq_true rfl)) (Nat.zero_le _) ?_
 refine sr ?_
 refine RS.q (u:=.ptr 0 0 0) (σ':=⟨[(0,.row (cGDecision p1) 62)],1⟩) rfl (q2j rfl rfl rfl) ?_
 refine sd ?_
 obtain ⟨r3,h4,hF⟩:=q00 hF
 refine WPU.drawE Tryz.tb_ok [] (by kernel_rfl) ?_
 refine RD.q (u:=.isl false (List.map cGProp c2)) rfl (q90 und57 rfl rfl rfl) (RD.q (u:=.ptr 0 0 0) rfl (q0c und62 rfl (q01 inf33) rfl rfl rfl) (RD.q (u:=.agg (cGProp p1.Propx)) rfl (q0a und33 rfl (q01 inf33) rfl rfl rfl) (RD.free (u:=.bool r3) (args:=[.isl false (List.map cGProp c2),.agg (cGProp p1.Propx)]) rfl (q03 rfl rfl fn58 hb58 rfl rfl) (fun s=>qhb n c2 p1.Propx r3 h4 s) rfl rfl (RD.q (u:=.ptr 0 0 4) rfl (q0c und62 rfl (q01 inf4) rfl rfl rfl) (RD.q (u:=.bool p1.Yes) rfl (q09 und4 rfl rfl rfl rfl) ?_)))))
 refine RD.q (u:=.bool (!(r3 == p1.Yes))) rfl (q7j rfl rfl (by simp only [g2,toV,binX,guardX,eqv,cond_true,ofV,und4])) ?_
 refine RD.as rfl rfl rfl rfl ?_
 refine RD.done ⟨by kernel_rfl,trivial,?_⟩
 refine st ?_
 refine WPU.ret ?_
 refine st ?_
 have hr:=Option.some.inj hF
 subst hr
 exact ⟨.inr rfl,[.bool (!(r3 == p1.Yes))],q0l rfl (q0i),.bool (!(r3 == p1.Yes)),⟨[],0⟩,Nat.le_refl _,Gh.toR (.bool (!(r3 == p1.Yes))) rfl,rfl,BU.h⟩
def q5j (z9:Int) (rc1:Int→(List Int)→Option ((List Int))) (l20:List Int):Option ((List Int)) :=
 rc1 (IntKind.i64.wrap (z9+1)) l20
def q76  (l12:List Int):Option ((List Int)) :=
 some l12
def q3b (p1:List (List GProp)) (p2:List GDecision) (n:Nat):Nat→Int→(List Int)→Option ((List Int))
 | 0,_,_=>none
 | m1+1,z9,l10 =>
  cond (decide (z9<(p1.length:Int)))
   (bindO (idxO p1 z9) fun x15 =>
   bindO (q1a (q3r n) n p2 x15) fun r17 =>
   cond (!r17)
    (needO ((l10.length+1)*8≤140737488355328∧l10.length+1≤140737488355328) (
    q5j z9 (q3b p1 p2 n m1) (l10++[z9])))
    (q5j z9 (q3b p1 p2 n m1) l10))
   (q76 l10)
def q5d (n:Nat) (p1:List (List GProp)) (p2:List GDecision):Option ((List Int)) :=
 q3b p1 p2 n n 0 ([]:List Int)
theorem qg5 (n:Nat) (p1:List (List GProp)) (p2:List GDecision) (r:(List Int)) (hF:q5d n p1 p2=some r):EvU Tryz.prog 55 [.isl false (List.map (cL cGProp) p1),.isl false (List.map cGDecision p2)] ⟨[],0⟩ (fun u _=>u = .isl false (List.map (cI .i64) r)∧Bel 0 u):=by
 unfold q5d at hF
 refine EvU.of_body Tryz.tb_ok fn55 rfl ?_
 refine WPU.ghost (tm':=fr 27 [(0,.isl false (List.map (cL cGProp) p1)),(1,.isl false (List.map cGDecision p2))]) (Gh.start (Nat.le_of_ble_eq_true rfl)) (Nat.zero_le _) ?_
 refine sr ?_
 refine se ?_
 refine se ?_
 refine RS.q rfl (q0k rfl rfl rfl (q0g (cL cGProp) und80)) (RS.mv rfl rfl rfl rfl ?_)
 refine sd ?_
 refine WPU.ghost (tm':=fr 27 [(1,.isl false (List.map cGDecision p2)),(5,.vl 0 0 0 (([]:List Int).length)),(9,.isl false (List.map (cL cGProp) p1)),(10,.int .i64 (p1.length:Int)),(11,.int .i64 0)]) (σ':=⟨[(0,.vec (List.map (cI .i64) ([]:List Int)).flatten 3 1 0)],1⟩) (Gh.trans (Gh.nilS 5 3 1 (by decide) (Nat.zero_le _) rfl rfl) (Gh.eqS ⟨rfl,rfl,rfl,rfl,rfl,trivial⟩ rfl)) (Nat.zero_le _) ?_
 refine WPU.ghost (tm':=fr 27 [(1,.isl false (List.map cGDecision p2)),(5,.vl 0 0 0 (([]:List Int).length)),(9,.isl false (List.map (cL cGProp) p1)),(10,.int .i64 (p1.length:Int)),(11,.int .i64 0)]) (Gh.sub ⟨rfl,rfl,rfl,rfl,rfl,trivial⟩) (Nat.zero_le _) ?_
 refine WPU.loopK (fun m tm σ=>∃ z9:Int,∃ l10:List Int,∃ t11:Nat,q3b p1 p2 n m z9 l10=some r∧tm=fr 27 [(1,.isl false (List.map cGDecision p2)),(5,.vl 0 t11 0 l10.length),(9,.isl false (List.map (cL cGProp) p1)),(10,.int .i64 (p1.length:Int)),(11,.int .i64 z9)]∧σ=⟨[(0,.vec (List.map (cI .i64) l10).flatten 3 1 t11)],1⟩) (fun tm σ=>∃ l12:List Int,∃ t13:Nat,q76 l12=some r∧tm=fr 27 [(5,.vl 0 t13 0 l12.length)]∧σ=⟨[(0,.vec (List.map (cI .i64) l12).flatten 3 1 t13)],1⟩) n ⟨0,([]:List Int),0,hF,rfl,rfl⟩ ?_ ?_
 rintro _ _ ⟨l12,t13,hF,rfl,rfl⟩
 unfold q76 at hF
 refine sr ?_
 refine sd ?_
 refine WPU.ret ?_
 refine st ?_
 have hr:=Option.some.inj hF
 subst hr
 exact ⟨.inr rfl,[.vl 0 t13 0 l12.length],q0l rfl (q0i),.isl false (List.map (cI .i64) l12),⟨[],0⟩,Nat.le_refl _,Gh.trans (Gh.fz (tm':=[.isl false (List.map (cI .i64) l12)]) (h':=[]) 0 (.vec (List.map (cI .i64) l12).flatten 3 1 t13) 1 rfl (by simp) (by simp only [oneU,q0y,q0o,q1z,q11,q22,q15,q14,q13,q12,q10,q20,q21,q1y,q23,q3k,junkT,q8i (qec .i64)]) (by simp only [fzH,fzB,ug,Nat.beq,cond_true,cond_false,oneU,q0y,q0o,q1z,q11,q22,q15,q14,q13,q12,q10,q20,q21,q1y,q23,q3k,junkT,q8i (qec .i64)])) (Gh.toR (.isl false (List.map (cI .i64) l12)) rfl),rfl,BU.h⟩
 rintro m1 _ _ ⟨z9,l10,t11,hF,rfl,rfl⟩
 rcases m1 with _ | m1
 cases hF
 unfold q3b at hF
 refine sr ?_
 refine RS.q rfl (q02 rfl rfl (q18 _ _ _) rfl) ?_
 refine sd ?_
 refine WPU.condS (t:=(decide (z9<(p1.length:Int)))) rfl (fun h14=>?_) (fun h14=>?_)
 replace hF:=q05 h14 hF
 refine st ?_
 refine WPU.skip ?_
 refine st ?_
 refine WPU.block ?_
 refine st ?_
 obtain ⟨x15,h16,hF⟩:=q00 hF
 refine sr ?_
 refine RS.q (u:=.iptr [.isl false (List.map cGProp x15)]) rfl (q2a rfl rfl (q1f (cL cGProp) und80 (q01 inf57) (qed cGProp) h16 rfl)) (RS.q (u:=.isl false (List.map cGProp x15)) rfl (q90 und57 rfl rfl rfl) (RS.q (u:=.ptr 1 0 0) (σ':=⟨[(1,.row [.nils] 57),(0,.vec (List.map (cI .i64) l10).flatten 3 1 t11)],2⟩) rfl (q0v inf57 rfl rfl) (RS.as rfl rfl rfl rfl (RS.opn (u:=.junk) (σ':=⟨[(1,.row [.isl false (List.map cGProp x15)] 57),(0,.vec (List.map (cI .i64) l10).flatten 3 1 t11)],2⟩) rfl (q0d (q01 inf57) rfl rfl rfl rfl rfl rfl rfl rfl) rfl ?_))))
 refine se ?_
 refine RS.q rfl (op_fun rfl rfl) ?_
 refine sd ?_
 obtain ⟨r17,h18,hF⟩:=q00 hF
 refine sr ?_
 repeat refine RS.mv rfl rfl rfl rfl ?_
 refine RS.call (u:=.bool r17) (args:=[.isl false (List.map cGDecision p2),.fn (.func 81) [] [.ptr 1 0 0]]) rfl (q03 rfl rfl fn27 hb27 rfl rfl) (EvU.view (q63 (q3r n) (qe3 n) n p2 x15 r17 h18) BUL.h (by simp only [toV,toVL,okL,okC,cond_true]<;>rfl) (fun m=>by simp [ren,renL]) (Gh.fz (tm':=[.isl false (List.map cGDecision p2),.fn (.func 81) [] [.iptr [.isl false (List.map cGProp x15)]]]) (h':=[(0,.vec (List.map (cI .i64) l10).flatten 3 1 t11)]) 1 (.row [.isl false (List.map cGProp x15)] 57) 1 rfl (by simp) (by simp only [oneU,q0y,q0o,q1z,q11,q22,q15,q14,q13,q12,q10,q20,q21,q1y,q23,q3k,junkT,q96,q9p,q5u _ _ _ (q9f 1 (fun q=>bel_cI _ .i64 q) l10),Nat.reduceLeDiff,Nat.reduceMul,List.length_cons,List.length_nil,Nat.reduceAdd]<;>simp only [chunks,List.take,List.drop,List.map,cI,cB,cS,cL]) (by simp only [fzH,fzB,ug,Nat.beq,cond_true,cond_false,oneU,q0y,q0o,q1z,q11,q22,q15,q14,q13,q12,q10,q20,q21,q1y,q23,q3k,junkT,q96,q9p,q5u _ _ _ (q9f 1 (fun q=>bel_cI _ .i64 q) l10),Nat.reduceLeDiff,Nat.reduceMul,List.length_cons,List.length_nil,Nat.reduceAdd]<;>simp only [chunks,List.take,List.drop,List.map,cI,cB,cS,cL]))) rfl rfl ?_
 refine RS.q (u:=.bool (!r17)) rfl (q7l rfl rfl rfl rfl) ?_
 refine sd ?_
 refine WPU.joinK (fun tm σ=>∃ l20:List Int,∃ t21:Nat,q5j z9 (q3b p1 p2 n m1) l20=some r∧tm=fr 27 [(1,.isl false (List.map cGDecision p2)),(5,.vl 0 t21 0 l20.length),(9,.isl false (List.map (cL cGProp) p1)),(10,.int .i64 (p1.length:Int)),(11,.int .i64 z9)]∧σ=⟨[(1,.row [.isl false (List.map cGProp x15)] 57),(0,.vec (List.map (cI .i64) l20).flatten 3 1 t21)],2⟩) ?_ ?_
 rintro _ _ ⟨l20,t21,hF,rfl,rfl⟩
 unfold q5j at hF
 refine sr ?_
 refine RS.q rfl (q02 rfl rfl (q1q _ _ _) rfl) (RS.mv rfl rfl rfl rfl ?_)
 refine sd ?_
 exact ⟨m1,_,_,Nat.lt_succ_self _,⟨(IntKind.i64.wrap (z9+1)),l20,t21,hF,rfl,rfl⟩,(Nat.zero_le _),Gh.toC (n1:=1) ⟨rfl,rfl,rfl,rfl,rfl,trivial⟩ rfl (Nat.zero_le _) (by simp)⟩
 refine WPU.condS (t:=(!r17)) rfl (fun h19=>?_) (fun h19=>?_)
 replace hF:=q05 h19 hF
 refine st ?_
 obtain ⟨h22,hF⟩:=q0n hF
 refine sr ?_
 repeat refine RS.mv rfl rfl rfl rfl ?_
 refine RS.q (u:=.sl 2 0 1 1) (σ':=⟨[(2,.row [.int .i64 z9] 3),(1,.row [.isl false (List.map cGProp x15)] 57),(0,.vec (List.map (cI .i64) l10).flatten 3 1 t11)],3⟩) rfl (q4g und55 inf3 rfl rfl rfl rfl rfl rfl rfl) (RS.q (u:=.vl 0 (t11+1) 0 ((l10++[z9]).length)) (σ':=⟨[(2,.row [.int .i64 z9] 3),(1,.row [.isl false (List.map cGProp x15)] 57),(0,.vec (List.map (cI .i64) (l10++[z9])).flatten 3 1 (t11+1))],3⟩) rfl (q7i rfl rfl rfl rfl (q8m (cI .i64) ([z9]) und55 und55 inf3 rfl (qec .i64) rfl (q72 (cI .i64) [z9] rfl rfl rfl rfl) h22)) ?_)
 refine sd ?_
 exact ⟨_,_,⟨(l10++[z9]),(t11+1),hF,rfl,rfl⟩,(Nat.zero_le _),Gh.toC (n1:=2) ⟨rfl,rfl,rfl,rfl,rfl,trivial⟩ rfl (Nat.zero_le _) (by simp)⟩
 replace hF:=q04 h19 hF
 refine st ?_
 refine WPU.skip ?_
 refine st ?_
 exact ⟨_,_,⟨l10,t11,hF,rfl,rfl⟩,(Nat.zero_le _),Gh.toC (n1:=2) ⟨rfl,rfl,rfl,rfl,rfl,trivial⟩ rfl (Nat.zero_le _) (by simp)⟩
 replace hF:=q04 h14 hF
 refine st ?_
 refine WPU.exit ?_
 refine st ?_
 exact ⟨_,_,⟨l10,t11,hF,rfl,rfl⟩,(Nat.zero_le _),Gh.toC (n1:=1) ⟨rfl,trivial⟩ rfl (Nat.zero_le _) (by simp)⟩
theorem qb8 (n:Nat) (p1:List (List GProp)) (p2:List GDecision) (r:(List Int)) (hF:q5d n p1 p2=some r) (σ:Sg):EvU Tryz.prog 55 [.isl false (List.map (cL cGProp) p1),.isl false (List.map cGDecision p2)] σ (fun u σ'=>u = .isl false (List.map (cI .i64) r)∧σ'=σ) :=
 EvU.pure1C (qg5 n p1 p2 r hF) σ
def q1j   : Option (Int) :=
 some (-1)
def q0q (p1:List GDecision) (c2:GProp) (f1:GDecision→GProp→Option (Bool)):Nat→Int→Option (Int)
 | 0,_=>none
 | m1+1,z6 =>
  cond (decide (z6<(p1.length:Int)))
   (bindO (idxO p1 z6) fun x8 =>
   bindO (f1 x8 c2) fun r10 =>
   cond r10
    (some z6)
    ((q0q p1 c2 f1 m1) (IntKind.i64.wrap (z6+1))))
   (q1j)
def q1b (f1:GDecision→GProp→Option (Bool)) (n:Nat) (p1:List GDecision) (c2:GProp):Option (Int) :=
 q0q p1 c2 f1 n 0
theorem q65 (f1:GDecision→GProp→Option (Bool)) (hf1:∀ (a0:GDecision) (a1:GProp) (r:Bool),f1 a0 a1=some r→EvU Tryz.prog 61 [.agg (cGDecision a0),.iptr (cGProp a1)] ⟨[],0⟩ (fun u _=>u = .bool r∧Bel 0 u)) (n:Nat) (p1:List GDecision) (c2:GProp) (r:Int) (hF:q1b f1 n p1 c2=some r):EvU Tryz.prog 62 [.isl false (List.map cGDecision p1),.fn (.func 61) [] [.iptr (cGProp c2)]] ⟨[],0⟩ (fun u _=>u = .int .i64 r∧Bel 0 u):=by
 unfold q1b at hF
 have hf1S:∀ (a0:GDecision) (a1:GProp) (r:Bool),f1 a0 a1=some r→∀ σ,EvU Tryz.prog 61 [.agg (cGDecision a0),.iptr (cGProp a1)] σ (fun u σ'=>u = .bool r∧σ'=σ):=fun a0 a1 r h σ=>EvU.pure1C (hf1 a0 a1 r h) σ
 refine EvU.of_body Tryz.tb_ok fn62 rfl ?_
 refine WPU.ghost (tm':=fr 19 [(0,.isl false (List.map cGDecision p1)),(1,.fn (.func 61) [] [.iptr (cGProp c2)])]) (Gh.start (Nat.le_of_ble_eq_true rfl)) (Nat.zero_le _) ?_
 refine sr ?_
 refine se ?_
 refine RS.q rfl (q0k rfl rfl rfl (q0g cGDecision und26)) (RS.mv rfl rfl rfl rfl ?_)
 refine sd ?_
 refine WPU.ghost (tm':=fr 19 [(0,.isl false (List.map cGDecision p1)),(1,.fn (.func 61) [] [.iptr (cGProp c2)]),(7,.int .i64 (p1.length:Int)),(8,.int .i64 0)]) (Gh.sub ⟨rfl,rfl,rfl,rfl,trivial⟩) (Nat.zero_le _) ?_
 refine WPU.loopK (fun m tm σ=>∃ z6:Int,q0q p1 c2 f1 m z6=some r∧tm=fr 19 [(0,.isl false (List.map cGDecision p1)),(1,.fn (.func 61) [] [.iptr (cGProp c2)]),(7,.int .i64 (p1.length:Int)),(8,.int .i64 z6)]∧σ=⟨[],0⟩) (fun tm σ=>q1j=some r∧tm=fr 19 []∧σ=⟨[],0⟩) n ⟨0,hF,rfl,rfl⟩ ?_ ?_
 rintro _ _ ⟨hF,rfl,rfl⟩
 unfold q1j at hF
 refine sr ?_
 refine sd ?_
 refine WPU.ret ?_
 refine st ?_
 have hr:=Option.some.inj hF
 subst hr
 exact ⟨.inr rfl,[.int .i64 (-1)],q0l rfl (q0i),.int .i64 (-1),⟨[],0⟩,Nat.le_refl _,Gh.toR (.int .i64 (-1)) rfl,rfl,BU.h⟩
 rintro m1 _ _ ⟨z6,hF,rfl,rfl⟩
 rcases m1 with _ | m1
 cases hF
 unfold q0q at hF
 refine sr ?_
 refine RS.q rfl (q02 rfl rfl (q18 _ _ _) rfl) ?_
 refine sd ?_
 refine WPU.condS (t:=(decide (z6<(p1.length:Int)))) rfl (fun h7=>?_) (fun h7=>?_)
 replace hF:=q05 h7 hF
 refine st ?_
 refine WPU.skip ?_
 refine st ?_
 refine WPU.block ?_
 refine sr ?_
 refine sd ?_
 obtain ⟨x8,h9,hF⟩:=q00 hF
 obtain ⟨r10,h11,hF⟩:=q00 hF
 refine sr ?_
 repeat refine RS.mv rfl rfl rfl rfl ?_
 refine RS.q (u:=.iptr (cGDecision x8)) rfl (q2a rfl rfl (q1f cGDecision und26 (q01 inf62) q0f h9 rfl)) (RS.q (u:=.agg (cGDecision x8)) rfl (q2e und62 rfl (q01 inf62) rfl rfl) (RS.call (u:=.bool r10) (args:=[.agg (cGDecision x8),.iptr (cGProp c2)]) rfl (q03 rfl rfl fn61 hb61 rfl rfl) (hf1S x8 c2 r10 h11 _) rfl rfl ?_))
 refine sd ?_
 refine WPU.condS (t:=r10) rfl (fun h12=>?_) (fun h12=>?_)
 replace hF:=q05 h12 hF
 refine sr ?_
 refine sd ?_
 refine WPU.ret ?_
 refine st ?_
 have hr:=Option.some.inj hF
 subst hr
 exact ⟨.inr rfl,[.int .i64 z6],q0l rfl (q0i),.int .i64 z6,⟨[],0⟩,Nat.le_refl _,Gh.toR (.int .i64 z6) rfl,rfl,BU.h⟩
 replace hF:=q04 h12 hF
 refine st ?_
 refine WPU.skip ?_
 refine sr ?_
 refine RS.q rfl (q02 rfl rfl (q1q _ _ _) rfl) (RS.mv rfl rfl rfl rfl ?_)
 refine sd ?_
 exact ⟨m1,_,_,Nat.lt_succ_self _,⟨(IntKind.i64.wrap (z6+1)),hF,rfl,rfl⟩,(Nat.zero_le _),Gh.toC (n1:=0) ⟨rfl,rfl,rfl,rfl,trivial⟩ rfl (Nat.zero_le _) (by simp)⟩
 replace hF:=q04 h7 hF
 refine st ?_
 refine WPU.exit ?_
 refine st ?_
 exact ⟨_,_,⟨hF,rfl,rfl⟩,(Nat.zero_le _),Gh.toC (n1:=0) trivial rfl (Nat.zero_le _) (by simp)⟩
theorem q5x (f1:GDecision→GProp→Option (Bool)) (hf1:∀ (a0:GDecision) (a1:GProp) (r:Bool),f1 a0 a1=some r→EvU Tryz.prog 61 [.agg (cGDecision a0),.iptr (cGProp a1)] ⟨[],0⟩ (fun u _=>u = .bool r∧Bel 0 u)) (n:Nat) (p1:List GDecision) (c2:GProp) (r:Int) (hF:q1b f1 n p1 c2=some r) (σ:Sg):EvU Tryz.prog 62 [.isl false (List.map cGDecision p1),.fn (.func 61) [] [.iptr (cGProp c2)]] σ (fun u σ'=>u = .int .i64 r∧σ'=σ) :=
 EvU.pure1C (q65 f1 hf1 n p1 c2 r hF) σ
def q0z (f1:GDecision→GProp→Option (Bool)) (n:Nat) (p1:List GDecision) (c2:GProp):Option (Bool) :=
 bindO (q1b f1 n p1 c2) fun r3 =>
 some (decide (r3 ≥ 0))
theorem q5p (f1:GDecision→GProp→Option (Bool)) (hf1:∀ (a0:GDecision) (a1:GProp) (r:Bool),f1 a0 a1=some r→EvU Tryz.prog 61 [.agg (cGDecision a0),.iptr (cGProp a1)] ⟨[],0⟩ (fun u _=>u = .bool r∧Bel 0 u)) (n:Nat) (p1:List GDecision) (c2:GProp) (r:Bool) (hF:q0z f1 n p1 c2=some r):EvU Tryz.prog 27 [.isl false (List.map cGDecision p1),.fn (.func 61) [] [.iptr (cGProp c2)]] ⟨[],0⟩ (fun u _=>u = .bool r∧Bel 0 u):=by
 unfold q0z at hF
 have hf1S:∀ (a0:GDecision) (a1:GProp) (r:Bool),f1 a0 a1=some r→∀ σ,EvU Tryz.prog 61 [.agg (cGDecision a0),.iptr (cGProp a1)] σ (fun u σ'=>u = .bool r∧σ'=σ):=fun a0 a1 r h σ=>EvU.pure1C (hf1 a0 a1 r h) σ
 refine EvU.of_body Tryz.tb_ok fn27 rfl ?_
 refine WPU.ghost (tm':=fr 9 [(0,.isl false (List.map cGDecision p1)),(1,.fn (.func 61) [] [.iptr (cGProp c2)])]) (Gh.start (Nat.le_of_ble_eq_true rfl)) (Nat.zero_le _) ?_
 refine sr ?_
 refine sd ?_
 obtain ⟨r3,h4,hF⟩:=q00 hF
 refine sr ?_
 repeat refine RS.mv rfl rfl rfl rfl ?_
 refine RS.call (u:=.int .i64 r3) (args:=[.isl false (List.map cGDecision p1),.fn (.func 61) [] [.iptr (cGProp c2)]]) rfl (q03 rfl rfl fn62 hb62 rfl rfl) (q5x f1 hf1 n p1 c2 r3 h4 _) rfl rfl (RS.q rfl (q02 rfl rfl (ix_geq _ _ _) rfl) ?_)
 refine sd ?_
 refine WPU.ret ?_
 refine st ?_
 have hr:=Option.some.inj hF
 subst hr
 exact ⟨.inr rfl,[.bool (decide (r3 ≥ 0))],q0l rfl (q0i),.bool (decide (r3 ≥ 0)),⟨[],0⟩,Nat.le_refl _,Gh.toR (.bool (decide (r3 ≥ 0))) rfl,rfl,BU.h⟩
def q2g (n:Nat) (p1:GDecision) (c2:GProp):Option (Bool) :=
 some (eqGProp p1.Propx c2)
theorem qaz (n:Nat) (p1:GDecision) (c2:GProp) (r:Bool) (hF:q2g n p1 c2=some r):EvU Tryz.prog 61 [.agg (cGDecision p1),.iptr (cGProp c2)] ⟨[],0⟩ (fun u _=>u = .bool r∧Bel 0 u):=by
 unfold q2g at hF
 refine EvU.of_body Tryz.tb_ok fn61 rfl ?_
 refine WPU.ghost (tm':=fr 8 [(0,.agg (cGDecision p1)),(1,.iptr (cGProp c2))]) (Gh.start (Nat.le_of_ble_eq_true rfl)) (Nat.zero_le _) ?_
 refine sr ?_
 refine RS.q (u:=.ptr 0 0 0) (σ':=⟨[(0,.row (cGDecision p1) 62)],1⟩) rfl (q2j rfl rfl rfl) ?_
 refine se ?_
 refine RS.q (u:=.ptr 0 0 0) rfl (q0c und62 rfl (q01 inf33) rfl rfl rfl) (RS.q (u:=.agg (cGProp p1.Propx)) rfl (q0a und33 rfl (q01 inf33) rfl rfl rfl) (RS.q (u:=.agg (cGProp c2)) rfl (q2e und33 rfl (q01 inf33) rfl rfl) (RS.q (u:=.bool (eqGProp p1.Propx c2)) rfl (q7j rfl rfl (q5k p1.Propx c2)) ?_)))
 refine sd ?_
 refine WPU.ret ?_
 refine st ?_
 have hr:=Option.some.inj hF
 subst hr
 exact ⟨.inr rfl,[.bool (eqGProp p1.Propx c2)],q0l rfl (q0i),.bool (eqGProp p1.Propx c2),⟨[],0⟩,Nat.le_refl _,Gh.toR (.bool (eqGProp p1.Propx c2)) rfl,rfl,BU.h⟩
def q2u (n:Nat) (p1:Gwork) (p2:GProp):Option (Bool) :=
 bindO (q0z (q2g n) n p1.Session.Decisions p2) fun r3 =>
 some r3
theorem qbf (n:Nat) (p1:Gwork) (p2:GProp) (r:Bool) (hF:q2u n p1 p2=some r):EvU Tryz.prog 26 [.agg (cGSession p1.Session),.agg (cGProp p2)] ⟨[],0⟩ (fun u _=>u = .bool r∧Bel 0 u):=by
 unfold q2u at hF
 refine EvU.of_body Tryz.tb_ok fn26 rfl ?_
 refine WPU.ghost (tm':=fr 10 [(0,.agg (cGSession p1.Session)),(1,.agg (cGProp p2))]) (Gh.start (Nat.le_of_ble_eq_true rfl)) (Nat.zero_le _) ?_
 refine sr ?_
 refine RS.q (u:=.ptr 0 0 0) (σ':=⟨[(0,.row (cGSession p1.Session) 53)],1⟩) rfl (q2j rfl rfl rfl) (RS.q (u:=.ptr 1 0 0) (σ':=⟨[(1,.row (cGProp p2) 33),(0,.row (cGSession p1.Session) 53)],2⟩) rfl (q2j rfl rfl rfl) ?_)
 refine sd ?_
 obtain ⟨r3,h4,hF⟩:=q00 hF
 refine sr ?_
 refine RS.q (u:=.ptr 0 0 0) rfl (q0c und53 rfl (q01 inf28) rfl rfl rfl) (RS.q (u:=.ptr 0 0 1) rfl (q0c und28 rfl (q01 inf26) rfl rfl rfl) (RS.q (u:=.isl false (List.map cGDecision p1.Session.Decisions)) rfl (q09 und26 rfl rfl rfl rfl) (RS.q rfl (op_fun rfl rfl) ?_)))
 refine RS.call (u:=.bool r3) (args:=[.isl false (List.map cGDecision p1.Session.Decisions),.fn (.func 61) [] [.ptr 1 0 0]]) rfl (q03 rfl rfl fn27 hb27 rfl rfl) (EvU.view (q5p (q2g n) (qaz n) n p1.Session.Decisions p2 r3 h4) BUL.h (by simp only [toV,toVL,okL,okC,cond_true]<;>rfl) (fun m=>by simp [ren,renL]) (Gh.fz (tm':=[.isl false (List.map cGDecision p1.Session.Decisions),.fn (.func 61) [] [.iptr (cGProp p2)]]) (h':=[(0,.row (cGSession p1.Session) 53)]) 1 (.row [.int .i64 p2.Kind,.str p2.Name,.int .i64 p2.From,.int .i64 p2.To] 33) 4 rfl (by simp) (by simp only [oneU,q0y,q0o,q1z,q11,q22,q15,q14,q13,q12,q10,q20,q21,q1y,q23,q3k,junkT,q96,q9p,q3x,q31,Nat.reduceLeDiff,Nat.reduceMul,List.length_cons,List.length_nil,Nat.reduceAdd]<;>simp only [chunks,List.take,List.drop,List.map,cGProp]) (by simp only [fzH,fzB,ug,Nat.beq,cond_true,cond_false,oneU,q0y,q0o,q1z,q11,q22,q15,q14,q13,q12,q10,q20,q21,q1y,q23,q3k,junkT,q96,q9p,q3x,q31,Nat.reduceLeDiff,Nat.reduceMul,List.length_cons,List.length_nil,Nat.reduceAdd]<;>simp only [chunks,List.take,List.drop,List.map,cGProp]))) rfl rfl ?_
 refine sd ?_
 refine WPU.ret ?_
 refine st ?_
 have hr:=Option.some.inj hF
 subst hr
 exact ⟨.inr rfl,[.bool r3],q0l rfl (q0i),.bool r3,⟨[],0⟩,Nat.le_refl _,Gh.toR (.bool r3) rfl,rfl,BU.h⟩
theorem q5i (n:Nat) (p1:Gwork) (p2:GProp) (r:Bool) (hF:q2u n p1 p2=some r) (σ:Sg):EvU Tryz.prog 26 [.agg (cGSession p1.Session),.agg (cGProp p2)] σ (fun u σ'=>u = .bool r∧σ'=σ) :=
 EvU.pure1C (qbf n p1 p2 r hF) σ
def q4j (n:Nat) (p1:Int):Option ((List GDecision)) :=
 cond (decide (p1<0))
  (none)
  (cond (decide ((IntKind.i64.wrap (p1 - 0)) > 0))
   (needO (0<(IntKind.i64.wrap (p1 - 0))∧(IntKind.i64.wrap (p1 - 0)).toNat*48≤140737488355328∧(IntKind.i64.wrap (p1 - 0)).toNat≤140737488355328) (
   needO (0+(IntKind.i64.wrap (p1 - 0)).toNat≤(List.replicate (IntKind.i64.wrap (p1 - 0)).toNat (GDecision.mk (GProp.mk 0 [] 0 0) false)).length) (
   needO ((0:Int)≤0∧0≤(((IntKind.i64.wrap (p1 - 0)).toNat:Nat):Int)) (
   needO (0≤(List.replicate (IntKind.i64.wrap (p1 - 0)).toNat (GDecision.mk (GProp.mk 0 [] 0 0) false)).length) (
    some ((List.replicate (IntKind.i64.wrap (p1 - 0)).toNat (GDecision.mk (GProp.mk 0 [] 0 0) false)).take 0))))))
   (some ([]:List GDecision)))
theorem qc3 (n:Nat) (p1:Int) (r:(List GDecision)) (hF:q4j n p1=some r):EvU Tryz.prog 86 [.nils,.int .i64 p1] ⟨[],0⟩ (fun u σ'=>∃ t,u = .vl 0 t 0 r.length∧σ'=⟨[(0,.vec (List.map cGDecision r).flatten 62 5 t)],0+1⟩):=by
 unfold q4j at hF
 refine EvU.of_body Tryz.tb_ok fn86 rfl ?_
 refine WPU.ghost (tm':=fr 27 [(0,.nils),(1,.int .i64 p1)]) (Gh.start (Nat.le_of_ble_eq_true rfl)) (Nat.zero_le _) ?_
 refine sr ?_
 refine se ?_
 refine RS.q rfl (q02 rfl rfl (q18 _ _ _) rfl) ?_
 refine sd ?_
 refine WPU.condS (t:=(decide (p1<0))) rfl (fun h2=>?_) (fun h2=>?_)
 replace hF:=q05 h2 hF
 cases hF
 replace hF:=q04 h2 hF
 refine st ?_
 refine WPU.skip ?_
 refine sr ?_
 repeat refine RS.mv rfl rfl rfl rfl ?_
 refine RS.q (u:=.int .i64 0) rfl (op_cap0 rfl rfl rfl und26) (RS.mv rfl rfl rfl rfl ?_)
 refine RS.q (u:=.int .i64 0) rfl (q0k rfl rfl rfl (by simp only [lenU,und26])) ?_
 refine RS.q rfl (q02 rfl rfl (q8z _ _ _) rfl) (RS.q rfl (q02 rfl rfl (q8z _ _ _) rfl) ?_)
 refine se ?_
 refine RS.q rfl (q02 rfl rfl (qhi _ _ _) rfl) ?_
 refine sd ?_
 refine WPU.condS (t:=(decide ((IntKind.i64.wrap (p1 - 0)) > 0))) rfl (fun h3=>?_) (fun h3=>?_)
 replace hF:=q05 h3 hF
 refine st ?_
 obtain ⟨h4,hF⟩:=q0n hF
 obtain ⟨h5,hF⟩:=q0n hF
 obtain ⟨h6,hF⟩:=q0n hF
 refine sr ?_
 repeat refine RS.mv rfl rfl rfl rfl ?_
 refine RS.q (u:=.int .i64 0) rfl (op_cap0 rfl rfl rfl und26) ?_
 refine RS.q (u:=.nils) rfl (q7a rfl em_n (em_s rfl) em_n (by simp only [sliceU,und26,sizeX,inf62]; rfl)) ?_
 refine RS.mv rfl rfl rfl rfl (RS.q (u:=.vl 0 0 0 ((IntKind.i64.wrap (p1 - 0)).toNat)) (σ':=⟨[(0,.vec (List.map cGDecision (List.replicate (IntKind.i64.wrap (p1 - 0)).toNat (GDecision.mk (GProp.mk 0 [] 0 0) false))).flatten 62 5 0)],1⟩) rfl (op_appm cGDecision (GDecision.mk (GProp.mk 0 [] 0 0) false) rfl rfl rfl rfl und26 und3 inf62 rfl rfl rfl rfl h4) (RS.mv rfl rfl rfl rfl ?_))
 refine RS.q (u:=.int .i64 0) rfl (q0k rfl rfl rfl (by simp only [lenU,und26])) ?_
 refine RS.q (u:=.vl 0 0 0 0) rfl (q7a rfl em_n (em_s rfl) em_n (sl_vp cGDecision und26 (q01 inf62) q0f (vo rfl) h5 (bnd_hi h6.1 h6.2))) ?_
 refine se ?_
 refine sd ?_
 refine WPU.ret ?_
 refine st ?_
 obtain ⟨h7,hF⟩:=q0n hF
 have hr:=Option.some.inj hF
 subst hr
 exact ⟨.inr rfl,[.vl 0 0 0 0],q0l rfl q0i,.vl 0 0 0 0,⟨[(0,.vec (List.map cGDecision ((List.replicate (IntKind.i64.wrap (p1 - 0)).toNat (GDecision.mk (GProp.mk 0 [] 0 0) false)).take 0)).flatten 62 5 0)],1⟩,(Nat.zero_le _),Gh.trans (Gh.truncL (K:=0) cGDecision q0f rfl 0) (Gh.trans (Gh.only (fun k=>Nat.beq k 0)) (Gh.to (n1:=1) [] rfl rfl (Nat.zero_le _) (Nat.le_of_ble_eq_true rfl) BUL.h BH.h)),0,(by rw [List.length_take_of_le h7]),rfl⟩
 replace hF:=q04 h3 hF
 refine st ?_
 refine WPU.skip ?_
 refine sr ?_
 refine sd ?_
 refine WPU.ret ?_
 refine st ?_
 have hr:=Option.some.inj hF
 subst hr
 exact ⟨.inr rfl,[.nils],q0l rfl q0i,.vl 0 0 0 0,⟨[(0,.vec (List.map cGDecision ([]:List GDecision)).flatten 62 5 0)],1⟩,(Nat.zero_le _),Gh.trans (Gh.nilvec (tm:=[.nils]) 0 62 5 (by decide) (Nat.zero_le _) rfl) (Gh.trans (Gh.only (fun k=>Nat.beq k 0)) (Gh.to (n1:=1) [] rfl rfl (Nat.zero_le _) (Nat.le_of_ble_eq_true rfl) BUL.h BH.h)),0,rfl,rfl⟩
def q49  (l21:List GDecision):Option ((List GDecision)) :=
 some l21
def q2m (p1:List (List GDecision)):Nat→Int→(List GDecision)→Option ((List GDecision))
 | 0,_,_=>none
 | m2+1,z18,l19 =>
  cond (decide (z18<(p1.length:Int)))
   (bindO (idxO p1 z18) fun x24 =>
   needO ((l19.length+x24.length)*48≤140737488355328∧l19.length+x24.length≤140737488355328) (
   (q2m p1 m2) (IntKind.i64.wrap (z18+1)) (l19++x24)))
   (q49 l19)
def q48 (p1:List (List GDecision)) (n:Nat) (z9:Int):Option ((List GDecision)) :=
 bindO (q4j n z9) fun r10 =>
 q2m p1 n 0 r10
def q2l (p1:List (List GDecision)) (n:Nat):Nat→Int→Int→Option ((List GDecision))
 | 0,_,_=>none
 | m1+1,z7,z8 =>
  cond (decide (z8<(p1.length:Int)))
   (bindO (idxO p1 z8) fun x28 =>
   cond (decide ((IntKind.i64.wrap (z7+(x28.length:Int)))<0))
    (none)
    ((q2l p1 n m1) (IntKind.i64.wrap (z7+(x28.length:Int))) (IntKind.i64.wrap (z8+1))))
   (q48 p1 n z7)
def q36 (n:Nat) (p1:List (List GDecision)):Option ((List GDecision)) :=
 q2l p1 n n 0 0
theorem qbd (n:Nat) (p1:List (List GDecision)) (r:(List GDecision)) (hF:q36 n p1=some r):EvU Tryz.prog 60 [.isl false (List.map (cL cGDecision) p1)] ⟨[],0⟩ (fun u _=>u = .isl false (List.map cGDecision r)∧Bel 0 u):=by
 unfold q36 at hF
 refine EvU.of_body Tryz.tb_ok fn60 rfl ?_
 refine WPU.ghost (tm':=fr 36 [(0,.isl false (List.map (cL cGDecision) p1))]) (Gh.start (Nat.le_of_ble_eq_true rfl)) (Nat.zero_le _) ?_
 refine sr ?_
 refine se ?_
 refine se ?_
 refine RS.q rfl (q0k rfl rfl rfl (q0g (cL cGDecision) und109)) (RS.mv rfl rfl rfl rfl ?_)
 refine sd ?_
 refine WPU.ghost (tm':=fr 36 [(0,.isl false (List.map (cL cGDecision) p1)),(3,.int .i64 0),(9,.isl false (List.map (cL cGDecision) p1)),(10,.int .i64 (p1.length:Int)),(11,.int .i64 0)]) (Gh.sub ⟨rfl,rfl,rfl,rfl,rfl,trivial⟩) (Nat.zero_le _) ?_
 refine WPU.loopK (fun m tm σ=>∃ z7:Int,∃ z8:Int,q2l p1 n m z7 z8=some r∧tm=fr 36 [(0,.isl false (List.map (cL cGDecision) p1)),(3,.int .i64 z7),(9,.isl false (List.map (cL cGDecision) p1)),(10,.int .i64 (p1.length:Int)),(11,.int .i64 z8)]∧σ=⟨[],0⟩) (fun tm σ=>∃ z9:Int,q48 p1 n z9=some r∧tm=fr 36 [(0,.isl false (List.map (cL cGDecision) p1)),(3,.int .i64 z9)]∧σ=⟨[],0⟩) n ⟨0,0,hF,rfl,rfl⟩ ?_ ?_
 rintro _ _ ⟨z9,hF,rfl,rfl⟩
 unfold q48 at hF
 refine st ?_
 obtain ⟨r10,h11,hF⟩:=q00 hF
 refine sr ?_
 refine RS.callx (R:=fun u σ'=>∃ t12,u = .vl 0 t12 0 r10.length∧σ'=⟨[(0,.vec (List.map cGDecision r10).flatten 62 5 t12)],1⟩) (args:=[.nils,.int .i64 z9]) rfl (q03 rfl rfl fn86 hb86 rfl rfl) (EvU.own1 cGDecision (qc3 n z9 r10 h11) _ 0 rfl) rfl rfl ?_
 rintro _ _ ⟨t12,rfl,rfl⟩
 refine se ?_
 refine RS.q rfl (q0k rfl rfl rfl (q0g (cL cGDecision) und109)) (RS.mv rfl rfl rfl rfl ?_)
 refine sd ?_
 refine WPU.ghost (tm':=fr 36 [(6,.vl 0 t12 0 r10.length),(25,.isl false (List.map (cL cGDecision) p1)),(26,.int .i64 (p1.length:Int)),(27,.int .i64 0)]) (Gh.sub ⟨rfl,rfl,rfl,rfl,trivial⟩) (Nat.zero_le _) ?_
 refine WPU.loopK (fun m tm σ=>∃ z18:Int,∃ l19:List GDecision,∃ t20:Nat,q2m p1 m z18 l19=some r∧tm=fr 36 [(6,.vl 0 t20 0 l19.length),(25,.isl false (List.map (cL cGDecision) p1)),(26,.int .i64 (p1.length:Int)),(27,.int .i64 z18)]∧σ=⟨[(0,.vec (List.map cGDecision l19).flatten 62 5 t20)],1⟩) (fun tm σ=>∃ l21:List GDecision,∃ t22:Nat,q49 l21=some r∧tm=fr 36 [(6,.vl 0 t22 0 l21.length)]∧σ=⟨[(0,.vec (List.map cGDecision l21).flatten 62 5 t22)],1⟩) n ⟨0,r10,t12,hF,rfl,rfl⟩ ?_ ?_
 rintro _ _ ⟨l21,t22,hF,rfl,rfl⟩
 unfold q49 at hF
 refine sr ?_
 refine sd ?_
 refine WPU.ret ?_
 refine st ?_
 have hr:=Option.some.inj hF
 subst hr
 exact ⟨.inr rfl,[.vl 0 t22 0 l21.length],q0l rfl (q0i),.isl false (List.map cGDecision l21),⟨[],0⟩,Nat.le_refl _,Gh.trans (Gh.fz (tm':=[.isl false (List.map cGDecision l21)]) (h':=[]) 0 (.vec (List.map cGDecision l21).flatten 62 5 t22) 5 rfl (by simp) (by simp only [oneU,q0y,q0o,q1z,q11,q22,q15,q14,q13,q12,q10,q20,q21,q1y,q23,q3k,junkT,q8i q0f]) (by simp only [fzH,fzB,ug,Nat.beq,cond_true,cond_false,oneU,q0y,q0o,q1z,q11,q22,q15,q14,q13,q12,q10,q20,q21,q1y,q23,q3k,junkT,q8i q0f])) (Gh.toR (.isl false (List.map cGDecision l21)) rfl),rfl,BU.h⟩
 rintro m2 _ _ ⟨z18,l19,t20,hF,rfl,rfl⟩
 rcases m2 with _ | m2
 cases hF
 unfold q2m at hF
 refine sr ?_
 refine RS.q rfl (q02 rfl rfl (q18 _ _ _) rfl) ?_
 refine sd ?_
 refine WPU.condS (t:=(decide (z18<(p1.length:Int)))) rfl (fun h23=>?_) (fun h23=>?_)
 replace hF:=q05 h23 hF
 refine st ?_
 refine WPU.skip ?_
 refine st ?_
 refine WPU.block ?_
 refine st ?_
 obtain ⟨x24,h25,hF⟩:=q00 hF
 refine sr ?_
 refine RS.q (u:=.iptr [.isl false (List.map cGDecision x24)]) rfl (q2a rfl rfl (q1f (cL cGDecision) und109 (q01 inf26) (qed cGDecision) h25 rfl)) (RS.q (u:=.isl false (List.map cGDecision x24)) rfl (q90 und26 rfl rfl rfl) ?_)
 refine sd ?_
 obtain ⟨h26,hF⟩:=q0n hF
 refine sr ?_
 repeat refine RS.mv rfl rfl rfl rfl ?_
 refine RS.q (u:=.vl 0 (t20+1) 0 ((l19++x24).length)) (σ':=⟨[(0,.vec (List.map cGDecision (l19++x24)).flatten 62 5 (t20+1))],1⟩) rfl (q7i rfl rfl rfl rfl (q8m cGDecision x24 und26 und26 inf62 rfl q0f rfl (qi9 cGDecision q0f) h26)) ?_
 refine se ?_
 refine RS.q rfl (q02 rfl rfl (q1q _ _ _) rfl) (RS.mv rfl rfl rfl rfl ?_)
 refine sd ?_
 exact ⟨m2,_,_,Nat.lt_succ_self _,⟨(IntKind.i64.wrap (z18+1)),(l19++x24),(t20+1),hF,rfl,rfl⟩,(Nat.zero_le _),Gh.toC (n1:=1) ⟨rfl,rfl,rfl,rfl,trivial⟩ rfl (Nat.zero_le _) (by simp)⟩
 replace hF:=q04 h23 hF
 refine st ?_
 refine WPU.exit ?_
 refine st ?_
 exact ⟨_,_,⟨l19,t20,hF,rfl,rfl⟩,(Nat.zero_le _),Gh.toC (n1:=1) ⟨rfl,trivial⟩ rfl (Nat.zero_le _) (by simp)⟩
 rintro m1 _ _ ⟨z7,z8,hF,rfl,rfl⟩
 rcases m1 with _ | m1
 cases hF
 unfold q2l at hF
 refine sr ?_
 refine RS.q rfl (q02 rfl rfl (q18 _ _ _) rfl) ?_
 refine sd ?_
 refine WPU.condS (t:=(decide (z8<(p1.length:Int)))) rfl (fun h27=>?_) (fun h27=>?_)
 replace hF:=q05 h27 hF
 refine st ?_
 refine WPU.skip ?_
 refine st ?_
 refine WPU.block ?_
 refine st ?_
 obtain ⟨x28,h29,hF⟩:=q00 hF
 refine sr ?_
 refine RS.q (u:=.iptr [.isl false (List.map cGDecision x28)]) rfl (q2a rfl rfl (q1f (cL cGDecision) und109 (q01 inf26) (qed cGDecision) h29 rfl)) (RS.q (u:=.isl false (List.map cGDecision x28)) rfl (q90 und26 rfl rfl rfl) ?_)
 refine se ?_
 repeat refine RS.mv rfl rfl rfl rfl ?_
 refine RS.q rfl (q0k rfl rfl rfl (q0g cGDecision und26)) (RS.q rfl (q02 rfl rfl (q1q _ _ _) rfl) ?_)
 refine se ?_
 refine RS.q rfl (q02 rfl rfl (q18 _ _ _) rfl) ?_
 refine sd ?_
 refine WPU.condS (t:=(decide ((IntKind.i64.wrap (z7+(x28.length:Int)))<0))) rfl (fun h30=>?_) (fun h30=>?_)
 replace hF:=q05 h30 hF
 cases hF
 replace hF:=q04 h30 hF
 refine st ?_
 refine WPU.skip ?_
 refine sr ?_
 refine RS.q rfl (q02 rfl rfl (q1q _ _ _) rfl) (RS.mv rfl rfl rfl rfl ?_)
 refine sd ?_
 exact ⟨m1,_,_,Nat.lt_succ_self _,⟨(IntKind.i64.wrap (z7+(x28.length:Int))),(IntKind.i64.wrap (z8+1)),hF,rfl,rfl⟩,(Nat.zero_le _),Gh.toC (n1:=0) ⟨rfl,rfl,rfl,rfl,rfl,trivial⟩ rfl (Nat.zero_le _) (by simp)⟩
 replace hF:=q04 h27 hF
 refine st ?_
 refine WPU.exit ?_
 refine st ?_
 exact ⟨_,_,⟨z7,hF,rfl,rfl⟩,(Nat.zero_le _),Gh.toC (n1:=0) ⟨rfl,rfl,trivial⟩ rfl (Nat.zero_le _) (by simp)⟩
theorem qb5 (n:Nat) (p1:List (List GDecision)) (r:(List GDecision)) (hF:q36 n p1=some r) (σ:Sg):EvU Tryz.prog 60 [.isl false (List.map (cL cGDecision) p1)] σ (fun u σ'=>u = .isl false (List.map cGDecision r)∧σ'=σ) :=
 EvU.pure1C (qbd n p1 r hF) σ
def q5g   : Option (Int) :=
 some (-1)
def q3q (p1:List GProp) (p2:GProp):Nat→Int→Option (Int)
 | 0,_=>none
 | m1+1,z10 =>
  cond (decide (z10<(p1.length:Int)))
   (bindO (idxO p1 z10) fun x12 =>
   cond (eqGProp p2 x12)
    (some z10)
    ((q3q p1 p2 m1) (IntKind.i64.wrap (z10+1))))
   (q5g)
def q5q (n:Nat) (p1:List GProp) (p2:GProp):Option (Int) :=
 q3q p1 p2 n 0
theorem qdp (n:Nat) (p1:List GProp) (p2:GProp) (r:Int) (hF:q5q n p1 p2=some r):EvU Tryz.prog 67 [.isl false (List.map cGProp p1),.agg (cGProp p2)] ⟨[],0⟩ (fun u _=>u = .int .i64 r∧Bel 0 u):=by
 unfold q5q at hF
 refine EvU.of_body Tryz.tb_ok fn67 rfl ?_
 refine WPU.ghost (tm':=fr 19 [(0,.isl false (List.map cGProp p1)),(1,.agg (cGProp p2))]) (Gh.start (Nat.le_of_ble_eq_true rfl)) (Nat.zero_le _) ?_
 refine sr ?_
 refine RS.q (u:=.ptr 0 0 0) (σ':=⟨[(0,.row (cGProp p2) 33)],1⟩) rfl (q2j rfl rfl rfl) ?_
 refine se ?_
 refine RS.q rfl (q0k rfl rfl rfl (q0g cGProp und57)) (RS.mv rfl rfl rfl rfl ?_)
 refine sd ?_
 refine WPU.ghost (tm':=fr 19 [(0,.isl false (List.map cGProp p1)),(3,.ptr 0 0 0),(7,.int .i64 (p1.length:Int)),(8,.int .i64 0)]) (Gh.sub ⟨rfl,rfl,rfl,rfl,trivial⟩) (Nat.zero_le _) ?_
 refine WPU.loopK (fun m tm σ=>∃ z10:Int,q3q p1 p2 m z10=some r∧tm=fr 19 [(0,.isl false (List.map cGProp p1)),(3,.ptr 0 0 0),(7,.int .i64 (p1.length:Int)),(8,.int .i64 z10)]∧σ=⟨[(0,.row (cGProp p2) 33)],1⟩) (fun tm σ=>q5g=some r∧tm=fr 19 []∧σ=⟨[(0,.row (cGProp p2) 33)],1⟩) n ⟨0,hF,rfl,rfl⟩ ?_ ?_
 rintro _ _ ⟨hF,rfl,rfl⟩
 unfold q5g at hF
 refine sr ?_
 refine sd ?_
 refine WPU.ret ?_
 refine st ?_
 have hr:=Option.some.inj hF
 subst hr
 exact ⟨.inr rfl,[.int .i64 (-1)],q0l rfl (q0i),.int .i64 (-1),⟨[],0⟩,Nat.le_refl _,Gh.toR (.int .i64 (-1)) rfl,rfl,BU.h⟩
 rintro m1 _ _ ⟨z10,hF,rfl,rfl⟩
 rcases m1 with _ | m1
 cases hF
 unfold q3q at hF
 refine sr ?_
 refine RS.q rfl (q02 rfl rfl (q18 _ _ _) rfl) ?_
 refine sd ?_
 refine WPU.condS (t:=(decide (z10<(p1.length:Int)))) rfl (fun h11=>?_) (fun h11=>?_)
 replace hF:=q05 h11 hF
 refine st ?_
 refine WPU.skip ?_
 refine st ?_
 refine WPU.block ?_
 refine sr ?_
 refine sd ?_
 obtain ⟨x12,h13,hF⟩:=q00 hF
 refine WPU.drawE Tryz.tb_ok [] (by kernel_rfl) ?_
 refine RD.q (u:=.agg (cGProp p2)) rfl (q0a und33 rfl (q01 inf33) rfl rfl rfl) ?_
 repeat refine RD.mv rfl rfl rfl rfl ?_
 refine RD.q (u:=.iptr (cGProp x12)) rfl (q2a rfl rfl (q1f cGProp und57 (q01 inf33) q0b h13 rfl)) (RD.q (u:=.agg (cGProp x12)) rfl (q2e und33 rfl (q01 inf33) rfl rfl) (RD.q (u:=.bool (eqGProp p2 x12)) rfl (q7j rfl rfl (q5k p2 x12)) ?_))
 refine RD.done ⟨by kernel_rfl,trivial,?_⟩
 refine st ?_
 refine WPU.condS (t:=(eqGProp p2 x12)) rfl (fun h14=>?_) (fun h14=>?_)
 replace hF:=q05 h14 hF
 refine sr ?_
 refine sd ?_
 refine WPU.ret ?_
 refine st ?_
 have hr:=Option.some.inj hF
 subst hr
 exact ⟨.inr rfl,[.int .i64 z10],q0l rfl (q0i),.int .i64 z10,⟨[],0⟩,Nat.le_refl _,Gh.toR (.int .i64 z10) rfl,rfl,BU.h⟩
 replace hF:=q04 h14 hF
 refine st ?_
 refine WPU.skip ?_
 refine sr ?_
 refine RS.q rfl (q02 rfl rfl (q1q _ _ _) rfl) (RS.mv rfl rfl rfl rfl ?_)
 refine sd ?_
 exact ⟨m1,_,_,Nat.lt_succ_self _,⟨(IntKind.i64.wrap (z10+1)),hF,rfl,rfl⟩,(Nat.zero_le _),Gh.toC (n1:=1) ⟨rfl,rfl,rfl,rfl,trivial⟩ rfl (Nat.zero_le _) (by simp)⟩
 replace hF:=q04 h11 hF
 refine st ?_
 refine WPU.exit ?_
 refine st ?_
 exact ⟨_,_,⟨hF,rfl,rfl⟩,(Nat.zero_le _),Gh.toC (n1:=1) trivial rfl (Nat.zero_le _) (by simp)⟩
theorem qd1 (n:Nat) (p1:List GProp) (p2:GProp) (r:Int) (hF:q5q n p1 p2=some r) (σ:Sg):EvU Tryz.prog 67 [.isl false (List.map cGProp p1),.agg (cGProp p2)] σ (fun u σ'=>u = .int .i64 r∧σ'=σ) :=
 EvU.pure1C (qdp n p1 p2 r hF) σ
def q3p (n:Nat) (p1:List GProp) (p2:GProp):Option (Bool) :=
 bindO (q5q n p1 p2) fun r3 =>
 some (decide (r3 ≥ 0))
theorem qc2 (n:Nat) (p1:List GProp) (p2:GProp) (r:Bool) (hF:q3p n p1 p2=some r):EvU Tryz.prog 44 [.isl false (List.map cGProp p1),.agg (cGProp p2)] ⟨[],0⟩ (fun u _=>u = .bool r∧Bel 0 u):=by
 unfold q3p at hF
 refine EvU.of_body Tryz.tb_ok fn44 rfl ?_
 refine WPU.ghost (tm':=fr 9 [(0,.isl false (List.map cGProp p1)),(1,.agg (cGProp p2))]) (Gh.start (Nat.le_of_ble_eq_true rfl)) (Nat.zero_le _) ?_
 refine sr ?_
 refine RS.q (u:=.ptr 0 0 0) (σ':=⟨[(0,.row (cGProp p2) 33)],1⟩) rfl (q2j rfl rfl rfl) ?_
 refine sd ?_
 obtain ⟨r3,h4,hF⟩:=q00 hF
 refine sr ?_
 refine RS.q (u:=.agg (cGProp p2)) rfl (q0a und33 rfl (q01 inf33) rfl rfl rfl) (RS.call (u:=.int .i64 r3) (args:=[.isl false (List.map cGProp p1),.agg (cGProp p2)]) rfl (q03 rfl rfl fn67 hb67 rfl rfl) (qd1 n p1 p2 r3 h4 _) rfl rfl (RS.q rfl (q02 rfl rfl (ix_geq _ _ _) rfl) ?_))
 refine sd ?_
 refine WPU.ret ?_
 refine st ?_
 have hr:=Option.some.inj hF
 subst hr
 exact ⟨.inr rfl,[.bool (decide (r3 ≥ 0))],q0l rfl (q0i),.bool (decide (r3 ≥ 0)),⟨[],0⟩,Nat.le_refl _,Gh.toR (.bool (decide (r3 ≥ 0))) rfl,rfl,BU.h⟩
theorem qbv (n:Nat) (p1:List GProp) (p2:GProp) (r:Bool) (hF:q3p n p1 p2=some r) (σ:Sg):EvU Tryz.prog 44 [.isl false (List.map cGProp p1),.agg (cGProp p2)] σ (fun u σ'=>u = .bool r∧σ'=σ) :=
 EvU.pure1C (qc2 n p1 p2 r hF) σ
def q3o (n:Nat) (p1:List GDecision):Option ((List GDecision)) :=
 bindO (cutF p1 (p1.length:Int)) fun l2 =>
 some l2
theorem qc0 (n:Nat) (p1:List GDecision) (r:(List GDecision)) (hF:q3o n p1=some r):EvU Tryz.prog 45 [.isl false (List.map cGDecision p1)] ⟨[],0⟩ (fun u _=>u = .isl true (List.map cGDecision r)∧Bel 0 u):=by
 unfold q3o at hF
 refine EvU.of_body Tryz.tb_ok fn45 rfl ?_
 refine WPU.ghost (tm':=fr 9 [(0,.isl false (List.map cGDecision p1))]) (Gh.start (Nat.le_of_ble_eq_true rfl)) (Nat.zero_le _) ?_
 refine sr ?_
 refine sd ?_
 obtain ⟨l2,h3,hF⟩:=q00 hF
 refine sr ?_
 repeat refine RS.mv rfl rfl rfl rfl ?_
 refine RS.q rfl (q0k rfl rfl rfl (q0g cGDecision und26)) (RS.mv rfl rfl rfl rfl (RS.q rfl (q0k rfl rfl rfl (q0g cGDecision und26)) (RS.q (u:=.isl true (List.map cGDecision l2)) rfl (q7a rfl em_n (em_s rfl) (em_s rfl) (sl_full cGDecision und26 (q01 inf62) q0f h3)) ?_)))
 refine sd ?_
 refine WPU.ret ?_
 refine st ?_
 have hr:=Option.some.inj hF
 subst hr
 exact ⟨.inr rfl,[.isl true (List.map cGDecision l2)],q0l rfl (q0i),.isl true (List.map cGDecision l2),⟨[],0⟩,Nat.le_refl _,Gh.toR (.isl true (List.map cGDecision l2)) rfl,rfl,BU.h⟩
theorem qbt (n:Nat) (p1:List GDecision) (r:(List GDecision)) (hF:q3o n p1=some r) (σ:Sg):EvU Tryz.prog 45 [.isl false (List.map cGDecision p1)] σ (fun u σ'=>u = .isl true (List.map cGDecision r)∧σ'=σ) :=
 EvU.pure1C (qc0 n p1 r hF) σ
def q2h (p1:List GDeriv) (p2:List GDeriv)  : Option (Int) :=
 cond (decide ((p1.length:Int)<(p2.length:Int)))
  (some (-1))
  (some 0)
def q19 (p1:List GDeriv) (p2:List GDeriv) (f2:GDeriv→GDeriv→Option (Int)):Nat→Int→Option (Int)
 | 0,_=>none
 | m1+1,z8 =>
  cond (decide (z8<(p1.length:Int)))
   (bindO (idxO p1 z8) fun x11 =>
   cond (decide (z8 ≥ (p2.length:Int)))
    (some 1)
    (bindO (idxO p2 z8) fun x14 =>
    bindO (f2 x11 x14) fun r16 =>
    cond (r16 != 0)
     (some r16)
     ((q19 p1 p2 f2 m1) (IntKind.i64.wrap (z8+1)))))
   (q2h p1 p2)
def q24 (f2:GDeriv→GDeriv→Option (Int)) (n:Nat) (p1:List GDeriv) (p2:List GDeriv):Option (Int) :=
 q19 p1 p2 f2 n 0
theorem q8j (f2:GDeriv→GDeriv→Option (Int)) (hf2:∀ (a0:GDeriv) (a1:GDeriv) (r:Int),f2 a0 a1=some r→EvU Tryz.prog 19 [.agg (xGDeriv a0),.agg (xGDeriv a1)] ⟨[],0⟩ (fun u _=>u = .int .i64 r∧Bel 0 u)) (n:Nat) (p1:List GDeriv) (p2:List GDeriv) (r:Int) (hF:q24 f2 n p1 p2=some r):EvU Tryz.prog 52 [.isl false (List.map cGDeriv p1),.isl false (List.map cGDeriv p2),.fn (.func 19) [] []] ⟨[],0⟩ (fun u _=>u = .int .i64 r∧Bel 0 u):=by
 unfold q24 at hF
 have hf2S:∀ (a0:GDeriv) (a1:GDeriv) (r:Int),f2 a0 a1=some r→∀ σ,EvU Tryz.prog 19 [.agg (xGDeriv a0),.agg (xGDeriv a1)] σ (fun u σ'=>u = .int .i64 r∧σ'=σ):=fun a0 a1 r h σ=>EvU.pure1C (hf2 a0 a1 r h) σ
 refine EvU.of_body Tryz.tb_ok fn52 rfl ?_
 refine WPU.ghost (tm':=fr 39 [(0,.isl false (List.map cGDeriv p1)),(1,.isl false (List.map cGDeriv p2)),(2,.fn (.func 19) [] [])]) (Gh.start (Nat.le_of_ble_eq_true rfl)) (Nat.zero_le _) ?_
 refine sr ?_
 refine se ?_
 refine RS.q rfl (q0k rfl rfl rfl (q0g cGDeriv und22)) (RS.mv rfl rfl rfl rfl ?_)
 refine sd ?_
 refine WPU.ghost (tm':=fr 39 [(0,.isl false (List.map cGDeriv p1)),(1,.isl false (List.map cGDeriv p2)),(2,.fn (.func 19) [] []),(11,.isl false (List.map cGDeriv p1)),(12,.int .i64 (p1.length:Int)),(13,.int .i64 0)]) (Gh.sub ⟨rfl,rfl,rfl,rfl,rfl,rfl,trivial⟩) (Nat.zero_le _) ?_
 refine WPU.loopK (fun m tm σ=>∃ z8:Int,q19 p1 p2 f2 m z8=some r∧tm=fr 39 [(0,.isl false (List.map cGDeriv p1)),(1,.isl false (List.map cGDeriv p2)),(2,.fn (.func 19) [] []),(11,.isl false (List.map cGDeriv p1)),(12,.int .i64 (p1.length:Int)),(13,.int .i64 z8)]∧σ=⟨[],0⟩) (fun tm σ=>q2h p1 p2=some r∧tm=fr 39 [(0,.isl false (List.map cGDeriv p1)),(1,.isl false (List.map cGDeriv p2))]∧σ=⟨[],0⟩) n ⟨0,hF,rfl,rfl⟩ ?_ ?_
 rintro _ _ ⟨hF,rfl,rfl⟩
 unfold q2h at hF
 refine sr ?_
 refine RS.q rfl (q0k rfl rfl rfl (q0g cGDeriv und22)) (RS.mv rfl rfl rfl rfl (RS.q rfl (q0k rfl rfl rfl (q0g cGDeriv und22)) (RS.q rfl (q02 rfl rfl (q18 _ _ _) rfl) ?_)))
 refine sd ?_
 refine WPU.condS (t:=(decide ((p1.length:Int)<(p2.length:Int)))) rfl (fun h9=>?_) (fun h9=>?_)
 replace hF:=q05 h9 hF
 refine sr ?_
 refine sd ?_
 refine WPU.ret ?_
 refine st ?_
 have hr:=Option.some.inj hF
 subst hr
 exact ⟨.inr rfl,[.int .i64 (-1)],q0l rfl (q0i),.int .i64 (-1),⟨[],0⟩,Nat.le_refl _,Gh.toR (.int .i64 (-1)) rfl,rfl,BU.h⟩
 replace hF:=q04 h9 hF
 refine st ?_
 refine WPU.skip ?_
 refine sr ?_
 refine sd ?_
 refine WPU.ret ?_
 refine st ?_
 have hr:=Option.some.inj hF
 subst hr
 exact ⟨.inr rfl,[.int .i64 0],q0l rfl (q0i),.int .i64 0,⟨[],0⟩,Nat.le_refl _,Gh.toR (.int .i64 0) rfl,rfl,BU.h⟩
 rintro m1 _ _ ⟨z8,hF,rfl,rfl⟩
 rcases m1 with _ | m1
 cases hF
 unfold q19 at hF
 refine sr ?_
 refine RS.q rfl (q02 rfl rfl (q18 _ _ _) rfl) ?_
 refine sd ?_
 refine WPU.condS (t:=(decide (z8<(p1.length:Int)))) rfl (fun h10=>?_) (fun h10=>?_)
 replace hF:=q05 h10 hF
 refine st ?_
 refine WPU.skip ?_
 refine st ?_
 refine WPU.block ?_
 refine st ?_
 obtain ⟨x11,h12,hF⟩:=q00 hF
 refine sr ?_
 refine RS.q (u:=.iptr (xGDeriv x11)) rfl (q2a rfl rfl (q1f cGDeriv und22 (q01 inf43) q0e h12 (q0m x11))) (RS.q (u:=.agg (xGDeriv x11)) rfl (q2e und43 rfl (q01 inf43) rfl rfl) (RS.q (u:=.ptr 0 0 0) (σ':=⟨[(0,.row [.int .i64 0,.str [],.int .i64 0,.int .i64 0,.nils] 43)],1⟩) rfl (q0v inf43 rfl rfl) (RS.as rfl rfl rfl rfl (RS.opn (u:=.junk) (σ':=⟨[(0,.row (xGDeriv x11) 43)],1⟩) rfl (q0d (q01 inf43) rfl rfl rfl rfl rfl rfl rfl rfl) rfl ?_))))
 refine se ?_
 repeat refine RS.mv rfl rfl rfl rfl ?_
 refine RS.q rfl (q0k rfl rfl rfl (q0g cGDeriv und22)) (RS.q rfl (q02 rfl rfl (ix_geq _ _ _) rfl) ?_)
 refine sd ?_
 refine WPU.condS (t:=(decide (z8 ≥ (p2.length:Int)))) rfl (fun h13=>?_) (fun h13=>?_)
 replace hF:=q05 h13 hF
 refine sr ?_
 refine sd ?_
 refine WPU.ret ?_
 refine st ?_
 have hr:=Option.some.inj hF
 subst hr
 exact ⟨.inr rfl,[.int .i64 1],q0l rfl (q0i),.int .i64 1,⟨[],0⟩,Nat.le_refl _,Gh.toR (.int .i64 1) rfl,rfl,BU.h⟩
 replace hF:=q04 h13 hF
 refine st ?_
 refine WPU.skip ?_
 refine st ?_
 obtain ⟨x14,h15,hF⟩:=q00 hF
 refine sr ?_
 repeat refine RS.mv rfl rfl rfl rfl ?_
 refine RS.q (u:=.iptr (xGDeriv x14)) rfl (q2a rfl rfl (q1f cGDeriv und22 (q01 inf43) q0e h15 (q0m x14))) (RS.q (u:=.agg (xGDeriv x14)) rfl (q2e und43 rfl (q01 inf43) rfl rfl) (RS.q (u:=.ptr 1 0 0) (σ':=⟨[(1,.row [.int .i64 0,.str [],.int .i64 0,.int .i64 0,.nils] 43),(0,.row (xGDeriv x11) 43)],2⟩) rfl (q0v inf43 rfl rfl) (RS.opn (u:=.junk) (σ':=⟨[(1,.row (xGDeriv x14) 43),(0,.row (xGDeriv x11) 43)],2⟩) rfl (q0d (q01 inf43) rfl rfl rfl rfl rfl rfl rfl rfl) rfl ?_)))
 refine sd ?_
 obtain ⟨r16,h17,hF⟩:=q00 hF
 refine sr ?_
 refine RS.q (u:=.agg (xGDeriv x11)) rfl (q0a und43 rfl (q01 inf43) rfl rfl rfl) (RS.q (u:=.agg (xGDeriv x14)) rfl (q0a und43 rfl (q01 inf43) rfl rfl rfl) (RS.call (u:=.int .i64 r16) (args:=[.agg (xGDeriv x11),.agg (xGDeriv x14)]) rfl (q03 rfl rfl fn19 hb19 rfl rfl) (hf2S x11 x14 r16 h17 _) rfl rfl ?_))
 refine se ?_
 refine RS.q rfl (q02 rfl rfl (q52 _ _ _) rfl) ?_
 refine sd ?_
 refine WPU.condS (t:=(r16 != 0)) rfl (fun h18=>?_) (fun h18=>?_)
 replace hF:=q05 h18 hF
 refine sr ?_
 refine sd ?_
 refine WPU.ret ?_
 refine st ?_
 have hr:=Option.some.inj hF
 subst hr
 exact ⟨.inr rfl,[.int .i64 r16],q0l rfl (q0i),.int .i64 r16,⟨[],0⟩,Nat.le_refl _,Gh.toR (.int .i64 r16) rfl,rfl,BU.h⟩
 replace hF:=q04 h18 hF
 refine st ?_
 refine WPU.skip ?_
 refine sr ?_
 refine RS.q rfl (q02 rfl rfl (q1q _ _ _) rfl) (RS.mv rfl rfl rfl rfl ?_)
 refine sd ?_
 exact ⟨m1,_,_,Nat.lt_succ_self _,⟨(IntKind.i64.wrap (z8+1)),hF,rfl,rfl⟩,(Nat.zero_le _),Gh.toC (n1:=0) ⟨rfl,rfl,rfl,rfl,rfl,rfl,trivial⟩ rfl (Nat.zero_le _) (by simp)⟩
 replace hF:=q04 h10 hF
 refine st ?_
 refine WPU.exit ?_
 refine st ?_
 exact ⟨_,_,⟨hF,rfl,rfl⟩,(Nat.zero_le _),Gh.toC (n1:=0) ⟨rfl,rfl,trivial⟩ rfl (Nat.zero_le _) (by simp)⟩
theorem q83 (f2:GDeriv→GDeriv→Option (Int)) (hf2:∀ (a0:GDeriv) (a1:GDeriv) (r:Int),f2 a0 a1=some r→EvU Tryz.prog 19 [.agg (xGDeriv a0),.agg (xGDeriv a1)] ⟨[],0⟩ (fun u _=>u = .int .i64 r∧Bel 0 u)) (n:Nat) (p1:List GDeriv) (p2:List GDeriv) (r:Int) (hF:q24 f2 n p1 p2=some r) (σ:Sg):EvU Tryz.prog 52 [.isl false (List.map cGDeriv p1),.isl false (List.map cGDeriv p2),.fn (.func 19) [] []] σ (fun u σ'=>u = .int .i64 r∧σ'=σ) :=
 EvU.pure1C (q8j f2 hf2 n p1 p2 r hF) σ
def qai (n:Nat) (self:GDeriv→GDeriv→Option (Int)) (p1:GDeriv) (p2:GDeriv):Option (Int) :=
 bindO (q2v n p1.From p2.From) fun r3 =>
 bindO (q2v n p1.To p2.To) fun r5 =>
 bindO (q2v n p1.Kind p2.Kind) fun r7 =>
 bindO (q3h n p1.Name p2.Name) fun r9 =>
 bindO (q86 n ([r3,r5,r7,r9])) fun r11 =>
 cond (r11 != 0)
  (some r11)
  (bindO (q24 self n p1.Kids p2.Kids) fun r14 =>
  some r14)
def q3i:Nat→GDeriv→GDeriv→Option (Int)
 | 0,_,_=>none
 | n+1,p1,p2=>qai n (q3i n) p1 p2
theorem q8p:∀ (n:Nat) (p1:GDeriv) (p2:GDeriv) (r:Int),q3i n p1 p2=some r→EvU Tryz.prog 19 [.agg (xGDeriv p1),.agg (xGDeriv p2)] ⟨[],0⟩ (fun u _=>u = .int .i64 r∧Bel 0 u)
 | 0,p1,p2,r,hF=>by cases hF
 | n+1,p1,p2,r,hF=>by
  have ih:=q8p n
  have ihS:∀ (p1:GDeriv) (p2:GDeriv) (r:Int),q3i n p1 p2=some r→∀ σ,EvU Tryz.prog 19 [.agg (xGDeriv p1),.agg (xGDeriv p2)] σ (fun u σ'=>u = .int .i64 r∧σ'=σ):=fun p1 p2 r h σ=>EvU.pure1C (ih p1 p2 r h) σ
  unfold q3i qai at hF
  refine EvU.of_body Tryz.tb_ok fn19 rfl ?_
  refine WPU.ghost (tm':=fr 36 [(0,.agg (xGDeriv p1)),(1,.agg (xGDeriv p2))]) (Gh.start (Nat.le_of_ble_eq_true rfl)) (Nat.zero_le _) ?_
  refine sr ?_
  refine RS.q (u:=.ptr 0 0 0) (σ':=⟨[(0,.row (xGDeriv p1) 43)],1⟩) rfl (q2j rfl rfl rfl) (RS.q (u:=.ptr 1 0 0) (σ':=⟨[(1,.row (xGDeriv p2) 43),(0,.row (xGDeriv p1) 43)],2⟩) rfl (q2j rfl rfl rfl) ?_)
  refine sd ?_
  obtain ⟨r3,h4,hF⟩:=q00 hF
  obtain ⟨r5,h6,hF⟩:=q00 hF
  obtain ⟨r7,h8,hF⟩:=q00 hF
  obtain ⟨r9,h10,hF⟩:=q00 hF
  obtain ⟨r11,h12,hF⟩:=q00 hF
  refine WPU.drawE Tryz.tb_ok [] (by kernel_rfl) ?_
  refine RD.q (u:=.ptr 0 0 2) rfl (q0c und43 rfl (q01 inf3) rfl rfl rfl) (RD.q (u:=.int .i64 p1.From) rfl (q09 und3 rfl rfl rfl rfl) (RD.q (u:=.ptr 1 0 2) rfl (q0c und43 rfl (q01 inf3) rfl rfl rfl) (RD.q (u:=.int .i64 p2.From) rfl (q09 und3 rfl rfl rfl rfl) (RD.free (u:=.int .i64 r3) (args:=[.int .i64 p1.From,.int .i64 p2.From]) rfl (q03 rfl rfl fn50 hb50 rfl rfl) (fun s=>q4e n p1.From p2.From r3 h4 s) rfl rfl (RD.q (u:=.ptr 0 0 3) rfl (q0c und43 rfl (q01 inf3) rfl rfl rfl) (RD.q (u:=.int .i64 p1.To) rfl (q09 und3 rfl rfl rfl rfl) (RD.q (u:=.ptr 1 0 3) rfl (q0c und43 rfl (q01 inf3) rfl rfl rfl) ?_)))))))
  refine RD.q (u:=.int .i64 p2.To) rfl (q09 und3 rfl rfl rfl rfl) (RD.free (u:=.int .i64 r5) (args:=[.int .i64 p1.To,.int .i64 p2.To]) rfl (q03 rfl rfl fn50 hb50 rfl rfl) (fun s=>q4e n p1.To p2.To r5 h6 s) rfl rfl (RD.q (u:=.ptr 0 0 0) rfl (q0c und43 rfl (q01 inf3) rfl rfl rfl) (RD.q (u:=.int .i64 p1.Kind) rfl (q09 und3 rfl rfl rfl rfl) (RD.q (u:=.ptr 1 0 0) rfl (q0c und43 rfl (q01 inf3) rfl rfl rfl) (RD.q (u:=.int .i64 p2.Kind) rfl (q09 und3 rfl rfl rfl rfl) (RD.free (u:=.int .i64 r7) (args:=[.int .i64 p1.Kind,.int .i64 p2.Kind]) rfl (q03 rfl rfl fn50 hb50 rfl rfl) (fun s=>q4e n p1.Kind p2.Kind r7 h8 s) rfl rfl (RD.q (u:=.ptr 0 0 1) rfl (q0c und43 rfl (q01 inf9) rfl rfl rfl) ?_)))))))
  refine RD.q (u:=.str p1.Name) rfl (q09 und9 rfl rfl rfl rfl) (RD.q (u:=.ptr 1 0 1) rfl (q0c und43 rfl (q01 inf9) rfl rfl rfl) (RD.q (u:=.str p2.Name) rfl (q09 und9 rfl rfl rfl rfl) (RD.free (u:=.int .i64 r9) (args:=[.str p1.Name,.str p2.Name]) rfl (q03 rfl rfl fn51 hb51 rfl rfl) (fun s=>q9m n p1.Name p2.Name r9 h10 s) rfl rfl (RD.act (u:=.sl 2 0 4 4) (σ':=⟨[(2,.row [.int .i64 r3,.int .i64 r5,.int .i64 r7,.int .i64 r9] 3),(1,.row (xGDeriv p2) 43),(0,.row (xGDeriv p1) 43)],3⟩) rfl (q4g und55 inf3 rfl rfl rfl rfl rfl rfl rfl) rfl rfl ?_))))
  refine RD.call (u:=.int .i64 r11) (args:=[.sl 2 0 4 4]) rfl (q03 rfl rfl fn49 hb49 rfl rfl) (EvU.view (qfm n ([r3,r5,r7,r9]) r11 h12) BUL.h (by simp only [toV,toVL,okL,okC,cond_true]<;>rfl) (fun m=>by simp [ren,renL]) (Gh.fz (tm':=[.isl false (List.map (cI .i64) ([r3,r5,r7,r9]))]) (h':=[(1,.row (xGDeriv p2) 43),(0,.row (xGDeriv p1) 43)]) 2 (.row [.int .i64 r3,.int .i64 r5,.int .i64 r7,.int .i64 r9] 3) 1 rfl (by simp) (by simp only [oneU,q0y,q0o,q1z,q11,q22,q15,q14,q13,q12,q10,q20,q21,q1y,q23,q3k,junkT,q96,q9p,qcn,Nat.reduceLeDiff,Nat.reduceMul,List.length_cons,List.length_nil,Nat.reduceAdd]<;>simp only [chunks,List.take,List.drop,List.map,cI,cB,cS,cL]) (by simp only [fzH,fzB,ug,Nat.beq,cond_true,cond_false,oneU,q0y,q0o,q1z,q11,q22,q15,q14,q13,q12,q10,q20,q21,q1y,q23,q3k,junkT,q96,q9p,qcn,Nat.reduceLeDiff,Nat.reduceMul,List.length_cons,List.length_nil,Nat.reduceAdd]<;>simp only [chunks,List.take,List.drop,List.map,cI,cB,cS,cL]))) rfl rfl ?_
  refine RD.as rfl rfl rfl rfl ?_
  refine RD.done ⟨by kernel_rfl,trivial,?_⟩
  refine sr ?_
  refine RS.q rfl (q02 rfl rfl (q52 _ _ _) rfl) ?_
  refine sd ?_
  refine WPU.condS (t:=(r11 != 0)) rfl (fun h13=>?_) (fun h13=>?_)
  replace hF:=q05 h13 hF
  refine sr ?_
  refine sd ?_
  refine WPU.ret ?_
  refine st ?_
  have hr:=Option.some.inj hF
  subst hr
  exact ⟨.inr rfl,[.int .i64 r11],q0l rfl (q0i),.int .i64 r11,⟨[],0⟩,Nat.le_refl _,Gh.toR (.int .i64 r11) rfl,rfl,BU.h⟩
  replace hF:=q04 h13 hF
  refine st ?_
  refine WPU.skip ?_
  refine st ?_
  obtain ⟨r14,h15,hF⟩:=q00 hF
  refine sr ?_
  refine RS.q (u:=.ptr 0 0 4) rfl (q0c und43 rfl (q01 inf22) rfl rfl rfl) (RS.q (u:=.isl false (List.map cGDeriv p1.Kids)) rfl (q09 und22 rfl rfl rfl rfl) (RS.q (u:=.ptr 1 0 4) rfl (q0c und43 rfl (q01 inf22) rfl rfl rfl) (RS.q (u:=.isl false (List.map cGDeriv p2.Kids)) rfl (q09 und22 rfl rfl rfl rfl) (RS.call (u:=.int .i64 r14) (args:=[.isl false (List.map cGDeriv p1.Kids),.isl false (List.map cGDeriv p2.Kids),.fn (.func 19) [] []]) rfl (q03 rfl rfl fn52 hb52 rfl rfl) (q83 (q3i n) ih n p1.Kids p2.Kids r14 h15 _) rfl rfl ?_))))
  refine sd ?_
  refine WPU.ret ?_
  refine st ?_
  have hr:=Option.some.inj hF
  subst hr
  exact ⟨.inr rfl,[.int .i64 r14],q0l rfl (q0i),.int .i64 r14,⟨[],0⟩,Nat.le_refl _,Gh.toR (.int .i64 r14) rfl,rfl,BU.h⟩
theorem qg2 (n:Nat) (p1:GDeriv) (p2:GDeriv) (r:Int) (hF:q3i n p1 p2=some r) (σ:Sg):EvU Tryz.prog 19 [.agg (xGDeriv p1),.agg (xGDeriv p2)] σ (fun u σ'=>u = .int .i64 r∧σ'=σ) :=
 EvU.pure1C (q8p n p1 p2 r hF) σ
def q67 (n:Nat) (p1:GDeriv) (p2:GDeriv):Option (Bool) :=
 bindO (q3i n p1 p2) fun r3 =>
 some (r3 == 0)
theorem qg0 (n:Nat) (p1:GDeriv) (p2:GDeriv) (r:Bool) (hF:q67 n p1 p2=some r):EvU Tryz.prog 21 [.agg (xGDeriv p1),.agg (xGDeriv p2)] ⟨[],0⟩ (fun u _=>u = .bool r∧Bel 0 u):=by
 unfold q67 at hF
 refine EvU.of_body Tryz.tb_ok fn21 rfl ?_
 refine WPU.ghost (tm':=fr 9 [(0,.agg (xGDeriv p1)),(1,.agg (xGDeriv p2))]) (Gh.start (Nat.le_of_ble_eq_true rfl)) (Nat.zero_le _) ?_
 refine sr ?_
 refine RS.q (u:=.ptr 0 0 0) (σ':=⟨[(0,.row (xGDeriv p1) 43)],1⟩) rfl (q2j rfl rfl rfl) (RS.q (u:=.ptr 1 0 0) (σ':=⟨[(1,.row (xGDeriv p2) 43),(0,.row (xGDeriv p1) 43)],2⟩) rfl (q2j rfl rfl rfl) ?_)
 refine sd ?_
 obtain ⟨r3,h4,hF⟩:=q00 hF
 refine sr ?_
 refine RS.q (u:=.agg (xGDeriv p1)) rfl (q0a und43 rfl (q01 inf43) rfl rfl rfl) (RS.q (u:=.agg (xGDeriv p2)) rfl (q0a und43 rfl (q01 inf43) rfl rfl rfl) (RS.call (u:=.int .i64 r3) (args:=[.agg (xGDeriv p1),.agg (xGDeriv p2)]) rfl (q03 rfl rfl fn19 hb19 rfl rfl) (qg2 n p1 p2 r3 h4 _) rfl rfl (RS.q rfl (q02 rfl rfl (q0j _ _ _) rfl) ?_)))
 refine sd ?_
 refine WPU.ret ?_
 refine st ?_
 have hr:=Option.some.inj hF
 subst hr
 exact ⟨.inr rfl,[.bool (r3 == 0)],q0l rfl (q0i),.bool (r3 == 0),⟨[],0⟩,Nat.le_refl _,Gh.toR (.bool (r3 == 0)) rfl,rfl,BU.h⟩
def q58 (n:Nat) (p1:List GDeriv):Option ((List GDeriv)) :=
 bothL p1 fun b2 =>
 cond b2
  (some ([]:List GDeriv))
  (needO (p1.length*64≤140737488355328∧p1.length≤140737488355328) (
  some p1))
theorem qcz (n:Nat) (p1:List GDeriv) (r:(List GDeriv)) (hF:q58 n p1=some r):EvU Tryz.prog 17 [.isl false (List.map cGDeriv p1)] ⟨[],0⟩ (fun u σ'=>∃ t,u = .vl 1 t 0 r.length∧σ'=⟨[(1,.vec (List.map cGDeriv r).flatten 43 5 t)],1+1⟩):=by
 unfold q58 at hF
 refine EvU.of_body Tryz.tb_ok fn17 rfl ?_
 refine WPU.ghost (tm':=fr 8 [(0,.isl false (List.map cGDeriv p1))]) (Gh.start (Nat.le_of_ble_eq_true rfl)) (Nat.zero_le _) ?_
 refine sr ?_
 refine se ?_
 refine RS.nilq rfl rfl und22 rfl rfl rfl rfl ?_
 intro b2 h3
 replace hF:=bothL_some hF b2 fun h=>List.map_eq_nil_iff.1 (h3 h)
 refine sd ?_
 refine WPU.condS (t:=b2) rfl (fun h4=>?_) (fun h4=>?_)
 replace hF:=q05 h4 hF
 refine sr ?_
 refine sd ?_
 refine WPU.ret ?_
 refine st ?_
 have hr:=Option.some.inj hF
 subst hr
 exact ⟨.inr rfl,[.nils],q0l rfl q0i,.vl 1 0 0 0,⟨[(1,.vec (List.map cGDeriv ([]:List GDeriv)).flatten 43 5 0)],2⟩,(Nat.zero_le _),Gh.trans (Gh.fresh (tm:=[.nils]) 43 5 (by decide) (Nat.zero_le _)) (Gh.trans (Gh.nilvec (tm:=[.nils]) 0 43 5 (by decide) (Nat.zero_le _) rfl) (Gh.trans (Gh.only (fun k=>Nat.beq k 1)) (Gh.to (n1:=2) [] rfl rfl (Nat.zero_le _) (Nat.le_of_ble_eq_true rfl) BUL.h BH.h))),0,rfl,rfl⟩
 replace hF:=q04 h4 hF
 refine st ?_
 refine WPU.skip ?_
 refine st ?_
 obtain ⟨h5,hF⟩:=q0n hF
 refine sr ?_
 refine RS.q (u:=.sl 0 0 0 0) (σ':=⟨[(0,.row [] 43)],1⟩) rfl (q4g und22 inf43 rfl rfl rfl rfl rfl rfl rfl) (RS.mv rfl rfl rfl rfl (RS.q (u:=.vl 1 0 0 p1.length) (σ':=⟨[(1,.vec (List.map cGDeriv p1).flatten 43 5 0),(0,.row [] 43)],2⟩) rfl (q7i rfl rfl rfl rfl (app_emp cGDeriv p1 und22 und22 inf43 rfl rfl rfl (qi9 cGDeriv q0e) h5)) ?_))
 refine sd ?_
 refine WPU.ret ?_
 refine st ?_
 have hr:=Option.some.inj hF
 subst hr
 exact ⟨.inr rfl,[.vl 1 0 0 p1.length],q0l rfl q0i,.vl 1 0 0 p1.length,⟨[(1,.vec (List.map cGDeriv p1).flatten 43 5 0)],2⟩,(Nat.zero_le _),Gh.trans (Gh.only (fun k=>Nat.beq k 1)) (Gh.to (n1:=2) [] rfl rfl (Nat.zero_le _) (Nat.le_of_ble_eq_true rfl) BUL.h BH.h),0,rfl,rfl⟩
def q2y (n:Nat) (p1:List GDecision):Option ((List GDecision)) :=
 bothL p1 fun b2 =>
 cond b2
  (some [])
  (needO (p1.length*48≤140737488355328∧p1.length≤140737488355328) (
  some p1))
end Go.Proofs
end
