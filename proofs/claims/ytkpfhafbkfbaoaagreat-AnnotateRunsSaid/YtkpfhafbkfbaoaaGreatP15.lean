/-
  Texts of the walk: A5z.
-/
import Derived.Test.YtkpfhafbkfbaoaaGreatP14
section
namespace Go.Proofs
open Go Go.Rx Go.Vx Tryz
set_option maxRecDepth 10000
set_option linter.unusedSimpArgs false
set_option linter.unusedVariables false
structure GStep where
 Op:Int
 Propx:GProp
 Yes:Bool
def cGStep (x:GStep):List U:=[.int .u8 x.Op,.int .i64 x.Propx.Kind,.str x.Propx.Name,.int .i64 x.Propx.From,.int .i64 x.Propx.To,.bool x.Yes]
theorem bel_cGStep (n:Nat) (x:GStep):BelL n (cGStep x):=by
 simp only [cGStep,BelL,Bel,true_and,and_true]
theorem len_cGStep (x:GStep):(cGStep x).length=6:=rfl
instance:BF cGStep:=⟨bel_cGStep⟩
instance (n:Nat) (x:GStep):BUL n (cGStep x):=⟨bel_cGStep n x⟩
def q94 (n:Nat) (p1:GDeriv):Option ((List GProp)) :=
 bindO (q30 n ([]:List GProp) p1) fun r2 =>
 needO (r2.length<4611686018427387904) (
 bindO (q46 n (srtP r2)) fun r6 =>
 some r6)
theorem disc_Props_0 (n:Nat) (p1:GDeriv) (r:(List GProp)) (hF:q94 n p1=some r):EvU Tryz.prog 80 [.agg (xGDeriv p1)] ⟨[],0⟩ (fun u _=>u = .isl false (List.map cGProp r)∧Bel 0 u):=by
 unfold q94 at hF
 refine EvU.of_body Tryz.tb_ok fn80 rfl ?_
 refine WPU.ghost (tm':=fr 10 [(0,.agg (xGDeriv p1))]) (Gh.start (Nat.le_of_ble_eq_true rfl)) (Nat.zero_le _) ?_
 refine sr ?_
 refine RS.q (u:=.ptr 0 0 0) (σ':=⟨[(0,.row (xGDeriv p1) 43)],1⟩) rfl (q2j rfl rfl rfl) ?_
 refine sd ?_
 obtain ⟨r2,h3,hF⟩:=q00 hF
 refine sr ?_
 refine RS.q (u:=.agg (xGDeriv p1)) rfl (q0a und43 rfl (q01 inf43) rfl rfl rfl) ?_
 refine RS.callx (args:=[.nils,.agg (xGDeriv p1)]) rfl (q03 rfl rfl fn94 hb94 rfl rfl) (EvU.nil1 33 4 (by decide) (qha n ([]:List GProp) p1 r2 h3 _ rfl rfl)) rfl rfl ?_
 rintro _ _ ⟨t4,rfl,rfl⟩
 refine sd ?_
 obtain ⟨h5,hF⟩:=q0n hF
 refine WPU.joinK (fun tm σ=>tm=fr 10 [(3,.vl 1 t4 0 ((srtP r2).length))]∧σ=⟨[(1,.vec (List.map cGProp (srtP r2)).flatten 33 4 t4),(0,.row (xGDeriv p1) 43)],2⟩) ?_ ?_
 rintro _ _ ⟨rfl,rfl⟩
 refine st ?_
 obtain ⟨r6,h7,hF⟩:=q00 hF
 refine sr ?_
 refine RS.callx (args:=[.vl 1 t4 0 ((srtP r2).length)]) rfl (q03 rfl rfl fn95 hb95 rfl rfl) (qc1 n (srtP r2) r6 h7 _ rfl rfl) rfl rfl ?_
 rintro _ _ ⟨t8,rfl,rfl⟩
 refine sd ?_
 refine WPU.ret ?_
 refine st ?_
 have hr:=Option.some.inj hF
 subst hr
 exact ⟨.inr rfl,[.vl 1 t8 0 r6.length],q0l rfl (q0i),.isl false (List.map cGProp r6),⟨[],0⟩,Nat.le_refl _,Gh.trans (Gh.fz (tm':=[.isl false (List.map cGProp r6)]) (h':=[(0,.row (xGDeriv p1) 43)]) 1 (.vec (List.map cGProp r6).flatten 33 4 t8) 4 rfl (by simp) (by simp only [oneU,q0y,q0o,q1z,q11,q22,q15,q14,q13,q12,q10,q20,q21,q1y,q23,q3k,junkT,q8i q0b,qcn]) (by simp only [fzH,fzB,ug,Nat.beq,cond_true,cond_false,oneU,q0y,q0o,q1z,q11,q22,q15,q14,q13,q12,q10,q20,q21,q1y,q23,q3k,junkT,q8i q0b,qcn])) (Gh.toR (.isl false (List.map cGProp r6)) rfl),rfl,BU.h⟩
 refine sr ?_
 refine RS.callx (args:=[.vl 1 t4 0 r2.length,.fn (.func 84) [] []]) rfl (q03 rfl rfl fn83 hb83 rfl rfl) (srtP_ok r2 h5 _ rfl rfl) rfl rfl ?_
 rintro _ _ ⟨rfl,rfl⟩
 refine sd ?_
 exact ⟨_,_,⟨rfl,rfl⟩,(Nat.zero_le _),Gh.eqS ⟨(by simp only [qa9 r2]; rfl),trivial⟩ rfl⟩
theorem disc_Props_ok (n:Nat) (p1:GDeriv) (r:(List GProp)) (hF:q94 n p1=some r) (σ:Sg):EvU Tryz.prog 80 [.agg (xGDeriv p1)] σ (fun u σ'=>u = .isl false (List.map cGProp r)∧σ'=σ) :=
 EvU.pure1C (disc_Props_0 n p1 r hF) σ
def qbk (p1:List GDeriv) (l9:List (List GProp)):Option ((List (List GProp))) :=
 needO ((p1.length:Int).toNat=l9.length) (
 some l9)
def q95 (p1:List GDeriv) (n:Nat):Nat→Int→(List (List GProp))→Option ((List (List GProp)))
 | 0,_,_=>none
 | m1+1,z7,l8 =>
  cond (decide (z7<(p1.length:Int)))
   (bindO (idxO p1 z7) fun x12 =>
   bindO (q94 n x12) fun r14 =>
   bindO (idxV l8 0 ((p1.length:Int).toNat) z7) fun x16 =>
   (q95 p1 n m1) (IntKind.i64.wrap (z7+1)) (l8.set z7.toNat r14))
   (qbk p1 l8)
def qat (n:Nat) (p1:List GDeriv):Option ((List (List GProp))) :=
 needO (0≤(p1.length:Int)∧24*(p1.length:Int).toNat≤281474976710656∧(p1.length:Int)≤281474976710656) (
 q95 p1 n n 0 (List.replicate (p1.length:Int).toNat []))
theorem disc_all_0 (n:Nat) (p1:List GDeriv) (r:(List (List GProp))) (hF:qat n p1=some r):EvU Tryz.prog 54 [.isl false (List.map cGDeriv p1)] ⟨[],0⟩ (fun u _=>u = .isl false (List.map (cL cGProp) r)∧Bel 0 u):=by
 unfold qat at hF
 refine EvU.of_body Tryz.tb_ok fn54 rfl ?_
 refine WPU.ghost (tm':=fr 23 [(0,.isl false (List.map cGDeriv p1))]) (Gh.start (Nat.le_of_ble_eq_true rfl)) (Nat.zero_le _) ?_
 refine sr ?_
 refine sd ?_
 obtain ⟨h2,hF⟩:=q0n hF
 refine sr ?_
 refine RS.q rfl (q0k rfl rfl rfl (q0g cGDeriv und22)) (RS.q (u:=.sl 0 0 ((p1.length:Int).toNat) ((p1.length:Int).toNat)) (σ':=⟨[(0,.row (List.map (cL cGProp) (List.replicate (p1.length:Int).toNat [])).flatten 57)],1⟩) rfl (op_mks (cL cGProp) [] rfl rfl und80 inf57 rfl rfl rfl rfl h2) ?_)
 refine se ?_
 refine RS.q rfl (q0k rfl rfl rfl (q0g cGDeriv und22)) (RS.mv rfl rfl rfl rfl ?_)
 refine sd ?_
 refine WPU.ghost (tm':=fr 23 [(3,.sl 0 0 ((p1.length:Int).toNat) ((p1.length:Int).toNat)),(9,.isl false (List.map cGDeriv p1)),(10,.int .i64 (p1.length:Int)),(11,.int .i64 0)]) (Gh.sub ⟨rfl,rfl,rfl,rfl,trivial⟩) (Nat.zero_le _) ?_
 refine WPU.loopK (fun m tm σ=>∃ z7:Int,∃ l8:List (List GProp),q95 p1 n m z7 l8=some r∧tm=fr 23 [(3,.sl 0 0 ((p1.length:Int).toNat) ((p1.length:Int).toNat)),(9,.isl false (List.map cGDeriv p1)),(10,.int .i64 (p1.length:Int)),(11,.int .i64 z7)]∧σ=⟨[(0,.row (List.map (cL cGProp) l8).flatten 57)],1⟩) (fun tm σ=>∃ l9:List (List GProp),qbk p1 l9=some r∧tm=fr 23 [(3,.sl 0 0 ((p1.length:Int).toNat) ((p1.length:Int).toNat))]∧σ=⟨[(0,.row (List.map (cL cGProp) l9).flatten 57)],1⟩) n ⟨0,(List.replicate (p1.length:Int).toNat []),hF,rfl,rfl⟩ ?_ ?_
 rintro _ _ ⟨l9,hF,rfl,rfl⟩
 unfold qbk at hF
 refine sr ?_
 refine sd ?_
 refine WPU.ret ?_
 refine st ?_
 obtain ⟨h10,hF⟩:=q0n hF
 have hr:=Option.some.inj hF
 subst hr
 exact ⟨.inr rfl,[.sl 0 0 ((p1.length:Int).toNat) ((p1.length:Int).toNat)],q0l rfl (q0i),.isl false (List.map (cL cGProp) l9),⟨[],0⟩,Nat.le_refl _,Gh.trans (Gh.fz (tm':=[.isl false (List.map (cL cGProp) l9)]) (h':=[]) 0 (.row (List.map (cL cGProp) l9).flatten 57) 1 rfl (by simp) (by simp only [oneU,q0y,q0o,q1z,q11,q22,q15,q14,q13,q12,q10,q20,q21,q1y,q23,q3k,junkT,fz_rl (qed cGProp) h10]) (by simp only [fzH,fzB,ug,Nat.beq,cond_true,cond_false,oneU,q0y,q0o,q1z,q11,q22,q15,q14,q13,q12,q10,q20,q21,q1y,q23,q3k,junkT,fz_rl (qed cGProp) h10])) (Gh.toR (.isl false (List.map (cL cGProp) l9)) rfl),rfl,BU.h⟩
 rintro m1 _ _ ⟨z7,l8,hF,rfl,rfl⟩
 rcases m1 with _ | m1
 cases hF
 unfold q95 at hF
 refine sr ?_
 refine RS.q rfl (q02 rfl rfl (q18 _ _ _) rfl) ?_
 refine sd ?_
 refine WPU.condS (t:=(decide (z7<(p1.length:Int)))) rfl (fun h11=>?_) (fun h11=>?_)
 replace hF:=q05 h11 hF
 refine st ?_
 refine WPU.skip ?_
 refine st ?_
 refine WPU.block ?_
 refine st ?_
 obtain ⟨x12,h13,hF⟩:=q00 hF
 refine sr ?_
 refine RS.q (u:=.iptr (xGDeriv x12)) rfl (q2a rfl rfl (q1f cGDeriv und22 (q01 inf43) q0e h13 (q0m x12))) (RS.q (u:=.agg (xGDeriv x12)) rfl (q2e und43 rfl (q01 inf43) rfl rfl) (RS.q (u:=.ptr 1 0 0) (σ':=⟨[(1,.row [.int .i64 0,.str [],.int .i64 0,.int .i64 0,.nils] 43),(0,.row (List.map (cL cGProp) l8).flatten 57)],2⟩) rfl (q0v inf43 rfl rfl) (RS.as rfl rfl rfl rfl (RS.opn (u:=.junk) (σ':=⟨[(1,.row (xGDeriv x12) 43),(0,.row (List.map (cL cGProp) l8).flatten 57)],2⟩) rfl (q0d (q01 inf43) rfl rfl rfl rfl rfl rfl rfl rfl) rfl ?_))))
 refine sd ?_
 obtain ⟨r14,h15,hF⟩:=q00 hF
 obtain ⟨x16,h17,hF⟩:=q00 hF
 refine sr ?_
 repeat refine RS.mv rfl rfl rfl rfl ?_
 refine RS.q (u:=.agg (xGDeriv x12)) rfl (q0a und43 rfl (q01 inf43) rfl rfl rfl) (RS.call (u:=.isl false (List.map cGProp r14)) (args:=[.agg (xGDeriv x12)]) rfl (q03 rfl rfl fn80 hb80 rfl rfl) (disc_Props_ok n x12 r14 h15 _) rfl rfl (RS.q (u:=.ptr 0 0 (0*1+z7.toNat*1)) rfl (q2a rfl rfl (ia_rl und80 (q01 inf57) rfl h17)) (RS.opn (u:=.junk) (σ':=⟨[(1,.row (xGDeriv x12) 43),(0,.row (List.map (cL cGProp) (l8.set z7.toNat r14)).flatten 57)],2⟩) rfl (st_rl (cL cGProp) (q01 inf57) (qed cGProp) rfl rfl rfl rfl rfl rfl h17 rfl) rfl ?_)))
 refine se ?_
 refine RS.q rfl (q02 rfl rfl (q1q _ _ _) rfl) (RS.mv rfl rfl rfl rfl ?_)
 refine sd ?_
 exact ⟨m1,_,_,Nat.lt_succ_self _,⟨(IntKind.i64.wrap (z7+1)),(l8.set z7.toNat r14),hF,rfl,rfl⟩,(Nat.zero_le _),Gh.toC (n1:=1) ⟨rfl,rfl,rfl,rfl,trivial⟩ rfl (Nat.zero_le _) (by simp)⟩
 replace hF:=q04 h11 hF
 refine st ?_
 refine WPU.exit ?_
 refine st ?_
 exact ⟨_,_,⟨l8,hF,rfl,rfl⟩,(Nat.zero_le _),Gh.toC (n1:=1) ⟨rfl,trivial⟩ rfl (Nat.zero_le _) (by simp)⟩
theorem qdb (n:Nat) (p1:List GDeriv) (r:(List (List GProp))) (hF:qat n p1=some r) (σ:Sg):EvU Tryz.prog 54 [.isl false (List.map cGDeriv p1)] σ (fun u σ'=>u = .isl false (List.map (cL cGProp) r)∧σ'=σ) :=
 EvU.pure1C (disc_all_0 n p1 r hF) σ
def q6b (n:Nat) (p1:List GDeriv) (p2:List GDecision):Option ((List Int)) :=
 bindO (qat n p1) fun r3 =>
 bindO (q5d n r3 p2) fun r5 =>
 some r5
theorem qg4 (n:Nat) (p1:List GDeriv) (p2:List GDecision) (r:(List Int)) (hF:q6b n p1 p2=some r):EvU Tryz.prog 59 [.isl false (List.map cGDeriv p1),.isl false (List.map cGDecision p2)] ⟨[],0⟩ (fun u _=>u = .isl false (List.map (cI .i64) r)∧Bel 0 u):=by
 unfold q6b at hF
 refine EvU.of_body Tryz.tb_ok fn59 rfl ?_
 refine WPU.ghost (tm':=fr 9 [(0,.isl false (List.map cGDeriv p1)),(1,.isl false (List.map cGDecision p2))]) (Gh.start (Nat.le_of_ble_eq_true rfl)) (Nat.zero_le _) ?_
 refine sr ?_
 refine sd ?_
 obtain ⟨r3,h4,hF⟩:=q00 hF
 obtain ⟨r5,h6,hF⟩:=q00 hF
 refine sr ?_
 refine RS.call (u:=.isl false (List.map (cL cGProp) r3)) (args:=[.isl false (List.map cGDeriv p1)]) rfl (q03 rfl rfl fn54 hb54 rfl rfl) (qdb n p1 r3 h4 _) rfl rfl (RS.mv rfl rfl rfl rfl (RS.call (u:=.isl false (List.map (cI .i64) r5)) (args:=[.isl false (List.map (cL cGProp) r3),.isl false (List.map cGDecision p2)]) rfl (q03 rfl rfl fn55 hb55 rfl rfl) (qb8 n r3 p2 r5 h6 _) rfl rfl ?_))
 refine sd ?_
 refine WPU.ret ?_
 refine st ?_
 have hr:=Option.some.inj hF
 subst hr
 exact ⟨.inr rfl,[.isl false (List.map (cI .i64) r5)],q0l rfl (q0i),.isl false (List.map (cI .i64) r5),⟨[],0⟩,Nat.le_refl _,Gh.toR (.isl false (List.map (cI .i64) r5)) rfl,rfl,BU.h⟩
theorem qf7 (n:Nat) (p1:List GDeriv) (p2:List GDecision) (r:(List Int)) (hF:q6b n p1 p2=some r) (σ:Sg):EvU Tryz.prog 59 [.isl false (List.map cGDeriv p1),.isl false (List.map cGDecision p2)] σ (fun u σ'=>u = .isl false (List.map (cI .i64) r)∧σ'=σ) :=
 EvU.pure1C (qg4 n p1 p2 r hF) σ
def q1v   : Option (Int) :=
 some (-1)
def q0w (p1:List GDecision) (c2:GProp) (f1:GDecision→GProp→Option (Bool)):Nat→Int→Option (Int)
 | 0,_=>none
 | m1+1,z6 =>
  cond (decide (z6<(p1.length:Int)))
   (bindO (idxO p1 z6) fun x8 =>
   bindO (f1 x8 c2) fun r10 =>
   cond r10
    (some z6)
    ((q0w p1 c2 f1 m1) (IntKind.i64.wrap (z6+1))))
   (q1v)
def q1m (f1:GDecision→GProp→Option (Bool)) (n:Nat) (p1:List GDecision) (c2:GProp):Option (Int) :=
 q0w p1 c2 f1 n 0
theorem q7n (f1:GDecision→GProp→Option (Bool)) (hf1:∀ (a0:GDecision) (a1:GProp) (r:Bool),f1 a0 a1=some r→EvU Tryz.prog 57 [.agg (cGDecision a0),.iptr (cGProp a1)] ⟨[],0⟩ (fun u _=>u = .bool r∧Bel 0 u)) (n:Nat) (p1:List GDecision) (c2:GProp) (r:Int) (hF:q1m f1 n p1 c2=some r):EvU Tryz.prog 62 [.isl false (List.map cGDecision p1),.fn (.func 57) [] [.iptr (cGProp c2)]] ⟨[],0⟩ (fun u _=>u = .int .i64 r∧Bel 0 u):=by
 unfold q1m at hF
 have hf1S:∀ (a0:GDecision) (a1:GProp) (r:Bool),f1 a0 a1=some r→∀ σ,EvU Tryz.prog 57 [.agg (cGDecision a0),.iptr (cGProp a1)] σ (fun u σ'=>u = .bool r∧σ'=σ):=fun a0 a1 r h σ=>EvU.pure1C (hf1 a0 a1 r h) σ
 refine EvU.of_body Tryz.tb_ok fn62 rfl ?_
 refine WPU.ghost (tm':=fr 19 [(0,.isl false (List.map cGDecision p1)),(1,.fn (.func 57) [] [.iptr (cGProp c2)])]) (Gh.start (Nat.le_of_ble_eq_true rfl)) (Nat.zero_le _) ?_
 refine sr ?_
 refine se ?_
 refine RS.q rfl (q0k rfl rfl rfl (q0g cGDecision und26)) (RS.mv rfl rfl rfl rfl ?_)
 refine sd ?_
 refine WPU.ghost (tm':=fr 19 [(0,.isl false (List.map cGDecision p1)),(1,.fn (.func 57) [] [.iptr (cGProp c2)]),(7,.int .i64 (p1.length:Int)),(8,.int .i64 0)]) (Gh.sub ⟨rfl,rfl,rfl,rfl,trivial⟩) (Nat.zero_le _) ?_
 refine WPU.loopK (fun m tm σ=>∃ z6:Int,q0w p1 c2 f1 m z6=some r∧tm=fr 19 [(0,.isl false (List.map cGDecision p1)),(1,.fn (.func 57) [] [.iptr (cGProp c2)]),(7,.int .i64 (p1.length:Int)),(8,.int .i64 z6)]∧σ=⟨[],0⟩) (fun tm σ=>q1v=some r∧tm=fr 19 []∧σ=⟨[],0⟩) n ⟨0,hF,rfl,rfl⟩ ?_ ?_
 rintro _ _ ⟨hF,rfl,rfl⟩
 unfold q1v at hF
 refine sr ?_
 refine sd ?_
 refine WPU.ret ?_
 refine st ?_
 have hr:=Option.some.inj hF
 subst hr
 exact ⟨.inr rfl,[.int .i64 (-1)],q0l rfl (q0i),.int .i64 (-1),⟨[],0⟩,Nat.le_refl _,Gh.toR (.int .i64 (-1)) rfl,rfl,BU.h⟩
 rintro m1 _ _ ⟨z6,hF,rfl,rfl⟩
 rcases m1 with _ | m1
 cases hF
 unfold q0w at hF
 refine sr ?_
 refine RS.q rfl (q02 rfl rfl (q18 _ _ _) rfl) ?_
 refine sd ?_
 refine WPU.condS (t:=(decide (z6<(p1.length:Int)))) rfl (fun h7=>?_) (fun h7=>?_)
 replace hF:=q05 h7 hF
 refine st ?_
 refine WPU.skip ?_
 refine st ?_
 refine WPU.block ?_
 refine sr ?_
 refine sd ?_
 obtain ⟨x8,h9,hF⟩:=q00 hF
 obtain ⟨r10,h11,hF⟩:=q00 hF
 refine sr ?_
 repeat refine RS.mv rfl rfl rfl rfl ?_
 refine RS.q (u:=.iptr (cGDecision x8)) rfl (q2a rfl rfl (q1f cGDecision und26 (q01 inf62) q0f h9 rfl)) (RS.q (u:=.agg (cGDecision x8)) rfl (q2e und62 rfl (q01 inf62) rfl rfl) (RS.call (u:=.bool r10) (args:=[.agg (cGDecision x8),.iptr (cGProp c2)]) rfl (q03 rfl rfl fn57 hb57 rfl rfl) (hf1S x8 c2 r10 h11 _) rfl rfl ?_))
 refine sd ?_
 refine WPU.condS (t:=r10) rfl (fun h12=>?_) (fun h12=>?_)
 replace hF:=q05 h12 hF
 refine sr ?_
 refine sd ?_
 refine WPU.ret ?_
 refine st ?_
 have hr:=Option.some.inj hF
 subst hr
 exact ⟨.inr rfl,[.int .i64 z6],q0l rfl (q0i),.int .i64 z6,⟨[],0⟩,Nat.le_refl _,Gh.toR (.int .i64 z6) rfl,rfl,BU.h⟩
 replace hF:=q04 h12 hF
 refine st ?_
 refine WPU.skip ?_
 refine sr ?_
 refine RS.q rfl (q02 rfl rfl (q1q _ _ _) rfl) (RS.mv rfl rfl rfl rfl ?_)
 refine sd ?_
 exact ⟨m1,_,_,Nat.lt_succ_self _,⟨(IntKind.i64.wrap (z6+1)),hF,rfl,rfl⟩,(Nat.zero_le _),Gh.toC (n1:=0) ⟨rfl,rfl,rfl,rfl,trivial⟩ rfl (Nat.zero_le _) (by simp)⟩
 replace hF:=q04 h7 hF
 refine st ?_
 refine WPU.exit ?_
 refine st ?_
 exact ⟨_,_,⟨hF,rfl,rfl⟩,(Nat.zero_le _),Gh.toC (n1:=0) trivial rfl (Nat.zero_le _) (by simp)⟩
theorem q7f (f1:GDecision→GProp→Option (Bool)) (hf1:∀ (a0:GDecision) (a1:GProp) (r:Bool),f1 a0 a1=some r→EvU Tryz.prog 57 [.agg (cGDecision a0),.iptr (cGProp a1)] ⟨[],0⟩ (fun u _=>u = .bool r∧Bel 0 u)) (n:Nat) (p1:List GDecision) (c2:GProp) (r:Int) (hF:q1m f1 n p1 c2=some r) (σ:Sg):EvU Tryz.prog 62 [.isl false (List.map cGDecision p1),.fn (.func 57) [] [.iptr (cGProp c2)]] σ (fun u σ'=>u = .int .i64 r∧σ'=σ) :=
 EvU.pure1C (q7n f1 hf1 n p1 c2 r hF) σ
def q1d (f1:GDecision→GProp→Option (Bool)) (n:Nat) (p1:List GDecision) (c2:GProp):Option (Bool) :=
 bindO (q1m f1 n p1 c2) fun r3 =>
 some (decide (r3 ≥ 0))
theorem q6l (f1:GDecision→GProp→Option (Bool)) (hf1:∀ (a0:GDecision) (a1:GProp) (r:Bool),f1 a0 a1=some r→EvU Tryz.prog 57 [.agg (cGDecision a0),.iptr (cGProp a1)] ⟨[],0⟩ (fun u _=>u = .bool r∧Bel 0 u)) (n:Nat) (p1:List GDecision) (c2:GProp) (r:Bool) (hF:q1d f1 n p1 c2=some r):EvU Tryz.prog 27 [.isl false (List.map cGDecision p1),.fn (.func 57) [] [.iptr (cGProp c2)]] ⟨[],0⟩ (fun u _=>u = .bool r∧Bel 0 u):=by
 unfold q1d at hF
 have hf1S:∀ (a0:GDecision) (a1:GProp) (r:Bool),f1 a0 a1=some r→∀ σ,EvU Tryz.prog 57 [.agg (cGDecision a0),.iptr (cGProp a1)] σ (fun u σ'=>u = .bool r∧σ'=σ):=fun a0 a1 r h σ=>EvU.pure1C (hf1 a0 a1 r h) σ
 refine EvU.of_body Tryz.tb_ok fn27 rfl ?_
 refine WPU.ghost (tm':=fr 9 [(0,.isl false (List.map cGDecision p1)),(1,.fn (.func 57) [] [.iptr (cGProp c2)])]) (Gh.start (Nat.le_of_ble_eq_true rfl)) (Nat.zero_le _) ?_
 refine sr ?_
 refine sd ?_
 obtain ⟨r3,h4,hF⟩:=q00 hF
 refine sr ?_
 repeat refine RS.mv rfl rfl rfl rfl ?_
 refine RS.call (u:=.int .i64 r3) (args:=[.isl false (List.map cGDecision p1),.fn (.func 57) [] [.iptr (cGProp c2)]]) rfl (q03 rfl rfl fn62 hb62 rfl rfl) (q7f f1 hf1 n p1 c2 r3 h4 _) rfl rfl (RS.q rfl (q02 rfl rfl (ix_geq _ _ _) rfl) ?_)
 refine sd ?_
 refine WPU.ret ?_
 refine st ?_
 have hr:=Option.some.inj hF
 subst hr
 exact ⟨.inr rfl,[.bool (decide (r3 ≥ 0))],q0l rfl (q0i),.bool (decide (r3 ≥ 0)),⟨[],0⟩,Nat.le_refl _,Gh.toR (.bool (decide (r3 ≥ 0))) rfl,rfl,BU.h⟩
def q7q (rc1:Int→(List GProp)→Option ((List GProp))) (z26:Int) (l28:List GProp):Option ((List GProp)) :=
 rc1 z26 l28
def q7r (p1:List (List GProp)) (r2:List GProp) (z12:Int) (l13:List GProp) (rc1:Int→(List GProp)→Option ((List GProp))) (z26:Int):Option ((List GProp)) :=
 cond (decide ((IntKind.i64.wrap (z26 - z12))<(p1.length:Int)))
  (bindO (idxO (srtP r2) z12) fun x30 =>
  needO ((l13.length+1)*40≤140737488355328∧l13.length+1≤140737488355328) (
  q7q rc1 z26 (l13++[x30])))
  (q7q rc1 z26 l13)
def q6c (p1:List (List GProp)) (r2:List GProp) (z12:Int) (l13:List GProp) (rc1:Int→(List GProp)→Option ((List GProp))):Nat→Int→Option ((List GProp))
 | 0,_=>none
 | m2+1,z25 =>
  bindO (cond (decide (z25<((srtP r2).length:Int)))
   (bindO (idxO (srtP r2) z25) fun x34 =>
   bindO (idxO (srtP r2) z12) fun x36 =>
   some (eqGProp x34 x36))
   (some false)) fun b38 =>
  cond b38
   ((q6c p1 r2 z12 l13 rc1 m2) (IntKind.i64.wrap (z25+1)))
   (q7r p1 r2 z12 l13 rc1 z25)
def q9g  (l15:List GProp):Option ((List GProp)) :=
 some l15
def q47 (p1:List (List GProp)) (n:Nat) (r2:List GProp):Nat→Int→(List GProp)→Option ((List GProp))
 | 0,_,_=>none
 | m1+1,z12,l13 =>
  cond (decide (z12<((srtP r2).length:Int)))
   (q6c p1 r2 z12 l13 (q47 p1 n r2 m1) n (IntKind.i64.wrap (z12+1)))
   (q9g l13)
def q82 (n:Nat) (p1:List (List GProp)):Option ((List GProp)) :=
 bindO (q59 n p1) fun r2 =>
 needO (r2.length<4611686018427387904) (
 q47 p1 n r2 n 0 ([]:List GProp))
theorem disc_differ_0 (n:Nat) (p1:List (List GProp)) (r:(List GProp)) (hF:q82 n p1=some r):EvU Tryz.prog 56 [.isl false (List.map (cL cGProp) p1)] ⟨[],0⟩ (fun u _=>u = .isl false (List.map cGProp r)∧Bel 0 u):=by
 unfold q82 at hF
 refine EvU.of_body Tryz.tb_ok fn56 rfl ?_
 refine WPU.ghost (tm':=fr 49 [(0,.isl false (List.map (cL cGProp) p1))]) (Gh.start (Nat.le_of_ble_eq_true rfl)) (Nat.zero_le _) ?_
 refine sr ?_
 refine sd ?_
 obtain ⟨r2,h3,hF⟩:=q00 hF
 refine sr ?_
 refine RS.callx (R:=fun u σ'=>∃ t4,u = .vl 0 t4 0 r2.length∧σ'=⟨[(0,.vec (List.map cGProp r2).flatten 33 4 t4)],1⟩) (args:=[.isl false (List.map (cL cGProp) p1)]) rfl (q03 rfl rfl fn82 hb82 rfl rfl) (EvU.own1 cGProp (qd0 n p1 r2 h3) _ 0 rfl) rfl rfl ?_
 rintro _ _ ⟨t4,rfl,rfl⟩
 refine sd ?_
 obtain ⟨h5,hF⟩:=q0n hF
 refine WPU.joinK (fun tm σ=>tm=fr 49 [(0,.isl false (List.map (cL cGProp) p1)),(3,.vl 0 t4 0 ((srtP r2).length))]∧σ=⟨[(0,.vec (List.map cGProp (srtP r2)).flatten 33 4 t4)],1⟩) ?_ ?_
 rintro _ _ ⟨rfl,rfl⟩
 refine sr ?_
 refine se ?_
 refine sd ?_
 refine WPU.ghost (tm':=fr 49 [(0,.isl false (List.map (cL cGProp) p1)),(3,.vl 0 t4 0 ((srtP r2).length)),(4,.vl 1 0 0 (([]:List GProp).length)),(5,.int .i64 0)]) (σ':=⟨[(1,.vec (List.map cGProp ([]:List GProp)).flatten 33 4 0),(0,.vec (List.map cGProp (srtP r2)).flatten 33 4 t4)],2⟩) (Gh.trans (Gh.nilS 4 33 4 (by decide) (Nat.zero_le _) rfl rfl) (Gh.eqS ⟨rfl,rfl,rfl,rfl,trivial⟩ rfl)) (Nat.zero_le _) ?_
 refine WPU.ghost (tm':=fr 49 [(0,.isl false (List.map (cL cGProp) p1)),(3,.vl 0 t4 0 ((srtP r2).length)),(4,.vl 1 0 0 (([]:List GProp).length)),(5,.int .i64 0)]) (Gh.sub ⟨rfl,rfl,rfl,rfl,trivial⟩) (Nat.zero_le _) ?_
 refine WPU.loopK (fun m tm σ=>∃ z12:Int,∃ l13:List GProp,∃ t14:Nat,q47 p1 n r2 m z12 l13=some r∧tm=fr 49 [(0,.isl false (List.map (cL cGProp) p1)),(3,.vl 0 t4 0 ((srtP r2).length)),(4,.vl 1 t14 0 l13.length),(5,.int .i64 z12)]∧σ=⟨[(1,.vec (List.map cGProp l13).flatten 33 4 t14),(0,.vec (List.map cGProp (srtP r2)).flatten 33 4 t4)],2⟩) (fun tm σ=>∃ l15:List GProp,∃ t16:Nat,q9g l15=some r∧tm=fr 49 [(4,.vl 1 t16 0 l15.length)]∧σ=⟨[(1,.vec (List.map cGProp l15).flatten 33 4 t16),(0,.vec (List.map cGProp (srtP r2)).flatten 33 4 t4)],2⟩) n ⟨0,([]:List GProp),0,hF,rfl,rfl⟩ ?_ ?_
 rintro _ _ ⟨l15,t16,hF,rfl,rfl⟩
 unfold q9g at hF
 refine sr ?_
 refine sd ?_
 refine WPU.ret ?_
 refine st ?_
 have hr:=Option.some.inj hF
 subst hr
 exact ⟨.inr rfl,[.vl 1 t16 0 l15.length],q0l rfl (q0i),.isl false (List.map cGProp l15),⟨[],0⟩,Nat.le_refl _,Gh.trans (Gh.fz (tm':=[.isl false (List.map cGProp l15)]) (h':=[(0,.vec (List.map cGProp (srtP r2)).flatten 33 4 t4)]) 1 (.vec (List.map cGProp l15).flatten 33 4 t16) 4 rfl (by simp) (by simp only [oneU,q0y,q0o,q1z,q11,q22,q15,q14,q13,q12,q10,q20,q21,q1y,q23,q3k,junkT,q8i q0b,q5u _ _ _ (q9f 1 (fun q=>qb6 _ q) (srtP r2))]) (by simp only [fzH,fzB,ug,Nat.beq,cond_true,cond_false,oneU,q0y,q0o,q1z,q11,q22,q15,q14,q13,q12,q10,q20,q21,q1y,q23,q3k,junkT,q8i q0b,q5u _ _ _ (q9f 1 (fun q=>qb6 _ q) (srtP r2))])) (Gh.toR (.isl false (List.map cGProp l15)) rfl),rfl,BU.h⟩
 rintro m1 _ _ ⟨z12,l13,t14,hF,rfl,rfl⟩
 rcases m1 with _ | m1
 cases hF
 unfold q47 at hF
 refine sr ?_
 repeat refine RS.mv rfl rfl rfl rfl ?_
 refine RS.q rfl (q0k rfl rfl rfl (qhn und57 rfl)) (RS.q rfl (q02 rfl rfl (q18 _ _ _) rfl) ?_)
 refine sd ?_
 refine WPU.condS (t:=(decide (z12<((srtP r2).length:Int)))) rfl (fun h17=>?_) (fun h17=>?_)
 replace hF:=q05 h17 hF
 refine st ?_
 refine WPU.skip ?_
 refine st ?_
 refine WPU.block ?_
 refine sr ?_
 refine RS.q rfl (q02 rfl rfl (q1q _ _ _) rfl) ?_
 refine sd ?_
 refine WPU.ghost (tm':=fr 49 [(0,.isl false (List.map (cL cGProp) p1)),(3,.vl 0 t4 0 ((srtP r2).length)),(4,.vl 1 t14 0 l13.length),(5,.int .i64 z12),(6,.int .i64 (IntKind.i64.wrap (z12+1)))]) (Gh.sub ⟨rfl,rfl,rfl,rfl,rfl,trivial⟩) (Nat.zero_le _) ?_
 refine WPU.loopK (fun m tm σ=>∃ z25:Int,q6c p1 r2 z12 l13 (q47 p1 n r2 m1) m z25=some r∧tm=fr 49 [(0,.isl false (List.map (cL cGProp) p1)),(3,.vl 0 t4 0 ((srtP r2).length)),(4,.vl 1 t14 0 l13.length),(5,.int .i64 z12),(6,.int .i64 z25)]∧σ=⟨[(1,.vec (List.map cGProp l13).flatten 33 4 t14),(0,.vec (List.map cGProp (srtP r2)).flatten 33 4 t4)],2⟩) (fun tm σ=>∃ z26:Int,q7r p1 r2 z12 l13 (q47 p1 n r2 m1) z26=some r∧tm=fr 49 [(0,.isl false (List.map (cL cGProp) p1)),(3,.vl 0 t4 0 ((srtP r2).length)),(4,.vl 1 t14 0 l13.length),(5,.int .i64 z12),(6,.int .i64 z26)]∧σ=⟨[(1,.vec (List.map cGProp l13).flatten 33 4 t14),(0,.vec (List.map cGProp (srtP r2)).flatten 33 4 t4)],2⟩) n ⟨(IntKind.i64.wrap (z12+1)),hF,rfl,rfl⟩ ?_ ?_
 rintro _ _ ⟨z26,hF,rfl,rfl⟩
 unfold q7r at hF
 refine sr ?_
 repeat refine RS.mv rfl rfl rfl rfl ?_
 refine RS.q rfl (q02 rfl rfl (q8z _ _ _) rfl) (RS.mv rfl rfl rfl rfl (RS.q rfl (q0k rfl rfl rfl (q0g (cL cGProp) und80)) (RS.q rfl (q02 rfl rfl (q18 _ _ _) rfl) ?_)))
 refine sd ?_
 refine WPU.joinK (fun tm σ=>∃ l28:List GProp,∃ t29:Nat,q7q (q47 p1 n r2 m1) z26 l28=some r∧tm=fr 49 [(0,.isl false (List.map (cL cGProp) p1)),(3,.vl 0 t4 0 ((srtP r2).length)),(4,.vl 1 t29 0 l28.length),(6,.int .i64 z26)]∧σ=⟨[(1,.vec (List.map cGProp l28).flatten 33 4 t29),(0,.vec (List.map cGProp (srtP r2)).flatten 33 4 t4)],2⟩) ?_ ?_
 rintro _ _ ⟨l28,t29,hF,rfl,rfl⟩
 unfold q7q at hF
 refine sr ?_
 refine sd ?_
 exact ⟨m1,_,_,Nat.lt_succ_self _,⟨z26,l28,t29,hF,rfl,rfl⟩,(Nat.zero_le _),Gh.toC (n1:=2) ⟨rfl,rfl,rfl,rfl,trivial⟩ rfl (Nat.zero_le _) (by simp)⟩
 refine WPU.condS (t:=(decide ((IntKind.i64.wrap (z26 - z12))<(p1.length:Int)))) rfl (fun h27=>?_) (fun h27=>?_)
 replace hF:=q05 h27 hF
 refine st ?_
 obtain ⟨x30,h31,hF⟩:=q00 hF
 obtain ⟨h32,hF⟩:=q0n hF
 refine sr ?_
 repeat refine RS.mv rfl rfl rfl rfl ?_
 refine RS.q (u:=.ptr 0 t4 (0*4+z12.toNat*4)) rfl (q2a rfl rfl (ia_vl cGProp und57 (q01 inf33) (by decide) q0b (vo rfl) h31)) ?_
 refine RS.q (u:=.agg (cGProp x30)) rfl (qhm cGProp und33 rfl (q01 inf33) q0b rfl rfl h31 rfl) (RS.q (u:=.sl 2 0 1 1) (σ':=⟨[(2,.row (cGProp x30) 33),(1,.vec (List.map cGProp l13).flatten 33 4 t14),(0,.vec (List.map cGProp (srtP r2)).flatten 33 4 t4)],3⟩) rfl (q4g und57 inf33 rfl rfl rfl rfl rfl rfl rfl) (RS.q (u:=.vl 1 (t14+1) 0 ((l13++[x30]).length)) (σ':=⟨[(2,.row (cGProp x30) 33),(1,.vec (List.map cGProp (l13++[x30])).flatten 33 4 (t14+1)),(0,.vec (List.map cGProp (srtP r2)).flatten 33 4 t4)],3⟩) rfl (q7i rfl rfl rfl rfl (q8m cGProp ([x30]) und57 und57 inf33 rfl q0b rfl (q72 cGProp [x30] rfl rfl rfl rfl) h32)) ?_))
 refine sd ?_
 exact ⟨_,_,⟨(l13++[x30]),(t14+1),hF,rfl,rfl⟩,(Nat.zero_le _),Gh.toC (n1:=2) ⟨rfl,rfl,rfl,rfl,trivial⟩ rfl (Nat.zero_le _) (by simp)⟩
 replace hF:=q04 h27 hF
 refine st ?_
 refine WPU.skip ?_
 refine st ?_
 exact ⟨_,_,⟨l13,t14,hF,rfl,rfl⟩,(Nat.zero_le _),Gh.toC (n1:=2) ⟨rfl,rfl,rfl,rfl,trivial⟩ rfl (Nat.zero_le _) (by simp)⟩
 rintro m2 _ _ ⟨z25,hF,rfl,rfl⟩
 rcases m2 with _ | m2
 cases hF
 unfold q6c at hF
 refine st ?_
 obtain ⟨b38,h39,hF⟩:=q00 hF
 refine WPU.joinK (fun tm σ=>tm=fr 49 [(0,.isl false (List.map (cL cGProp) p1)),(3,.vl 0 t4 0 ((srtP r2).length)),(4,.vl 1 t14 0 l13.length),(5,.int .i64 z12),(6,.int .i64 z25),(31,.bool b38)]∧σ=⟨[(1,.vec (List.map cGProp l13).flatten 33 4 t14),(0,.vec (List.map cGProp (srtP r2)).flatten 33 4 t4)],2⟩) ?_ ?_
 rintro _ _ ⟨rfl,rfl⟩
 refine st ?_
 refine WPU.condS (t:=b38) rfl (fun h40=>?_) (fun h40=>?_)
 replace hF:=q05 h40 hF
 refine st ?_
 refine WPU.skip ?_
 refine st ?_
 refine WPU.block ?_
 refine sr ?_
 refine RS.q rfl (q02 rfl rfl (q1q _ _ _) rfl) ?_
 refine sd ?_
 exact ⟨m2,_,_,Nat.lt_succ_self _,⟨(IntKind.i64.wrap (z25+1)),hF,rfl,rfl⟩,(Nat.zero_le _),Gh.toC (n1:=2) ⟨rfl,rfl,rfl,rfl,rfl,trivial⟩ rfl (Nat.zero_le _) (by simp)⟩
 replace hF:=q04 h40 hF
 refine st ?_
 refine WPU.exit ?_
 refine st ?_
 exact ⟨_,_,⟨z25,hF,rfl,rfl⟩,(Nat.zero_le _),Gh.toC (n1:=2) ⟨rfl,rfl,rfl,rfl,rfl,trivial⟩ rfl (Nat.zero_le _) (by simp)⟩
 rcases q2r (decide (z25<((srtP r2).length:Int))) with h33 | h33
 replace h39:=q05 h33 h39
 obtain ⟨x34,h35,h39⟩:=q00 h39
 obtain ⟨x36,h37,h39⟩:=q00 h39
 replace h39:=Option.some.inj h39
 subst h39
 refine WPU.drawE Tryz.tb_ok [] (by kernel_rfl) ?_
 repeat refine RD.mv rfl rfl rfl rfl ?_
 refine RD.q rfl (q0k rfl rfl rfl (qhn und57 rfl)) (RD.q rfl (q02 rfl rfl (q18 _ _ _) rfl) (RD.mv rfl rfl rfl rfl (RD.look (want1 rfl rfl rfl h33) (q0h rfl) rfl rfl (RD.look (want1 rfl rfl rfl h33) (q0h rfl) rfl rfl ?_))))
 refine RD.look (u:=.ptr 0 t4 (0*4+z25.toNat*4)) (want1 rfl rfl rfl h33) (q2a rfl rfl (ia_vl cGProp und57 (q01 inf33) (by decide) q0b (vo rfl) h35)) rfl rfl ?_
 refine RD.look (u:=.agg (cGProp x34)) (want1 rfl rfl rfl h33) (qhm cGProp und33 rfl (q01 inf33) q0b rfl rfl h35 rfl) rfl rfl (RD.look (want1 rfl rfl rfl h33) (q0h rfl) rfl rfl (RD.look (want1 rfl rfl rfl h33) (q0h rfl) rfl rfl ?_))
 refine RD.look (u:=.ptr 0 t4 (0*4+z12.toNat*4)) (want1 rfl rfl rfl h33) (q2a rfl rfl (ia_vl cGProp und57 (q01 inf33) (by decide) q0b (vo rfl) h37)) rfl rfl ?_
 refine RD.look (u:=.agg (cGProp x36)) (want1 rfl rfl rfl h33) (qhm cGProp und33 rfl (q01 inf33) q0b rfl rfl h37 rfl) rfl rfl (RD.look (u:=.bool (eqGProp x34 x36)) (want1 rfl rfl rfl h33) (q7j rfl rfl (q5k x34 x36)) rfl rfl (RD.q (u:=.bool (eqGProp x34 x36)) rfl (q06 rfl h33 rfl) ?_))
 refine RD.done ⟨by kernel_rfl,trivial,?_⟩
 refine st ?_
 exact ⟨_,_,⟨rfl,rfl⟩,(Nat.zero_le _),Gh.toC (n1:=2) ⟨rfl,rfl,rfl,rfl,rfl,rfl,trivial⟩ rfl (Nat.zero_le _) (by simp)⟩
 replace h39:=q04 h33 h39
 replace h39:=Option.some.inj h39
 subst h39
 refine WPU.drawE Tryz.tb_ok [] (by kernel_rfl) ?_
 repeat refine RD.mv rfl rfl rfl rfl ?_
 refine RD.q rfl (q0k rfl rfl rfl (qhn und57 rfl)) (RD.q rfl (q02 rfl rfl (q18 _ _ _) rfl) (RD.mv rfl rfl rfl rfl ?_))
 repeat refine RD.no (want0 rfl rfl rfl h33) rfl rfl ?_
 refine RD.q (u:=.bool false) rfl (q07 rfl h33 rfl) ?_
 refine RD.done ⟨by kernel_rfl,trivial,?_⟩
 refine st ?_
 exact ⟨_,_,⟨rfl,rfl⟩,(Nat.zero_le _),Gh.toC (n1:=2) ⟨rfl,rfl,rfl,rfl,rfl,rfl,trivial⟩ rfl (Nat.zero_le _) (by simp)⟩
 replace hF:=q04 h17 hF
 refine st ?_
 refine WPU.exit ?_
 refine st ?_
 exact ⟨_,_,⟨l13,t14,hF,rfl,rfl⟩,(Nat.zero_le _),Gh.toC (n1:=2) ⟨rfl,trivial⟩ rfl (Nat.zero_le _) (by simp)⟩
 refine sr ?_
 refine RS.callx (args:=[.vl 0 t4 0 r2.length,.fn (.func 84) [] []]) rfl (q03 rfl rfl fn83 hb83 rfl rfl) (srtP_ok r2 h5 _ rfl rfl) rfl rfl ?_
 rintro _ _ ⟨rfl,rfl⟩
 refine sd ?_
 exact ⟨_,_,⟨rfl,rfl⟩,(Nat.zero_le _),Gh.eqS ⟨rfl,(by simp only [qa9 r2]; rfl),trivial⟩ rfl⟩
theorem qd3 (n:Nat) (p1:List (List GProp)) (r:(List GProp)) (hF:q82 n p1=some r) (σ:Sg):EvU Tryz.prog 56 [.isl false (List.map (cL cGProp) p1)] σ (fun u σ'=>u = .isl false (List.map cGProp r)∧σ'=σ) :=
 EvU.pure1C (disc_differ_0 n p1 r hF) σ
def q5c (n:Nat) (p1:GDecision) (c2:GProp):Option (Bool) :=
 some (eqGProp p1.Propx c2)
theorem qg3 (n:Nat) (p1:GDecision) (c2:GProp) (r:Bool) (hF:q5c n p1 c2=some r):EvU Tryz.prog 57 [.agg (cGDecision p1),.iptr (cGProp c2)] ⟨[],0⟩ (fun u _=>u = .bool r∧Bel 0 u):=by
 unfold q5c at hF
 refine EvU.of_body Tryz.tb_ok fn57 rfl ?_
 refine WPU.ghost (tm':=fr 8 [(0,.agg (cGDecision p1)),(1,.iptr (cGProp c2))]) (Gh.start (Nat.le_of_ble_eq_true rfl)) (Nat.zero_le _) ?_
 refine sr ?_
 refine RS.q (u:=.ptr 0 0 0) (σ':=⟨[(0,.row (cGDecision p1) 62)],1⟩) rfl (q2j rfl rfl rfl) ?_
 refine se ?_
 refine RS.q (u:=.ptr 0 0 0) rfl (q0c und62 rfl (q01 inf33) rfl rfl rfl) (RS.q (u:=.agg (cGProp p1.Propx)) rfl (q0a und33 rfl (q01 inf33) rfl rfl rfl) (RS.q (u:=.agg (cGProp c2)) rfl (q2e und33 rfl (q01 inf33) rfl rfl) (RS.q (u:=.bool (eqGProp p1.Propx c2)) rfl (q7j rfl rfl (q5k p1.Propx c2)) ?_)))
 refine sd ?_
 refine WPU.ret ?_
 refine st ?_
 have hr:=Option.some.inj hF
 subst hr
 exact ⟨.inr rfl,[.bool (eqGProp p1.Propx c2)],q0l rfl (q0i),.bool (eqGProp p1.Propx c2),⟨[],0⟩,Nat.le_refl _,Gh.toR (.bool (eqGProp p1.Propx c2)) rfl,rfl,BU.h⟩
def q6q (z18:Int) (rc1:Int→(List GDecision)→Option ((List GDecision))) (l52:List GDecision):Option ((List GDecision)) :=
 rc1 (IntKind.i64.wrap (z18+1)) l52
def q6r (z46:Int) (rc2:Int→Int→Option ((List GDecision))) (z63:Int):Option ((List GDecision)) :=
 rc2 z63 (IntKind.i64.wrap (z46+1))
def q6s (r5:(List Int)) (z18:Int) (l19:List GDecision) (rc1:Int→(List GDecision)→Option ((List GDecision))) (x24:GProp) (z47:Int):Option ((List GDecision)) :=
 bindO (cond (z47 == 0)
  (some true)
  (some (z47 == (r5.length:Int)))) fun b49 =>
 cond b49
  (needO ((l19.length+1)*48≤140737488355328∧l19.length+1≤140737488355328) (
  q6q z18 rc1 (l19++[(GDecision.mk x24 (decide (z47 > 0)))])))
  (q6q z18 rc1 l19)
def q4a (n:Nat) (r3:(List (List GProp))) (r5:(List Int)) (z18:Int) (l19:List GDecision) (rc1:Int→(List GDecision)→Option ((List GDecision))) (x24:GProp):Nat→Int→Int→Option ((List GDecision))
 | 0,_,_=>none
 | m2+1,z45,z46 =>
  cond (decide (z46<(r5.length:Int)))
   (bindO (idxO r5 z46) fun x56 =>
   bindO (idxO r3 x56) fun x58 =>
   bindO (qbl n x58 x24) fun r60 =>
   cond r60
    (q6r z46 (q4a n r3 r5 z18 l19 rc1 x24 m2) (IntKind.i64.wrap (z45+1)))
    (q6r z46 (q4a n r3 r5 z18 l19 rc1 x24 m2) z45))
   (q6s r5 z18 l19 rc1 x24 z45)
def q8q  (l21:List GDecision):Option ((List GDecision)) :=
 some l21
def q1k (p2:List GDecision) (n:Nat) (r3:(List (List GProp))) (r5:(List Int)) (r8:(List GProp)):Nat→Int→(List GDecision)→Option ((List GDecision))
 | 0,_,_=>none
 | m1+1,z18,l19 =>
  cond (decide (z18<(r8.length:Int)))
   (bindO (idxO r8 z18) fun x24 =>
   bindO (q1d (q5c n) n p2 x24) fun r26 =>
   cond r26
    ((q1k p2 n r3 r5 r8 m1) (IntKind.i64.wrap (z18+1)) l19)
    (q4a n r3 r5 z18 l19 (q1k p2 n r3 r5 r8 m1) x24 n 0 0))
   (q8q l19)
def q87 (n:Nat) (p1:List GDeriv) (p2:List GDecision):Option ((List GDecision)) :=
 bindO (qat n p1) fun r3 =>
 bindO (q5d n r3 p2) fun r5 =>
 cond ((r5.length:Int) == 0)
  (some [])
  (bindO (q82 n r3) fun r8 =>
  q1k p2 n r3 r5 r8 n 0 ([]:List GDecision))
theorem disc_Implied_0 (n:Nat) (p1:List GDeriv) (p2:List GDecision) (r:(List GDecision)) (hF:q87 n p1 p2=some r):EvU Tryz.prog 23 [.isl false (List.map cGDeriv p1),.isl false (List.map cGDecision p2)] ⟨[],0⟩ (fun u _=>u = .isl false (List.map cGDecision r)∧Bel 0 u):=by
 unfold q87 at hF
 refine EvU.of_body Tryz.tb_ok fn23 rfl ?_
 refine WPU.ghost (tm':=fr 63 [(0,.isl false (List.map cGDeriv p1)),(1,.isl false (List.map cGDecision p2))]) (Gh.start (Nat.le_of_ble_eq_true rfl)) (Nat.zero_le _) ?_
 refine sr ?_
 refine sd ?_
 obtain ⟨r3,h4,hF⟩:=q00 hF
 refine sr ?_
 refine RS.call (u:=.isl false (List.map (cL cGProp) r3)) (args:=[.isl false (List.map cGDeriv p1)]) rfl (q03 rfl rfl fn54 hb54 rfl rfl) (qdb n p1 r3 h4 _) rfl rfl ?_
 refine sd ?_
 obtain ⟨r5,h6,hF⟩:=q00 hF
 refine sr ?_
 repeat refine RS.mv rfl rfl rfl rfl ?_
 refine RS.call (u:=.isl false (List.map (cI .i64) r5)) (args:=[.isl false (List.map (cL cGProp) r3),.isl false (List.map cGDecision p2)]) rfl (q03 rfl rfl fn55 hb55 rfl rfl) (qb8 n r3 p2 r5 h6 _) rfl rfl ?_
 refine se ?_
 refine RS.q rfl (q0k rfl rfl rfl (q0g (cI .i64) und55)) (RS.q rfl (q02 rfl rfl (q0j _ _ _) rfl) ?_)
 refine sd ?_
 refine WPU.condS (t:=((r5.length:Int) == 0)) rfl (fun h7=>?_) (fun h7=>?_)
 replace hF:=q05 h7 hF
 refine sr ?_
 refine sd ?_
 refine WPU.ret ?_
 refine st ?_
 have hr:=Option.some.inj hF
 subst hr
 exact ⟨.inr rfl,[.nils],q0l rfl (q0i),.isl false [],⟨[],0⟩,Nat.le_refl _,Gh.trans (Gh.wk (.cons (.nil false) .nil)) (Gh.toR (.isl false []) rfl),rfl,BU.h⟩
 replace hF:=q04 h7 hF
 refine st ?_
 refine WPU.skip ?_
 refine sr ?_
 refine sd ?_
 obtain ⟨r8,h9,hF⟩:=q00 hF
 refine sr ?_
 refine RS.call (u:=.isl false (List.map cGProp r8)) (args:=[.isl false (List.map (cL cGProp) r3)]) rfl (q03 rfl rfl fn56 hb56 rfl rfl) (qd3 n r3 r8 h9 _) rfl rfl (RS.q rfl (q0k rfl rfl rfl (q0g cGProp und57)) (RS.mv rfl rfl rfl rfl ?_))
 refine sd ?_
 refine WPU.ghost (tm':=fr 63 [(1,.isl false (List.map cGDecision p2)),(5,.isl false (List.map (cL cGProp) r3)),(6,.isl false (List.map (cI .i64) r5)),(7,.vl 0 0 0 (([]:List GDecision).length)),(22,.isl false (List.map cGProp r8)),(23,.int .i64 (r8.length:Int)),(24,.int .i64 0)]) (σ':=⟨[(0,.vec (List.map cGDecision ([]:List GDecision)).flatten 62 5 0)],1⟩) (Gh.trans (Gh.nilS 7 62 5 (by decide) (Nat.zero_le _) rfl rfl) (Gh.eqS ⟨rfl,rfl,rfl,rfl,rfl,rfl,rfl,trivial⟩ rfl)) (Nat.zero_le _) ?_
 refine WPU.ghost (tm':=fr 63 [(1,.isl false (List.map cGDecision p2)),(5,.isl false (List.map (cL cGProp) r3)),(6,.isl false (List.map (cI .i64) r5)),(7,.vl 0 0 0 (([]:List GDecision).length)),(22,.isl false (List.map cGProp r8)),(23,.int .i64 (r8.length:Int)),(24,.int .i64 0)]) (Gh.sub ⟨rfl,rfl,rfl,rfl,rfl,rfl,rfl,trivial⟩) (Nat.zero_le _) ?_
 refine WPU.loopK (fun m tm σ=>∃ z18:Int,∃ l19:List GDecision,∃ t20:Nat,q1k p2 n r3 r5 r8 m z18 l19=some r∧tm=fr 63 [(1,.isl false (List.map cGDecision p2)),(5,.isl false (List.map (cL cGProp) r3)),(6,.isl false (List.map (cI .i64) r5)),(7,.vl 0 t20 0 l19.length),(22,.isl false (List.map cGProp r8)),(23,.int .i64 (r8.length:Int)),(24,.int .i64 z18)]∧σ=⟨[(0,.vec (List.map cGDecision l19).flatten 62 5 t20)],1⟩) (fun tm σ=>∃ l21:List GDecision,∃ t22:Nat,q8q l21=some r∧tm=fr 63 [(7,.vl 0 t22 0 l21.length)]∧σ=⟨[(0,.vec (List.map cGDecision l21).flatten 62 5 t22)],1⟩) n ⟨0,([]:List GDecision),0,hF,rfl,rfl⟩ ?_ ?_
 rintro _ _ ⟨l21,t22,hF,rfl,rfl⟩
 unfold q8q at hF
 refine sr ?_
 refine sd ?_
 refine WPU.ret ?_
 refine st ?_
 have hr:=Option.some.inj hF
 subst hr
 exact ⟨.inr rfl,[.vl 0 t22 0 l21.length],q0l rfl (q0i),.isl false (List.map cGDecision l21),⟨[],0⟩,Nat.le_refl _,Gh.trans (Gh.fz (tm':=[.isl false (List.map cGDecision l21)]) (h':=[]) 0 (.vec (List.map cGDecision l21).flatten 62 5 t22) 5 rfl (by simp) (by simp only [oneU,q0y,q0o,q1z,q11,q22,q15,q14,q13,q12,q10,q20,q21,q1y,q23,q3k,junkT,q8i q0f]) (by simp only [fzH,fzB,ug,Nat.beq,cond_true,cond_false,oneU,q0y,q0o,q1z,q11,q22,q15,q14,q13,q12,q10,q20,q21,q1y,q23,q3k,junkT,q8i q0f])) (Gh.toR (.isl false (List.map cGDecision l21)) rfl),rfl,BU.h⟩
 rintro m1 _ _ ⟨z18,l19,t20,hF,rfl,rfl⟩
 rcases m1 with _ | m1
 cases hF
 unfold q1k at hF
 refine sr ?_
 refine RS.q rfl (q02 rfl rfl (q18 _ _ _) rfl) ?_
 refine sd ?_
 refine WPU.condS (t:=(decide (z18<(r8.length:Int)))) rfl (fun h23=>?_) (fun h23=>?_)
 replace hF:=q05 h23 hF
 refine st ?_
 refine WPU.skip ?_
 refine st ?_
 refine WPU.block ?_
 refine st ?_
 obtain ⟨x24,h25,hF⟩:=q00 hF
 refine sr ?_
 refine RS.q (u:=.iptr (cGProp x24)) rfl (q2a rfl rfl (q1f cGProp und57 (q01 inf33) q0b h25 rfl)) (RS.q (u:=.agg (cGProp x24)) rfl (q2e und33 rfl (q01 inf33) rfl rfl) (RS.q (u:=.ptr 1 0 0) (σ':=⟨[(1,.row [.int .i64 0,.str [],.int .i64 0,.int .i64 0] 33),(0,.vec (List.map cGDecision l19).flatten 62 5 t20)],2⟩) rfl (q0v inf33 rfl rfl) (RS.opn (u:=.junk) (σ':=⟨[(1,.row (cGProp x24) 33),(0,.vec (List.map cGDecision l19).flatten 62 5 t20)],2⟩) rfl (q0d (q01 inf33) rfl rfl rfl rfl rfl rfl rfl rfl) rfl ?_)))
 refine sd ?_
 obtain ⟨r26,h27,hF⟩:=q00 hF
 refine sr ?_
 refine RS.q rfl (op_fun rfl rfl) ?_
 refine RS.call (u:=.bool r26) (args:=[.isl false (List.map cGDecision p2),.fn (.func 57) [] [.ptr 1 0 0]]) rfl (q03 rfl rfl fn27 hb27 rfl rfl) (EvU.view (q6l (q5c n) (qg3 n) n p2 x24 r26 h27) BUL.h (by simp only [toV,toVL,okL,okC,cond_true]<;>rfl) (fun m=>by simp [ren,renL]) (Gh.fz (tm':=[.isl false (List.map cGDecision p2),.fn (.func 57) [] [.iptr (cGProp x24)]]) (h':=[(0,.vec (List.map cGDecision l19).flatten 62 5 t20)]) 1 (.row [.int .i64 x24.Kind,.str x24.Name,.int .i64 x24.From,.int .i64 x24.To] 33) 4 rfl (by simp) (by simp only [oneU,q0y,q0o,q1z,q11,q22,q15,q14,q13,q12,q10,q20,q21,q1y,q23,q3k,junkT,q96,q9p,q3x,q5u _ _ _ (q9f 1 (fun q=>q68 _ q) l19),Nat.reduceLeDiff,Nat.reduceMul,List.length_cons,List.length_nil,Nat.reduceAdd]<;>simp only [chunks,List.take,List.drop,List.map,cGProp]) (by simp only [fzH,fzB,ug,Nat.beq,cond_true,cond_false,oneU,q0y,q0o,q1z,q11,q22,q15,q14,q13,q12,q10,q20,q21,q1y,q23,q3k,junkT,q96,q9p,q3x,q5u _ _ _ (q9f 1 (fun q=>q68 _ q) l19),Nat.reduceLeDiff,Nat.reduceMul,List.length_cons,List.length_nil,Nat.reduceAdd]<;>simp only [chunks,List.take,List.drop,List.map,cGProp]))) rfl rfl ?_
 refine sd ?_
 refine WPU.condS (t:=r26) rfl (fun h28=>?_) (fun h28=>?_)
 replace hF:=q05 h28 hF
 refine st ?_
 refine WPU.exit ?_
 refine sr ?_
 refine RS.q rfl (q02 rfl rfl (q1q _ _ _) rfl) (RS.mv rfl rfl rfl rfl ?_)
 refine sd ?_
 exact ⟨m1,_,_,Nat.lt_succ_self _,⟨(IntKind.i64.wrap (z18+1)),l19,t20,hF,rfl,rfl⟩,(Nat.zero_le _),Gh.toC (n1:=1) ⟨rfl,rfl,rfl,rfl,rfl,rfl,rfl,trivial⟩ rfl (Nat.zero_le _) (by simp)⟩
 replace hF:=q04 h28 hF
 refine st ?_
 refine WPU.skip ?_
 refine sr ?_
 refine se ?_
 refine RS.q rfl (q0k rfl rfl rfl (q0g (cI .i64) und55)) (RS.mv rfl rfl rfl rfl ?_)
 refine sd ?_
 refine WPU.ghost (tm':=fr 63 [(1,.isl false (List.map cGDecision p2)),(5,.isl false (List.map (cL cGProp) r3)),(6,.isl false (List.map (cI .i64) r5)),(7,.vl 0 t20 0 l19.length),(9,.ptr 1 0 0),(10,.int .i64 0),(22,.isl false (List.map cGProp r8)),(23,.int .i64 (r8.length:Int)),(24,.int .i64 z18),(31,.isl false (List.map (cI .i64) r5)),(32,.int .i64 (r5.length:Int)),(33,.int .i64 0)]) (Gh.sub ⟨rfl,rfl,rfl,rfl,rfl,rfl,rfl,rfl,rfl,rfl,rfl,rfl,trivial⟩) (Nat.zero_le _) ?_
 refine WPU.loopK (fun m tm σ=>∃ z45:Int,∃ z46:Int,q4a n r3 r5 z18 l19 (q1k p2 n r3 r5 r8 m1) x24 m z45 z46=some r∧tm=fr 63 [(1,.isl false (List.map cGDecision p2)),(5,.isl false (List.map (cL cGProp) r3)),(6,.isl false (List.map (cI .i64) r5)),(7,.vl 0 t20 0 l19.length),(9,.ptr 1 0 0),(10,.int .i64 z45),(22,.isl false (List.map cGProp r8)),(23,.int .i64 (r8.length:Int)),(24,.int .i64 z18),(31,.isl false (List.map (cI .i64) r5)),(32,.int .i64 (r5.length:Int)),(33,.int .i64 z46)]∧σ=⟨[(1,.row (cGProp x24) 33),(0,.vec (List.map cGDecision l19).flatten 62 5 t20)],2⟩) (fun tm σ=>∃ z47:Int,q6s r5 z18 l19 (q1k p2 n r3 r5 r8 m1) x24 z47=some r∧tm=fr 63 [(1,.isl false (List.map cGDecision p2)),(5,.isl false (List.map (cL cGProp) r3)),(6,.isl false (List.map (cI .i64) r5)),(7,.vl 0 t20 0 l19.length),(9,.ptr 1 0 0),(10,.int .i64 z47),(22,.isl false (List.map cGProp r8)),(23,.int .i64 (r8.length:Int)),(24,.int .i64 z18)]∧σ=⟨[(1,.row (cGProp x24) 33),(0,.vec (List.map cGDecision l19).flatten 62 5 t20)],2⟩) n ⟨0,0,hF,rfl,rfl⟩ ?_ ?_
 rintro _ _ ⟨z47,hF,rfl,rfl⟩
 unfold q6s at hF
 refine st ?_
 obtain ⟨b49,h50,hF⟩:=q00 hF
 refine WPU.joinK (fun tm σ=>tm=fr 63 [(1,.isl false (List.map cGDecision p2)),(5,.isl false (List.map (cL cGProp) r3)),(6,.isl false (List.map (cI .i64) r5)),(7,.vl 0 t20 0 l19.length),(9,.ptr 1 0 0),(10,.int .i64 z47),(22,.isl false (List.map cGProp r8)),(23,.int .i64 (r8.length:Int)),(24,.int .i64 z18),(53,.bool b49)]∧σ=⟨[(1,.row (cGProp x24) 33),(0,.vec (List.map cGDecision l19).flatten 62 5 t20)],2⟩) ?_ ?_
 rintro _ _ ⟨rfl,rfl⟩
 refine st ?_
 refine WPU.joinK (fun tm σ=>∃ l52:List GDecision,∃ t53:Nat,q6q z18 (q1k p2 n r3 r5 r8 m1) l52=some r∧tm=fr 63 [(1,.isl false (List.map cGDecision p2)),(5,.isl false (List.map (cL cGProp) r3)),(6,.isl false (List.map (cI .i64) r5)),(7,.vl 0 t53 0 l52.length),(22,.isl false (List.map cGProp r8)),(23,.int .i64 (r8.length:Int)),(24,.int .i64 z18)]∧σ=⟨[(1,.row (cGProp x24) 33),(0,.vec (List.map cGDecision l52).flatten 62 5 t53)],2⟩) ?_ ?_
 rintro _ _ ⟨l52,t53,hF,rfl,rfl⟩
 unfold q6q at hF
 refine sr ?_
 refine RS.q rfl (q02 rfl rfl (q1q _ _ _) rfl) (RS.mv rfl rfl rfl rfl ?_)
 refine sd ?_
 exact ⟨m1,_,_,Nat.lt_succ_self _,⟨(IntKind.i64.wrap (z18+1)),l52,t53,hF,rfl,rfl⟩,(Nat.zero_le _),Gh.toC (n1:=1) ⟨rfl,rfl,rfl,rfl,rfl,rfl,rfl,trivial⟩ rfl (Nat.zero_le _) (by simp)⟩
 refine WPU.condS (t:=b49) rfl (fun h51=>?_) (fun h51=>?_)
 replace hF:=q05 h51 hF
 refine st ?_
 obtain ⟨h54,hF⟩:=q0n hF
 refine sr ?_
 refine RS.q (u:=.agg (cGProp x24)) rfl (q0a und33 rfl (q01 inf33) rfl rfl rfl) (RS.mv rfl rfl rfl rfl (RS.q rfl (q02 rfl rfl (qhi _ _ _) rfl) (RS.q (u:=.agg [.int .i64 x24.Kind,.str x24.Name,.int .i64 x24.From,.int .i64 x24.To,.bool (decide (z47 > 0))]) rfl (q4d bd62 rfl rfl rfl) (RS.q (u:=.sl 2 0 1 1) (σ':=⟨[(2,.row [.int .i64 x24.Kind,.str x24.Name,.int .i64 x24.From,.int .i64 x24.To,.bool (decide (z47 > 0))] 62),(1,.row (cGProp x24) 33),(0,.vec (List.map cGDecision l19).flatten 62 5 t20)],3⟩) rfl (q4g und26 inf62 rfl rfl rfl rfl rfl rfl rfl) (RS.q (u:=.vl 0 (t20+1) 0 ((l19++[(GDecision.mk x24 (decide (z47 > 0)))]).length)) (σ':=⟨[(2,.row [.int .i64 x24.Kind,.str x24.Name,.int .i64 x24.From,.int .i64 x24.To,.bool (decide (z47 > 0))] 62),(1,.row (cGProp x24) 33),(0,.vec (List.map cGDecision (l19++[(GDecision.mk x24 (decide (z47 > 0)))])).flatten 62 5 (t20+1))],3⟩) rfl (q7i rfl rfl rfl rfl (q8m cGDecision ([(GDecision.mk x24 (decide (z47 > 0)))]) und26 und26 inf62 rfl q0f rfl (q72 cGDecision [(GDecision.mk x24 (decide (z47 > 0)))] rfl rfl rfl rfl) h54)) ?_)))))
 refine sd ?_
 exact ⟨_,_,⟨(l19++[(GDecision.mk x24 (decide (z47 > 0)))]),(t20+1),hF,rfl,rfl⟩,(Nat.zero_le _),Gh.toC (n1:=2) ⟨rfl,rfl,rfl,rfl,rfl,rfl,rfl,trivial⟩ rfl (Nat.zero_le _) (by simp)⟩
 replace hF:=q04 h51 hF
 refine st ?_
 refine WPU.skip ?_
 refine st ?_
 exact ⟨_,_,⟨l19,t20,hF,rfl,rfl⟩,(Nat.zero_le _),Gh.toC (n1:=2) ⟨rfl,rfl,rfl,rfl,rfl,rfl,rfl,trivial⟩ rfl (Nat.zero_le _) (by simp)⟩
 rcases q2r (z47 == 0) with h48 | h48
 replace h50:=q05 h48 h50
 replace h50:=Option.some.inj h50
 subst h50
 refine sr ?_
 refine RS.q rfl (q02 rfl rfl (q0j _ _ _) rfl) (RS.mv rfl rfl rfl rfl ?_)
 repeat refine RS.no (want0 rfl rfl rfl h48) rfl rfl ?_
 refine RS.q (u:=.bool true) rfl (q06 rfl h48 rfl) ?_
 refine sd ?_
 exact ⟨_,_,⟨rfl,rfl⟩,(Nat.zero_le _),Gh.toC (n1:=2) ⟨rfl,rfl,rfl,rfl,rfl,rfl,rfl,rfl,rfl,rfl,trivial⟩ rfl (Nat.zero_le _) (by simp)⟩
 replace h50:=q04 h48 h50
 replace h50:=Option.some.inj h50
 subst h50
 refine sr ?_
 refine RS.q rfl (q02 rfl rfl (q0j _ _ _) rfl) (RS.mv rfl rfl rfl rfl (RS.op (want1 rfl rfl rfl h48) (q0h rfl) rfl rfl (RS.op (want1 rfl rfl rfl h48) (q0h rfl) rfl rfl (RS.op (want1 rfl rfl rfl h48) (q0k rfl rfl rfl (q0g (cI .i64) und55)) rfl rfl (RS.op (want1 rfl rfl rfl h48) (q02 rfl rfl (q0j _ _ _) rfl) rfl rfl (RS.q (u:=.bool (z47 == (r5.length:Int))) rfl (q07 rfl h48 rfl) ?_))))))
 refine sd ?_
 exact ⟨_,_,⟨rfl,rfl⟩,(Nat.zero_le _),Gh.toC (n1:=2) ⟨rfl,rfl,rfl,rfl,rfl,rfl,rfl,rfl,rfl,rfl,trivial⟩ rfl (Nat.zero_le _) (by simp)⟩
 rintro m2 _ _ ⟨z45,z46,hF,rfl,rfl⟩
 rcases m2 with _ | m2
 cases hF
 unfold q4a at hF
 refine sr ?_
 refine RS.q rfl (q02 rfl rfl (q18 _ _ _) rfl) ?_
 refine sd ?_
 refine WPU.condS (t:=(decide (z46<(r5.length:Int)))) rfl (fun h55=>?_) (fun h55=>?_)
 replace hF:=q05 h55 hF
 refine st ?_
 refine WPU.skip ?_
 refine st ?_
 refine WPU.block ?_
 refine st ?_
 obtain ⟨x56,h57,hF⟩:=q00 hF
 refine sr ?_
 refine RS.q (u:=.iptr [.int .i64 x56]) rfl (q2a rfl rfl (q1f (cI .i64) und55 (q01 inf3) (qec .i64) h57 rfl)) (RS.q (u:=.int .i64 x56) rfl (q90 und3 rfl rfl rfl) ?_)
 refine sd ?_
 obtain ⟨x58,h59,hF⟩:=q00 hF
 obtain ⟨r60,h61,hF⟩:=q00 hF
 refine WPU.drawE Tryz.tb_ok [] (by kernel_rfl) ?_
 repeat refine RD.mv rfl rfl rfl rfl ?_
 refine RD.q (u:=.iptr [.isl false (List.map cGProp x58)]) rfl (q2a rfl rfl (q1f (cL cGProp) und80 (q01 inf57) (qed cGProp) h59 rfl)) (RD.q (u:=.isl false (List.map cGProp x58)) rfl (q90 und57 rfl rfl rfl) (RD.q (u:=.agg (cGProp x24)) rfl (q0a und33 rfl (q01 inf33) rfl rfl rfl) (RD.free (u:=.bool r60) (args:=[.isl false (List.map cGProp x58),.agg (cGProp x24)]) rfl (q03 rfl rfl fn58 hb58 rfl rfl) (fun s=>qhb n x58 x24 r60 h61 s) rfl rfl ?_)))
 refine RD.done ⟨by kernel_rfl,trivial,?_⟩
 refine st ?_
 refine WPU.joinK (fun tm σ=>∃ z63:Int,q6r z46 (q4a n r3 r5 z18 l19 (q1k p2 n r3 r5 r8 m1) x24 m2) z63=some r∧tm=fr 63 [(1,.isl false (List.map cGDecision p2)),(5,.isl false (List.map (cL cGProp) r3)),(6,.isl false (List.map (cI .i64) r5)),(7,.vl 0 t20 0 l19.length),(9,.ptr 1 0 0),(10,.int .i64 z63),(22,.isl false (List.map cGProp r8)),(23,.int .i64 (r8.length:Int)),(24,.int .i64 z18),(31,.isl false (List.map (cI .i64) r5)),(32,.int .i64 (r5.length:Int)),(33,.int .i64 z46)]∧σ=⟨[(1,.row (cGProp x24) 33),(0,.vec (List.map cGDecision l19).flatten 62 5 t20)],2⟩) ?_ ?_
 rintro _ _ ⟨z63,hF,rfl,rfl⟩
 unfold q6r at hF
 refine sr ?_
 refine RS.q rfl (q02 rfl rfl (q1q _ _ _) rfl) (RS.mv rfl rfl rfl rfl ?_)
 refine sd ?_
 exact ⟨m2,_,_,Nat.lt_succ_self _,⟨z63,(IntKind.i64.wrap (z46+1)),hF,rfl,rfl⟩,(Nat.zero_le _),Gh.toC (n1:=2) ⟨rfl,rfl,rfl,rfl,rfl,rfl,rfl,rfl,rfl,rfl,rfl,rfl,trivial⟩ rfl (Nat.zero_le _) (by simp)⟩
 refine WPU.condS (t:=r60) rfl (fun h62=>?_) (fun h62=>?_)
 replace hF:=q05 h62 hF
 refine sr ?_
 refine RS.q rfl (q02 rfl rfl (q1q _ _ _) rfl) ?_
 refine sd ?_
 exact ⟨_,_,⟨(IntKind.i64.wrap (z45+1)),hF,rfl,rfl⟩,(Nat.zero_le _),Gh.toC (n1:=2) ⟨rfl,rfl,rfl,rfl,rfl,rfl,rfl,rfl,rfl,rfl,rfl,rfl,trivial⟩ rfl (Nat.zero_le _) (by simp)⟩
 replace hF:=q04 h62 hF
 refine st ?_
 refine WPU.skip ?_
 refine st ?_
 exact ⟨_,_,⟨z45,hF,rfl,rfl⟩,(Nat.zero_le _),Gh.toC (n1:=2) ⟨rfl,rfl,rfl,rfl,rfl,rfl,rfl,rfl,rfl,rfl,rfl,rfl,trivial⟩ rfl (Nat.zero_le _) (by simp)⟩
 replace hF:=q04 h55 hF
 refine st ?_
 refine WPU.exit ?_
 refine st ?_
 exact ⟨_,_,⟨z45,hF,rfl,rfl⟩,(Nat.zero_le _),Gh.toC (n1:=2) ⟨rfl,rfl,rfl,rfl,rfl,rfl,rfl,rfl,rfl,trivial⟩ rfl (Nat.zero_le _) (by simp)⟩
 replace hF:=q04 h23 hF
 refine st ?_
 refine WPU.exit ?_
 refine st ?_
 exact ⟨_,_,⟨l19,t20,hF,rfl,rfl⟩,(Nat.zero_le _),Gh.toC (n1:=1) ⟨rfl,trivial⟩ rfl (Nat.zero_le _) (by simp)⟩
theorem qh9 (n:Nat) (p1:List GDeriv) (p2:List GDecision) (r:(List GDecision)) (hF:q87 n p1 p2=some r) (σ:Sg):EvU Tryz.prog 23 [.isl false (List.map cGDeriv p1),.isl false (List.map cGDecision p2)] σ (fun u σ'=>u = .isl false (List.map cGDecision r)∧σ'=σ) :=
 EvU.pure1C (disc_Implied_0 n p1 p2 r hF) σ
def q3j (n:Nat) (p1:List GDeriv):Option ((List GProp)) :=
 bindO (qat n p1) fun r2 =>
 bindO (q82 n r2) fun r4 =>
 some r4
theorem qcw (n:Nat) (p1:List GDeriv) (r:(List GProp)) (hF:q3j n p1=some r):EvU Tryz.prog 25 [.isl false (List.map cGDeriv p1)] ⟨[],0⟩ (fun u _=>u = .isl false (List.map cGProp r)∧Bel 0 u):=by
 unfold q3j at hF
 refine EvU.of_body Tryz.tb_ok fn25 rfl ?_
 refine WPU.ghost (tm':=fr 6 [(0,.isl false (List.map cGDeriv p1))]) (Gh.start (Nat.le_of_ble_eq_true rfl)) (Nat.zero_le _) ?_
 refine sr ?_
 refine sd ?_
 obtain ⟨r2,h3,hF⟩:=q00 hF
 obtain ⟨r4,h5,hF⟩:=q00 hF
 refine sr ?_
 refine RS.call (u:=.isl false (List.map (cL cGProp) r2)) (args:=[.isl false (List.map cGDeriv p1)]) rfl (q03 rfl rfl fn54 hb54 rfl rfl) (qdb n p1 r2 h3 _) rfl rfl (RS.call (u:=.isl false (List.map cGProp r4)) (args:=[.isl false (List.map (cL cGProp) r2)]) rfl (q03 rfl rfl fn56 hb56 rfl rfl) (qd3 n r2 r4 h5 _) rfl rfl ?_)
 refine sd ?_
 refine WPU.ret ?_
 refine st ?_
 have hr:=Option.some.inj hF
 subst hr
 exact ⟨.inr rfl,[.isl false (List.map cGProp r4)],q0l rfl (q0i),.isl false (List.map cGProp r4),⟨[],0⟩,Nat.le_refl _,Gh.toR (.isl false (List.map cGProp r4)) rfl,rfl,BU.h⟩
theorem q9n (n:Nat) (p1:List GDeriv) (r:(List GProp)) (hF:q3j n p1=some r) (σ:Sg):EvU Tryz.prog 25 [.isl false (List.map cGDeriv p1)] σ (fun u σ'=>u = .isl false (List.map cGProp r)∧σ'=σ) :=
 EvU.pure1C (qcw n p1 r hF) σ
def q1i (n:Nat) (p1:Gwork) (p2:List GDecision):Option ((List Int)) :=
 bindO (q36 n ([p1.Session.Decisions,p2])) fun r3 =>
 bindO (q6b n p1.Session.Readings r3) fun r5 =>
 some r5
theorem qb0 (n:Nat) (p1:Gwork) (p2:List GDecision) (r:(List Int)) (hF:q1i n p1 p2=some r):EvU Tryz.prog 24 [.agg (cGSession p1.Session),.isl false (List.map cGDecision p2)] ⟨[],0⟩ (fun u _=>u = .isl false (List.map (cI .i64) r)∧Bel 0 u):=by
 unfold q1i at hF
 refine EvU.of_body Tryz.tb_ok fn24 rfl ?_
 refine WPU.ghost (tm':=fr 15 [(0,.agg (cGSession p1.Session)),(1,.isl false (List.map cGDecision p2))]) (Gh.start (Nat.le_of_ble_eq_true rfl)) (Nat.zero_le _) ?_
 refine sr ?_
 refine RS.q (u:=.ptr 0 0 0) (σ':=⟨[(0,.row (cGSession p1.Session) 53)],1⟩) rfl (q2j rfl rfl rfl) ?_
 refine sd ?_
 obtain ⟨r3,h4,hF⟩:=q00 hF
 obtain ⟨r5,h6,hF⟩:=q00 hF
 refine WPU.drawE Tryz.tb_ok [(0,7),(0,8),(1,7),(1,8),(2,7),(2,8)] (by kernel_rfl) ?_
 refine RD.q (u:=.ptr 0 0 0) rfl (q0c und53 rfl (q01 inf28) rfl rfl rfl) (RD.q (u:=.ptr 0 0 0) rfl (q0c und28 rfl (q01 inf22) rfl rfl rfl) (RD.q (u:=.isl false (List.map cGDeriv p1.Session.Readings)) rfl (q09 und22 rfl rfl rfl rfl) (RD.q (u:=.ptr 0 0 0) rfl (q0c und53 rfl (q01 inf28) rfl rfl rfl) (RD.q (u:=.ptr 0 0 1) rfl (q0c und28 rfl (q01 inf26) rfl rfl rfl) (RD.q (u:=.isl false (List.map cGDecision p1.Session.Decisions)) rfl (q09 und26 rfl rfl rfl rfl) (RD.mv rfl rfl rfl rfl (RD.act (u:=.sl 1 0 2 2) (σ':=⟨[(1,.row [.isl false (List.map cGDecision p1.Session.Decisions),.isl false (List.map cGDecision p2)] 26),(0,.row (cGSession p1.Session) 53)],2⟩) rfl (q4g und109 inf26 rfl rfl rfl rfl rfl rfl rfl) rfl rfl ?_)))))))
 refine RD.fcall (u:=.isl false (List.map cGDecision r3)) (args:=[.sl 1 0 2 2]) (σ1:=⟨[(0,.row (cGSession p1.Session) 53)],2⟩) rfl (q03 rfl rfl fn60 hb60 rfl rfl) (Gh.fz (tm':=[.isl false (List.map (cL cGDecision) ([p1.Session.Decisions,p2]))]) (h':=[(0,.row (cGSession p1.Session) 53)]) 1 (.row [.isl false (List.map cGDecision p1.Session.Decisions),.isl false (List.map cGDecision p2)] 26) 1 rfl (by simp) (by simp only [oneU,q0y,q0o,q1z,q11,q22,q15,q14,q13,q12,q10,q20,q21,q1y,q23,q3k,junkT,q96,q9p,q31,Nat.reduceLeDiff,Nat.reduceMul,List.length_cons,List.length_nil,Nat.reduceAdd]<;>simp only [chunks,List.take,List.drop,List.map,cI,cB,cS,cL]) (by simp only [fzH,fzB,ug,Nat.beq,cond_true,cond_false,oneU,q0y,q0o,q1z,q11,q22,q15,q14,q13,q12,q10,q20,q21,q1y,q23,q3k,junkT,q96,q9p,q31,Nat.reduceLeDiff,Nat.reduceMul,List.length_cons,List.length_nil,Nat.reduceAdd]<;>simp only [chunks,List.take,List.drop,List.map,cI,cB,cS,cL])) (Nat.le_of_ble_eq_true rfl) (qb5 n ([p1.Session.Decisions,p2]) r3 h4 _) rfl rfl ?_
 refine RD.free (u:=.isl false (List.map (cI .i64) r5)) (args:=[.isl false (List.map cGDeriv p1.Session.Readings),.isl false (List.map cGDecision r3)]) rfl (q03 rfl rfl fn59 hb59 rfl rfl) (fun s=>qf7 n p1.Session.Readings r3 r5 h6 s) rfl rfl (RD.as rfl rfl rfl rfl ?_)
 refine RD.done ⟨by kernel_rfl,⟨q0c und53 rfl (q01 inf28) rfl rfl rfl,⟨q0c und53 rfl (q01 inf28) rfl rfl rfl,⟨q0c und28 rfl (q01 inf22) rfl rfl rfl,⟨q0c und28 rfl (q01 inf22) rfl rfl rfl,⟨q09 und22 rfl rfl rfl rfl,⟨q09 und22 rfl rfl rfl rfl,trivial⟩⟩⟩⟩⟩⟩,?_⟩
 refine st ?_
 refine WPU.ret ?_
 refine st ?_
 have hr:=Option.some.inj hF
 subst hr
 exact ⟨.inr rfl,[.isl false (List.map (cI .i64) r5)],q0l rfl (q0i),.isl false (List.map (cI .i64) r5),⟨[],0⟩,Nat.le_refl _,Gh.toR (.isl false (List.map (cI .i64) r5)) rfl,rfl,BU.h⟩
theorem q3w (n:Nat) (p1:Gwork) (p2:List GDecision) (r:(List Int)) (hF:q1i n p1 p2=some r) (σ:Sg):EvU Tryz.prog 24 [.agg (cGSession p1.Session),.isl false (List.map cGDecision p2)] σ (fun u σ'=>u = .isl false (List.map (cI .i64) r)∧σ'=σ) :=
 EvU.pure1C (qb0 n p1 p2 r hF) σ
def q1w   : Option (Int) :=
 some (-1)
def q0x (p1:List GDecision) (c2:GProp) (f1:GDecision→GProp→Option (Bool)):Nat→Int→Option (Int)
 | 0,_=>none
 | m1+1,z6 =>
  cond (decide (z6<(p1.length:Int)))
   (bindO (idxO p1 z6) fun x8 =>
   bindO (f1 x8 c2) fun r10 =>
   cond r10
    (some z6)
    ((q0x p1 c2 f1 m1) (IntKind.i64.wrap (z6+1))))
   (q1w)
def q1n (f1:GDecision→GProp→Option (Bool)) (n:Nat) (p1:List GDecision) (c2:GProp):Option (Int) :=
 q0x p1 c2 f1 n 0
theorem q7o (f1:GDecision→GProp→Option (Bool)) (hf1:∀ (a0:GDecision) (a1:GProp) (r:Bool),f1 a0 a1=some r→EvU Tryz.prog 28 [.agg (cGDecision a0),.iptr (cGProp a1)] ⟨[],0⟩ (fun u _=>u = .bool r∧Bel 0 u)) (n:Nat) (p1:List GDecision) (c2:GProp) (r:Int) (hF:q1n f1 n p1 c2=some r):EvU Tryz.prog 62 [.isl false (List.map cGDecision p1),.fn (.func 28) [] [.iptr (cGProp c2)]] ⟨[],0⟩ (fun u _=>u = .int .i64 r∧Bel 0 u):=by
 unfold q1n at hF
 have hf1S:∀ (a0:GDecision) (a1:GProp) (r:Bool),f1 a0 a1=some r→∀ σ,EvU Tryz.prog 28 [.agg (cGDecision a0),.iptr (cGProp a1)] σ (fun u σ'=>u = .bool r∧σ'=σ):=fun a0 a1 r h σ=>EvU.pure1C (hf1 a0 a1 r h) σ
 refine EvU.of_body Tryz.tb_ok fn62 rfl ?_
 refine WPU.ghost (tm':=fr 19 [(0,.isl false (List.map cGDecision p1)),(1,.fn (.func 28) [] [.iptr (cGProp c2)])]) (Gh.start (Nat.le_of_ble_eq_true rfl)) (Nat.zero_le _) ?_
 refine sr ?_
 refine se ?_
 refine RS.q rfl (q0k rfl rfl rfl (q0g cGDecision und26)) (RS.mv rfl rfl rfl rfl ?_)
 refine sd ?_
 refine WPU.ghost (tm':=fr 19 [(0,.isl false (List.map cGDecision p1)),(1,.fn (.func 28) [] [.iptr (cGProp c2)]),(7,.int .i64 (p1.length:Int)),(8,.int .i64 0)]) (Gh.sub ⟨rfl,rfl,rfl,rfl,trivial⟩) (Nat.zero_le _) ?_
 refine WPU.loopK (fun m tm σ=>∃ z6:Int,q0x p1 c2 f1 m z6=some r∧tm=fr 19 [(0,.isl false (List.map cGDecision p1)),(1,.fn (.func 28) [] [.iptr (cGProp c2)]),(7,.int .i64 (p1.length:Int)),(8,.int .i64 z6)]∧σ=⟨[],0⟩) (fun tm σ=>q1w=some r∧tm=fr 19 []∧σ=⟨[],0⟩) n ⟨0,hF,rfl,rfl⟩ ?_ ?_
 rintro _ _ ⟨hF,rfl,rfl⟩
 unfold q1w at hF
 refine sr ?_
 refine sd ?_
 refine WPU.ret ?_
 refine st ?_
 have hr:=Option.some.inj hF
 subst hr
 exact ⟨.inr rfl,[.int .i64 (-1)],q0l rfl (q0i),.int .i64 (-1),⟨[],0⟩,Nat.le_refl _,Gh.toR (.int .i64 (-1)) rfl,rfl,BU.h⟩
 rintro m1 _ _ ⟨z6,hF,rfl,rfl⟩
 rcases m1 with _ | m1
 cases hF
 unfold q0x at hF
 refine sr ?_
 refine RS.q rfl (q02 rfl rfl (q18 _ _ _) rfl) ?_
 refine sd ?_
 refine WPU.condS (t:=(decide (z6<(p1.length:Int)))) rfl (fun h7=>?_) (fun h7=>?_)
 replace hF:=q05 h7 hF
 refine st ?_
 refine WPU.skip ?_
 refine st ?_
 refine WPU.block ?_
 refine sr ?_
 refine sd ?_
 obtain ⟨x8,h9,hF⟩:=q00 hF
 obtain ⟨r10,h11,hF⟩:=q00 hF
 refine sr ?_
 repeat refine RS.mv rfl rfl rfl rfl ?_
 refine RS.q (u:=.iptr (cGDecision x8)) rfl (q2a rfl rfl (q1f cGDecision und26 (q01 inf62) q0f h9 rfl)) (RS.q (u:=.agg (cGDecision x8)) rfl (q2e und62 rfl (q01 inf62) rfl rfl) (RS.call (u:=.bool r10) (args:=[.agg (cGDecision x8),.iptr (cGProp c2)]) rfl (q03 rfl rfl fn28 hb28 rfl rfl) (hf1S x8 c2 r10 h11 _) rfl rfl ?_))
 refine sd ?_
 refine WPU.condS (t:=r10) rfl (fun h12=>?_) (fun h12=>?_)
 replace hF:=q05 h12 hF
 refine sr ?_
 refine sd ?_
 refine WPU.ret ?_
 refine st ?_
 have hr:=Option.some.inj hF
 subst hr
 exact ⟨.inr rfl,[.int .i64 z6],q0l rfl (q0i),.int .i64 z6,⟨[],0⟩,Nat.le_refl _,Gh.toR (.int .i64 z6) rfl,rfl,BU.h⟩
 replace hF:=q04 h12 hF
 refine st ?_
 refine WPU.skip ?_
 refine sr ?_
 refine RS.q rfl (q02 rfl rfl (q1q _ _ _) rfl) (RS.mv rfl rfl rfl rfl ?_)
 refine sd ?_
 exact ⟨m1,_,_,Nat.lt_succ_self _,⟨(IntKind.i64.wrap (z6+1)),hF,rfl,rfl⟩,(Nat.zero_le _),Gh.toC (n1:=0) ⟨rfl,rfl,rfl,rfl,trivial⟩ rfl (Nat.zero_le _) (by simp)⟩
 replace hF:=q04 h7 hF
 refine st ?_
 refine WPU.exit ?_
 refine st ?_
 exact ⟨_,_,⟨hF,rfl,rfl⟩,(Nat.zero_le _),Gh.toC (n1:=0) trivial rfl (Nat.zero_le _) (by simp)⟩
theorem q7g (f1:GDecision→GProp→Option (Bool)) (hf1:∀ (a0:GDecision) (a1:GProp) (r:Bool),f1 a0 a1=some r→EvU Tryz.prog 28 [.agg (cGDecision a0),.iptr (cGProp a1)] ⟨[],0⟩ (fun u _=>u = .bool r∧Bel 0 u)) (n:Nat) (p1:List GDecision) (c2:GProp) (r:Int) (hF:q1n f1 n p1 c2=some r) (σ:Sg):EvU Tryz.prog 62 [.isl false (List.map cGDecision p1),.fn (.func 28) [] [.iptr (cGProp c2)]] σ (fun u σ'=>u = .int .i64 r∧σ'=σ) :=
 EvU.pure1C (q7o f1 hf1 n p1 c2 r hF) σ
def q1e (f1:GDecision→GProp→Option (Bool)) (n:Nat) (p1:List GDecision) (c2:GProp):Option (Bool) :=
 bindO (q1n f1 n p1 c2) fun r3 =>
 some (decide (r3 ≥ 0))
theorem q6m (f1:GDecision→GProp→Option (Bool)) (hf1:∀ (a0:GDecision) (a1:GProp) (r:Bool),f1 a0 a1=some r→EvU Tryz.prog 28 [.agg (cGDecision a0),.iptr (cGProp a1)] ⟨[],0⟩ (fun u _=>u = .bool r∧Bel 0 u)) (n:Nat) (p1:List GDecision) (c2:GProp) (r:Bool) (hF:q1e f1 n p1 c2=some r):EvU Tryz.prog 27 [.isl false (List.map cGDecision p1),.fn (.func 28) [] [.iptr (cGProp c2)]] ⟨[],0⟩ (fun u _=>u = .bool r∧Bel 0 u):=by
 unfold q1e at hF
 have hf1S:∀ (a0:GDecision) (a1:GProp) (r:Bool),f1 a0 a1=some r→∀ σ,EvU Tryz.prog 28 [.agg (cGDecision a0),.iptr (cGProp a1)] σ (fun u σ'=>u = .bool r∧σ'=σ):=fun a0 a1 r h σ=>EvU.pure1C (hf1 a0 a1 r h) σ
 refine EvU.of_body Tryz.tb_ok fn27 rfl ?_
 refine WPU.ghost (tm':=fr 9 [(0,.isl false (List.map cGDecision p1)),(1,.fn (.func 28) [] [.iptr (cGProp c2)])]) (Gh.start (Nat.le_of_ble_eq_true rfl)) (Nat.zero_le _) ?_
 refine sr ?_
 refine sd ?_
 obtain ⟨r3,h4,hF⟩:=q00 hF
 refine sr ?_
 repeat refine RS.mv rfl rfl rfl rfl ?_
 refine RS.call (u:=.int .i64 r3) (args:=[.isl false (List.map cGDecision p1),.fn (.func 28) [] [.iptr (cGProp c2)]]) rfl (q03 rfl rfl fn62 hb62 rfl rfl) (q7g f1 hf1 n p1 c2 r3 h4 _) rfl rfl (RS.q rfl (q02 rfl rfl (ix_geq _ _ _) rfl) ?_)
 refine sd ?_
 refine WPU.ret ?_
 refine st ?_
 have hr:=Option.some.inj hF
 subst hr
 exact ⟨.inr rfl,[.bool (decide (r3 ≥ 0))],q0l rfl (q0i),.bool (decide (r3 ≥ 0)),⟨[],0⟩,Nat.le_refl _,Gh.toR (.bool (decide (r3 ≥ 0))) rfl,rfl,BU.h⟩
def q3g (n:Nat) (p1:GDecision) (c2:GProp):Option (Bool) :=
 some (eqGProp p1.Propx c2)
theorem qcu (n:Nat) (p1:GDecision) (c2:GProp) (r:Bool) (hF:q3g n p1 c2=some r):EvU Tryz.prog 28 [.agg (cGDecision p1),.iptr (cGProp c2)] ⟨[],0⟩ (fun u _=>u = .bool r∧Bel 0 u):=by
 unfold q3g at hF
 refine EvU.of_body Tryz.tb_ok fn28 rfl ?_
 refine WPU.ghost (tm':=fr 8 [(0,.agg (cGDecision p1)),(1,.iptr (cGProp c2))]) (Gh.start (Nat.le_of_ble_eq_true rfl)) (Nat.zero_le _) ?_
 refine sr ?_
 refine RS.q (u:=.ptr 0 0 0) (σ':=⟨[(0,.row (cGDecision p1) 62)],1⟩) rfl (q2j rfl rfl rfl) ?_
 refine se ?_
 refine RS.q (u:=.ptr 0 0 0) rfl (q0c und62 rfl (q01 inf33) rfl rfl rfl) (RS.q (u:=.agg (cGProp p1.Propx)) rfl (q0a und33 rfl (q01 inf33) rfl rfl rfl) (RS.q (u:=.agg (cGProp c2)) rfl (q2e und33 rfl (q01 inf33) rfl rfl) (RS.q (u:=.bool (eqGProp p1.Propx c2)) rfl (q7j rfl rfl (q5k p1.Propx c2)) ?_)))
 refine sd ?_
 refine WPU.ret ?_
 refine st ?_
 have hr:=Option.some.inj hF
 subst hr
 exact ⟨.inr rfl,[.bool (eqGProp p1.Propx c2)],q0l rfl (q0i),.bool (eqGProp p1.Propx c2),⟨[],0⟩,Nat.le_refl _,Gh.toR (.bool (eqGProp p1.Propx c2)) rfl,rfl,BU.h⟩
def q4m (z31:Int) (rc1:Int→Bool→Int→Int→(List UInt8)→Int→Int→Option (GProp×Bool)) (z58:Int) (b59:Bool) (z60:Int) (s61:List UInt8) (z62:Int) (z63:Int):Option (GProp×Bool) :=
 rc1 z58 b59 (IntKind.i64.wrap (z31+1)) z60 s61 z62 z63
def q5s  (b36:Bool) (z37:Int) (s38:List UInt8) (z39:Int) (z40:Int):Option (GProp×Bool) :=
 some ((GProp.mk z37 s38 z39 z40),b36)
def q2f (p1:GSession) (n:Nat) (r2:(List GDecision)) (r4:(List Int)) (r6:(List GProp)):Nat→Int→Bool→Int→Int→(List UInt8)→Int→Int→Option (GProp×Bool)
 | 0,_,_,_,_,_,_,_=>none
 | m1+1,z29,b30,z31,z32,s33,z34,z35 =>
  cond (decide (z31<(r6.length:Int)))
   (bindO (idxO r6 z31) fun x42 =>
   bindO (bindO (q2u n (Gwork.mk p1) x42) fun r44 =>
   cond r44
    (some true)
    (bindO (q1e (q3g n) n r2 x42) fun r47 =>
    some r47)) fun b49 =>
   cond b49
    ((q2f p1 n r2 r4 r6 m1) z29 b30 (IntKind.i64.wrap (z31+1)) z32 s33 z34 z35)
    (bindO (q1i n (Gwork.mk p1) ([(GDecision.mk x42 true)])) fun r52 =>
    bindO (cond (!b30)
     (some true)
     (some (decide ((if (IntKind.i64.wrap ((r4.length:Int) - (IntKind.i64.wrap (2*(r52.length:Int))))) > (IntKind.i64.wrap ((IntKind.i64.wrap (2*(r52.length:Int))) - (r4.length:Int))) then (IntKind.i64.wrap ((r4.length:Int) - (IntKind.i64.wrap (2*(r52.length:Int))))) else (IntKind.i64.wrap ((IntKind.i64.wrap (2*(r52.length:Int))) - (r4.length:Int))))<z29)))) fun b55 =>
    cond b55
     (q4m z31 (q2f p1 n r2 r4 r6 m1) (if (IntKind.i64.wrap ((r4.length:Int) - (IntKind.i64.wrap (2*(r52.length:Int))))) > (IntKind.i64.wrap ((IntKind.i64.wrap (2*(r52.length:Int))) - (r4.length:Int))) then (IntKind.i64.wrap ((r4.length:Int) - (IntKind.i64.wrap (2*(r52.length:Int))))) else (IntKind.i64.wrap ((IntKind.i64.wrap (2*(r52.length:Int))) - (r4.length:Int)))) true x42.Kind x42.Name x42.From x42.To)
     (q4m z31 (q2f p1 n r2 r4 r6 m1) z29 b30 z32 s33 z34 z35)))
   (q5s b30 z32 s33 z34 z35)
def q38 (n:Nat) (p1:GSession):Option (GProp×Bool) :=
 bindO (q87 n p1.Readings p1.Decisions) fun r2 =>
 bindO (q1i n (Gwork.mk p1) []) fun r4 =>
 bindO (q3j n p1.Readings) fun r6 =>
 q2f p1 n r2 r4 r6 n 0 false 0 0 [] 0 0
theorem qds (n:Nat) (p1:GSession) (r:GProp×Bool) (hF:q38 n p1=some r):EvU Tryz.prog 8 [.agg (cGSession p1)] ⟨[],0⟩ (fun u _=>u = .tup [.agg (cGProp r.1),.bool r.2]∧Bel 0 u):=by
 unfold q38 at hF
 refine EvU.of_body Tryz.tb_ok fn8 rfl ?_
 refine WPU.ghost (tm':=fr 70 [(0,.agg (cGSession p1))]) (Gh.start (Nat.le_of_ble_eq_true rfl)) (Nat.zero_le _) ?_
 refine sr ?_
 refine RS.q (u:=.ptr 0 0 0) (σ':=⟨[(0,.row (cGSession p1) 28)],1⟩) rfl (q2j rfl rfl rfl) (RS.q (u:=.ptr 1 0 0) (σ':=⟨[(1,.row [.int .i64 0,.str [],.int .i64 0,.int .i64 0] 33),(0,.row (cGSession p1) 28)],2⟩) rfl (q0v inf33 rfl rfl) ?_)
 refine se ?_
 refine RS.q (u:=.agg (cGSession p1)) rfl (q0a und28 rfl (q01 inf28) rfl rfl rfl) (RS.q (u:=.agg (cGSession p1)) rfl (q4d bd53 rfl rfl rfl) (RS.q (u:=.ptr 2 0 0) (σ':=⟨[(2,.row [.nils,.nils,.int .i64 0] 53),(1,.row [.int .i64 0,.str [],.int .i64 0,.int .i64 0] 33),(0,.row (cGSession p1) 28)],3⟩) rfl (q0v inf53 rfl rfl) (RS.opn (u:=.junk) (σ':=⟨[(2,.row (cGSession p1) 53),(1,.row [.int .i64 0,.str [],.int .i64 0,.int .i64 0] 33),(0,.row (cGSession p1) 28)],3⟩) rfl (q0d (q01 inf53) rfl rfl rfl rfl rfl rfl rfl rfl) rfl ?_)))
 refine sd ?_
 obtain ⟨r2,h3,hF⟩:=q00 hF
 refine sr ?_
 refine RS.q (u:=.ptr 2 0 0) rfl (q0c und53 rfl (q01 inf28) rfl rfl rfl) (RS.q (u:=.ptr 2 0 0) rfl (q0c und28 rfl (q01 inf22) rfl rfl rfl) (RS.q (u:=.isl false (List.map cGDeriv p1.Readings)) rfl (q09 und22 rfl rfl rfl rfl) (RS.q (u:=.ptr 2 0 0) rfl (q0c und53 rfl (q01 inf28) rfl rfl rfl) (RS.q (u:=.ptr 2 0 1) rfl (q0c und28 rfl (q01 inf26) rfl rfl rfl) (RS.q (u:=.isl false (List.map cGDecision p1.Decisions)) rfl (q09 und26 rfl rfl rfl rfl) (RS.call (u:=.isl false (List.map cGDecision r2)) (args:=[.isl false (List.map cGDeriv p1.Readings),.isl false (List.map cGDecision p1.Decisions)]) rfl (q03 rfl rfl fn23 hb23 rfl rfl) (qh9 n p1.Readings p1.Decisions r2 h3 _) rfl rfl ?_))))))
 refine sd ?_
 obtain ⟨r4,h5,hF⟩:=q00 hF
 refine sr ?_
 refine RS.q (u:=.agg (cGSession p1)) rfl (q0a und53 rfl (q01 inf53) rfl rfl rfl) (RS.call (u:=.isl false (List.map (cI .i64) r4)) (args:=[.agg (cGSession p1),.nils]) rfl (q03 rfl rfl fn24 hb24 rfl rfl) (EvU.wkA (args':=[.agg (cGSession p1),.isl false []]) (.cons (.refl _) (.cons (.nil false) .nil)) (fun s=>q3w n (Gwork.mk p1) [] r4 h5 s) _) rfl rfl (RS.q rfl (q0k rfl rfl rfl (q0g (cI .i64) und55)) ?_))
 refine se ?_
 refine RS.q (u:=.ptr 3 0 0) (σ':=⟨[(3,.row [.int .i64 0,.str [],.int .i64 0,.int .i64 0] 33),(2,.row (cGSession p1) 53),(1,.row [.int .i64 0,.str [],.int .i64 0,.int .i64 0] 33),(0,.row (cGSession p1) 28)],4⟩) rfl (q0v inf33 rfl rfl) ?_
 refine se ?_
 repeat refine RS.as rfl rfl rfl rfl ?_
 refine sd ?_
 obtain ⟨r6,h7,hF⟩:=q00 hF
 refine sr ?_
 refine RS.q (u:=.ptr 2 0 0) rfl (q0c und53 rfl (q01 inf28) rfl rfl rfl) (RS.q (u:=.ptr 2 0 0) rfl (q0c und28 rfl (q01 inf22) rfl rfl rfl) (RS.q (u:=.isl false (List.map cGDeriv p1.Readings)) rfl (q09 und22 rfl rfl rfl rfl) (RS.call (u:=.isl false (List.map cGProp r6)) (args:=[.isl false (List.map cGDeriv p1.Readings)]) rfl (q03 rfl rfl fn25 hb25 rfl rfl) (q9n n p1.Readings r6 h7 _) rfl rfl (RS.q rfl (q0k rfl rfl rfl (q0g cGProp und57)) (RS.mv rfl rfl rfl rfl ?_)))))
 refine sd ?_
 refine WPU.ghost (tm':=fr 70 [(2,.ptr 1 0 0),(4,.ptr 2 0 0),(5,.isl false (List.map cGDecision r2)),(6,.int .i64 (r4.length:Int)),(7,.ptr 3 0 0),(8,.int .i64 0),(9,.bool false),(29,.isl false (List.map cGProp r6)),(30,.int .i64 (r6.length:Int)),(31,.int .i64 0)]) (Gh.sub ⟨rfl,rfl,rfl,rfl,rfl,rfl,rfl,rfl,rfl,rfl,trivial⟩) (Nat.zero_le _) ?_
 refine WPU.loopK (fun m tm σ=>∃ z29:Int,∃ b30:Bool,∃ z31:Int,∃ z32:Int,∃ s33:List UInt8,∃ z34:Int,∃ z35:Int,q2f p1 n r2 r4 r6 m z29 b30 z31 z32 s33 z34 z35=some r∧tm=fr 70 [(2,.ptr 1 0 0),(4,.ptr 2 0 0),(5,.isl false (List.map cGDecision r2)),(6,.int .i64 (r4.length:Int)),(7,.ptr 3 0 0),(8,.int .i64 z29),(9,.bool b30),(29,.isl false (List.map cGProp r6)),(30,.int .i64 (r6.length:Int)),(31,.int .i64 z31)]∧σ=⟨[(3,.row [.int .i64 z32,.str s33,.int .i64 z34,.int .i64 z35] 33),(2,.row (cGSession p1) 53),(1,.row [.int .i64 0,.str [],.int .i64 0,.int .i64 0] 33),(0,.row (cGSession p1) 28)],4⟩) (fun tm σ=>∃ b36:Bool,∃ z37:Int,∃ s38:List UInt8,∃ z39:Int,∃ z40:Int,q5s b36 z37 s38 z39 z40=some r∧tm=fr 70 [(2,.ptr 1 0 0),(7,.ptr 3 0 0),(9,.bool b36)]∧σ=⟨[(3,.row [.int .i64 z37,.str s38,.int .i64 z39,.int .i64 z40] 33),(2,.row (cGSession p1) 53),(1,.row [.int .i64 0,.str [],.int .i64 0,.int .i64 0] 33),(0,.row (cGSession p1) 28)],4⟩) n ⟨0,false,0,0,[],0,0,hF,rfl,rfl⟩ ?_ ?_
 rintro _ _ ⟨b36,z37,s38,z39,z40,hF,rfl,rfl⟩
 unfold q5s at hF
 refine sr ?_
 refine RS.q (u:=.agg [.int .i64 z37,.str s38,.int .i64 z39,.int .i64 z40]) rfl (q0a und33 rfl (q01 inf33) rfl rfl rfl) (RS.mv rfl rfl rfl rfl (RS.opn (u:=.junk) (σ':=⟨[(3,.row [.int .i64 z37,.str s38,.int .i64 z39,.int .i64 z40] 33),(2,.row (cGSession p1) 53),(1,.row [.int .i64 z37,.str s38,.int .i64 z39,.int .i64 z40] 33),(0,.row (cGSession p1) 28)],4⟩) rfl (q0d (q01 inf33) rfl rfl rfl rfl rfl rfl rfl rfl) rfl ?_))
 refine sd ?_
 refine WPU.ret ?_
 refine st ?_
 have hr:=Option.some.inj hF
 subst hr
 exact ⟨.inr rfl,[.agg [.int .i64 z37,.str s38,.int .i64 z39,.int .i64 z40],.bool b36],q5f (q0a und33 rfl (q01 inf33) rfl rfl rfl) (q0l rfl (q0i)),.tup [.agg [.int .i64 z37,.str s38,.int .i64 z39,.int .i64 z40],.bool b36],⟨[],0⟩,Nat.le_refl _,Gh.toR (.tup [.agg [.int .i64 z37,.str s38,.int .i64 z39,.int .i64 z40],.bool b36]) rfl,rfl,BU.h⟩
 rintro m1 _ _ ⟨z29,b30,z31,z32,s33,z34,z35,hF,rfl,rfl⟩
 rcases m1 with _ | m1
 cases hF
 unfold q2f at hF
 refine sr ?_
 refine RS.q rfl (q02 rfl rfl (q18 _ _ _) rfl) ?_
 refine sd ?_
 refine WPU.condS (t:=(decide (z31<(r6.length:Int)))) rfl (fun h41=>?_) (fun h41=>?_)
 replace hF:=q05 h41 hF
 refine st ?_
 refine WPU.skip ?_
 refine st ?_
 refine WPU.block ?_
 refine st ?_
 obtain ⟨x42,h43,hF⟩:=q00 hF
 refine sr ?_
 refine RS.q (u:=.iptr (cGProp x42)) rfl (q2a rfl rfl (q1f cGProp und57 (q01 inf33) q0b h43 rfl)) (RS.q (u:=.agg (cGProp x42)) rfl (q2e und33 rfl (q01 inf33) rfl rfl) (RS.q (u:=.ptr 4 0 0) (σ':=⟨[(4,.row [.int .i64 0,.str [],.int .i64 0,.int .i64 0] 33),(3,.row [.int .i64 z32,.str s33,.int .i64 z34,.int .i64 z35] 33),(2,.row (cGSession p1) 53),(1,.row [.int .i64 0,.str [],.int .i64 0,.int .i64 0] 33),(0,.row (cGSession p1) 28)],5⟩) rfl (q0v inf33 rfl rfl) (RS.opn (u:=.junk) (σ':=⟨[(4,.row (cGProp x42) 33),(3,.row [.int .i64 z32,.str s33,.int .i64 z34,.int .i64 z35] 33),(2,.row (cGSession p1) 53),(1,.row [.int .i64 0,.str [],.int .i64 0,.int .i64 0] 33),(0,.row (cGSession p1) 28)],5⟩) rfl (q0d (q01 inf33) rfl rfl rfl rfl rfl rfl rfl rfl) rfl ?_)))
 refine sd ?_
 obtain ⟨b49,h50,hF⟩:=q00 hF
 refine WPU.joinK (fun tm σ=>tm=fr 70 [(2,.ptr 1 0 0),(4,.ptr 2 0 0),(5,.isl false (List.map cGDecision r2)),(6,.int .i64 (r4.length:Int)),(7,.ptr 3 0 0),(8,.int .i64 z29),(9,.bool b30),(11,.ptr 4 0 0),(29,.isl false (List.map cGProp r6)),(30,.int .i64 (r6.length:Int)),(31,.int .i64 z31),(42,.bool b49)]∧σ=⟨[(4,.row (cGProp x42) 33),(3,.row [.int .i64 z32,.str s33,.int .i64 z34,.int .i64 z35] 33),(2,.row (cGSession p1) 53),(1,.row [.int .i64 0,.str [],.int .i64 0,.int .i64 0] 33),(0,.row (cGSession p1) 28)],5⟩) ?_ ?_
 rintro _ _ ⟨rfl,rfl⟩
 refine st ?_
 refine WPU.condS (t:=b49) rfl (fun h51=>?_) (fun h51=>?_)
 replace hF:=q05 h51 hF
 refine st ?_
 refine WPU.exit ?_
 refine sr ?_
 refine RS.q rfl (q02 rfl rfl (q1q _ _ _) rfl) (RS.mv rfl rfl rfl rfl ?_)
 refine sd ?_
 exact ⟨m1,_,_,Nat.lt_succ_self _,⟨z29,b30,(IntKind.i64.wrap (z31+1)),z32,s33,z34,z35,hF,rfl,rfl⟩,(Nat.zero_le _),Gh.toC (n1:=4) ⟨rfl,rfl,rfl,rfl,rfl,rfl,rfl,rfl,rfl,rfl,trivial⟩ rfl (Nat.zero_le _) (by simp)⟩
 replace hF:=q04 h51 hF
 refine st ?_
 refine WPU.skip ?_
 refine st ?_
 obtain ⟨r52,h53,hF⟩:=q00 hF
 refine sr ?_
 refine RS.q (u:=.agg (cGSession p1)) rfl (q0a und53 rfl (q01 inf53) rfl rfl rfl) (RS.q (u:=.agg (cGProp x42)) rfl (q0a und33 rfl (q01 inf33) rfl rfl rfl) (RS.q (u:=.agg [.int .i64 x42.Kind,.str x42.Name,.int .i64 x42.From,.int .i64 x42.To,.bool true]) rfl (q4d bd62 rfl rfl rfl) (RS.q (u:=.sl 5 0 1 1) (σ':=⟨[(5,.row [.int .i64 x42.Kind,.str x42.Name,.int .i64 x42.From,.int .i64 x42.To,.bool true] 62),(4,.row (cGProp x42) 33),(3,.row [.int .i64 z32,.str s33,.int .i64 z34,.int .i64 z35] 33),(2,.row (cGSession p1) 53),(1,.row [.int .i64 0,.str [],.int .i64 0,.int .i64 0] 33),(0,.row (cGSession p1) 28)],6⟩) rfl (q4g und26 inf62 rfl rfl rfl rfl rfl rfl rfl) ?_)))
 refine RS.fcall (u:=.isl false (List.map (cI .i64) r52)) (args:=[.agg (cGSession p1),.sl 5 0 1 1]) (σ1:=⟨[(4,.row (cGProp x42) 33),(3,.row [.int .i64 z32,.str s33,.int .i64 z34,.int .i64 z35] 33),(2,.row (cGSession p1) 53),(1,.row [.int .i64 0,.str [],.int .i64 0,.int .i64 0] 33),(0,.row (cGSession p1) 28)],6⟩) rfl (q03 rfl rfl fn24 hb24 rfl rfl) (Gh.fz (tm':=[.agg (cGSession p1),.isl false (List.map cGDecision ([(GDecision.mk x42 true)]))]) (h':=[(4,.row (cGProp x42) 33),(3,.row [.int .i64 z32,.str s33,.int .i64 z34,.int .i64 z35] 33),(2,.row (cGSession p1) 53),(1,.row [.int .i64 0,.str [],.int .i64 0,.int .i64 0] 33),(0,.row (cGSession p1) 28)]) 5 (.row [.int .i64 x42.Kind,.str x42.Name,.int .i64 x42.From,.int .i64 x42.To,.bool true] 62) 5 rfl (by simp) (by simp only [oneU,q0y,q0o,q1z,q11,q22,q15,q14,q13,q12,q10,q20,q21,q1y,q23,q3k,junkT,q96,q9p,q3x,q31,Nat.reduceLeDiff,Nat.reduceMul,List.length_cons,List.length_nil,Nat.reduceAdd]<;>simp only [chunks,List.take,List.drop,List.map,cGDecision]) (by simp only [fzH,fzB,ug,Nat.beq,cond_true,cond_false,oneU,q0y,q0o,q1z,q11,q22,q15,q14,q13,q12,q10,q20,q21,q1y,q23,q3k,junkT,q96,q9p,q3x,q31,Nat.reduceLeDiff,Nat.reduceMul,List.length_cons,List.length_nil,Nat.reduceAdd]<;>simp only [chunks,List.take,List.drop,List.map,cGDecision])) (Nat.le_of_ble_eq_true rfl) (q3w n (Gwork.mk p1) ([(GDecision.mk x42 true)]) r52 h53 _) rfl rfl ?_
 refine RS.q rfl (q0k rfl rfl rfl (q0g (cI .i64) und55)) ?_
 refine se ?_
 refine RS.q rfl (q02 rfl rfl (ix_mul _ _ _) rfl) (RS.mv rfl rfl rfl rfl (RS.q rfl (q02 rfl rfl (q8z _ _ _) rfl) ?_))
 repeat refine RS.mv rfl rfl rfl rfl ?_
 refine RS.q rfl (q02 rfl rfl (ix_mul _ _ _) rfl) (RS.q rfl (q02 rfl rfl (q8z _ _ _) rfl) (RS.q (u:=.int .i64 (if (IntKind.i64.wrap ((r4.length:Int) - (IntKind.i64.wrap (2*(r52.length:Int))))) > (IntKind.i64.wrap ((IntKind.i64.wrap (2*(r52.length:Int))) - (r4.length:Int))) then (IntKind.i64.wrap ((r4.length:Int) - (IntKind.i64.wrap (2*(r52.length:Int))))) else (IntKind.i64.wrap ((IntKind.i64.wrap (2*(r52.length:Int))) - (r4.length:Int))))) rfl (op_max rfl rfl rfl rfl rfl rfl rfl) ?_))
 refine sd ?_
 obtain ⟨b55,h56,hF⟩:=q00 hF
 refine WPU.joinK (fun tm σ=>tm=fr 70 [(2,.ptr 1 0 0),(4,.ptr 2 0 0),(5,.isl false (List.map cGDecision r2)),(6,.int .i64 (r4.length:Int)),(7,.ptr 3 0 0),(8,.int .i64 z29),(9,.bool b30),(11,.ptr 4 0 0),(13,.int .i64 (if (IntKind.i64.wrap ((r4.length:Int) - (IntKind.i64.wrap (2*(r52.length:Int))))) > (IntKind.i64.wrap ((IntKind.i64.wrap (2*(r52.length:Int))) - (r4.length:Int))) then (IntKind.i64.wrap ((r4.length:Int) - (IntKind.i64.wrap (2*(r52.length:Int))))) else (IntKind.i64.wrap ((IntKind.i64.wrap (2*(r52.length:Int))) - (r4.length:Int))))),(29,.isl false (List.map cGProp r6)),(30,.int .i64 (r6.length:Int)),(31,.int .i64 z31),(64,.bool b55)]∧σ=⟨[(4,.row (cGProp x42) 33),(3,.row [.int .i64 z32,.str s33,.int .i64 z34,.int .i64 z35] 33),(2,.row (cGSession p1) 53),(1,.row [.int .i64 0,.str [],.int .i64 0,.int .i64 0] 33),(0,.row (cGSession p1) 28)],6⟩) ?_ ?_
 rintro _ _ ⟨rfl,rfl⟩
 refine st ?_
 refine WPU.joinK (fun tm σ=>∃ z58:Int,∃ b59:Bool,∃ z60:Int,∃ s61:List UInt8,∃ z62:Int,∃ z63:Int,q4m z31 (q2f p1 n r2 r4 r6 m1) z58 b59 z60 s61 z62 z63=some r∧tm=fr 70 [(2,.ptr 1 0 0),(4,.ptr 2 0 0),(5,.isl false (List.map cGDecision r2)),(6,.int .i64 (r4.length:Int)),(7,.ptr 3 0 0),(8,.int .i64 z58),(9,.bool b59),(29,.isl false (List.map cGProp r6)),(30,.int .i64 (r6.length:Int)),(31,.int .i64 z31)]∧σ=⟨[(4,.row (cGProp x42) 33),(3,.row [.int .i64 z60,.str s61,.int .i64 z62,.int .i64 z63] 33),(2,.row (cGSession p1) 53),(1,.row [.int .i64 0,.str [],.int .i64 0,.int .i64 0] 33),(0,.row (cGSession p1) 28)],6⟩) ?_ ?_
 rintro _ _ ⟨z58,b59,z60,s61,z62,z63,hF,rfl,rfl⟩
 unfold q4m at hF
 refine sr ?_
 refine RS.q rfl (q02 rfl rfl (q1q _ _ _) rfl) (RS.mv rfl rfl rfl rfl ?_)
 refine sd ?_
 exact ⟨m1,_,_,Nat.lt_succ_self _,⟨z58,b59,(IntKind.i64.wrap (z31+1)),z60,s61,z62,z63,hF,rfl,rfl⟩,(Nat.zero_le _),Gh.toC (n1:=4) ⟨rfl,rfl,rfl,rfl,rfl,rfl,rfl,rfl,rfl,rfl,trivial⟩ rfl (Nat.zero_le _) (by simp)⟩
 refine WPU.condS (t:=b55) rfl (fun h57=>?_) (fun h57=>?_)
 replace hF:=q05 h57 hF
 refine sr ?_
 refine RS.q (u:=.agg (cGProp x42)) rfl (q0a und33 rfl (q01 inf33) rfl rfl rfl) (RS.mv rfl rfl rfl rfl (RS.opn (u:=.junk) (σ':=⟨[(4,.row (cGProp x42) 33),(3,.row (cGProp x42) 33),(2,.row (cGSession p1) 53),(1,.row [.int .i64 0,.str [],.int .i64 0,.int .i64 0] 33),(0,.row (cGSession p1) 28)],6⟩) rfl (q0d (q01 inf33) rfl rfl rfl rfl rfl rfl rfl rfl) rfl ?_))
 repeat refine RS.as rfl rfl rfl rfl ?_
 refine sd ?_
 exact ⟨_,_,⟨(if (IntKind.i64.wrap ((r4.length:Int) - (IntKind.i64.wrap (2*(r52.length:Int))))) > (IntKind.i64.wrap ((IntKind.i64.wrap (2*(r52.length:Int))) - (r4.length:Int))) then (IntKind.i64.wrap ((r4.length:Int) - (IntKind.i64.wrap (2*(r52.length:Int))))) else (IntKind.i64.wrap ((IntKind.i64.wrap (2*(r52.length:Int))) - (r4.length:Int)))),true,x42.Kind,x42.Name,x42.From,x42.To,hF,rfl,rfl⟩,(Nat.zero_le _),Gh.toC (n1:=6) ⟨rfl,rfl,rfl,rfl,rfl,rfl,rfl,rfl,rfl,rfl,trivial⟩ rfl (Nat.zero_le _) (by simp)⟩
 replace hF:=q04 h57 hF
 refine st ?_
 refine WPU.skip ?_
 refine st ?_
 exact ⟨_,_,⟨z29,b30,z32,s33,z34,z35,hF,rfl,rfl⟩,(Nat.zero_le _),Gh.toC (n1:=6) ⟨rfl,rfl,rfl,rfl,rfl,rfl,rfl,rfl,rfl,rfl,trivial⟩ rfl (Nat.zero_le _) (by simp)⟩
 rcases q2r (!b30) with h54 | h54
 replace h56:=q05 h54 h56
 replace h56:=Option.some.inj h56
 subst h56
 refine sr ?_
 refine RS.q (u:=.bool (!b30)) rfl (q7l rfl rfl rfl rfl) (RS.mv rfl rfl rfl rfl ?_)
 repeat refine RS.no (want0 rfl rfl rfl h54) rfl rfl ?_
 refine RS.q (u:=.bool true) rfl (q06 rfl h54 rfl) ?_
 refine sd ?_
 exact ⟨_,_,⟨rfl,rfl⟩,(Nat.zero_le _),Gh.toC (n1:=6) ⟨rfl,rfl,rfl,rfl,rfl,rfl,rfl,rfl,rfl,rfl,rfl,rfl,rfl,trivial⟩ rfl (Nat.zero_le _) (by simp)⟩
 replace h56:=q04 h54 h56
 replace h56:=Option.some.inj h56
 subst h56
 refine sr ?_
 refine RS.q (u:=.bool (!b30)) rfl (q7l rfl rfl rfl rfl) (RS.mv rfl rfl rfl rfl (RS.op (want1 rfl rfl rfl h54) (q0h rfl) rfl rfl (RS.op (want1 rfl rfl rfl h54) (q0h rfl) rfl rfl (RS.op (want1 rfl rfl rfl h54) (q02 rfl rfl (q18 _ _ _) rfl) rfl rfl (RS.q (u:=.bool (decide ((if (IntKind.i64.wrap ((r4.length:Int) - (IntKind.i64.wrap (2*(r52.length:Int))))) > (IntKind.i64.wrap ((IntKind.i64.wrap (2*(r52.length:Int))) - (r4.length:Int))) then (IntKind.i64.wrap ((r4.length:Int) - (IntKind.i64.wrap (2*(r52.length:Int))))) else (IntKind.i64.wrap ((IntKind.i64.wrap (2*(r52.length:Int))) - (r4.length:Int))))<z29))) rfl (q07 rfl h54 rfl) ?_)))))
 refine sd ?_
 exact ⟨_,_,⟨rfl,rfl⟩,(Nat.zero_le _),Gh.toC (n1:=6) ⟨rfl,rfl,rfl,rfl,rfl,rfl,rfl,rfl,rfl,rfl,rfl,rfl,rfl,trivial⟩ rfl (Nat.zero_le _) (by simp)⟩
 obtain ⟨r44,h45,h50⟩:=q00 h50
 rcases q2r r44 with h46 | h46
 replace h50:=q05 h46 h50
 replace h50:=Option.some.inj h50
 subst h50
 refine sr ?_
 refine RS.q (u:=.agg (cGSession p1)) rfl (q0a und53 rfl (q01 inf53) rfl rfl rfl) (RS.q (u:=.agg (cGProp x42)) rfl (q0a und33 rfl (q01 inf33) rfl rfl rfl) (RS.call (u:=.bool r44) (args:=[.agg (cGSession p1),.agg (cGProp x42)]) rfl (q03 rfl rfl fn26 hb26 rfl rfl) (q5i n (Gwork.mk p1) x42 r44 h45 _) rfl rfl (RS.mv rfl rfl rfl rfl ?_)))
 repeat refine RS.no (want0 rfl rfl rfl h46) rfl rfl ?_
 refine RS.q (u:=.bool true) rfl (q06 rfl h46 rfl) ?_
 refine sd ?_
 exact ⟨_,_,⟨rfl,rfl⟩,(Nat.zero_le _),Gh.toC (n1:=5) ⟨rfl,rfl,rfl,rfl,rfl,rfl,rfl,rfl,rfl,rfl,rfl,rfl,trivial⟩ rfl (Nat.zero_le _) (by simp)⟩
 replace h50:=q04 h46 h50
 obtain ⟨r47,h48,h50⟩:=q00 h50
 replace h50:=Option.some.inj h50
 subst h50
 refine sr ?_
 refine RS.q (u:=.agg (cGSession p1)) rfl (q0a und53 rfl (q01 inf53) rfl rfl rfl) (RS.q (u:=.agg (cGProp x42)) rfl (q0a und33 rfl (q01 inf33) rfl rfl rfl) (RS.call (u:=.bool r44) (args:=[.agg (cGSession p1),.agg (cGProp x42)]) rfl (q03 rfl rfl fn26 hb26 rfl rfl) (q5i n (Gwork.mk p1) x42 r44 h45 _) rfl rfl (RS.mv rfl rfl rfl rfl (RS.op (want1 rfl rfl rfl h46) (q0h rfl) rfl rfl (RS.op (want1 rfl rfl rfl h46) (op_fun rfl rfl) rfl rfl ?_)))))
 refine RS.call (u:=.bool r47) (args:=[.isl false (List.map cGDecision r2),.fn (.func 28) [] [.ptr 4 0 0]]) (want1 rfl rfl rfl h46) (q03 rfl rfl fn27 hb27 rfl rfl) (EvU.view (q6m (q3g n) (qcu n) n r2 x42 r47 h48) BUL.h (by simp only [toV,toVL,okL,okC,cond_true]<;>rfl) (fun m=>by simp [ren,renL]) (Gh.fz (tm':=[.isl false (List.map cGDecision r2),.fn (.func 28) [] [.iptr (cGProp x42)]]) (h':=[(3,.row [.int .i64 z32,.str s33,.int .i64 z34,.int .i64 z35] 33),(2,.row (cGSession p1) 53),(1,.row [.int .i64 0,.str [],.int .i64 0,.int .i64 0] 33),(0,.row (cGSession p1) 28)]) 4 (.row [.int .i64 x42.Kind,.str x42.Name,.int .i64 x42.From,.int .i64 x42.To] 33) 4 rfl (by simp) (by simp only [oneU,q0y,q0o,q1z,q11,q22,q15,q14,q13,q12,q10,q20,q21,q1y,q23,q3k,junkT,q96,q9p,q3x,q31,Nat.reduceLeDiff,Nat.reduceMul,List.length_cons,List.length_nil,Nat.reduceAdd]<;>simp only [chunks,List.take,List.drop,List.map,cGProp]) (by simp only [fzH,fzB,ug,Nat.beq,cond_true,cond_false,oneU,q0y,q0o,q1z,q11,q22,q15,q14,q13,q12,q10,q20,q21,q1y,q23,q3k,junkT,q96,q9p,q3x,q31,Nat.reduceLeDiff,Nat.reduceMul,List.length_cons,List.length_nil,Nat.reduceAdd]<;>simp only [chunks,List.take,List.drop,List.map,cGProp]))) rfl rfl ?_
 refine RS.q (u:=.bool r47) rfl (q07 rfl h46 rfl) ?_
 refine sd ?_
 exact ⟨_,_,⟨rfl,rfl⟩,(Nat.zero_le _),Gh.toC (n1:=5) ⟨rfl,rfl,rfl,rfl,rfl,rfl,rfl,rfl,rfl,rfl,rfl,rfl,trivial⟩ rfl (Nat.zero_le _) (by simp)⟩
 replace hF:=q04 h41 hF
 refine st ?_
 refine WPU.exit ?_
 refine st ?_
 exact ⟨_,_,⟨b30,z32,s33,z34,z35,hF,rfl,rfl⟩,(Nat.zero_le _),Gh.toC (n1:=4) ⟨rfl,rfl,rfl,trivial⟩ rfl (Nat.zero_le _) (by simp)⟩
theorem q5t (n:Nat) (p1:GSession) (r:GProp×Bool) (hF:q38 n p1=some r) (σ:Sg):EvU Tryz.prog 8 [.agg (cGSession p1)] σ (fun u σ'=>u = .tup [.agg (cGProp r.1),.bool r.2]∧σ'=σ) :=
 EvU.pure1C (qds n p1 r hF) σ
def q37 (n:Nat) (p1:GSession) (p2:GProp) (p3:Bool):Option (GSession×Int) :=
 cond (p1.State != 0)
  (some (p1,15))
  (bindO (q3j n p1.Readings) fun r5 =>
  bindO (q3p n r5 p2) fun r7 =>
  cond (!r7)
   (some (p1,16))
   (bindO (q2u n (Gwork.mk p1) p2) fun r10 =>
   cond r10
    (some (p1,4))
    (bindO (q1i n (Gwork.mk p1) ([(GDecision.mk p2 p3)])) fun r13 =>
    cond ((r13.length:Int) == 0)
     (some (p1,17))
     (bindO (q2y n p1.Decisions) fun r16 =>
     bindO (q3o n r16) fun r18 =>
     needO ((r18.length+([(GDecision.mk p2 p3)]).length)*48≤140737488355328∧r18.length+([(GDecision.mk p2 p3)]).length≤140737488355328) (
     some ((GSession.mk p1.Readings (r18++[(GDecision.mk p2 p3)]) p1.State),0))))))
theorem qex (n:Nat) (p1:GSession) (p2:GProp) (p3:Bool) (r:GSession×Int) (hF:q37 n p1 p2 p3=some r):EvU Tryz.prog 16 [.agg (cGSession p1),.agg (cGProp p2),.bool p3] ⟨[],0⟩ (fun u _=>u = .tup [.agg (cGSession r.1),.int .i64 r.2]∧Bel 0 u):=by
 unfold q37 at hF
 refine EvU.of_body Tryz.tb_ok fn16 rfl ?_
 refine WPU.ghost (tm':=fr 55 [(0,.agg (cGSession p1)),(1,.agg (cGProp p2)),(2,.bool p3)]) (Gh.start (Nat.le_of_ble_eq_true rfl)) (Nat.zero_le _) ?_
 refine sr ?_
 refine RS.q (u:=.ptr 0 0 0) (σ':=⟨[(0,.row (cGSession p1) 28)],1⟩) rfl (q2j rfl rfl rfl) (RS.q (u:=.ptr 1 0 0) (σ':=⟨[(1,.row (cGProp p2) 33),(0,.row (cGSession p1) 28)],2⟩) rfl (q2j rfl rfl rfl) (RS.q (u:=.ptr 2 0 0) (σ':=⟨[(2,.row [.nils,.nils,.int .i64 0] 28),(1,.row (cGProp p2) 33),(0,.row (cGSession p1) 28)],3⟩) rfl (q0v inf28 rfl rfl) ?_))
 refine se ?_
 refine RS.q (u:=.agg (cGSession p1)) rfl (q0a und28 rfl (q01 inf28) rfl rfl rfl) (RS.q (u:=.agg (cGSession p1)) rfl (q4d bd53 rfl rfl rfl) (RS.q (u:=.ptr 3 0 0) (σ':=⟨[(3,.row [.nils,.nils,.int .i64 0] 53),(2,.row [.nils,.nils,.int .i64 0] 28),(1,.row (cGProp p2) 33),(0,.row (cGSession p1) 28)],4⟩) rfl (q0v inf53 rfl rfl) (RS.opn (u:=.junk) (σ':=⟨[(3,.row (cGSession p1) 53),(2,.row [.nils,.nils,.int .i64 0] 28),(1,.row (cGProp p2) 33),(0,.row (cGSession p1) 28)],4⟩) rfl (q0d (q01 inf53) rfl rfl rfl rfl rfl rfl rfl rfl) rfl ?_)))
 refine se ?_
 refine RS.q (u:=.agg (cGProp p2)) rfl (q0a und33 rfl (q01 inf33) rfl rfl rfl) (RS.mv rfl rfl rfl rfl (RS.q (u:=.agg [.int .i64 p2.Kind,.str p2.Name,.int .i64 p2.From,.int .i64 p2.To,.bool p3]) rfl (q4d bd62 rfl rfl rfl) (RS.q (u:=.ptr 4 0 0) (σ':=⟨[(4,.row [.int .i64 0,.str [],.int .i64 0,.int .i64 0,.bool false] 62),(3,.row (cGSession p1) 53),(2,.row [.nils,.nils,.int .i64 0] 28),(1,.row (cGProp p2) 33),(0,.row (cGSession p1) 28)],5⟩) rfl (q0v inf62 rfl rfl) (RS.opn (u:=.junk) (σ':=⟨[(4,.row [.int .i64 p2.Kind,.str p2.Name,.int .i64 p2.From,.int .i64 p2.To,.bool p3] 62),(3,.row (cGSession p1) 53),(2,.row [.nils,.nils,.int .i64 0] 28),(1,.row (cGProp p2) 33),(0,.row (cGSession p1) 28)],5⟩) rfl (q0d (q01 inf62) rfl rfl rfl rfl rfl rfl rfl rfl) rfl ?_))))
 refine sd ?_
 refine WPU.block ?_
 refine sr ?_
 refine RS.q (u:=.ptr 3 0 0) rfl (q0c und53 rfl (q01 inf28) rfl rfl rfl) (RS.q (u:=.ptr 3 0 2) rfl (q0c und28 rfl (q01 inf3) rfl rfl rfl) (RS.q (u:=.int .i64 p1.State) rfl (q09 und3 rfl rfl rfl rfl) (RS.q rfl (q02 rfl rfl (q52 _ _ _) rfl) ?_)))
 refine sd ?_
 refine WPU.condS (t:=(p1.State != 0)) rfl (fun h4=>?_) (fun h4=>?_)
 replace hF:=q05 h4 hF
 refine sr ?_
 refine RS.q (u:=.agg (cGSession p1)) rfl (q0a und28 rfl (q01 inf28) rfl rfl rfl) (RS.opn (u:=.junk) (σ':=⟨[(4,.row [.int .i64 p2.Kind,.str p2.Name,.int .i64 p2.From,.int .i64 p2.To,.bool p3] 62),(3,.row (cGSession p1) 53),(2,.row (cGSession p1) 28),(1,.row (cGProp p2) 33),(0,.row (cGSession p1) 28)],5⟩) rfl (q0d (q01 inf28) rfl rfl rfl rfl rfl rfl rfl rfl) rfl ?_)
 refine sd ?_
 refine WPU.ret ?_
 refine st ?_
 have hr:=Option.some.inj hF
 subst hr
 exact ⟨.inr rfl,[.agg (cGSession p1),.int .i64 15],q5f (q0a und28 rfl (q01 inf28) rfl rfl rfl) (q0l rfl (q0i)),.tup [.agg (cGSession p1),.int .i64 15],⟨[],0⟩,Nat.le_refl _,Gh.toR (.tup [.agg (cGSession p1),.int .i64 15]) rfl,rfl,BU.h⟩
 replace hF:=q04 h4 hF
 refine st ?_
 obtain ⟨r5,h6,hF⟩:=q00 hF
 obtain ⟨r7,h8,hF⟩:=q00 hF
 refine WPU.drawE Tryz.tb_ok [] (by kernel_rfl) ?_
 refine RD.q (u:=.ptr 3 0 0) rfl (q0c und53 rfl (q01 inf28) rfl rfl rfl) (RD.q (u:=.ptr 3 0 0) rfl (q0c und28 rfl (q01 inf22) rfl rfl rfl) (RD.q (u:=.isl false (List.map cGDeriv p1.Readings)) rfl (q09 und22 rfl rfl rfl rfl) (RD.free (u:=.isl false (List.map cGProp r5)) (args:=[.isl false (List.map cGDeriv p1.Readings)]) rfl (q03 rfl rfl fn25 hb25 rfl rfl) (fun s=>q9n n p1.Readings r5 h6 s) rfl rfl (RD.q (u:=.agg (cGProp p2)) rfl (q0a und33 rfl (q01 inf33) rfl rfl rfl) (RD.free (u:=.bool r7) (args:=[.isl false (List.map cGProp r5),.agg (cGProp p2)]) rfl (q03 rfl rfl fn44 hb44 rfl rfl) (fun s=>qbv n r5 p2 r7 h8 s) rfl rfl (RD.q (u:=.bool (!r7)) rfl (q7l rfl rfl rfl rfl) (RD.as rfl rfl rfl rfl ?_)))))))
 refine RD.done ⟨by kernel_rfl,trivial,?_⟩
 refine st ?_
 refine WPU.condS (t:=(!r7)) rfl (fun h9=>?_) (fun h9=>?_)
 replace hF:=q05 h9 hF
 refine sr ?_
 refine RS.q (u:=.agg (cGSession p1)) rfl (q0a und28 rfl (q01 inf28) rfl rfl rfl) (RS.opn (u:=.junk) (σ':=⟨[(4,.row [.int .i64 p2.Kind,.str p2.Name,.int .i64 p2.From,.int .i64 p2.To,.bool p3] 62),(3,.row (cGSession p1) 53),(2,.row (cGSession p1) 28),(1,.row (cGProp p2) 33),(0,.row (cGSession p1) 28)],5⟩) rfl (q0d (q01 inf28) rfl rfl rfl rfl rfl rfl rfl rfl) rfl ?_)
 refine sd ?_
 refine WPU.ret ?_
 refine st ?_
 have hr:=Option.some.inj hF
 subst hr
 exact ⟨.inr rfl,[.agg (cGSession p1),.int .i64 16],q5f (q0a und28 rfl (q01 inf28) rfl rfl rfl) (q0l rfl (q0i)),.tup [.agg (cGSession p1),.int .i64 16],⟨[],0⟩,Nat.le_refl _,Gh.toR (.tup [.agg (cGSession p1),.int .i64 16]) rfl,rfl,BU.h⟩
 replace hF:=q04 h9 hF
 refine st ?_
 obtain ⟨r10,h11,hF⟩:=q00 hF
 refine sr ?_
 refine RS.q (u:=.agg (cGSession p1)) rfl (q0a und53 rfl (q01 inf53) rfl rfl rfl) (RS.q (u:=.agg (cGProp p2)) rfl (q0a und33 rfl (q01 inf33) rfl rfl rfl) (RS.call (u:=.bool r10) (args:=[.agg (cGSession p1),.agg (cGProp p2)]) rfl (q03 rfl rfl fn26 hb26 rfl rfl) (q5i n (Gwork.mk p1) p2 r10 h11 _) rfl rfl ?_))
 refine sd ?_
 refine WPU.condS (t:=r10) rfl (fun h12=>?_) (fun h12=>?_)
 replace hF:=q05 h12 hF
 refine sr ?_
 refine RS.q (u:=.agg (cGSession p1)) rfl (q0a und28 rfl (q01 inf28) rfl rfl rfl) (RS.opn (u:=.junk) (σ':=⟨[(4,.row [.int .i64 p2.Kind,.str p2.Name,.int .i64 p2.From,.int .i64 p2.To,.bool p3] 62),(3,.row (cGSession p1) 53),(2,.row (cGSession p1) 28),(1,.row (cGProp p2) 33),(0,.row (cGSession p1) 28)],5⟩) rfl (q0d (q01 inf28) rfl rfl rfl rfl rfl rfl rfl rfl) rfl ?_)
 refine sd ?_
 refine WPU.ret ?_
 refine st ?_
 have hr:=Option.some.inj hF
 subst hr
 exact ⟨.inr rfl,[.agg (cGSession p1),.int .i64 4],q5f (q0a und28 rfl (q01 inf28) rfl rfl rfl) (q0l rfl (q0i)),.tup [.agg (cGSession p1),.int .i64 4],⟨[],0⟩,Nat.le_refl _,Gh.toR (.tup [.agg (cGSession p1),.int .i64 4]) rfl,rfl,BU.h⟩
 replace hF:=q04 h12 hF
 refine st ?_
 obtain ⟨r13,h14,hF⟩:=q00 hF
 refine sr ?_
 refine RS.q (u:=.agg (cGSession p1)) rfl (q0a und53 rfl (q01 inf53) rfl rfl rfl) (RS.q (u:=.agg [.int .i64 p2.Kind,.str p2.Name,.int .i64 p2.From,.int .i64 p2.To,.bool p3]) rfl (q0a und62 rfl (q01 inf62) rfl rfl rfl) (RS.q (u:=.sl 5 0 1 1) (σ':=⟨[(5,.row [.int .i64 p2.Kind,.str p2.Name,.int .i64 p2.From,.int .i64 p2.To,.bool p3] 62),(4,.row [.int .i64 p2.Kind,.str p2.Name,.int .i64 p2.From,.int .i64 p2.To,.bool p3] 62),(3,.row (cGSession p1) 53),(2,.row [.nils,.nils,.int .i64 0] 28),(1,.row (cGProp p2) 33),(0,.row (cGSession p1) 28)],6⟩) rfl (q4g und26 inf62 rfl rfl rfl rfl rfl rfl rfl) ?_))
 refine RS.fcall (u:=.isl false (List.map (cI .i64) r13)) (args:=[.agg (cGSession p1),.sl 5 0 1 1]) (σ1:=⟨[(4,.row [.int .i64 p2.Kind,.str p2.Name,.int .i64 p2.From,.int .i64 p2.To,.bool p3] 62),(3,.row (cGSession p1) 53),(2,.row [.nils,.nils,.int .i64 0] 28),(1,.row (cGProp p2) 33),(0,.row (cGSession p1) 28)],6⟩) rfl (q03 rfl rfl fn24 hb24 rfl rfl) (Gh.fz (tm':=[.agg (cGSession p1),.isl false (List.map cGDecision ([(GDecision.mk p2 p3)]))]) (h':=[(4,.row [.int .i64 p2.Kind,.str p2.Name,.int .i64 p2.From,.int .i64 p2.To,.bool p3] 62),(3,.row (cGSession p1) 53),(2,.row [.nils,.nils,.int .i64 0] 28),(1,.row (cGProp p2) 33),(0,.row (cGSession p1) 28)]) 5 (.row [.int .i64 p2.Kind,.str p2.Name,.int .i64 p2.From,.int .i64 p2.To,.bool p3] 62) 5 rfl (by simp) (by simp only [oneU,q0y,q0o,q1z,q11,q22,q15,q14,q13,q12,q10,q20,q21,q1y,q23,q3k,junkT,q96,q9p,q3x,q31,Nat.reduceLeDiff,Nat.reduceMul,List.length_cons,List.length_nil,Nat.reduceAdd]<;>simp only [chunks,List.take,List.drop,List.map,cGDecision]) (by simp only [fzH,fzB,ug,Nat.beq,cond_true,cond_false,oneU,q0y,q0o,q1z,q11,q22,q15,q14,q13,q12,q10,q20,q21,q1y,q23,q3k,junkT,q96,q9p,q3x,q31,Nat.reduceLeDiff,Nat.reduceMul,List.length_cons,List.length_nil,Nat.reduceAdd]<;>simp only [chunks,List.take,List.drop,List.map,cGDecision])) (Nat.le_of_ble_eq_true rfl) (q3w n (Gwork.mk p1) ([(GDecision.mk p2 p3)]) r13 h14 _) rfl rfl ?_
 refine RS.q rfl (q0k rfl rfl rfl (q0g (cI .i64) und55)) (RS.q rfl (q02 rfl rfl (q0j _ _ _) rfl) ?_)
 refine sd ?_
 refine WPU.condS (t:=((r13.length:Int) == 0)) rfl (fun h15=>?_) (fun h15=>?_)
 replace hF:=q05 h15 hF
 refine sr ?_
 refine RS.q (u:=.agg (cGSession p1)) rfl (q0a und28 rfl (q01 inf28) rfl rfl rfl) (RS.opn (u:=.junk) (σ':=⟨[(4,.row [.int .i64 p2.Kind,.str p2.Name,.int .i64 p2.From,.int .i64 p2.To,.bool p3] 62),(3,.row (cGSession p1) 53),(2,.row (cGSession p1) 28),(1,.row (cGProp p2) 33),(0,.row (cGSession p1) 28)],6⟩) rfl (q0d (q01 inf28) rfl rfl rfl rfl rfl rfl rfl rfl) rfl ?_)
 refine sd ?_
 refine WPU.ret ?_
 refine st ?_
 have hr:=Option.some.inj hF
 subst hr
 exact ⟨.inr rfl,[.agg (cGSession p1),.int .i64 17],q5f (q0a und28 rfl (q01 inf28) rfl rfl rfl) (q0l rfl (q0i)),.tup [.agg (cGSession p1),.int .i64 17],⟨[],0⟩,Nat.le_refl _,Gh.toR (.tup [.agg (cGSession p1),.int .i64 17]) rfl,rfl,BU.h⟩
 replace hF:=q04 h15 hF
 refine st ?_
 refine WPU.skip ?_
 refine st ?_
 obtain ⟨r16,h17,hF⟩:=q00 hF
 obtain ⟨r18,h19,hF⟩:=q00 hF
 obtain ⟨h20,hF⟩:=q0n hF
 refine WPU.drawE Tryz.tb_ok [] (by kernel_rfl) ?_
 refine RD.q (u:=.ptr 3 0 0) rfl (q0c und53 rfl (q01 inf28) rfl rfl rfl) (RD.q (u:=.ptr 3 0 1) rfl (q0c und28 rfl (q01 inf26) rfl rfl rfl) (RD.q (u:=.isl false (List.map cGDecision p1.Decisions)) rfl (q09 und26 rfl rfl rfl rfl) (RD.free (u:=.isl false (List.map cGDecision r16)) (args:=[.isl false (List.map cGDecision p1.Decisions)]) rfl (q03 rfl rfl fn46 hb46 rfl rfl) (fun s=>q8g n p1.Decisions r16 h17 s) rfl rfl (RD.free (u:=.isl true (List.map cGDecision r18)) (args:=[.isl false (List.map cGDecision r16)]) rfl (q03 rfl rfl fn45 hb45 rfl rfl) (fun s=>qbt n r16 r18 h19 s) rfl rfl (RD.q (u:=.agg [.int .i64 p2.Kind,.str p2.Name,.int .i64 p2.From,.int .i64 p2.To,.bool p3]) rfl (q0a und62 rfl (q01 inf62) rfl rfl rfl) (RD.freeO (u:=.isl false (List.map cGDecision ([(GDecision.mk p2 p3)]))) rfl (FreeO.bs (cs:=[.int .i64 p2.Kind,.str p2.Name,.int .i64 p2.From,.int .i64 p2.To,.bool p3]) und26 inf62 rfl rfl rfl rfl rfl rfl rfl rfl rfl) rfl rfl (RD.act (u:=.vl 6 0 0 ((r18++[(GDecision.mk p2 p3)]).length)) (σ':=⟨[(6,.vec (List.map cGDecision (r18++[(GDecision.mk p2 p3)])).flatten 62 5 0),(4,.row [.int .i64 p2.Kind,.str p2.Name,.int .i64 p2.From,.int .i64 p2.To,.bool p3] 62),(3,.row (cGSession p1) 53),(2,.row [.nils,.nils,.int .i64 0] 28),(1,.row (cGProp p2) 33),(0,.row (cGSession p1) 28)],7⟩) rfl (q7i rfl rfl rfl rfl (app_full cGDecision ([(GDecision.mk p2 p3)]) und26 und26 inf62 rfl q0f (qi9 cGDecision q0f) (Nat.le_of_ble_eq_true rfl) h20)) rfl rfl ?_)))))))
 refine RD.q (u:=.ptr 3 0 0) rfl (q0c und53 rfl (q01 inf28) rfl rfl rfl) (RD.q (u:=.ptr 3 0 1) rfl (q0c und28 rfl (q01 inf26) rfl rfl rfl) (RD.actn (u:=.junk) (σ':=⟨[(6,.vec (List.map cGDecision (r18++[(GDecision.mk p2 p3)])).flatten 62 5 0),(4,.row [.int .i64 p2.Kind,.str p2.Name,.int .i64 p2.From,.int .i64 p2.To,.bool p3] 62),(3,.row [.isl false (List.map cGDeriv p1.Readings),.vl 6 0 0 ((r18++[(GDecision.mk p2 p3)]).length),.int .i64 p1.State] 53),(2,.row [.nils,.nils,.int .i64 0] 28),(1,.row (cGProp p2) 33),(0,.row (cGSession p1) 28)],7⟩) rfl (q0d (q01 inf26) rfl rfl rfl rfl rfl rfl rfl rfl) rfl ?_))
 refine RD.done ⟨by kernel_rfl,trivial,?_⟩
 refine sr ?_
 refine RS.q (u:=.ptr 3 0 0) rfl (q0c und53 rfl (q01 inf28) rfl rfl rfl) (RS.q (u:=.agg [.isl false (List.map cGDeriv p1.Readings),.vl 6 0 0 ((r18++[(GDecision.mk p2 p3)]).length),.int .i64 p1.State]) rfl (q0a und28 rfl (q01 inf28) rfl rfl rfl) (RS.opn (u:=.junk) (σ':=⟨[(6,.vec (List.map cGDecision (r18++[(GDecision.mk p2 p3)])).flatten 62 5 0),(4,.row [.int .i64 p2.Kind,.str p2.Name,.int .i64 p2.From,.int .i64 p2.To,.bool p3] 62),(3,.row [.isl false (List.map cGDeriv p1.Readings),.vl 6 0 0 ((r18++[(GDecision.mk p2 p3)]).length),.int .i64 p1.State] 53),(2,.row [.isl false (List.map cGDeriv p1.Readings),.vl 6 0 0 ((r18++[(GDecision.mk p2 p3)]).length),.int .i64 p1.State] 28),(1,.row (cGProp p2) 33),(0,.row (cGSession p1) 28)],7⟩) rfl (q0d (q01 inf28) rfl rfl rfl rfl rfl rfl rfl rfl) rfl ?_))
 refine sd ?_
 refine WPU.ret ?_
 refine st ?_
 have hr:=Option.some.inj hF
 subst hr
 exact ⟨.inr rfl,[.agg [.isl false (List.map cGDeriv p1.Readings),.vl 6 0 0 ((r18++[(GDecision.mk p2 p3)]).length),.int .i64 p1.State],.int .i64 0],q5f (q0a und28 rfl (q01 inf28) rfl rfl rfl) (q0l rfl (q0i)),.tup [.agg [.isl false (List.map cGDeriv p1.Readings),.isl false (List.map cGDecision (r18++[(GDecision.mk p2 p3)])),.int .i64 p1.State],.int .i64 0],⟨[],0⟩,Nat.le_refl _,Gh.trans (Gh.fz (tm':=[.tup [.agg [.isl false (List.map cGDeriv p1.Readings),.isl false (List.map cGDecision (r18++[(GDecision.mk p2 p3)])),.int .i64 p1.State],.int .i64 0]]) (h':=[(4,.row [.int .i64 p2.Kind,.str p2.Name,.int .i64 p2.From,.int .i64 p2.To,.bool p3] 62),(3,.row [.isl false (List.map cGDeriv p1.Readings),.isl false (List.map cGDecision (r18++[(GDecision.mk p2 p3)])),.int .i64 p1.State] 53),(2,.row [.isl false (List.map cGDeriv p1.Readings),.isl false (List.map cGDecision (r18++[(GDecision.mk p2 p3)])),.int .i64 p1.State] 28),(1,.row (cGProp p2) 33),(0,.row (cGSession p1) 28)]) 6 (.vec (List.map cGDecision (r18++[(GDecision.mk p2 p3)])).flatten 62 5 0) 5 rfl (by simp) (by simp only [oneU,q0y,q0o,q1z,q11,q22,q15,q14,q13,q12,q10,q20,q21,q1y,q23,q3k,junkT,q8i q0f,q3x,q31]) (by simp only [fzH,fzB,ug,Nat.beq,cond_true,cond_false,oneU,q0y,q0o,q1z,q11,q22,q15,q14,q13,q12,q10,q20,q21,q1y,q23,q3k,junkT,q8i q0f,q3x,q31])) (Gh.toR (.tup [.agg [.isl false (List.map cGDeriv p1.Readings),.isl false (List.map cGDecision (r18++[(GDecision.mk p2 p3)])),.int .i64 p1.State],.int .i64 0]) rfl),rfl,BU.h⟩
theorem q4z (n:Nat) (p1:GSession) (p2:GProp) (p3:Bool) (r:GSession×Int) (hF:q37 n p1 p2 p3=some r) (σ:Sg):EvU Tryz.prog 16 [.agg (cGSession p1),.agg (cGProp p2),.bool p3] σ (fun u σ'=>u = .tup [.agg (cGSession r.1),.int .i64 r.2]∧σ'=σ) :=
 EvU.pure1C (qex n p1 p2 p3 r hF) σ
def q4l (n:Nat) (p1:GSession):Option (GSession×Int) :=
 cond (p1.State != 0)
  (some (p1,15))
  (bindO (q1i n (Gwork.mk p1) []) fun r3 =>
  cond ((r3.length:Int) != 1)
   (some (p1,17))
   (some ((GSession.mk p1.Readings p1.Decisions 1),0)))
theorem qew (n:Nat) (p1:GSession) (r:GSession×Int) (hF:q4l n p1=some r):EvU Tryz.prog 15 [.agg (cGSession p1)] ⟨[],0⟩ (fun u _=>u = .tup [.agg (cGSession r.1),.int .i64 r.2]∧Bel 0 u):=by
 unfold q4l at hF
 refine EvU.of_body Tryz.tb_ok fn15 rfl ?_
 refine WPU.ghost (tm':=fr 21 [(0,.agg (cGSession p1))]) (Gh.start (Nat.le_of_ble_eq_true rfl)) (Nat.zero_le _) ?_
 refine sr ?_
 refine RS.q (u:=.ptr 0 0 0) (σ':=⟨[(0,.row (cGSession p1) 28)],1⟩) rfl (q2j rfl rfl rfl) (RS.q (u:=.ptr 1 0 0) (σ':=⟨[(1,.row [.nils,.nils,.int .i64 0] 28),(0,.row (cGSession p1) 28)],2⟩) rfl (q0v inf28 rfl rfl) ?_)
 refine se ?_
 refine RS.q (u:=.agg (cGSession p1)) rfl (q0a und28 rfl (q01 inf28) rfl rfl rfl) (RS.q (u:=.agg (cGSession p1)) rfl (q4d bd53 rfl rfl rfl) (RS.q (u:=.ptr 2 0 0) (σ':=⟨[(2,.row [.nils,.nils,.int .i64 0] 53),(1,.row [.nils,.nils,.int .i64 0] 28),(0,.row (cGSession p1) 28)],3⟩) rfl (q0v inf53 rfl rfl) (RS.opn (u:=.junk) (σ':=⟨[(2,.row (cGSession p1) 53),(1,.row [.nils,.nils,.int .i64 0] 28),(0,.row (cGSession p1) 28)],3⟩) rfl (q0d (q01 inf53) rfl rfl rfl rfl rfl rfl rfl rfl) rfl ?_)))
 refine se ?_
 refine RS.q (u:=.ptr 2 0 0) rfl (q0c und53 rfl (q01 inf28) rfl rfl rfl) (RS.q (u:=.ptr 2 0 2) rfl (q0c und28 rfl (q01 inf3) rfl rfl rfl) (RS.q (u:=.int .i64 p1.State) rfl (q09 und3 rfl rfl rfl rfl) (RS.q rfl (q02 rfl rfl (q52 _ _ _) rfl) ?_)))
 refine sd ?_
 refine WPU.condS (t:=(p1.State != 0)) rfl (fun h2=>?_) (fun h2=>?_)
 replace hF:=q05 h2 hF
 refine sr ?_
 refine RS.q (u:=.agg (cGSession p1)) rfl (q0a und28 rfl (q01 inf28) rfl rfl rfl) (RS.opn (u:=.junk) (σ':=⟨[(2,.row (cGSession p1) 53),(1,.row (cGSession p1) 28),(0,.row (cGSession p1) 28)],3⟩) rfl (q0d (q01 inf28) rfl rfl rfl rfl rfl rfl rfl rfl) rfl ?_)
 refine sd ?_
 refine WPU.ret ?_
 refine st ?_
 have hr:=Option.some.inj hF
 subst hr
 exact ⟨.inr rfl,[.agg (cGSession p1),.int .i64 15],q5f (q0a und28 rfl (q01 inf28) rfl rfl rfl) (q0l rfl (q0i)),.tup [.agg (cGSession p1),.int .i64 15],⟨[],0⟩,Nat.le_refl _,Gh.toR (.tup [.agg (cGSession p1),.int .i64 15]) rfl,rfl,BU.h⟩
 replace hF:=q04 h2 hF
 refine st ?_
 refine WPU.skip ?_
 refine st ?_
 obtain ⟨r3,h4,hF⟩:=q00 hF
 refine sr ?_
 refine RS.q (u:=.agg (cGSession p1)) rfl (q0a und53 rfl (q01 inf53) rfl rfl rfl) (RS.call (u:=.isl false (List.map (cI .i64) r3)) (args:=[.agg (cGSession p1),.nils]) rfl (q03 rfl rfl fn24 hb24 rfl rfl) (EvU.wkA (args':=[.agg (cGSession p1),.isl false []]) (.cons (.refl _) (.cons (.nil false) .nil)) (fun s=>q3w n (Gwork.mk p1) [] r3 h4 s) _) rfl rfl (RS.q rfl (q0k rfl rfl rfl (q0g (cI .i64) und55)) (RS.q rfl (q02 rfl rfl (q52 _ _ _) rfl) ?_)))
 refine sd ?_
 refine WPU.condS (t:=((r3.length:Int) != 1)) rfl (fun h5=>?_) (fun h5=>?_)
 replace hF:=q05 h5 hF
 refine sr ?_
 refine RS.q (u:=.agg (cGSession p1)) rfl (q0a und28 rfl (q01 inf28) rfl rfl rfl) (RS.opn (u:=.junk) (σ':=⟨[(2,.row (cGSession p1) 53),(1,.row (cGSession p1) 28),(0,.row (cGSession p1) 28)],3⟩) rfl (q0d (q01 inf28) rfl rfl rfl rfl rfl rfl rfl rfl) rfl ?_)
 refine sd ?_
 refine WPU.ret ?_
 refine st ?_
 have hr:=Option.some.inj hF
 subst hr
 exact ⟨.inr rfl,[.agg (cGSession p1),.int .i64 17],q5f (q0a und28 rfl (q01 inf28) rfl rfl rfl) (q0l rfl (q0i)),.tup [.agg (cGSession p1),.int .i64 17],⟨[],0⟩,Nat.le_refl _,Gh.toR (.tup [.agg (cGSession p1),.int .i64 17]) rfl,rfl,BU.h⟩
 replace hF:=q04 h5 hF
 refine st ?_
 refine WPU.skip ?_
 refine sr ?_
 refine RS.q (u:=.ptr 2 0 0) rfl (q0c und53 rfl (q01 inf28) rfl rfl rfl) (RS.q (u:=.ptr 2 0 2) rfl (q0c und28 rfl (q01 inf3) rfl rfl rfl) (RS.opn (u:=.junk) (σ':=⟨[(2,.row [.isl false (List.map cGDeriv p1.Readings),.isl false (List.map cGDecision p1.Decisions),.int .i64 1] 53),(1,.row [.nils,.nils,.int .i64 0] 28),(0,.row (cGSession p1) 28)],3⟩) rfl (q0d (q01 inf3) rfl rfl rfl rfl rfl rfl rfl rfl) rfl ?_))
 refine se ?_
 refine RS.q (u:=.ptr 2 0 0) rfl (q0c und53 rfl (q01 inf28) rfl rfl rfl) (RS.q (u:=.agg [.isl false (List.map cGDeriv p1.Readings),.isl false (List.map cGDecision p1.Decisions),.int .i64 1]) rfl (q0a und28 rfl (q01 inf28) rfl rfl rfl) (RS.opn (u:=.junk) (σ':=⟨[(2,.row [.isl false (List.map cGDeriv p1.Readings),.isl false (List.map cGDecision p1.Decisions),.int .i64 1] 53),(1,.row [.isl false (List.map cGDeriv p1.Readings),.isl false (List.map cGDecision p1.Decisions),.int .i64 1] 28),(0,.row (cGSession p1) 28)],3⟩) rfl (q0d (q01 inf28) rfl rfl rfl rfl rfl rfl rfl rfl) rfl ?_))
 refine sd ?_
 refine WPU.ret ?_
 refine st ?_
 have hr:=Option.some.inj hF
 subst hr
 exact ⟨.inr rfl,[.agg [.isl false (List.map cGDeriv p1.Readings),.isl false (List.map cGDecision p1.Decisions),.int .i64 1],.int .i64 0],q5f (q0a und28 rfl (q01 inf28) rfl rfl rfl) (q0l rfl (q0i)),.tup [.agg [.isl false (List.map cGDeriv p1.Readings),.isl false (List.map cGDecision p1.Decisions),.int .i64 1],.int .i64 0],⟨[],0⟩,Nat.le_refl _,Gh.toR (.tup [.agg [.isl false (List.map cGDeriv p1.Readings),.isl false (List.map cGDecision p1.Decisions),.int .i64 1],.int .i64 0]) rfl,rfl,BU.h⟩
theorem qap (n:Nat) (p1:GSession) (r:GSession×Int) (hF:q4l n p1=some r) (σ:Sg):EvU Tryz.prog 15 [.agg (cGSession p1)] σ (fun u σ'=>u = .tup [.agg (cGSession r.1),.int .i64 r.2]∧σ'=σ) :=
 EvU.pure1C (qew n p1 r hF) σ
def q77 (n:Nat) (p1:GSession) (p2:GStep):Option (GSession×Int) :=
 cond ((p2.Op.tmod 6) == 0)
  (bindO (q37 n p1 p2.Propx p2.Yes) fun r5 =>
  some ((GSession.mk r5.1.Readings r5.1.Decisions r5.1.State),r5.2))
  (cond ((p2.Op.tmod 6) == 1)
   (bindO (q73 n p1) fun r8 =>
   some ((GSession.mk r8.1.Readings r8.1.Decisions r8.1.State),r8.2))
   (cond ((p2.Op.tmod 6) == 2)
    (bindO (q4l n p1) fun r11 =>
    some ((GSession.mk r11.1.Readings r11.1.Decisions r11.1.State),r11.2))
    (cond ((p2.Op.tmod 6) == 3)
     (bindO (q5h n p1) fun r14 =>
     some ((GSession.mk r14.1.Readings r14.1.Decisions r14.1.State),r14.2))
     (bindO (q38 n p1) fun r16 =>
     bindO (q37 n p1 (GProp.mk r16.1.Kind r16.1.Name r16.1.From r16.1.To) p2.Yes) fun r18 =>
     some ((GSession.mk r18.1.Readings r18.1.Decisions r18.1.State),r18.2)))))
theorem qhl (n:Nat) (p1:GSession) (p2:GStep) (r:GSession×Int) (hF:q77 n p1 p2=some r):EvU Tryz.prog 10 [.agg (cGSession p1),.agg (cGStep p2)] ⟨[],0⟩ (fun u _=>u = .tup [.agg (cGSession r.1),.int .i64 r.2]∧Bel 0 u):=by
 unfold q77 at hF
 refine EvU.of_body Tryz.tb_ok fn10 rfl ?_
 refine WPU.ghost (tm':=fr 51 [(0,.agg (cGSession p1)),(1,.agg (cGStep p2))]) (Gh.start (Nat.le_of_ble_eq_true rfl)) (Nat.zero_le _) ?_
 refine sr ?_
 refine RS.q (u:=.ptr 0 0 0) (σ':=⟨[(0,.row (cGSession p1) 28)],1⟩) rfl (q2j rfl rfl rfl) (RS.q (u:=.ptr 1 0 0) (σ':=⟨[(1,.row (cGStep p2) 35),(0,.row (cGSession p1) 28)],2⟩) rfl (q2j rfl rfl rfl) (RS.q (u:=.ptr 2 0 0) (σ':=⟨[(2,.row [.nils,.nils,.int .i64 0] 28),(1,.row (cGStep p2) 35),(0,.row (cGSession p1) 28)],3⟩) rfl (q0v inf28 rfl rfl) ?_))
 refine se ?_
 refine RS.q (u:=.ptr 1 0 0) rfl (q0c und35 rfl (q01 inf5) rfl rfl rfl) (RS.q (u:=.int .u8 p2.Op) rfl (q09 und5 rfl rfl rfl rfl) ?_)
 refine RS.q rfl (q02 rfl rfl (ix_rem _ (by decide)) rfl) ?_
 refine sd ?_
 refine WPU.block ?_
 refine sr ?_
 refine RS.q rfl (q02 rfl rfl (q0j _ _ _) rfl) ?_
 refine sd ?_
 refine WPU.condS (t:=((p2.Op.tmod 6) == 0)) rfl (fun h4=>?_) (fun h4=>?_)
 replace hF:=q05 h4 hF
 refine st ?_
 obtain ⟨r5,h6,hF⟩:=q00 hF
 refine sr ?_
 refine RS.q (u:=.agg (cGSession p1)) rfl (q0a und28 rfl (q01 inf28) rfl rfl rfl) (RS.q (u:=.ptr 1 0 1) rfl (q0c und35 rfl (q01 inf33) rfl rfl rfl) (RS.q (u:=.agg (cGProp p2.Propx)) rfl (q0a und33 rfl (q01 inf33) rfl rfl rfl) (RS.q (u:=.ptr 1 0 5) rfl (q0c und35 rfl (q01 inf4) rfl rfl rfl) (RS.q (u:=.bool p2.Yes) rfl (q09 und4 rfl rfl rfl rfl) (RS.call (u:=.tup [.agg (cGSession r5.1),.int .i64 r5.2]) (args:=[.agg (cGSession p1),.agg (cGProp p2.Propx),.bool p2.Yes]) rfl (q03 rfl rfl fn16 hb16 rfl rfl) (q4z n p1 p2.Propx p2.Yes r5 h6 _) rfl rfl (RS.q rfl (q26 rfl rfl) (RS.q rfl (q26 rfl rfl) ?_)))))))
 refine RS.opn (u:=.junk) (σ':=⟨[(2,.row (cGSession r5.1) 28),(1,.row (cGStep p2) 35),(0,.row (cGSession p1) 28)],3⟩) rfl (q0d (q01 inf28) rfl rfl rfl rfl rfl rfl rfl rfl) rfl ?_
 refine sd ?_
 refine WPU.ret ?_
 refine st ?_
 have hr:=Option.some.inj hF
 subst hr
 exact ⟨.inr rfl,[.agg (cGSession r5.1),.int .i64 r5.2],q5f (q0a und28 rfl (q01 inf28) rfl rfl rfl) (q0l rfl (q0i)),.tup [.agg (cGSession r5.1),.int .i64 r5.2],⟨[],0⟩,Nat.le_refl _,Gh.toR (.tup [.agg (cGSession r5.1),.int .i64 r5.2]) rfl,rfl,BU.h⟩
 replace hF:=q04 h4 hF
 refine sr ?_
 refine RS.q rfl (q02 rfl rfl (q0j _ _ _) rfl) ?_
 refine sd ?_
 refine WPU.condS (t:=((p2.Op.tmod 6) == 1)) rfl (fun h7=>?_) (fun h7=>?_)
 replace hF:=q05 h7 hF
 refine st ?_
 obtain ⟨r8,h9,hF⟩:=q00 hF
 refine sr ?_
 refine RS.q (u:=.agg (cGSession p1)) rfl (q0a und28 rfl (q01 inf28) rfl rfl rfl) (RS.call (u:=.tup [.agg (cGSession r8.1),.int .i64 r8.2]) (args:=[.agg (cGSession p1)]) rfl (q03 rfl rfl fn35 hb35 rfl rfl) (qg1 n p1 r8 h9 _) rfl rfl (RS.q rfl (q26 rfl rfl) (RS.q rfl (q26 rfl rfl) (RS.opn (u:=.junk) (σ':=⟨[(2,.row (cGSession r8.1) 28),(1,.row (cGStep p2) 35),(0,.row (cGSession p1) 28)],3⟩) rfl (q0d (q01 inf28) rfl rfl rfl rfl rfl rfl rfl rfl) rfl ?_))))
 refine sd ?_
 refine WPU.ret ?_
 refine st ?_
 have hr:=Option.some.inj hF
 subst hr
 exact ⟨.inr rfl,[.agg (cGSession r8.1),.int .i64 r8.2],q5f (q0a und28 rfl (q01 inf28) rfl rfl rfl) (q0l rfl (q0i)),.tup [.agg (cGSession r8.1),.int .i64 r8.2],⟨[],0⟩,Nat.le_refl _,Gh.toR (.tup [.agg (cGSession r8.1),.int .i64 r8.2]) rfl,rfl,BU.h⟩
 replace hF:=q04 h7 hF
 refine sr ?_
 refine RS.q rfl (q02 rfl rfl (q0j _ _ _) rfl) ?_
 refine sd ?_
 refine WPU.condS (t:=((p2.Op.tmod 6) == 2)) rfl (fun h10=>?_) (fun h10=>?_)
 replace hF:=q05 h10 hF
 refine st ?_
 obtain ⟨r11,h12,hF⟩:=q00 hF
 refine sr ?_
 refine RS.q (u:=.agg (cGSession p1)) rfl (q0a und28 rfl (q01 inf28) rfl rfl rfl) (RS.call (u:=.tup [.agg (cGSession r11.1),.int .i64 r11.2]) (args:=[.agg (cGSession p1)]) rfl (q03 rfl rfl fn15 hb15 rfl rfl) (qap n p1 r11 h12 _) rfl rfl (RS.q rfl (q26 rfl rfl) (RS.q rfl (q26 rfl rfl) (RS.opn (u:=.junk) (σ':=⟨[(2,.row (cGSession r11.1) 28),(1,.row (cGStep p2) 35),(0,.row (cGSession p1) 28)],3⟩) rfl (q0d (q01 inf28) rfl rfl rfl rfl rfl rfl rfl rfl) rfl ?_))))
 refine sd ?_
 refine WPU.ret ?_
 refine st ?_
 have hr:=Option.some.inj hF
 subst hr
 exact ⟨.inr rfl,[.agg (cGSession r11.1),.int .i64 r11.2],q5f (q0a und28 rfl (q01 inf28) rfl rfl rfl) (q0l rfl (q0i)),.tup [.agg (cGSession r11.1),.int .i64 r11.2],⟨[],0⟩,Nat.le_refl _,Gh.toR (.tup [.agg (cGSession r11.1),.int .i64 r11.2]) rfl,rfl,BU.h⟩
 replace hF:=q04 h10 hF
 refine sr ?_
 refine RS.q rfl (q02 rfl rfl (q0j _ _ _) rfl) ?_
 refine sd ?_
 refine WPU.condS (t:=((p2.Op.tmod 6) == 3)) rfl (fun h13=>?_) (fun h13=>?_)
 replace hF:=q05 h13 hF
 refine st ?_
 obtain ⟨r14,h15,hF⟩:=q00 hF
 refine sr ?_
 refine RS.q (u:=.agg (cGSession p1)) rfl (q0a und28 rfl (q01 inf28) rfl rfl rfl) (RS.call (u:=.tup [.agg (cGSession r14.1),.int .i64 r14.2]) (args:=[.agg (cGSession p1)]) rfl (q03 rfl rfl fn36 hb36 rfl rfl) (qdr n p1 r14 h15 _) rfl rfl (RS.q rfl (q26 rfl rfl) (RS.q rfl (q26 rfl rfl) (RS.opn (u:=.junk) (σ':=⟨[(2,.row (cGSession r14.1) 28),(1,.row (cGStep p2) 35),(0,.row (cGSession p1) 28)],3⟩) rfl (q0d (q01 inf28) rfl rfl rfl rfl rfl rfl rfl rfl) rfl ?_))))
 refine sd ?_
 refine WPU.ret ?_
 refine st ?_
 have hr:=Option.some.inj hF
 subst hr
 exact ⟨.inr rfl,[.agg (cGSession r14.1),.int .i64 r14.2],q5f (q0a und28 rfl (q01 inf28) rfl rfl rfl) (q0l rfl (q0i)),.tup [.agg (cGSession r14.1),.int .i64 r14.2],⟨[],0⟩,Nat.le_refl _,Gh.toR (.tup [.agg (cGSession r14.1),.int .i64 r14.2]) rfl,rfl,BU.h⟩
 replace hF:=q04 h13 hF
 refine st ?_
 refine WPU.skip ?_
 refine st ?_
 obtain ⟨r16,h17,hF⟩:=q00 hF
 refine sr ?_
 refine RS.q (u:=.agg (cGSession p1)) rfl (q0a und28 rfl (q01 inf28) rfl rfl rfl) (RS.call (u:=.tup [.agg (cGProp r16.1),.bool r16.2]) (args:=[.agg (cGSession p1)]) rfl (q03 rfl rfl fn8 hb8 rfl rfl) (q5t n p1 r16 h17 _) rfl rfl (RS.mv rfl rfl rfl rfl (RS.q rfl (q26 rfl rfl) (RS.q rfl (q26 rfl rfl) (RS.q (u:=.ptr 3 0 0) (σ':=⟨[(3,.row [.int .i64 0,.str [],.int .i64 0,.int .i64 0] 33),(2,.row [.nils,.nils,.int .i64 0] 28),(1,.row (cGStep p2) 35),(0,.row (cGSession p1) 28)],4⟩) rfl (q0v inf33 rfl rfl) (RS.opn (u:=.junk) (σ':=⟨[(3,.row (cGProp r16.1) 33),(2,.row [.nils,.nils,.int .i64 0] 28),(1,.row (cGStep p2) 35),(0,.row (cGSession p1) 28)],4⟩) rfl (q0d (q01 inf33) rfl rfl rfl rfl rfl rfl rfl rfl) rfl ?_))))))
 refine sd ?_
 obtain ⟨r18,h19,hF⟩:=q00 hF
 refine sr ?_
 refine RS.q (u:=.agg (cGSession p1)) rfl (q0a und28 rfl (q01 inf28) rfl rfl rfl) (RS.q (u:=.agg (cGProp r16.1)) rfl (q0a und33 rfl (q01 inf33) rfl rfl rfl) (RS.q (u:=.ptr 1 0 5) rfl (q0c und35 rfl (q01 inf4) rfl rfl rfl) (RS.q (u:=.bool p2.Yes) rfl (q09 und4 rfl rfl rfl rfl) (RS.call (u:=.tup [.agg (cGSession r18.1),.int .i64 r18.2]) (args:=[.agg (cGSession p1),.agg (cGProp r16.1),.bool p2.Yes]) rfl (q03 rfl rfl fn16 hb16 rfl rfl) (q4z n p1 (GProp.mk r16.1.Kind r16.1.Name r16.1.From r16.1.To) p2.Yes r18 h19 _) rfl rfl (RS.q rfl (q26 rfl rfl) (RS.q rfl (q26 rfl rfl) (RS.opn (u:=.junk) (σ':=⟨[(3,.row (cGProp r16.1) 33),(2,.row (cGSession r18.1) 28),(1,.row (cGStep p2) 35),(0,.row (cGSession p1) 28)],4⟩) rfl (q0d (q01 inf28) rfl rfl rfl rfl rfl rfl rfl rfl) rfl ?_)))))))
 refine sd ?_
 refine WPU.ret ?_
 refine st ?_
 have hr:=Option.some.inj hF
 subst hr
 exact ⟨.inr rfl,[.agg (cGSession r18.1),.int .i64 r18.2],q5f (q0a und28 rfl (q01 inf28) rfl rfl rfl) (q0l rfl (q0i)),.tup [.agg (cGSession r18.1),.int .i64 r18.2],⟨[],0⟩,Nat.le_refl _,Gh.toR (.tup [.agg (cGSession r18.1),.int .i64 r18.2]) rfl,rfl,BU.h⟩
theorem qg6 (n:Nat) (p1:GSession) (p2:GStep) (r:GSession×Int) (hF:q77 n p1 p2=some r) (σ:Sg):EvU Tryz.prog 10 [.agg (cGSession p1),.agg (cGStep p2)] σ (fun u σ'=>u = .tup [.agg (cGSession r.1),.int .i64 r.2]∧σ'=σ) :=
 EvU.pure1C (qhl n p1 p2 r hF) σ
def q50 (n:Nat) (p1:List GDeriv):Option (GSession×Int) :=
 cond ((p1.length:Int) == 0)
  (some ((GSession.mk [] [] 0),1))
  (bindO (q58 n p1) fun r3 =>
  needO (r3.length<4611686018427387904∧okBs r3=true) (
  bindO (q1p (q67 n) n (srtD r3)) fun r7 =>
  some ((GSession.mk r7 [] 0),0)))
theorem annotate_New_0 (n:Nat) (p1:List GDeriv) (r:GSession×Int) (hF:q50 n p1=some r):EvU Tryz.prog 6 [.isl false (List.map cGDeriv p1)] ⟨[],0⟩ (fun u _=>u = .tup [.agg (cGSession r.1),.int .i64 r.2]∧Bel 0 u):=by
 unfold q50 at hF
 refine EvU.of_body Tryz.tb_ok fn6 rfl ?_
 refine WPU.ghost (tm':=fr 17 [(0,.isl false (List.map cGDeriv p1))]) (Gh.start (Nat.le_of_ble_eq_true rfl)) (Nat.zero_le _) ?_
 refine sr ?_
 refine RS.q (u:=.ptr 0 0 0) (σ':=⟨[(0,.row [.nils,.nils,.int .i64 0] 28)],1⟩) rfl (q0v inf28 rfl rfl) ?_
 refine se ?_
 refine RS.q rfl (q0k rfl rfl rfl (q0g cGDeriv und22)) (RS.q rfl (q02 rfl rfl (q0j _ _ _) rfl) ?_)
 refine sd ?_
 refine WPU.condS (t:=((p1.length:Int) == 0)) rfl (fun h2=>?_) (fun h2=>?_)
 replace hF:=q05 h2 hF
 refine sr ?_
 refine RS.q (u:=.agg [.nils,.nils,.int .i64 0]) rfl (q4d bd28 rfl rfl rfl) (RS.opn (u:=.junk) (σ':=⟨[(0,.row [.nils,.nils,.int .i64 0] 28)],1⟩) rfl (q0d (q01 inf28) rfl rfl rfl rfl rfl rfl rfl rfl) rfl ?_)
 refine sd ?_
 refine WPU.ret ?_
 refine st ?_
 have hr:=Option.some.inj hF
 subst hr
 exact ⟨.inr rfl,[.agg [.nils,.nils,.int .i64 0],.int .i64 1],q5f (q0a und28 rfl (q01 inf28) rfl rfl rfl) (q0l rfl (q0i)),.tup [.agg [.isl false [],.isl false [],.int .i64 0],.int .i64 1],⟨[],0⟩,Nat.le_refl _,Gh.trans (Gh.wk (.cons (.tup (.cons (.agg (.cons (.nil false) (.cons (.nil false) (.cons (.refl _) .nil)))) (.cons (.refl _) .nil))) .nil)) (Gh.toR (.tup [.agg [.isl false [],.isl false [],.int .i64 0],.int .i64 1]) rfl),rfl,BU.h⟩
 replace hF:=q04 h2 hF
 refine st ?_
 refine WPU.skip ?_
 refine st ?_
 obtain ⟨r3,h4,hF⟩:=q00 hF
 refine sr ?_
 refine RS.callx (R:=fun u σ'=>∃ t5,u = .vl 2 t5 0 r3.length∧σ'=⟨[(2,.vec (List.map cGDeriv r3).flatten 43 5 t5),(0,.row [.nils,.nils,.int .i64 0] 28)],3⟩) (args:=[.isl false (List.map cGDeriv p1)]) rfl (q03 rfl rfl fn17 hb17 rfl rfl) (EvU.own1 cGDeriv (qcz n p1 r3 h4) _ 2 rfl) rfl rfl ?_
 rintro _ _ ⟨t5,rfl,rfl⟩
 refine sd ?_
 obtain ⟨h6,hF⟩:=q0n hF
 refine WPU.joinK (fun tm σ=>tm=fr 17 [(2,.ptr 0 0 0),(4,.vl 2 t5 0 ((srtD r3).length))]∧σ=⟨[(2,.vec (List.map cGDeriv (srtD r3)).flatten 43 5 t5),(0,.row [.nils,.nils,.int .i64 0] 28)],3⟩) ?_ ?_
 rintro _ _ ⟨rfl,rfl⟩
 refine st ?_
 obtain ⟨r7,h8,hF⟩:=q00 hF
 refine sr ?_
 refine RS.callx (args:=[.vl 2 t5 0 ((srtD r3).length),.fn (.func 21) [] []]) rfl (q03 rfl rfl fn20 hb20 rfl rfl) (q8x (q67 n) (qg0 n) n (srtD r3) r7 h8 _ rfl rfl) rfl rfl ?_
 rintro _ _ ⟨t9,rfl,rfl⟩
 refine se ?_
 refine RS.q (u:=.agg [.vl 2 t9 0 r7.length,.nils,.int .i64 0]) rfl (q4d bd28 rfl rfl rfl) (RS.opn (u:=.junk) (σ':=⟨[(2,.vec (List.map cGDeriv r7).flatten 43 5 t9),(0,.row [.vl 2 t9 0 r7.length,.nils,.int .i64 0] 28)],3⟩) rfl (q0d (q01 inf28) rfl rfl rfl rfl rfl rfl rfl rfl) rfl ?_)
 refine sd ?_
 refine WPU.ret ?_
 refine st ?_
 have hr:=Option.some.inj hF
 subst hr
 exact ⟨.inr rfl,[.agg [.vl 2 t9 0 r7.length,.nils,.int .i64 0],.int .i64 0],q5f (q0a und28 rfl (q01 inf28) rfl rfl rfl) (q0l rfl (q0i)),.tup [.agg [.isl false (List.map cGDeriv r7),.isl false [],.int .i64 0],.int .i64 0],⟨[],0⟩,Nat.le_refl _,Gh.trans (Gh.fz (tm':=[.tup [.agg [.isl false (List.map cGDeriv r7),.nils,.int .i64 0],.int .i64 0]]) (h':=[(0,.row [.isl false (List.map cGDeriv r7),.nils,.int .i64 0] 28)]) 2 (.vec (List.map cGDeriv r7).flatten 43 5 t9) 5 rfl (by simp) (by simp only [oneU,q0y,q0o,q1z,q11,q22,q15,q14,q13,q12,q10,q20,q21,q1y,q23,q3k,junkT,q8i q0e]) (by simp only [fzH,fzB,ug,Nat.beq,cond_true,cond_false,oneU,q0y,q0o,q1z,q11,q22,q15,q14,q13,q12,q10,q20,q21,q1y,q23,q3k,junkT,q8i q0e])) (Gh.trans (Gh.wk (.cons (.tup (.cons (.agg (.cons (.refl _) (.cons (.nil false) (.cons (.refl _) .nil)))) (.cons (.refl _) .nil))) .nil)) (Gh.toR (.tup [.agg [.isl false (List.map cGDeriv r7),.isl false [],.int .i64 0],.int .i64 0]) rfl)),rfl,BU.h⟩
 refine sr ?_
 refine RS.callx (args:=[.vl 2 t5 0 r3.length,.fn (.func 19) [] []]) rfl (q03 rfl rfl fn18 hb18 rfl rfl) (srtD_ok r3 h6 _ rfl rfl) rfl rfl ?_
 rintro _ _ ⟨rfl,rfl⟩
 refine sd ?_
 exact ⟨_,_,⟨rfl,rfl⟩,(Nat.zero_le _),Gh.eqS ⟨rfl,(by simp only [qgn r3]; rfl),trivial⟩ rfl⟩
theorem q8l (n:Nat) (p1:List GDeriv) (r:GSession×Int) (hF:q50 n p1=some r) (σ:Sg):EvU Tryz.prog 6 [.isl false (List.map cGDeriv p1)] σ (fun u σ'=>u = .tup [.agg (cGSession r.1),.int .i64 r.2]∧σ'=σ) :=
 EvU.pure1C (annotate_New_0 n p1 r hF) σ
def q32 (n:Nat)  : Option (Bool) :=
 bindO (q97 n ([97])) fun r1 =>
 bindO (q97 n ([97])) fun r3 =>
 bindO (q50 n ([r1,r3])) fun r5 =>
 bindO (q38 n (GSession.mk r5.1.Readings r5.1.Decisions r5.1.State)) fun r7 =>
 bindO (q4l n (GSession.mk r5.1.Readings r5.1.Decisions r5.1.State)) fun r9 =>
 bindO (q37 n (GSession.mk r5.1.Readings r5.1.Decisions r5.1.State) (GProp.mk 0 ([97]) 0 1) true) fun r11 =>
 bindO (q97 n ([98])) fun r13 =>
 bindO (q97 n ([97])) fun r15 =>
 bindO (q50 n ([r13,r15])) fun r17 =>
 bindO (q38 n (GSession.mk r17.1.Readings r17.1.Decisions r17.1.State)) fun r19 =>
 bindO (q37 n (GSession.mk r17.1.Readings r17.1.Decisions r17.1.State) (GProp.mk 0 ([97]) 0 1) false) fun r21 =>
 bindO (q37 n (GSession.mk r21.1.Readings r21.1.Decisions r21.1.State) (GProp.mk 0 ([98]) 0 1) false) fun r23 =>
 bindO (q50 n []) fun r25 =>
 bindO (cond (r5.2 == 0)
  (cond ((r5.1.Readings.length:Int) == 1)
   (cond (!r7.2)
    (cond (r9.2 == 0)
     (cond (r9.1.State == 1)
      (cond (r11.2 == 16)
       (cond (r17.2 == 0)
        (bindO (idxO r17.1.Readings 0) fun x34 =>
        cond (bytesEq x34.Name ([97]))
         (cond r19.2
          (cond (eqGProp (GProp.mk r19.1.Kind r19.1.Name r19.1.From r19.1.To) (GProp.mk 0 ([97]) 0 1))
           (cond (r21.2 == 0)
            (cond ((r21.1.Decisions.length:Int) == 1)
             (cond (r23.2 == 17)
              (some (r25.2 == 1))
              (some false))
             (some false))
            (some false))
           (some false))
          (some false))
         (some false))
        (some false))
       (some false))
      (some false))
     (some false))
    (some false))
   (some false))
  (some false)) fun b42 =>
 some b42
theorem qcy (n:Nat)  (r:Bool) (hF:q32 n  = some r):EvU Tryz.prog 5 [] ⟨[],0⟩ (fun u _=>u = .bool r∧Bel 0 u):=by
 unfold q32 at hF
 refine EvU.of_body Tryz.tb_ok fn5 rfl ?_
 refine WPU.ghost (tm':=fr 133 []) (Gh.start (Nat.le_of_ble_eq_true rfl)) (Nat.zero_le _) ?_
 refine sr ?_
 refine sd ?_
 obtain ⟨r1,h2,hF⟩:=q00 hF
 obtain ⟨r3,h4,hF⟩:=q00 hF
 obtain ⟨r5,h6,hF⟩:=q00 hF
 refine sr ?_
 refine RS.call (u:=.agg (xGDeriv r1)) (args:=[.str ([97])]) rfl (q03 rfl rfl fn14 hb14 rfl rfl) (qa0 n ([97]) r1 h2 _) rfl rfl (RS.call (u:=.agg (xGDeriv r3)) (args:=[.str ([97])]) rfl (q03 rfl rfl fn14 hb14 rfl rfl) (qa0 n ([97]) r3 h4 _) rfl rfl (RS.q (u:=.sl 0 0 2 2) (σ':=⟨[(0,.row [.int .i64 r1.Kind,.str r1.Name,.int .i64 r1.From,.int .i64 r1.To,.isl false (List.map cGDeriv r1.Kids),.int .i64 r3.Kind,.str r3.Name,.int .i64 r3.From,.int .i64 r3.To,.isl false (List.map cGDeriv r3.Kids)] 43)],1⟩) rfl (q4g und22 inf43 rfl rfl rfl rfl rfl rfl rfl) ?_))
 refine RS.fcall (u:=.tup [.agg (cGSession r5.1),.int .i64 r5.2]) (args:=[.sl 0 0 2 2]) (σ1:=⟨[],1⟩) rfl (q03 rfl rfl fn6 hb6 rfl rfl) (Gh.fz (tm':=[.isl false (List.map cGDeriv ([r1,r3]))]) (h':=[]) 0 (.row [.int .i64 r1.Kind,.str r1.Name,.int .i64 r1.From,.int .i64 r1.To,.isl false (List.map cGDeriv r1.Kids),.int .i64 r3.Kind,.str r3.Name,.int .i64 r3.From,.int .i64 r3.To,.isl false (List.map cGDeriv r3.Kids)] 43) 5 rfl (by simp) (by simp only [oneU,q0y,q0o,q1z,q11,q22,q15,q14,q13,q12,q10,q20,q21,q1y,q23,q3k,junkT,q96,q9p,Nat.reduceLeDiff,Nat.reduceMul,List.length_cons,List.length_nil,Nat.reduceAdd]<;>simp only [chunks,List.take,List.drop,List.map,q0m,xGDeriv,GDeriv.Kind,GDeriv.Name,GDeriv.From,GDeriv.To,GDeriv.Kids]) (by simp only [fzH,fzB,ug,Nat.beq,cond_true,cond_false,oneU,q0y,q0o,q1z,q11,q22,q15,q14,q13,q12,q10,q20,q21,q1y,q23,q3k,junkT,q96,q9p,Nat.reduceLeDiff,Nat.reduceMul,List.length_cons,List.length_nil,Nat.reduceAdd]<;>simp only [chunks,List.take,List.drop,List.map,q0m,xGDeriv,GDeriv.Kind,GDeriv.Name,GDeriv.From,GDeriv.To,GDeriv.Kids])) (Nat.le_of_ble_eq_true rfl) (q8l n ([r1,r3]) r5 h6 _) rfl rfl ?_
 refine RS.mv rfl rfl rfl rfl (RS.q rfl (q26 rfl rfl) (RS.q rfl (q26 rfl rfl) (RS.q (u:=.ptr 1 0 0) (σ':=⟨[(1,.row [.nils,.nils,.int .i64 0] 28)],2⟩) rfl (q0v inf28 rfl rfl) (RS.opn (u:=.junk) (σ':=⟨[(1,.row (cGSession r5.1) 28)],2⟩) rfl (q0d (q01 inf28) rfl rfl rfl rfl rfl rfl rfl rfl) rfl ?_))))
 refine sd ?_
 obtain ⟨r7,h8,hF⟩:=q00 hF
 refine sr ?_
 refine RS.q (u:=.agg (cGSession r5.1)) rfl (q0a und28 rfl (q01 inf28) rfl rfl rfl) (RS.call (u:=.tup [.agg (cGProp r7.1),.bool r7.2]) (args:=[.agg (cGSession r5.1)]) rfl (q03 rfl rfl fn8 hb8 rfl rfl) (q5t n (GSession.mk r5.1.Readings r5.1.Decisions r5.1.State) r7 h8 _) rfl rfl (RS.mv rfl rfl rfl rfl (RS.q rfl (q26 rfl rfl) (RS.q rfl (q26 rfl rfl) (RS.q (u:=.ptr 2 0 0) (σ':=⟨[(2,.row [.int .i64 0,.str [],.int .i64 0,.int .i64 0] 33),(1,.row (cGSession r5.1) 28)],3⟩) rfl (q0v inf33 rfl rfl) (RS.opn (u:=.junk) (σ':=⟨[(2,.row (cGProp r7.1) 33),(1,.row (cGSession r5.1) 28)],3⟩) rfl (q0d (q01 inf33) rfl rfl rfl rfl rfl rfl rfl rfl) rfl ?_))))))
 refine sd ?_
 obtain ⟨r9,h10,hF⟩:=q00 hF
 refine sr ?_
 refine RS.q (u:=.agg (cGSession r5.1)) rfl (q0a und28 rfl (q01 inf28) rfl rfl rfl) (RS.call (u:=.tup [.agg (cGSession r9.1),.int .i64 r9.2]) (args:=[.agg (cGSession r5.1)]) rfl (q03 rfl rfl fn15 hb15 rfl rfl) (qap n (GSession.mk r5.1.Readings r5.1.Decisions r5.1.State) r9 h10 _) rfl rfl (RS.mv rfl rfl rfl rfl (RS.q rfl (q26 rfl rfl) (RS.q rfl (q26 rfl rfl) (RS.q (u:=.ptr 3 0 0) (σ':=⟨[(3,.row [.nils,.nils,.int .i64 0] 28),(2,.row (cGProp r7.1) 33),(1,.row (cGSession r5.1) 28)],4⟩) rfl (q0v inf28 rfl rfl) (RS.opn (u:=.junk) (σ':=⟨[(3,.row (cGSession r9.1) 28),(2,.row (cGProp r7.1) 33),(1,.row (cGSession r5.1) 28)],4⟩) rfl (q0d (q01 inf28) rfl rfl rfl rfl rfl rfl rfl rfl) rfl ?_))))))
 refine sd ?_
 obtain ⟨r11,h12,hF⟩:=q00 hF
 refine sr ?_
 refine RS.q (u:=.agg (cGSession r5.1)) rfl (q0a und28 rfl (q01 inf28) rfl rfl rfl) (RS.q (u:=.agg [.int .i64 0,.str ([97]),.int .i64 0,.int .i64 1]) rfl (q4d bd33 rfl rfl rfl) (RS.call (u:=.tup [.agg (cGSession r11.1),.int .i64 r11.2]) (args:=[.agg (cGSession r5.1),.agg [.int .i64 0,.str ([97]),.int .i64 0,.int .i64 1],.bool true]) rfl (q03 rfl rfl fn16 hb16 rfl rfl) (q4z n (GSession.mk r5.1.Readings r5.1.Decisions r5.1.State) (GProp.mk 0 ([97]) 0 1) true r11 h12 _) rfl rfl (RS.mv rfl rfl rfl rfl (RS.q rfl (q26 rfl rfl) (RS.q rfl (q26 rfl rfl) (RS.q (u:=.ptr 4 0 0) (σ':=⟨[(4,.row [.nils,.nils,.int .i64 0] 28),(3,.row (cGSession r9.1) 28),(2,.row (cGProp r7.1) 33),(1,.row (cGSession r5.1) 28)],5⟩) rfl (q0v inf28 rfl rfl) (RS.opn (u:=.junk) (σ':=⟨[(4,.row (cGSession r11.1) 28),(3,.row (cGSession r9.1) 28),(2,.row (cGProp r7.1) 33),(1,.row (cGSession r5.1) 28)],5⟩) rfl (q0d (q01 inf28) rfl rfl rfl rfl rfl rfl rfl rfl) rfl ?_)))))))
 refine sd ?_
 obtain ⟨r13,h14,hF⟩:=q00 hF
 obtain ⟨r15,h16,hF⟩:=q00 hF
 obtain ⟨r17,h18,hF⟩:=q00 hF
 refine sr ?_
 refine RS.call (u:=.agg (xGDeriv r13)) (args:=[.str ([98])]) rfl (q03 rfl rfl fn14 hb14 rfl rfl) (qa0 n ([98]) r13 h14 _) rfl rfl (RS.call (u:=.agg (xGDeriv r15)) (args:=[.str ([97])]) rfl (q03 rfl rfl fn14 hb14 rfl rfl) (qa0 n ([97]) r15 h16 _) rfl rfl (RS.q (u:=.sl 5 0 2 2) (σ':=⟨[(5,.row [.int .i64 r13.Kind,.str r13.Name,.int .i64 r13.From,.int .i64 r13.To,.isl false (List.map cGDeriv r13.Kids),.int .i64 r15.Kind,.str r15.Name,.int .i64 r15.From,.int .i64 r15.To,.isl false (List.map cGDeriv r15.Kids)] 43),(4,.row (cGSession r11.1) 28),(3,.row (cGSession r9.1) 28),(2,.row (cGProp r7.1) 33),(1,.row (cGSession r5.1) 28)],6⟩) rfl (q4g und22 inf43 rfl rfl rfl rfl rfl rfl rfl) ?_))
 refine RS.fcall (u:=.tup [.agg (cGSession r17.1),.int .i64 r17.2]) (args:=[.sl 5 0 2 2]) (σ1:=⟨[(4,.row (cGSession r11.1) 28),(3,.row (cGSession r9.1) 28),(2,.row (cGProp r7.1) 33),(1,.row (cGSession r5.1) 28)],6⟩) rfl (q03 rfl rfl fn6 hb6 rfl rfl) (Gh.fz (tm':=[.isl false (List.map cGDeriv ([r13,r15]))]) (h':=[(4,.row (cGSession r11.1) 28),(3,.row (cGSession r9.1) 28),(2,.row (cGProp r7.1) 33),(1,.row (cGSession r5.1) 28)]) 5 (.row [.int .i64 r13.Kind,.str r13.Name,.int .i64 r13.From,.int .i64 r13.To,.isl false (List.map cGDeriv r13.Kids),.int .i64 r15.Kind,.str r15.Name,.int .i64 r15.From,.int .i64 r15.To,.isl false (List.map cGDeriv r15.Kids)] 43) 5 rfl (by simp) (by simp only [oneU,q0y,q0o,q1z,q11,q22,q15,q14,q13,q12,q10,q20,q21,q1y,q23,q3k,junkT,q96,q9p,q3x,q31,Nat.reduceLeDiff,Nat.reduceMul,List.length_cons,List.length_nil,Nat.reduceAdd]<;>simp only [chunks,List.take,List.drop,List.map,q0m,xGDeriv,GDeriv.Kind,GDeriv.Name,GDeriv.From,GDeriv.To,GDeriv.Kids]) (by simp only [fzH,fzB,ug,Nat.beq,cond_true,cond_false,oneU,q0y,q0o,q1z,q11,q22,q15,q14,q13,q12,q10,q20,q21,q1y,q23,q3k,junkT,q96,q9p,q3x,q31,Nat.reduceLeDiff,Nat.reduceMul,List.length_cons,List.length_nil,Nat.reduceAdd]<;>simp only [chunks,List.take,List.drop,List.map,q0m,xGDeriv,GDeriv.Kind,GDeriv.Name,GDeriv.From,GDeriv.To,GDeriv.Kids])) (Nat.le_of_ble_eq_true rfl) (q8l n ([r13,r15]) r17 h18 _) rfl rfl ?_
 refine RS.mv rfl rfl rfl rfl (RS.q rfl (q26 rfl rfl) (RS.q rfl (q26 rfl rfl) (RS.q (u:=.ptr 6 0 0) (σ':=⟨[(6,.row [.nils,.nils,.int .i64 0] 28),(4,.row (cGSession r11.1) 28),(3,.row (cGSession r9.1) 28),(2,.row (cGProp r7.1) 33),(1,.row (cGSession r5.1) 28)],7⟩) rfl (q0v inf28 rfl rfl) (RS.opn (u:=.junk) (σ':=⟨[(6,.row (cGSession r17.1) 28),(4,.row (cGSession r11.1) 28),(3,.row (cGSession r9.1) 28),(2,.row (cGProp r7.1) 33),(1,.row (cGSession r5.1) 28)],7⟩) rfl (q0d (q01 inf28) rfl rfl rfl rfl rfl rfl rfl rfl) rfl ?_))))
 refine sd ?_
 obtain ⟨r19,h20,hF⟩:=q00 hF
 refine sr ?_
 refine RS.q (u:=.agg (cGSession r17.1)) rfl (q0a und28 rfl (q01 inf28) rfl rfl rfl) (RS.call (u:=.tup [.agg (cGProp r19.1),.bool r19.2]) (args:=[.agg (cGSession r17.1)]) rfl (q03 rfl rfl fn8 hb8 rfl rfl) (q5t n (GSession.mk r17.1.Readings r17.1.Decisions r17.1.State) r19 h20 _) rfl rfl (RS.mv rfl rfl rfl rfl (RS.q rfl (q26 rfl rfl) (RS.q rfl (q26 rfl rfl) (RS.q (u:=.ptr 7 0 0) (σ':=⟨[(7,.row [.int .i64 0,.str [],.int .i64 0,.int .i64 0] 33),(6,.row (cGSession r17.1) 28),(4,.row (cGSession r11.1) 28),(3,.row (cGSession r9.1) 28),(2,.row (cGProp r7.1) 33),(1,.row (cGSession r5.1) 28)],8⟩) rfl (q0v inf33 rfl rfl) (RS.opn (u:=.junk) (σ':=⟨[(7,.row (cGProp r19.1) 33),(6,.row (cGSession r17.1) 28),(4,.row (cGSession r11.1) 28),(3,.row (cGSession r9.1) 28),(2,.row (cGProp r7.1) 33),(1,.row (cGSession r5.1) 28)],8⟩) rfl (q0d (q01 inf33) rfl rfl rfl rfl rfl rfl rfl rfl) rfl ?_))))))
 refine sd ?_
 obtain ⟨r21,h22,hF⟩:=q00 hF
 refine sr ?_
 refine RS.q (u:=.agg (cGSession r17.1)) rfl (q0a und28 rfl (q01 inf28) rfl rfl rfl) (RS.q (u:=.agg [.int .i64 0,.str ([97]),.int .i64 0,.int .i64 1]) rfl (q4d bd33 rfl rfl rfl) (RS.call (u:=.tup [.agg (cGSession r21.1),.int .i64 r21.2]) (args:=[.agg (cGSession r17.1),.agg [.int .i64 0,.str ([97]),.int .i64 0,.int .i64 1],.bool false]) rfl (q03 rfl rfl fn16 hb16 rfl rfl) (q4z n (GSession.mk r17.1.Readings r17.1.Decisions r17.1.State) (GProp.mk 0 ([97]) 0 1) false r21 h22 _) rfl rfl (RS.mv rfl rfl rfl rfl (RS.q rfl (q26 rfl rfl) (RS.q rfl (q26 rfl rfl) (RS.q (u:=.ptr 8 0 0) (σ':=⟨[(8,.row [.nils,.nils,.int .i64 0] 28),(7,.row (cGProp r19.1) 33),(6,.row (cGSession r17.1) 28),(4,.row (cGSession r11.1) 28),(3,.row (cGSession r9.1) 28),(2,.row (cGProp r7.1) 33),(1,.row (cGSession r5.1) 28)],9⟩) rfl (q0v inf28 rfl rfl) (RS.opn (u:=.junk) (σ':=⟨[(8,.row (cGSession r21.1) 28),(7,.row (cGProp r19.1) 33),(6,.row (cGSession r17.1) 28),(4,.row (cGSession r11.1) 28),(3,.row (cGSession r9.1) 28),(2,.row (cGProp r7.1) 33),(1,.row (cGSession r5.1) 28)],9⟩) rfl (q0d (q01 inf28) rfl rfl rfl rfl rfl rfl rfl rfl) rfl ?_)))))))
 refine sd ?_
 obtain ⟨r23,h24,hF⟩:=q00 hF
 refine sr ?_
 refine RS.q (u:=.agg (cGSession r21.1)) rfl (q0a und28 rfl (q01 inf28) rfl rfl rfl) (RS.q (u:=.agg [.int .i64 0,.str ([98]),.int .i64 0,.int .i64 1]) rfl (q4d bd33 rfl rfl rfl) (RS.call (u:=.tup [.agg (cGSession r23.1),.int .i64 r23.2]) (args:=[.agg (cGSession r21.1),.agg [.int .i64 0,.str ([98]),.int .i64 0,.int .i64 1],.bool false]) rfl (q03 rfl rfl fn16 hb16 rfl rfl) (q4z n (GSession.mk r21.1.Readings r21.1.Decisions r21.1.State) (GProp.mk 0 ([98]) 0 1) false r23 h24 _) rfl rfl (RS.mv rfl rfl rfl rfl (RS.q rfl (q26 rfl rfl) (RS.q rfl (q26 rfl rfl) (RS.q (u:=.ptr 9 0 0) (σ':=⟨[(9,.row [.nils,.nils,.int .i64 0] 28),(8,.row (cGSession r21.1) 28),(7,.row (cGProp r19.1) 33),(6,.row (cGSession r17.1) 28),(4,.row (cGSession r11.1) 28),(3,.row (cGSession r9.1) 28),(2,.row (cGProp r7.1) 33),(1,.row (cGSession r5.1) 28)],10⟩) rfl (q0v inf28 rfl rfl) (RS.opn (u:=.junk) (σ':=⟨[(9,.row (cGSession r23.1) 28),(8,.row (cGSession r21.1) 28),(7,.row (cGProp r19.1) 33),(6,.row (cGSession r17.1) 28),(4,.row (cGSession r11.1) 28),(3,.row (cGSession r9.1) 28),(2,.row (cGProp r7.1) 33),(1,.row (cGSession r5.1) 28)],10⟩) rfl (q0d (q01 inf28) rfl rfl rfl rfl rfl rfl rfl rfl) rfl ?_)))))))
 refine sd ?_
 obtain ⟨r25,h26,hF⟩:=q00 hF
 refine sr ?_
 refine RS.call (u:=.tup [.agg (cGSession r25.1),.int .i64 r25.2]) (args:=[.nils]) rfl (q03 rfl rfl fn6 hb6 rfl rfl) (EvU.wkA (args':=[.isl false []]) (.cons (.nil false) .nil) (fun s=>q8l n [] r25 h26 s) _) rfl rfl (RS.mv rfl rfl rfl rfl (RS.q rfl (q26 rfl rfl) (RS.q rfl (q26 rfl rfl) (RS.q (u:=.ptr 10 0 0) (σ':=⟨[(10,.row [.nils,.nils,.int .i64 0] 28),(9,.row (cGSession r23.1) 28),(8,.row (cGSession r21.1) 28),(7,.row (cGProp r19.1) 33),(6,.row (cGSession r17.1) 28),(4,.row (cGSession r11.1) 28),(3,.row (cGSession r9.1) 28),(2,.row (cGProp r7.1) 33),(1,.row (cGSession r5.1) 28)],11⟩) rfl (q0v inf28 rfl rfl) (RS.opn (u:=.junk) (σ':=⟨[(10,.row (cGSession r25.1) 28),(9,.row (cGSession r23.1) 28),(8,.row (cGSession r21.1) 28),(7,.row (cGProp r19.1) 33),(6,.row (cGSession r17.1) 28),(4,.row (cGSession r11.1) 28),(3,.row (cGSession r9.1) 28),(2,.row (cGProp r7.1) 33),(1,.row (cGSession r5.1) 28)],11⟩) rfl (q0d (q01 inf28) rfl rfl rfl rfl rfl rfl rfl rfl) rfl ?_)))))
 refine sd ?_
 obtain ⟨b42,h43,hF⟩:=q00 hF
 refine WPU.joinK (fun tm σ=>tm=fr 133 [(0,.bool b42)]∧σ=⟨[(10,.row (cGSession r25.1) 28),(9,.row (cGSession r23.1) 28),(8,.row (cGSession r21.1) 28),(7,.row (cGProp r19.1) 33),(6,.row (cGSession r17.1) 28),(4,.row (cGSession r11.1) 28),(3,.row (cGSession r9.1) 28),(2,.row (cGProp r7.1) 33),(1,.row (cGSession r5.1) 28)],11⟩) ?_ ?_
 rintro _ _ ⟨rfl,rfl⟩
 refine st ?_
 refine WPU.ret ?_
 refine st ?_
 have hr:=Option.some.inj hF
 subst hr
 exact ⟨.inr rfl,[.bool b42],q0l rfl (q0i),.bool b42,⟨[],0⟩,Nat.le_refl _,Gh.toR (.bool b42) rfl,rfl,BU.h⟩
 rcases q2r (r5.2 == 0) with h27 | h27
 replace h43:=q05 h27 h43
 rcases q2r ((r5.1.Readings.length:Int) == 1) with h28 | h28
 replace h43:=q05 h28 h43
 rcases q2r (!r7.2) with h29 | h29
 replace h43:=q05 h29 h43
 rcases q2r (r9.2 == 0) with h30 | h30
 replace h43:=q05 h30 h43
 rcases q2r (r9.1.State == 1) with h31 | h31
 replace h43:=q05 h31 h43
 rcases q2r (r11.2 == 16) with h32 | h32
 replace h43:=q05 h32 h43
 rcases q2r (r17.2 == 0) with h33 | h33
 replace h43:=q05 h33 h43
 obtain ⟨x34,h35,h43⟩:=q00 h43
 rcases q2r (bytesEq x34.Name ([97])) with h36 | h36
 replace h43:=q05 h36 h43
 rcases q2r r19.2 with h37 | h37
 replace h43:=q05 h37 h43
 rcases q2r (eqGProp (GProp.mk r19.1.Kind r19.1.Name r19.1.From r19.1.To) (GProp.mk 0 ([97]) 0 1)) with h38 | h38
 replace h43:=q05 h38 h43
 rcases q2r (r21.2 == 0) with h39 | h39
 replace h43:=q05 h39 h43
 rcases q2r ((r21.1.Decisions.length:Int) == 1) with h40 | h40
 replace h43:=q05 h40 h43
 rcases q2r (r23.2 == 17) with h41 | h41
 replace h43:=q05 h41 h43
 replace h43:=Option.some.inj h43
 subst h43
 refine sr ?_
 refine RS.q rfl (q02 rfl rfl (q0j _ _ _) rfl) (RS.mv rfl rfl rfl rfl (RS.op (u:=.ptr 1 0 0) (want1 rfl rfl rfl h27) (q0c und28 rfl (q01 inf22) rfl rfl rfl) rfl rfl (RS.op (u:=.isl false (List.map cGDeriv r5.1.Readings)) (want1 rfl rfl rfl h27) (q09 und22 rfl rfl rfl rfl) rfl rfl (RS.op (want1 rfl rfl rfl h27) (q0k rfl rfl rfl (q0g cGDeriv und22)) rfl rfl (RS.op (want1 rfl rfl rfl h27) (q02 rfl rfl (q0j _ _ _) rfl) rfl rfl (RS.q (u:=.bool ((r5.1.Readings.length:Int) == 1)) rfl (q06 rfl h27 rfl) (RS.mv rfl rfl rfl rfl ?_)))))))
 refine RS.op (want1 rfl rfl rfl h28) (q0h rfl) rfl rfl (RS.op (u:=.bool (!r7.2)) (want1 rfl rfl rfl h28) (q7l rfl rfl rfl rfl) rfl rfl (RS.q (u:=.bool (!r7.2)) rfl (q06 rfl h28 rfl) (RS.mv rfl rfl rfl rfl (RS.op (want1 rfl rfl rfl h29) (q0h rfl) rfl rfl (RS.op (want1 rfl rfl rfl h29) (q02 rfl rfl (q0j _ _ _) rfl) rfl rfl (RS.q (u:=.bool (r9.2 == 0)) rfl (q06 rfl h29 rfl) (RS.mv rfl rfl rfl rfl ?_)))))))
 refine RS.op (u:=.ptr 3 0 2) (want1 rfl rfl rfl h30) (q0c und28 rfl (q01 inf3) rfl rfl rfl) rfl rfl (RS.op (u:=.int .i64 r9.1.State) (want1 rfl rfl rfl h30) (q09 und3 rfl rfl rfl rfl) rfl rfl (RS.op (want1 rfl rfl rfl h30) (q02 rfl rfl (q0j _ _ _) rfl) rfl rfl (RS.q (u:=.bool (r9.1.State == 1)) rfl (q06 rfl h30 rfl) (RS.mv rfl rfl rfl rfl (RS.op (want1 rfl rfl rfl h31) (q0h rfl) rfl rfl (RS.op (want1 rfl rfl rfl h31) (q02 rfl rfl (q0j _ _ _) rfl) rfl rfl (RS.q (u:=.bool (r11.2 == 16)) rfl (q06 rfl h31 rfl) ?_)))))))
 refine RS.mv rfl rfl rfl rfl (RS.op (want1 rfl rfl rfl h32) (q0h rfl) rfl rfl (RS.op (want1 rfl rfl rfl h32) (q02 rfl rfl (q0j _ _ _) rfl) rfl rfl (RS.q (u:=.bool (r17.2 == 0)) rfl (q06 rfl h32 rfl) (RS.mv rfl rfl rfl rfl (RS.op (u:=.ptr 6 0 0) (want1 rfl rfl rfl h33) (q0c und28 rfl (q01 inf22) rfl rfl rfl) rfl rfl (RS.op (u:=.isl false (List.map cGDeriv r17.1.Readings)) (want1 rfl rfl rfl h33) (q09 und22 rfl rfl rfl rfl) rfl rfl (RS.op (u:=.iptr (xGDeriv x34)) (want1 rfl rfl rfl h33) (q2a rfl rfl (q1f cGDeriv und22 (q01 inf43) q0e h35 (q0m x34))) rfl rfl ?_)))))))
 refine RS.op (u:=.iptr [.str x34.Name,.int .i64 x34.From,.int .i64 x34.To,.isl false (List.map cGDeriv x34.Kids)]) (want1 rfl rfl rfl h33) (op_fi und43 rfl (q01 inf9) rfl rfl) rfl rfl (RS.op (u:=.str x34.Name) (want1 rfl rfl rfl h33) (q90 und9 rfl rfl rfl) rfl rfl (RS.op (u:=.bool (bytesEq x34.Name ([97]))) (want1 rfl rfl rfl h33) (qau rfl rfl rfl rfl) rfl rfl (RS.q (u:=.bool (bytesEq x34.Name ([97]))) rfl (q06 rfl h33 rfl) (RS.mv rfl rfl rfl rfl (RS.op (want1 rfl rfl rfl h36) (q0h rfl) rfl rfl (RS.q (u:=.bool r19.2) rfl (q06 rfl h36 rfl) (RS.mv rfl rfl rfl rfl ?_)))))))
 refine RS.op (u:=.agg (cGProp r19.1)) (want1 rfl rfl rfl h37) (q0a und33 rfl (q01 inf33) rfl rfl rfl) rfl rfl (RS.op (u:=.agg [.int .i64 0,.str ([97]),.int .i64 0,.int .i64 1]) (want1 rfl rfl rfl h37) (q4d bd33 rfl rfl rfl) rfl rfl (RS.op (u:=.bool (eqGProp (GProp.mk r19.1.Kind r19.1.Name r19.1.From r19.1.To) (GProp.mk 0 ([97]) 0 1))) (want1 rfl rfl rfl h37) (q7j rfl rfl (q5k (GProp.mk r19.1.Kind r19.1.Name r19.1.From r19.1.To) (GProp.mk 0 ([97]) 0 1))) rfl rfl (RS.q (u:=.bool (eqGProp (GProp.mk r19.1.Kind r19.1.Name r19.1.From r19.1.To) (GProp.mk 0 ([97]) 0 1))) rfl (q06 rfl h37 rfl) (RS.mv rfl rfl rfl rfl (RS.op (want1 rfl rfl rfl h38) (q0h rfl) rfl rfl (RS.op (want1 rfl rfl rfl h38) (q02 rfl rfl (q0j _ _ _) rfl) rfl rfl (RS.q (u:=.bool (r21.2 == 0)) rfl (q06 rfl h38 rfl) ?_)))))))
 refine RS.mv rfl rfl rfl rfl (RS.op (u:=.ptr 8 0 1) (want1 rfl rfl rfl h39) (q0c und28 rfl (q01 inf26) rfl rfl rfl) rfl rfl (RS.op (u:=.isl false (List.map cGDecision r21.1.Decisions)) (want1 rfl rfl rfl h39) (q09 und26 rfl rfl rfl rfl) rfl rfl (RS.op (want1 rfl rfl rfl h39) (q0k rfl rfl rfl (q0g cGDecision und26)) rfl rfl (RS.op (want1 rfl rfl rfl h39) (q02 rfl rfl (q0j _ _ _) rfl) rfl rfl (RS.q (u:=.bool ((r21.1.Decisions.length:Int) == 1)) rfl (q06 rfl h39 rfl) (RS.mv rfl rfl rfl rfl (RS.op (want1 rfl rfl rfl h40) (q0h rfl) rfl rfl ?_)))))))
 refine RS.op (want1 rfl rfl rfl h40) (q02 rfl rfl (q0j _ _ _) rfl) rfl rfl (RS.q (u:=.bool (r23.2 == 17)) rfl (q06 rfl h40 rfl) (RS.mv rfl rfl rfl rfl (RS.op (want1 rfl rfl rfl h41) (q0h rfl) rfl rfl (RS.op (want1 rfl rfl rfl h41) (q02 rfl rfl (q0j _ _ _) rfl) rfl rfl (RS.q (u:=.bool (r25.2 == 1)) rfl (q06 rfl h41 rfl) ?_)))))
 refine sd ?_
 exact ⟨_,_,⟨rfl,rfl⟩,(Nat.zero_le _),Gh.toC (n1:=11) ⟨rfl,trivial⟩ rfl (Nat.zero_le _) (by simp)⟩
 replace h43:=q04 h41 h43
 replace h43:=Option.some.inj h43
 subst h43
 refine sr ?_
 refine RS.q rfl (q02 rfl rfl (q0j _ _ _) rfl) (RS.mv rfl rfl rfl rfl (RS.op (u:=.ptr 1 0 0) (want1 rfl rfl rfl h27) (q0c und28 rfl (q01 inf22) rfl rfl rfl) rfl rfl (RS.op (u:=.isl false (List.map cGDeriv r5.1.Readings)) (want1 rfl rfl rfl h27) (q09 und22 rfl rfl rfl rfl) rfl rfl (RS.op (want1 rfl rfl rfl h27) (q0k rfl rfl rfl (q0g cGDeriv und22)) rfl rfl (RS.op (want1 rfl rfl rfl h27) (q02 rfl rfl (q0j _ _ _) rfl) rfl rfl (RS.q (u:=.bool ((r5.1.Readings.length:Int) == 1)) rfl (q06 rfl h27 rfl) (RS.mv rfl rfl rfl rfl ?_)))))))
 refine RS.op (want1 rfl rfl rfl h28) (q0h rfl) rfl rfl (RS.op (u:=.bool (!r7.2)) (want1 rfl rfl rfl h28) (q7l rfl rfl rfl rfl) rfl rfl (RS.q (u:=.bool (!r7.2)) rfl (q06 rfl h28 rfl) (RS.mv rfl rfl rfl rfl (RS.op (want1 rfl rfl rfl h29) (q0h rfl) rfl rfl (RS.op (want1 rfl rfl rfl h29) (q02 rfl rfl (q0j _ _ _) rfl) rfl rfl (RS.q (u:=.bool (r9.2 == 0)) rfl (q06 rfl h29 rfl) (RS.mv rfl rfl rfl rfl ?_)))))))
 refine RS.op (u:=.ptr 3 0 2) (want1 rfl rfl rfl h30) (q0c und28 rfl (q01 inf3) rfl rfl rfl) rfl rfl (RS.op (u:=.int .i64 r9.1.State) (want1 rfl rfl rfl h30) (q09 und3 rfl rfl rfl rfl) rfl rfl (RS.op (want1 rfl rfl rfl h30) (q02 rfl rfl (q0j _ _ _) rfl) rfl rfl (RS.q (u:=.bool (r9.1.State == 1)) rfl (q06 rfl h30 rfl) (RS.mv rfl rfl rfl rfl (RS.op (want1 rfl rfl rfl h31) (q0h rfl) rfl rfl (RS.op (want1 rfl rfl rfl h31) (q02 rfl rfl (q0j _ _ _) rfl) rfl rfl (RS.q (u:=.bool (r11.2 == 16)) rfl (q06 rfl h31 rfl) ?_)))))))
 refine RS.mv rfl rfl rfl rfl (RS.op (want1 rfl rfl rfl h32) (q0h rfl) rfl rfl (RS.op (want1 rfl rfl rfl h32) (q02 rfl rfl (q0j _ _ _) rfl) rfl rfl (RS.q (u:=.bool (r17.2 == 0)) rfl (q06 rfl h32 rfl) (RS.mv rfl rfl rfl rfl (RS.op (u:=.ptr 6 0 0) (want1 rfl rfl rfl h33) (q0c und28 rfl (q01 inf22) rfl rfl rfl) rfl rfl (RS.op (u:=.isl false (List.map cGDeriv r17.1.Readings)) (want1 rfl rfl rfl h33) (q09 und22 rfl rfl rfl rfl) rfl rfl (RS.op (u:=.iptr (xGDeriv x34)) (want1 rfl rfl rfl h33) (q2a rfl rfl (q1f cGDeriv und22 (q01 inf43) q0e h35 (q0m x34))) rfl rfl ?_)))))))
 refine RS.op (u:=.iptr [.str x34.Name,.int .i64 x34.From,.int .i64 x34.To,.isl false (List.map cGDeriv x34.Kids)]) (want1 rfl rfl rfl h33) (op_fi und43 rfl (q01 inf9) rfl rfl) rfl rfl (RS.op (u:=.str x34.Name) (want1 rfl rfl rfl h33) (q90 und9 rfl rfl rfl) rfl rfl (RS.op (u:=.bool (bytesEq x34.Name ([97]))) (want1 rfl rfl rfl h33) (qau rfl rfl rfl rfl) rfl rfl (RS.q (u:=.bool (bytesEq x34.Name ([97]))) rfl (q06 rfl h33 rfl) (RS.mv rfl rfl rfl rfl (RS.op (want1 rfl rfl rfl h36) (q0h rfl) rfl rfl (RS.q (u:=.bool r19.2) rfl (q06 rfl h36 rfl) (RS.mv rfl rfl rfl rfl ?_)))))))
 refine RS.op (u:=.agg (cGProp r19.1)) (want1 rfl rfl rfl h37) (q0a und33 rfl (q01 inf33) rfl rfl rfl) rfl rfl (RS.op (u:=.agg [.int .i64 0,.str ([97]),.int .i64 0,.int .i64 1]) (want1 rfl rfl rfl h37) (q4d bd33 rfl rfl rfl) rfl rfl (RS.op (u:=.bool (eqGProp (GProp.mk r19.1.Kind r19.1.Name r19.1.From r19.1.To) (GProp.mk 0 ([97]) 0 1))) (want1 rfl rfl rfl h37) (q7j rfl rfl (q5k (GProp.mk r19.1.Kind r19.1.Name r19.1.From r19.1.To) (GProp.mk 0 ([97]) 0 1))) rfl rfl (RS.q (u:=.bool (eqGProp (GProp.mk r19.1.Kind r19.1.Name r19.1.From r19.1.To) (GProp.mk 0 ([97]) 0 1))) rfl (q06 rfl h37 rfl) (RS.mv rfl rfl rfl rfl (RS.op (want1 rfl rfl rfl h38) (q0h rfl) rfl rfl (RS.op (want1 rfl rfl rfl h38) (q02 rfl rfl (q0j _ _ _) rfl) rfl rfl (RS.q (u:=.bool (r21.2 == 0)) rfl (q06 rfl h38 rfl) ?_)))))))
 refine RS.mv rfl rfl rfl rfl (RS.op (u:=.ptr 8 0 1) (want1 rfl rfl rfl h39) (q0c und28 rfl (q01 inf26) rfl rfl rfl) rfl rfl (RS.op (u:=.isl false (List.map cGDecision r21.1.Decisions)) (want1 rfl rfl rfl h39) (q09 und26 rfl rfl rfl rfl) rfl rfl (RS.op (want1 rfl rfl rfl h39) (q0k rfl rfl rfl (q0g cGDecision und26)) rfl rfl (RS.op (want1 rfl rfl rfl h39) (q02 rfl rfl (q0j _ _ _) rfl) rfl rfl (RS.q (u:=.bool ((r21.1.Decisions.length:Int) == 1)) rfl (q06 rfl h39 rfl) (RS.mv rfl rfl rfl rfl (RS.op (want1 rfl rfl rfl h40) (q0h rfl) rfl rfl ?_)))))))
 refine RS.op (want1 rfl rfl rfl h40) (q02 rfl rfl (q0j _ _ _) rfl) rfl rfl (RS.q (u:=.bool (r23.2 == 17)) rfl (q06 rfl h40 rfl) (RS.mv rfl rfl rfl rfl ?_))
 repeat refine RS.no (want0 rfl rfl rfl h41) rfl rfl ?_
 refine RS.q (u:=.bool false) rfl (q07 rfl h41 rfl) ?_
 refine sd ?_
 exact ⟨_,_,⟨rfl,rfl⟩,(Nat.zero_le _),Gh.toC (n1:=11) ⟨rfl,trivial⟩ rfl (Nat.zero_le _) (by simp)⟩
 replace h43:=q04 h40 h43
 replace h43:=Option.some.inj h43
 subst h43
 refine sr ?_
 refine RS.q rfl (q02 rfl rfl (q0j _ _ _) rfl) (RS.mv rfl rfl rfl rfl (RS.op (u:=.ptr 1 0 0) (want1 rfl rfl rfl h27) (q0c und28 rfl (q01 inf22) rfl rfl rfl) rfl rfl (RS.op (u:=.isl false (List.map cGDeriv r5.1.Readings)) (want1 rfl rfl rfl h27) (q09 und22 rfl rfl rfl rfl) rfl rfl (RS.op (want1 rfl rfl rfl h27) (q0k rfl rfl rfl (q0g cGDeriv und22)) rfl rfl (RS.op (want1 rfl rfl rfl h27) (q02 rfl rfl (q0j _ _ _) rfl) rfl rfl (RS.q (u:=.bool ((r5.1.Readings.length:Int) == 1)) rfl (q06 rfl h27 rfl) (RS.mv rfl rfl rfl rfl ?_)))))))
 refine RS.op (want1 rfl rfl rfl h28) (q0h rfl) rfl rfl (RS.op (u:=.bool (!r7.2)) (want1 rfl rfl rfl h28) (q7l rfl rfl rfl rfl) rfl rfl (RS.q (u:=.bool (!r7.2)) rfl (q06 rfl h28 rfl) (RS.mv rfl rfl rfl rfl (RS.op (want1 rfl rfl rfl h29) (q0h rfl) rfl rfl (RS.op (want1 rfl rfl rfl h29) (q02 rfl rfl (q0j _ _ _) rfl) rfl rfl (RS.q (u:=.bool (r9.2 == 0)) rfl (q06 rfl h29 rfl) (RS.mv rfl rfl rfl rfl ?_)))))))
 refine RS.op (u:=.ptr 3 0 2) (want1 rfl rfl rfl h30) (q0c und28 rfl (q01 inf3) rfl rfl rfl) rfl rfl (RS.op (u:=.int .i64 r9.1.State) (want1 rfl rfl rfl h30) (q09 und3 rfl rfl rfl rfl) rfl rfl (RS.op (want1 rfl rfl rfl h30) (q02 rfl rfl (q0j _ _ _) rfl) rfl rfl (RS.q (u:=.bool (r9.1.State == 1)) rfl (q06 rfl h30 rfl) (RS.mv rfl rfl rfl rfl (RS.op (want1 rfl rfl rfl h31) (q0h rfl) rfl rfl (RS.op (want1 rfl rfl rfl h31) (q02 rfl rfl (q0j _ _ _) rfl) rfl rfl (RS.q (u:=.bool (r11.2 == 16)) rfl (q06 rfl h31 rfl) ?_)))))))
 refine RS.mv rfl rfl rfl rfl (RS.op (want1 rfl rfl rfl h32) (q0h rfl) rfl rfl (RS.op (want1 rfl rfl rfl h32) (q02 rfl rfl (q0j _ _ _) rfl) rfl rfl (RS.q (u:=.bool (r17.2 == 0)) rfl (q06 rfl h32 rfl) (RS.mv rfl rfl rfl rfl (RS.op (u:=.ptr 6 0 0) (want1 rfl rfl rfl h33) (q0c und28 rfl (q01 inf22) rfl rfl rfl) rfl rfl (RS.op (u:=.isl false (List.map cGDeriv r17.1.Readings)) (want1 rfl rfl rfl h33) (q09 und22 rfl rfl rfl rfl) rfl rfl (RS.op (u:=.iptr (xGDeriv x34)) (want1 rfl rfl rfl h33) (q2a rfl rfl (q1f cGDeriv und22 (q01 inf43) q0e h35 (q0m x34))) rfl rfl ?_)))))))
 refine RS.op (u:=.iptr [.str x34.Name,.int .i64 x34.From,.int .i64 x34.To,.isl false (List.map cGDeriv x34.Kids)]) (want1 rfl rfl rfl h33) (op_fi und43 rfl (q01 inf9) rfl rfl) rfl rfl (RS.op (u:=.str x34.Name) (want1 rfl rfl rfl h33) (q90 und9 rfl rfl rfl) rfl rfl (RS.op (u:=.bool (bytesEq x34.Name ([97]))) (want1 rfl rfl rfl h33) (qau rfl rfl rfl rfl) rfl rfl (RS.q (u:=.bool (bytesEq x34.Name ([97]))) rfl (q06 rfl h33 rfl) (RS.mv rfl rfl rfl rfl (RS.op (want1 rfl rfl rfl h36) (q0h rfl) rfl rfl (RS.q (u:=.bool r19.2) rfl (q06 rfl h36 rfl) (RS.mv rfl rfl rfl rfl ?_)))))))
 refine RS.op (u:=.agg (cGProp r19.1)) (want1 rfl rfl rfl h37) (q0a und33 rfl (q01 inf33) rfl rfl rfl) rfl rfl (RS.op (u:=.agg [.int .i64 0,.str ([97]),.int .i64 0,.int .i64 1]) (want1 rfl rfl rfl h37) (q4d bd33 rfl rfl rfl) rfl rfl (RS.op (u:=.bool (eqGProp (GProp.mk r19.1.Kind r19.1.Name r19.1.From r19.1.To) (GProp.mk 0 ([97]) 0 1))) (want1 rfl rfl rfl h37) (q7j rfl rfl (q5k (GProp.mk r19.1.Kind r19.1.Name r19.1.From r19.1.To) (GProp.mk 0 ([97]) 0 1))) rfl rfl (RS.q (u:=.bool (eqGProp (GProp.mk r19.1.Kind r19.1.Name r19.1.From r19.1.To) (GProp.mk 0 ([97]) 0 1))) rfl (q06 rfl h37 rfl) (RS.mv rfl rfl rfl rfl (RS.op (want1 rfl rfl rfl h38) (q0h rfl) rfl rfl (RS.op (want1 rfl rfl rfl h38) (q02 rfl rfl (q0j _ _ _) rfl) rfl rfl (RS.q (u:=.bool (r21.2 == 0)) rfl (q06 rfl h38 rfl) ?_)))))))
 refine RS.mv rfl rfl rfl rfl (RS.op (u:=.ptr 8 0 1) (want1 rfl rfl rfl h39) (q0c und28 rfl (q01 inf26) rfl rfl rfl) rfl rfl (RS.op (u:=.isl false (List.map cGDecision r21.1.Decisions)) (want1 rfl rfl rfl h39) (q09 und26 rfl rfl rfl rfl) rfl rfl (RS.op (want1 rfl rfl rfl h39) (q0k rfl rfl rfl (q0g cGDecision und26)) rfl rfl (RS.op (want1 rfl rfl rfl h39) (q02 rfl rfl (q0j _ _ _) rfl) rfl rfl (RS.q (u:=.bool ((r21.1.Decisions.length:Int) == 1)) rfl (q06 rfl h39 rfl) (RS.mv rfl rfl rfl rfl ?_))))))
 repeat refine RS.no (want0 rfl rfl rfl h40) rfl rfl ?_
 refine RS.q (u:=.bool false) rfl (q07 rfl h40 rfl) (RS.mv rfl rfl rfl rfl ?_)
 repeat refine RS.no (want0 rfl rfl rfl rfl) rfl rfl ?_
 refine RS.q (u:=.bool false) rfl (q07 rfl rfl rfl) ?_
 refine sd ?_
 exact ⟨_,_,⟨rfl,rfl⟩,(Nat.zero_le _),Gh.toC (n1:=11) ⟨rfl,trivial⟩ rfl (Nat.zero_le _) (by simp)⟩
 replace h43:=q04 h39 h43
 replace h43:=Option.some.inj h43
 subst h43
 refine sr ?_
 refine RS.q rfl (q02 rfl rfl (q0j _ _ _) rfl) (RS.mv rfl rfl rfl rfl (RS.op (u:=.ptr 1 0 0) (want1 rfl rfl rfl h27) (q0c und28 rfl (q01 inf22) rfl rfl rfl) rfl rfl (RS.op (u:=.isl false (List.map cGDeriv r5.1.Readings)) (want1 rfl rfl rfl h27) (q09 und22 rfl rfl rfl rfl) rfl rfl (RS.op (want1 rfl rfl rfl h27) (q0k rfl rfl rfl (q0g cGDeriv und22)) rfl rfl (RS.op (want1 rfl rfl rfl h27) (q02 rfl rfl (q0j _ _ _) rfl) rfl rfl (RS.q (u:=.bool ((r5.1.Readings.length:Int) == 1)) rfl (q06 rfl h27 rfl) (RS.mv rfl rfl rfl rfl ?_)))))))
 refine RS.op (want1 rfl rfl rfl h28) (q0h rfl) rfl rfl (RS.op (u:=.bool (!r7.2)) (want1 rfl rfl rfl h28) (q7l rfl rfl rfl rfl) rfl rfl (RS.q (u:=.bool (!r7.2)) rfl (q06 rfl h28 rfl) (RS.mv rfl rfl rfl rfl (RS.op (want1 rfl rfl rfl h29) (q0h rfl) rfl rfl (RS.op (want1 rfl rfl rfl h29) (q02 rfl rfl (q0j _ _ _) rfl) rfl rfl (RS.q (u:=.bool (r9.2 == 0)) rfl (q06 rfl h29 rfl) (RS.mv rfl rfl rfl rfl ?_)))))))
 refine RS.op (u:=.ptr 3 0 2) (want1 rfl rfl rfl h30) (q0c und28 rfl (q01 inf3) rfl rfl rfl) rfl rfl (RS.op (u:=.int .i64 r9.1.State) (want1 rfl rfl rfl h30) (q09 und3 rfl rfl rfl rfl) rfl rfl (RS.op (want1 rfl rfl rfl h30) (q02 rfl rfl (q0j _ _ _) rfl) rfl rfl (RS.q (u:=.bool (r9.1.State == 1)) rfl (q06 rfl h30 rfl) (RS.mv rfl rfl rfl rfl (RS.op (want1 rfl rfl rfl h31) (q0h rfl) rfl rfl (RS.op (want1 rfl rfl rfl h31) (q02 rfl rfl (q0j _ _ _) rfl) rfl rfl (RS.q (u:=.bool (r11.2 == 16)) rfl (q06 rfl h31 rfl) ?_)))))))
 refine RS.mv rfl rfl rfl rfl (RS.op (want1 rfl rfl rfl h32) (q0h rfl) rfl rfl (RS.op (want1 rfl rfl rfl h32) (q02 rfl rfl (q0j _ _ _) rfl) rfl rfl (RS.q (u:=.bool (r17.2 == 0)) rfl (q06 rfl h32 rfl) (RS.mv rfl rfl rfl rfl (RS.op (u:=.ptr 6 0 0) (want1 rfl rfl rfl h33) (q0c und28 rfl (q01 inf22) rfl rfl rfl) rfl rfl (RS.op (u:=.isl false (List.map cGDeriv r17.1.Readings)) (want1 rfl rfl rfl h33) (q09 und22 rfl rfl rfl rfl) rfl rfl (RS.op (u:=.iptr (xGDeriv x34)) (want1 rfl rfl rfl h33) (q2a rfl rfl (q1f cGDeriv und22 (q01 inf43) q0e h35 (q0m x34))) rfl rfl ?_)))))))
 refine RS.op (u:=.iptr [.str x34.Name,.int .i64 x34.From,.int .i64 x34.To,.isl false (List.map cGDeriv x34.Kids)]) (want1 rfl rfl rfl h33) (op_fi und43 rfl (q01 inf9) rfl rfl) rfl rfl (RS.op (u:=.str x34.Name) (want1 rfl rfl rfl h33) (q90 und9 rfl rfl rfl) rfl rfl (RS.op (u:=.bool (bytesEq x34.Name ([97]))) (want1 rfl rfl rfl h33) (qau rfl rfl rfl rfl) rfl rfl (RS.q (u:=.bool (bytesEq x34.Name ([97]))) rfl (q06 rfl h33 rfl) (RS.mv rfl rfl rfl rfl (RS.op (want1 rfl rfl rfl h36) (q0h rfl) rfl rfl (RS.q (u:=.bool r19.2) rfl (q06 rfl h36 rfl) (RS.mv rfl rfl rfl rfl ?_)))))))
 refine RS.op (u:=.agg (cGProp r19.1)) (want1 rfl rfl rfl h37) (q0a und33 rfl (q01 inf33) rfl rfl rfl) rfl rfl (RS.op (u:=.agg [.int .i64 0,.str ([97]),.int .i64 0,.int .i64 1]) (want1 rfl rfl rfl h37) (q4d bd33 rfl rfl rfl) rfl rfl (RS.op (u:=.bool (eqGProp (GProp.mk r19.1.Kind r19.1.Name r19.1.From r19.1.To) (GProp.mk 0 ([97]) 0 1))) (want1 rfl rfl rfl h37) (q7j rfl rfl (q5k (GProp.mk r19.1.Kind r19.1.Name r19.1.From r19.1.To) (GProp.mk 0 ([97]) 0 1))) rfl rfl (RS.q (u:=.bool (eqGProp (GProp.mk r19.1.Kind r19.1.Name r19.1.From r19.1.To) (GProp.mk 0 ([97]) 0 1))) rfl (q06 rfl h37 rfl) (RS.mv rfl rfl rfl rfl (RS.op (want1 rfl rfl rfl h38) (q0h rfl) rfl rfl (RS.op (want1 rfl rfl rfl h38) (q02 rfl rfl (q0j _ _ _) rfl) rfl rfl (RS.q (u:=.bool (r21.2 == 0)) rfl (q06 rfl h38 rfl) ?_)))))))
 refine RS.mv rfl rfl rfl rfl ?_
 repeat refine RS.no (want0 rfl rfl rfl h39) rfl rfl ?_
 refine RS.q (u:=.bool false) rfl (q07 rfl h39 rfl) (RS.mv rfl rfl rfl rfl ?_)
 repeat refine RS.no (want0 rfl rfl rfl rfl) rfl rfl ?_
 refine RS.q (u:=.bool false) rfl (q07 rfl rfl rfl) (RS.mv rfl rfl rfl rfl ?_)
 repeat refine RS.no (want0 rfl rfl rfl rfl) rfl rfl ?_
 refine RS.q (u:=.bool false) rfl (q07 rfl rfl rfl) ?_
 refine sd ?_
 exact ⟨_,_,⟨rfl,rfl⟩,(Nat.zero_le _),Gh.toC (n1:=11) ⟨rfl,trivial⟩ rfl (Nat.zero_le _) (by simp)⟩
 replace h43:=q04 h38 h43
 replace h43:=Option.some.inj h43
 subst h43
 refine sr ?_
 refine RS.q rfl (q02 rfl rfl (q0j _ _ _) rfl) (RS.mv rfl rfl rfl rfl (RS.op (u:=.ptr 1 0 0) (want1 rfl rfl rfl h27) (q0c und28 rfl (q01 inf22) rfl rfl rfl) rfl rfl (RS.op (u:=.isl false (List.map cGDeriv r5.1.Readings)) (want1 rfl rfl rfl h27) (q09 und22 rfl rfl rfl rfl) rfl rfl (RS.op (want1 rfl rfl rfl h27) (q0k rfl rfl rfl (q0g cGDeriv und22)) rfl rfl (RS.op (want1 rfl rfl rfl h27) (q02 rfl rfl (q0j _ _ _) rfl) rfl rfl (RS.q (u:=.bool ((r5.1.Readings.length:Int) == 1)) rfl (q06 rfl h27 rfl) (RS.mv rfl rfl rfl rfl ?_)))))))
 refine RS.op (want1 rfl rfl rfl h28) (q0h rfl) rfl rfl (RS.op (u:=.bool (!r7.2)) (want1 rfl rfl rfl h28) (q7l rfl rfl rfl rfl) rfl rfl (RS.q (u:=.bool (!r7.2)) rfl (q06 rfl h28 rfl) (RS.mv rfl rfl rfl rfl (RS.op (want1 rfl rfl rfl h29) (q0h rfl) rfl rfl (RS.op (want1 rfl rfl rfl h29) (q02 rfl rfl (q0j _ _ _) rfl) rfl rfl (RS.q (u:=.bool (r9.2 == 0)) rfl (q06 rfl h29 rfl) (RS.mv rfl rfl rfl rfl ?_)))))))
 refine RS.op (u:=.ptr 3 0 2) (want1 rfl rfl rfl h30) (q0c und28 rfl (q01 inf3) rfl rfl rfl) rfl rfl (RS.op (u:=.int .i64 r9.1.State) (want1 rfl rfl rfl h30) (q09 und3 rfl rfl rfl rfl) rfl rfl (RS.op (want1 rfl rfl rfl h30) (q02 rfl rfl (q0j _ _ _) rfl) rfl rfl (RS.q (u:=.bool (r9.1.State == 1)) rfl (q06 rfl h30 rfl) (RS.mv rfl rfl rfl rfl (RS.op (want1 rfl rfl rfl h31) (q0h rfl) rfl rfl (RS.op (want1 rfl rfl rfl h31) (q02 rfl rfl (q0j _ _ _) rfl) rfl rfl (RS.q (u:=.bool (r11.2 == 16)) rfl (q06 rfl h31 rfl) ?_)))))))
 refine RS.mv rfl rfl rfl rfl (RS.op (want1 rfl rfl rfl h32) (q0h rfl) rfl rfl (RS.op (want1 rfl rfl rfl h32) (q02 rfl rfl (q0j _ _ _) rfl) rfl rfl (RS.q (u:=.bool (r17.2 == 0)) rfl (q06 rfl h32 rfl) (RS.mv rfl rfl rfl rfl (RS.op (u:=.ptr 6 0 0) (want1 rfl rfl rfl h33) (q0c und28 rfl (q01 inf22) rfl rfl rfl) rfl rfl (RS.op (u:=.isl false (List.map cGDeriv r17.1.Readings)) (want1 rfl rfl rfl h33) (q09 und22 rfl rfl rfl rfl) rfl rfl (RS.op (u:=.iptr (xGDeriv x34)) (want1 rfl rfl rfl h33) (q2a rfl rfl (q1f cGDeriv und22 (q01 inf43) q0e h35 (q0m x34))) rfl rfl ?_)))))))
 refine RS.op (u:=.iptr [.str x34.Name,.int .i64 x34.From,.int .i64 x34.To,.isl false (List.map cGDeriv x34.Kids)]) (want1 rfl rfl rfl h33) (op_fi und43 rfl (q01 inf9) rfl rfl) rfl rfl (RS.op (u:=.str x34.Name) (want1 rfl rfl rfl h33) (q90 und9 rfl rfl rfl) rfl rfl (RS.op (u:=.bool (bytesEq x34.Name ([97]))) (want1 rfl rfl rfl h33) (qau rfl rfl rfl rfl) rfl rfl (RS.q (u:=.bool (bytesEq x34.Name ([97]))) rfl (q06 rfl h33 rfl) (RS.mv rfl rfl rfl rfl (RS.op (want1 rfl rfl rfl h36) (q0h rfl) rfl rfl (RS.q (u:=.bool r19.2) rfl (q06 rfl h36 rfl) (RS.mv rfl rfl rfl rfl ?_)))))))
 refine RS.op (u:=.agg (cGProp r19.1)) (want1 rfl rfl rfl h37) (q0a und33 rfl (q01 inf33) rfl rfl rfl) rfl rfl (RS.op (u:=.agg [.int .i64 0,.str ([97]),.int .i64 0,.int .i64 1]) (want1 rfl rfl rfl h37) (q4d bd33 rfl rfl rfl) rfl rfl (RS.op (u:=.bool (eqGProp (GProp.mk r19.1.Kind r19.1.Name r19.1.From r19.1.To) (GProp.mk 0 ([97]) 0 1))) (want1 rfl rfl rfl h37) (q7j rfl rfl (q5k (GProp.mk r19.1.Kind r19.1.Name r19.1.From r19.1.To) (GProp.mk 0 ([97]) 0 1))) rfl rfl (RS.q (u:=.bool (eqGProp (GProp.mk r19.1.Kind r19.1.Name r19.1.From r19.1.To) (GProp.mk 0 ([97]) 0 1))) rfl (q06 rfl h37 rfl) (RS.mv rfl rfl rfl rfl ?_))))
 repeat refine RS.no (want0 rfl rfl rfl h38) rfl rfl ?_
 refine RS.q (u:=.bool false) rfl (q07 rfl h38 rfl) (RS.mv rfl rfl rfl rfl ?_)
 repeat refine RS.no (want0 rfl rfl rfl rfl) rfl rfl ?_
 refine RS.q (u:=.bool false) rfl (q07 rfl rfl rfl) (RS.mv rfl rfl rfl rfl ?_)
 repeat refine RS.no (want0 rfl rfl rfl rfl) rfl rfl ?_
 refine RS.q (u:=.bool false) rfl (q07 rfl rfl rfl) (RS.mv rfl rfl rfl rfl ?_)
 repeat refine RS.no (want0 rfl rfl rfl rfl) rfl rfl ?_
 refine RS.q (u:=.bool false) rfl (q07 rfl rfl rfl) ?_
 refine sd ?_
 exact ⟨_,_,⟨rfl,rfl⟩,(Nat.zero_le _),Gh.toC (n1:=11) ⟨rfl,trivial⟩ rfl (Nat.zero_le _) (by simp)⟩
 replace h43:=q04 h37 h43
 replace h43:=Option.some.inj h43
 subst h43
 refine sr ?_
 refine RS.q rfl (q02 rfl rfl (q0j _ _ _) rfl) (RS.mv rfl rfl rfl rfl (RS.op (u:=.ptr 1 0 0) (want1 rfl rfl rfl h27) (q0c und28 rfl (q01 inf22) rfl rfl rfl) rfl rfl (RS.op (u:=.isl false (List.map cGDeriv r5.1.Readings)) (want1 rfl rfl rfl h27) (q09 und22 rfl rfl rfl rfl) rfl rfl (RS.op (want1 rfl rfl rfl h27) (q0k rfl rfl rfl (q0g cGDeriv und22)) rfl rfl (RS.op (want1 rfl rfl rfl h27) (q02 rfl rfl (q0j _ _ _) rfl) rfl rfl (RS.q (u:=.bool ((r5.1.Readings.length:Int) == 1)) rfl (q06 rfl h27 rfl) (RS.mv rfl rfl rfl rfl ?_)))))))
 refine RS.op (want1 rfl rfl rfl h28) (q0h rfl) rfl rfl (RS.op (u:=.bool (!r7.2)) (want1 rfl rfl rfl h28) (q7l rfl rfl rfl rfl) rfl rfl (RS.q (u:=.bool (!r7.2)) rfl (q06 rfl h28 rfl) (RS.mv rfl rfl rfl rfl (RS.op (want1 rfl rfl rfl h29) (q0h rfl) rfl rfl (RS.op (want1 rfl rfl rfl h29) (q02 rfl rfl (q0j _ _ _) rfl) rfl rfl (RS.q (u:=.bool (r9.2 == 0)) rfl (q06 rfl h29 rfl) (RS.mv rfl rfl rfl rfl ?_)))))))
 refine RS.op (u:=.ptr 3 0 2) (want1 rfl rfl rfl h30) (q0c und28 rfl (q01 inf3) rfl rfl rfl) rfl rfl (RS.op (u:=.int .i64 r9.1.State) (want1 rfl rfl rfl h30) (q09 und3 rfl rfl rfl rfl) rfl rfl (RS.op (want1 rfl rfl rfl h30) (q02 rfl rfl (q0j _ _ _) rfl) rfl rfl (RS.q (u:=.bool (r9.1.State == 1)) rfl (q06 rfl h30 rfl) (RS.mv rfl rfl rfl rfl (RS.op (want1 rfl rfl rfl h31) (q0h rfl) rfl rfl (RS.op (want1 rfl rfl rfl h31) (q02 rfl rfl (q0j _ _ _) rfl) rfl rfl (RS.q (u:=.bool (r11.2 == 16)) rfl (q06 rfl h31 rfl) ?_)))))))
 refine RS.mv rfl rfl rfl rfl (RS.op (want1 rfl rfl rfl h32) (q0h rfl) rfl rfl (RS.op (want1 rfl rfl rfl h32) (q02 rfl rfl (q0j _ _ _) rfl) rfl rfl (RS.q (u:=.bool (r17.2 == 0)) rfl (q06 rfl h32 rfl) (RS.mv rfl rfl rfl rfl (RS.op (u:=.ptr 6 0 0) (want1 rfl rfl rfl h33) (q0c und28 rfl (q01 inf22) rfl rfl rfl) rfl rfl (RS.op (u:=.isl false (List.map cGDeriv r17.1.Readings)) (want1 rfl rfl rfl h33) (q09 und22 rfl rfl rfl rfl) rfl rfl (RS.op (u:=.iptr (xGDeriv x34)) (want1 rfl rfl rfl h33) (q2a rfl rfl (q1f cGDeriv und22 (q01 inf43) q0e h35 (q0m x34))) rfl rfl ?_)))))))
 refine RS.op (u:=.iptr [.str x34.Name,.int .i64 x34.From,.int .i64 x34.To,.isl false (List.map cGDeriv x34.Kids)]) (want1 rfl rfl rfl h33) (op_fi und43 rfl (q01 inf9) rfl rfl) rfl rfl (RS.op (u:=.str x34.Name) (want1 rfl rfl rfl h33) (q90 und9 rfl rfl rfl) rfl rfl (RS.op (u:=.bool (bytesEq x34.Name ([97]))) (want1 rfl rfl rfl h33) (qau rfl rfl rfl rfl) rfl rfl (RS.q (u:=.bool (bytesEq x34.Name ([97]))) rfl (q06 rfl h33 rfl) (RS.mv rfl rfl rfl rfl (RS.op (want1 rfl rfl rfl h36) (q0h rfl) rfl rfl (RS.q (u:=.bool r19.2) rfl (q06 rfl h36 rfl) (RS.mv rfl rfl rfl rfl ?_)))))))
 repeat refine RS.no (want0 rfl rfl rfl h37) rfl rfl ?_
 refine RS.q (u:=.bool false) rfl (q07 rfl h37 rfl) (RS.mv rfl rfl rfl rfl ?_)
 repeat refine RS.no (want0 rfl rfl rfl rfl) rfl rfl ?_
 refine RS.q (u:=.bool false) rfl (q07 rfl rfl rfl) (RS.mv rfl rfl rfl rfl ?_)
 repeat refine RS.no (want0 rfl rfl rfl rfl) rfl rfl ?_
 refine RS.q (u:=.bool false) rfl (q07 rfl rfl rfl) (RS.mv rfl rfl rfl rfl ?_)
 repeat refine RS.no (want0 rfl rfl rfl rfl) rfl rfl ?_
 refine RS.q (u:=.bool false) rfl (q07 rfl rfl rfl) (RS.mv rfl rfl rfl rfl ?_)
 repeat refine RS.no (want0 rfl rfl rfl rfl) rfl rfl ?_
 refine RS.q (u:=.bool false) rfl (q07 rfl rfl rfl) ?_
 refine sd ?_
 exact ⟨_,_,⟨rfl,rfl⟩,(Nat.zero_le _),Gh.toC (n1:=11) ⟨rfl,trivial⟩ rfl (Nat.zero_le _) (by simp)⟩
 replace h43:=q04 h36 h43
 replace h43:=Option.some.inj h43
 subst h43
 refine sr ?_
 refine RS.q rfl (q02 rfl rfl (q0j _ _ _) rfl) (RS.mv rfl rfl rfl rfl (RS.op (u:=.ptr 1 0 0) (want1 rfl rfl rfl h27) (q0c und28 rfl (q01 inf22) rfl rfl rfl) rfl rfl (RS.op (u:=.isl false (List.map cGDeriv r5.1.Readings)) (want1 rfl rfl rfl h27) (q09 und22 rfl rfl rfl rfl) rfl rfl (RS.op (want1 rfl rfl rfl h27) (q0k rfl rfl rfl (q0g cGDeriv und22)) rfl rfl (RS.op (want1 rfl rfl rfl h27) (q02 rfl rfl (q0j _ _ _) rfl) rfl rfl (RS.q (u:=.bool ((r5.1.Readings.length:Int) == 1)) rfl (q06 rfl h27 rfl) (RS.mv rfl rfl rfl rfl ?_)))))))
 refine RS.op (want1 rfl rfl rfl h28) (q0h rfl) rfl rfl (RS.op (u:=.bool (!r7.2)) (want1 rfl rfl rfl h28) (q7l rfl rfl rfl rfl) rfl rfl (RS.q (u:=.bool (!r7.2)) rfl (q06 rfl h28 rfl) (RS.mv rfl rfl rfl rfl (RS.op (want1 rfl rfl rfl h29) (q0h rfl) rfl rfl (RS.op (want1 rfl rfl rfl h29) (q02 rfl rfl (q0j _ _ _) rfl) rfl rfl (RS.q (u:=.bool (r9.2 == 0)) rfl (q06 rfl h29 rfl) (RS.mv rfl rfl rfl rfl ?_)))))))
 refine RS.op (u:=.ptr 3 0 2) (want1 rfl rfl rfl h30) (q0c und28 rfl (q01 inf3) rfl rfl rfl) rfl rfl (RS.op (u:=.int .i64 r9.1.State) (want1 rfl rfl rfl h30) (q09 und3 rfl rfl rfl rfl) rfl rfl (RS.op (want1 rfl rfl rfl h30) (q02 rfl rfl (q0j _ _ _) rfl) rfl rfl (RS.q (u:=.bool (r9.1.State == 1)) rfl (q06 rfl h30 rfl) (RS.mv rfl rfl rfl rfl (RS.op (want1 rfl rfl rfl h31) (q0h rfl) rfl rfl (RS.op (want1 rfl rfl rfl h31) (q02 rfl rfl (q0j _ _ _) rfl) rfl rfl (RS.q (u:=.bool (r11.2 == 16)) rfl (q06 rfl h31 rfl) ?_)))))))
 refine RS.mv rfl rfl rfl rfl (RS.op (want1 rfl rfl rfl h32) (q0h rfl) rfl rfl (RS.op (want1 rfl rfl rfl h32) (q02 rfl rfl (q0j _ _ _) rfl) rfl rfl (RS.q (u:=.bool (r17.2 == 0)) rfl (q06 rfl h32 rfl) (RS.mv rfl rfl rfl rfl (RS.op (u:=.ptr 6 0 0) (want1 rfl rfl rfl h33) (q0c und28 rfl (q01 inf22) rfl rfl rfl) rfl rfl (RS.op (u:=.isl false (List.map cGDeriv r17.1.Readings)) (want1 rfl rfl rfl h33) (q09 und22 rfl rfl rfl rfl) rfl rfl (RS.op (u:=.iptr (xGDeriv x34)) (want1 rfl rfl rfl h33) (q2a rfl rfl (q1f cGDeriv und22 (q01 inf43) q0e h35 (q0m x34))) rfl rfl ?_)))))))
 refine RS.op (u:=.iptr [.str x34.Name,.int .i64 x34.From,.int .i64 x34.To,.isl false (List.map cGDeriv x34.Kids)]) (want1 rfl rfl rfl h33) (op_fi und43 rfl (q01 inf9) rfl rfl) rfl rfl (RS.op (u:=.str x34.Name) (want1 rfl rfl rfl h33) (q90 und9 rfl rfl rfl) rfl rfl (RS.op (u:=.bool (bytesEq x34.Name ([97]))) (want1 rfl rfl rfl h33) (qau rfl rfl rfl rfl) rfl rfl (RS.q (u:=.bool (bytesEq x34.Name ([97]))) rfl (q06 rfl h33 rfl) (RS.mv rfl rfl rfl rfl (RS.no (want0 rfl rfl rfl h36) rfl rfl (RS.q (u:=.bool false) rfl (q07 rfl h36 rfl) (RS.mv rfl rfl rfl rfl ?_)))))))
 repeat refine RS.no (want0 rfl rfl rfl rfl) rfl rfl ?_
 refine RS.q (u:=.bool false) rfl (q07 rfl rfl rfl) (RS.mv rfl rfl rfl rfl ?_)
 repeat refine RS.no (want0 rfl rfl rfl rfl) rfl rfl ?_
 refine RS.q (u:=.bool false) rfl (q07 rfl rfl rfl) (RS.mv rfl rfl rfl rfl ?_)
 repeat refine RS.no (want0 rfl rfl rfl rfl) rfl rfl ?_
 refine RS.q (u:=.bool false) rfl (q07 rfl rfl rfl) (RS.mv rfl rfl rfl rfl ?_)
 repeat refine RS.no (want0 rfl rfl rfl rfl) rfl rfl ?_
 refine RS.q (u:=.bool false) rfl (q07 rfl rfl rfl) (RS.mv rfl rfl rfl rfl ?_)
 repeat refine RS.no (want0 rfl rfl rfl rfl) rfl rfl ?_
 refine RS.q (u:=.bool false) rfl (q07 rfl rfl rfl) ?_
 refine sd ?_
 exact ⟨_,_,⟨rfl,rfl⟩,(Nat.zero_le _),Gh.toC (n1:=11) ⟨rfl,trivial⟩ rfl (Nat.zero_le _) (by simp)⟩
 replace h43:=q04 h33 h43
 replace h43:=Option.some.inj h43
 subst h43
 refine sr ?_
 refine RS.q rfl (q02 rfl rfl (q0j _ _ _) rfl) (RS.mv rfl rfl rfl rfl (RS.op (u:=.ptr 1 0 0) (want1 rfl rfl rfl h27) (q0c und28 rfl (q01 inf22) rfl rfl rfl) rfl rfl (RS.op (u:=.isl false (List.map cGDeriv r5.1.Readings)) (want1 rfl rfl rfl h27) (q09 und22 rfl rfl rfl rfl) rfl rfl (RS.op (want1 rfl rfl rfl h27) (q0k rfl rfl rfl (q0g cGDeriv und22)) rfl rfl (RS.op (want1 rfl rfl rfl h27) (q02 rfl rfl (q0j _ _ _) rfl) rfl rfl (RS.q (u:=.bool ((r5.1.Readings.length:Int) == 1)) rfl (q06 rfl h27 rfl) (RS.mv rfl rfl rfl rfl ?_)))))))
 refine RS.op (want1 rfl rfl rfl h28) (q0h rfl) rfl rfl (RS.op (u:=.bool (!r7.2)) (want1 rfl rfl rfl h28) (q7l rfl rfl rfl rfl) rfl rfl (RS.q (u:=.bool (!r7.2)) rfl (q06 rfl h28 rfl) (RS.mv rfl rfl rfl rfl (RS.op (want1 rfl rfl rfl h29) (q0h rfl) rfl rfl (RS.op (want1 rfl rfl rfl h29) (q02 rfl rfl (q0j _ _ _) rfl) rfl rfl (RS.q (u:=.bool (r9.2 == 0)) rfl (q06 rfl h29 rfl) (RS.mv rfl rfl rfl rfl ?_)))))))
 refine RS.op (u:=.ptr 3 0 2) (want1 rfl rfl rfl h30) (q0c und28 rfl (q01 inf3) rfl rfl rfl) rfl rfl (RS.op (u:=.int .i64 r9.1.State) (want1 rfl rfl rfl h30) (q09 und3 rfl rfl rfl rfl) rfl rfl (RS.op (want1 rfl rfl rfl h30) (q02 rfl rfl (q0j _ _ _) rfl) rfl rfl (RS.q (u:=.bool (r9.1.State == 1)) rfl (q06 rfl h30 rfl) (RS.mv rfl rfl rfl rfl (RS.op (want1 rfl rfl rfl h31) (q0h rfl) rfl rfl (RS.op (want1 rfl rfl rfl h31) (q02 rfl rfl (q0j _ _ _) rfl) rfl rfl (RS.q (u:=.bool (r11.2 == 16)) rfl (q06 rfl h31 rfl) ?_)))))))
 refine RS.mv rfl rfl rfl rfl (RS.op (want1 rfl rfl rfl h32) (q0h rfl) rfl rfl (RS.op (want1 rfl rfl rfl h32) (q02 rfl rfl (q0j _ _ _) rfl) rfl rfl (RS.q (u:=.bool (r17.2 == 0)) rfl (q06 rfl h32 rfl) (RS.mv rfl rfl rfl rfl ?_))))
 repeat refine RS.no (want0 rfl rfl rfl h33) rfl rfl ?_
 refine RS.q (u:=.bool false) rfl (q07 rfl h33 rfl) (RS.mv rfl rfl rfl rfl (RS.no (want0 rfl rfl rfl rfl) rfl rfl (RS.q (u:=.bool false) rfl (q07 rfl rfl rfl) (RS.mv rfl rfl rfl rfl ?_))))
 repeat refine RS.no (want0 rfl rfl rfl rfl) rfl rfl ?_
 refine RS.q (u:=.bool false) rfl (q07 rfl rfl rfl) (RS.mv rfl rfl rfl rfl ?_)
 repeat refine RS.no (want0 rfl rfl rfl rfl) rfl rfl ?_
 refine RS.q (u:=.bool false) rfl (q07 rfl rfl rfl) (RS.mv rfl rfl rfl rfl ?_)
 repeat refine RS.no (want0 rfl rfl rfl rfl) rfl rfl ?_
 refine RS.q (u:=.bool false) rfl (q07 rfl rfl rfl) (RS.mv rfl rfl rfl rfl ?_)
 repeat refine RS.no (want0 rfl rfl rfl rfl) rfl rfl ?_
 refine RS.q (u:=.bool false) rfl (q07 rfl rfl rfl) (RS.mv rfl rfl rfl rfl ?_)
 repeat refine RS.no (want0 rfl rfl rfl rfl) rfl rfl ?_
 refine RS.q (u:=.bool false) rfl (q07 rfl rfl rfl) ?_
 refine sd ?_
 exact ⟨_,_,⟨rfl,rfl⟩,(Nat.zero_le _),Gh.toC (n1:=11) ⟨rfl,trivial⟩ rfl (Nat.zero_le _) (by simp)⟩
 replace h43:=q04 h32 h43
 replace h43:=Option.some.inj h43
 subst h43
 refine sr ?_
 refine RS.q rfl (q02 rfl rfl (q0j _ _ _) rfl) (RS.mv rfl rfl rfl rfl (RS.op (u:=.ptr 1 0 0) (want1 rfl rfl rfl h27) (q0c und28 rfl (q01 inf22) rfl rfl rfl) rfl rfl (RS.op (u:=.isl false (List.map cGDeriv r5.1.Readings)) (want1 rfl rfl rfl h27) (q09 und22 rfl rfl rfl rfl) rfl rfl (RS.op (want1 rfl rfl rfl h27) (q0k rfl rfl rfl (q0g cGDeriv und22)) rfl rfl (RS.op (want1 rfl rfl rfl h27) (q02 rfl rfl (q0j _ _ _) rfl) rfl rfl (RS.q (u:=.bool ((r5.1.Readings.length:Int) == 1)) rfl (q06 rfl h27 rfl) (RS.mv rfl rfl rfl rfl ?_)))))))
 refine RS.op (want1 rfl rfl rfl h28) (q0h rfl) rfl rfl (RS.op (u:=.bool (!r7.2)) (want1 rfl rfl rfl h28) (q7l rfl rfl rfl rfl) rfl rfl (RS.q (u:=.bool (!r7.2)) rfl (q06 rfl h28 rfl) (RS.mv rfl rfl rfl rfl (RS.op (want1 rfl rfl rfl h29) (q0h rfl) rfl rfl (RS.op (want1 rfl rfl rfl h29) (q02 rfl rfl (q0j _ _ _) rfl) rfl rfl (RS.q (u:=.bool (r9.2 == 0)) rfl (q06 rfl h29 rfl) (RS.mv rfl rfl rfl rfl ?_)))))))
 refine RS.op (u:=.ptr 3 0 2) (want1 rfl rfl rfl h30) (q0c und28 rfl (q01 inf3) rfl rfl rfl) rfl rfl (RS.op (u:=.int .i64 r9.1.State) (want1 rfl rfl rfl h30) (q09 und3 rfl rfl rfl rfl) rfl rfl (RS.op (want1 rfl rfl rfl h30) (q02 rfl rfl (q0j _ _ _) rfl) rfl rfl (RS.q (u:=.bool (r9.1.State == 1)) rfl (q06 rfl h30 rfl) (RS.mv rfl rfl rfl rfl (RS.op (want1 rfl rfl rfl h31) (q0h rfl) rfl rfl (RS.op (want1 rfl rfl rfl h31) (q02 rfl rfl (q0j _ _ _) rfl) rfl rfl (RS.q (u:=.bool (r11.2 == 16)) rfl (q06 rfl h31 rfl) ?_)))))))
 refine RS.mv rfl rfl rfl rfl ?_
 repeat refine RS.no (want0 rfl rfl rfl h32) rfl rfl ?_
 refine RS.q (u:=.bool false) rfl (q07 rfl h32 rfl) (RS.mv rfl rfl rfl rfl ?_)
 repeat refine RS.no (want0 rfl rfl rfl rfl) rfl rfl ?_
 refine RS.q (u:=.bool false) rfl (q07 rfl rfl rfl) (RS.mv rfl rfl rfl rfl (RS.no (want0 rfl rfl rfl rfl) rfl rfl (RS.q (u:=.bool false) rfl (q07 rfl rfl rfl) (RS.mv rfl rfl rfl rfl ?_))))
 repeat refine RS.no (want0 rfl rfl rfl rfl) rfl rfl ?_
 refine RS.q (u:=.bool false) rfl (q07 rfl rfl rfl) (RS.mv rfl rfl rfl rfl ?_)
 repeat refine RS.no (want0 rfl rfl rfl rfl) rfl rfl ?_
 refine RS.q (u:=.bool false) rfl (q07 rfl rfl rfl) (RS.mv rfl rfl rfl rfl ?_)
 repeat refine RS.no (want0 rfl rfl rfl rfl) rfl rfl ?_
 refine RS.q (u:=.bool false) rfl (q07 rfl rfl rfl) (RS.mv rfl rfl rfl rfl ?_)
 repeat refine RS.no (want0 rfl rfl rfl rfl) rfl rfl ?_
 refine RS.q (u:=.bool false) rfl (q07 rfl rfl rfl) (RS.mv rfl rfl rfl rfl ?_)
 repeat refine RS.no (want0 rfl rfl rfl rfl) rfl rfl ?_
 refine RS.q (u:=.bool false) rfl (q07 rfl rfl rfl) ?_
 refine sd ?_
 exact ⟨_,_,⟨rfl,rfl⟩,(Nat.zero_le _),Gh.toC (n1:=11) ⟨rfl,trivial⟩ rfl (Nat.zero_le _) (by simp)⟩
 replace h43:=q04 h31 h43
 replace h43:=Option.some.inj h43
 subst h43
 refine sr ?_
 refine RS.q rfl (q02 rfl rfl (q0j _ _ _) rfl) (RS.mv rfl rfl rfl rfl (RS.op (u:=.ptr 1 0 0) (want1 rfl rfl rfl h27) (q0c und28 rfl (q01 inf22) rfl rfl rfl) rfl rfl (RS.op (u:=.isl false (List.map cGDeriv r5.1.Readings)) (want1 rfl rfl rfl h27) (q09 und22 rfl rfl rfl rfl) rfl rfl (RS.op (want1 rfl rfl rfl h27) (q0k rfl rfl rfl (q0g cGDeriv und22)) rfl rfl (RS.op (want1 rfl rfl rfl h27) (q02 rfl rfl (q0j _ _ _) rfl) rfl rfl (RS.q (u:=.bool ((r5.1.Readings.length:Int) == 1)) rfl (q06 rfl h27 rfl) (RS.mv rfl rfl rfl rfl ?_)))))))
 refine RS.op (want1 rfl rfl rfl h28) (q0h rfl) rfl rfl (RS.op (u:=.bool (!r7.2)) (want1 rfl rfl rfl h28) (q7l rfl rfl rfl rfl) rfl rfl (RS.q (u:=.bool (!r7.2)) rfl (q06 rfl h28 rfl) (RS.mv rfl rfl rfl rfl (RS.op (want1 rfl rfl rfl h29) (q0h rfl) rfl rfl (RS.op (want1 rfl rfl rfl h29) (q02 rfl rfl (q0j _ _ _) rfl) rfl rfl (RS.q (u:=.bool (r9.2 == 0)) rfl (q06 rfl h29 rfl) (RS.mv rfl rfl rfl rfl ?_)))))))
 refine RS.op (u:=.ptr 3 0 2) (want1 rfl rfl rfl h30) (q0c und28 rfl (q01 inf3) rfl rfl rfl) rfl rfl (RS.op (u:=.int .i64 r9.1.State) (want1 rfl rfl rfl h30) (q09 und3 rfl rfl rfl rfl) rfl rfl (RS.op (want1 rfl rfl rfl h30) (q02 rfl rfl (q0j _ _ _) rfl) rfl rfl (RS.q (u:=.bool (r9.1.State == 1)) rfl (q06 rfl h30 rfl) (RS.mv rfl rfl rfl rfl ?_))))
 repeat refine RS.no (want0 rfl rfl rfl h31) rfl rfl ?_
 refine RS.q (u:=.bool false) rfl (q07 rfl h31 rfl) (RS.mv rfl rfl rfl rfl ?_)
 repeat refine RS.no (want0 rfl rfl rfl rfl) rfl rfl ?_
 refine RS.q (u:=.bool false) rfl (q07 rfl rfl rfl) (RS.mv rfl rfl rfl rfl ?_)
 repeat refine RS.no (want0 rfl rfl rfl rfl) rfl rfl ?_
 refine RS.q (u:=.bool false) rfl (q07 rfl rfl rfl) (RS.mv rfl rfl rfl rfl (RS.no (want0 rfl rfl rfl rfl) rfl rfl (RS.q (u:=.bool false) rfl (q07 rfl rfl rfl) (RS.mv rfl rfl rfl rfl ?_))))
 repeat refine RS.no (want0 rfl rfl rfl rfl) rfl rfl ?_
 refine RS.q (u:=.bool false) rfl (q07 rfl rfl rfl) (RS.mv rfl rfl rfl rfl ?_)
 repeat refine RS.no (want0 rfl rfl rfl rfl) rfl rfl ?_
 refine RS.q (u:=.bool false) rfl (q07 rfl rfl rfl) (RS.mv rfl rfl rfl rfl ?_)
 repeat refine RS.no (want0 rfl rfl rfl rfl) rfl rfl ?_
 refine RS.q (u:=.bool false) rfl (q07 rfl rfl rfl) (RS.mv rfl rfl rfl rfl ?_)
 repeat refine RS.no (want0 rfl rfl rfl rfl) rfl rfl ?_
 refine RS.q (u:=.bool false) rfl (q07 rfl rfl rfl) (RS.mv rfl rfl rfl rfl ?_)
 repeat refine RS.no (want0 rfl rfl rfl rfl) rfl rfl ?_
 refine RS.q (u:=.bool false) rfl (q07 rfl rfl rfl) ?_
 refine sd ?_
 exact ⟨_,_,⟨rfl,rfl⟩,(Nat.zero_le _),Gh.toC (n1:=11) ⟨rfl,trivial⟩ rfl (Nat.zero_le _) (by simp)⟩
 replace h43:=q04 h30 h43
 replace h43:=Option.some.inj h43
 subst h43
 refine sr ?_
 refine RS.q rfl (q02 rfl rfl (q0j _ _ _) rfl) (RS.mv rfl rfl rfl rfl (RS.op (u:=.ptr 1 0 0) (want1 rfl rfl rfl h27) (q0c und28 rfl (q01 inf22) rfl rfl rfl) rfl rfl (RS.op (u:=.isl false (List.map cGDeriv r5.1.Readings)) (want1 rfl rfl rfl h27) (q09 und22 rfl rfl rfl rfl) rfl rfl (RS.op (want1 rfl rfl rfl h27) (q0k rfl rfl rfl (q0g cGDeriv und22)) rfl rfl (RS.op (want1 rfl rfl rfl h27) (q02 rfl rfl (q0j _ _ _) rfl) rfl rfl (RS.q (u:=.bool ((r5.1.Readings.length:Int) == 1)) rfl (q06 rfl h27 rfl) (RS.mv rfl rfl rfl rfl ?_)))))))
 refine RS.op (want1 rfl rfl rfl h28) (q0h rfl) rfl rfl (RS.op (u:=.bool (!r7.2)) (want1 rfl rfl rfl h28) (q7l rfl rfl rfl rfl) rfl rfl (RS.q (u:=.bool (!r7.2)) rfl (q06 rfl h28 rfl) (RS.mv rfl rfl rfl rfl (RS.op (want1 rfl rfl rfl h29) (q0h rfl) rfl rfl (RS.op (want1 rfl rfl rfl h29) (q02 rfl rfl (q0j _ _ _) rfl) rfl rfl (RS.q (u:=.bool (r9.2 == 0)) rfl (q06 rfl h29 rfl) (RS.mv rfl rfl rfl rfl ?_)))))))
 repeat refine RS.no (want0 rfl rfl rfl h30) rfl rfl ?_
 refine RS.q (u:=.bool false) rfl (q07 rfl h30 rfl) (RS.mv rfl rfl rfl rfl ?_)
 repeat refine RS.no (want0 rfl rfl rfl rfl) rfl rfl ?_
 refine RS.q (u:=.bool false) rfl (q07 rfl rfl rfl) (RS.mv rfl rfl rfl rfl ?_)
 repeat refine RS.no (want0 rfl rfl rfl rfl) rfl rfl ?_
 refine RS.q (u:=.bool false) rfl (q07 rfl rfl rfl) (RS.mv rfl rfl rfl rfl ?_)
 repeat refine RS.no (want0 rfl rfl rfl rfl) rfl rfl ?_
 refine RS.q (u:=.bool false) rfl (q07 rfl rfl rfl) (RS.mv rfl rfl rfl rfl (RS.no (want0 rfl rfl rfl rfl) rfl rfl (RS.q (u:=.bool false) rfl (q07 rfl rfl rfl) (RS.mv rfl rfl rfl rfl ?_))))
 repeat refine RS.no (want0 rfl rfl rfl rfl) rfl rfl ?_
 refine RS.q (u:=.bool false) rfl (q07 rfl rfl rfl) (RS.mv rfl rfl rfl rfl ?_)
 repeat refine RS.no (want0 rfl rfl rfl rfl) rfl rfl ?_
 refine RS.q (u:=.bool false) rfl (q07 rfl rfl rfl) (RS.mv rfl rfl rfl rfl ?_)
 repeat refine RS.no (want0 rfl rfl rfl rfl) rfl rfl ?_
 refine RS.q (u:=.bool false) rfl (q07 rfl rfl rfl) (RS.mv rfl rfl rfl rfl ?_)
 repeat refine RS.no (want0 rfl rfl rfl rfl) rfl rfl ?_
 refine RS.q (u:=.bool false) rfl (q07 rfl rfl rfl) (RS.mv rfl rfl rfl rfl ?_)
 repeat refine RS.no (want0 rfl rfl rfl rfl) rfl rfl ?_
 refine RS.q (u:=.bool false) rfl (q07 rfl rfl rfl) ?_
 refine sd ?_
 exact ⟨_,_,⟨rfl,rfl⟩,(Nat.zero_le _),Gh.toC (n1:=11) ⟨rfl,trivial⟩ rfl (Nat.zero_le _) (by simp)⟩
 replace h43:=q04 h29 h43
 replace h43:=Option.some.inj h43
 subst h43
 refine sr ?_
 refine RS.q rfl (q02 rfl rfl (q0j _ _ _) rfl) (RS.mv rfl rfl rfl rfl (RS.op (u:=.ptr 1 0 0) (want1 rfl rfl rfl h27) (q0c und28 rfl (q01 inf22) rfl rfl rfl) rfl rfl (RS.op (u:=.isl false (List.map cGDeriv r5.1.Readings)) (want1 rfl rfl rfl h27) (q09 und22 rfl rfl rfl rfl) rfl rfl (RS.op (want1 rfl rfl rfl h27) (q0k rfl rfl rfl (q0g cGDeriv und22)) rfl rfl (RS.op (want1 rfl rfl rfl h27) (q02 rfl rfl (q0j _ _ _) rfl) rfl rfl (RS.q (u:=.bool ((r5.1.Readings.length:Int) == 1)) rfl (q06 rfl h27 rfl) (RS.mv rfl rfl rfl rfl ?_)))))))
 refine RS.op (want1 rfl rfl rfl h28) (q0h rfl) rfl rfl (RS.op (u:=.bool (!r7.2)) (want1 rfl rfl rfl h28) (q7l rfl rfl rfl rfl) rfl rfl (RS.q (u:=.bool (!r7.2)) rfl (q06 rfl h28 rfl) (RS.mv rfl rfl rfl rfl ?_)))
 repeat refine RS.no (want0 rfl rfl rfl h29) rfl rfl ?_
 refine RS.q (u:=.bool false) rfl (q07 rfl h29 rfl) (RS.mv rfl rfl rfl rfl ?_)
 repeat refine RS.no (want0 rfl rfl rfl rfl) rfl rfl ?_
 refine RS.q (u:=.bool false) rfl (q07 rfl rfl rfl) (RS.mv rfl rfl rfl rfl ?_)
 repeat refine RS.no (want0 rfl rfl rfl rfl) rfl rfl ?_
 refine RS.q (u:=.bool false) rfl (q07 rfl rfl rfl) (RS.mv rfl rfl rfl rfl ?_)
 repeat refine RS.no (want0 rfl rfl rfl rfl) rfl rfl ?_
 refine RS.q (u:=.bool false) rfl (q07 rfl rfl rfl) (RS.mv rfl rfl rfl rfl ?_)
 repeat refine RS.no (want0 rfl rfl rfl rfl) rfl rfl ?_
 refine RS.q (u:=.bool false) rfl (q07 rfl rfl rfl) (RS.mv rfl rfl rfl rfl (RS.no (want0 rfl rfl rfl rfl) rfl rfl (RS.q (u:=.bool false) rfl (q07 rfl rfl rfl) (RS.mv rfl rfl rfl rfl ?_))))
 repeat refine RS.no (want0 rfl rfl rfl rfl) rfl rfl ?_
 refine RS.q (u:=.bool false) rfl (q07 rfl rfl rfl) (RS.mv rfl rfl rfl rfl ?_)
 repeat refine RS.no (want0 rfl rfl rfl rfl) rfl rfl ?_
 refine RS.q (u:=.bool false) rfl (q07 rfl rfl rfl) (RS.mv rfl rfl rfl rfl ?_)
 repeat refine RS.no (want0 rfl rfl rfl rfl) rfl rfl ?_
 refine RS.q (u:=.bool false) rfl (q07 rfl rfl rfl) (RS.mv rfl rfl rfl rfl ?_)
 repeat refine RS.no (want0 rfl rfl rfl rfl) rfl rfl ?_
 refine RS.q (u:=.bool false) rfl (q07 rfl rfl rfl) (RS.mv rfl rfl rfl rfl ?_)
 repeat refine RS.no (want0 rfl rfl rfl rfl) rfl rfl ?_
 refine RS.q (u:=.bool false) rfl (q07 rfl rfl rfl) ?_
 refine sd ?_
 exact ⟨_,_,⟨rfl,rfl⟩,(Nat.zero_le _),Gh.toC (n1:=11) ⟨rfl,trivial⟩ rfl (Nat.zero_le _) (by simp)⟩
 replace h43:=q04 h28 h43
 replace h43:=Option.some.inj h43
 subst h43
 refine sr ?_
 refine RS.q rfl (q02 rfl rfl (q0j _ _ _) rfl) (RS.mv rfl rfl rfl rfl (RS.op (u:=.ptr 1 0 0) (want1 rfl rfl rfl h27) (q0c und28 rfl (q01 inf22) rfl rfl rfl) rfl rfl (RS.op (u:=.isl false (List.map cGDeriv r5.1.Readings)) (want1 rfl rfl rfl h27) (q09 und22 rfl rfl rfl rfl) rfl rfl (RS.op (want1 rfl rfl rfl h27) (q0k rfl rfl rfl (q0g cGDeriv und22)) rfl rfl (RS.op (want1 rfl rfl rfl h27) (q02 rfl rfl (q0j _ _ _) rfl) rfl rfl (RS.q (u:=.bool ((r5.1.Readings.length:Int) == 1)) rfl (q06 rfl h27 rfl) (RS.mv rfl rfl rfl rfl ?_)))))))
 repeat refine RS.no (want0 rfl rfl rfl h28) rfl rfl ?_
 refine RS.q (u:=.bool false) rfl (q07 rfl h28 rfl) (RS.mv rfl rfl rfl rfl ?_)
 repeat refine RS.no (want0 rfl rfl rfl rfl) rfl rfl ?_
 refine RS.q (u:=.bool false) rfl (q07 rfl rfl rfl) (RS.mv rfl rfl rfl rfl ?_)
 repeat refine RS.no (want0 rfl rfl rfl rfl) rfl rfl ?_
 refine RS.q (u:=.bool false) rfl (q07 rfl rfl rfl) (RS.mv rfl rfl rfl rfl ?_)
 repeat refine RS.no (want0 rfl rfl rfl rfl) rfl rfl ?_
 refine RS.q (u:=.bool false) rfl (q07 rfl rfl rfl) (RS.mv rfl rfl rfl rfl ?_)
 repeat refine RS.no (want0 rfl rfl rfl rfl) rfl rfl ?_
 refine RS.q (u:=.bool false) rfl (q07 rfl rfl rfl) (RS.mv rfl rfl rfl rfl ?_)
 repeat refine RS.no (want0 rfl rfl rfl rfl) rfl rfl ?_
 refine RS.q (u:=.bool false) rfl (q07 rfl rfl rfl) (RS.mv rfl rfl rfl rfl (RS.no (want0 rfl rfl rfl rfl) rfl rfl (RS.q (u:=.bool false) rfl (q07 rfl rfl rfl) (RS.mv rfl rfl rfl rfl ?_))))
 repeat refine RS.no (want0 rfl rfl rfl rfl) rfl rfl ?_
 refine RS.q (u:=.bool false) rfl (q07 rfl rfl rfl) (RS.mv rfl rfl rfl rfl ?_)
 repeat refine RS.no (want0 rfl rfl rfl rfl) rfl rfl ?_
 refine RS.q (u:=.bool false) rfl (q07 rfl rfl rfl) (RS.mv rfl rfl rfl rfl ?_)
 repeat refine RS.no (want0 rfl rfl rfl rfl) rfl rfl ?_
 refine RS.q (u:=.bool false) rfl (q07 rfl rfl rfl) (RS.mv rfl rfl rfl rfl ?_)
 repeat refine RS.no (want0 rfl rfl rfl rfl) rfl rfl ?_
 refine RS.q (u:=.bool false) rfl (q07 rfl rfl rfl) (RS.mv rfl rfl rfl rfl ?_)
 repeat refine RS.no (want0 rfl rfl rfl rfl) rfl rfl ?_
 refine RS.q (u:=.bool false) rfl (q07 rfl rfl rfl) ?_
 refine sd ?_
 exact ⟨_,_,⟨rfl,rfl⟩,(Nat.zero_le _),Gh.toC (n1:=11) ⟨rfl,trivial⟩ rfl (Nat.zero_le _) (by simp)⟩
 replace h43:=q04 h27 h43
 replace h43:=Option.some.inj h43
 subst h43
 refine sr ?_
 refine RS.q rfl (q02 rfl rfl (q0j _ _ _) rfl) (RS.mv rfl rfl rfl rfl ?_)
 repeat refine RS.no (want0 rfl rfl rfl h27) rfl rfl ?_
 refine RS.q (u:=.bool false) rfl (q07 rfl h27 rfl) (RS.mv rfl rfl rfl rfl ?_)
 repeat refine RS.no (want0 rfl rfl rfl rfl) rfl rfl ?_
 refine RS.q (u:=.bool false) rfl (q07 rfl rfl rfl) (RS.mv rfl rfl rfl rfl ?_)
 repeat refine RS.no (want0 rfl rfl rfl rfl) rfl rfl ?_
 refine RS.q (u:=.bool false) rfl (q07 rfl rfl rfl) (RS.mv rfl rfl rfl rfl ?_)
 repeat refine RS.no (want0 rfl rfl rfl rfl) rfl rfl ?_
 refine RS.q (u:=.bool false) rfl (q07 rfl rfl rfl) (RS.mv rfl rfl rfl rfl ?_)
 repeat refine RS.no (want0 rfl rfl rfl rfl) rfl rfl ?_
 refine RS.q (u:=.bool false) rfl (q07 rfl rfl rfl) (RS.mv rfl rfl rfl rfl ?_)
 repeat refine RS.no (want0 rfl rfl rfl rfl) rfl rfl ?_
 refine RS.q (u:=.bool false) rfl (q07 rfl rfl rfl) (RS.mv rfl rfl rfl rfl ?_)
 repeat refine RS.no (want0 rfl rfl rfl rfl) rfl rfl ?_
 refine RS.q (u:=.bool false) rfl (q07 rfl rfl rfl) (RS.mv rfl rfl rfl rfl (RS.no (want0 rfl rfl rfl rfl) rfl rfl (RS.q (u:=.bool false) rfl (q07 rfl rfl rfl) (RS.mv rfl rfl rfl rfl ?_))))
 repeat refine RS.no (want0 rfl rfl rfl rfl) rfl rfl ?_
 refine RS.q (u:=.bool false) rfl (q07 rfl rfl rfl) (RS.mv rfl rfl rfl rfl ?_)
 repeat refine RS.no (want0 rfl rfl rfl rfl) rfl rfl ?_
 refine RS.q (u:=.bool false) rfl (q07 rfl rfl rfl) (RS.mv rfl rfl rfl rfl ?_)
 repeat refine RS.no (want0 rfl rfl rfl rfl) rfl rfl ?_
 refine RS.q (u:=.bool false) rfl (q07 rfl rfl rfl) (RS.mv rfl rfl rfl rfl ?_)
 repeat refine RS.no (want0 rfl rfl rfl rfl) rfl rfl ?_
 refine RS.q (u:=.bool false) rfl (q07 rfl rfl rfl) (RS.mv rfl rfl rfl rfl ?_)
 repeat refine RS.no (want0 rfl rfl rfl rfl) rfl rfl ?_
 refine RS.q (u:=.bool false) rfl (q07 rfl rfl rfl) ?_
 refine sd ?_
 exact ⟨_,_,⟨rfl,rfl⟩,(Nat.zero_le _),Gh.toC (n1:=11) ⟨rfl,trivial⟩ rfl (Nat.zero_le _) (by simp)⟩
theorem q6w (n:Nat)  (r:Bool) (hF:q32 n  = some r) (σ:Sg):EvU Tryz.prog 5 [] σ (fun u σ'=>u = .bool r∧σ'=σ) :=
 EvU.pure1C (qcy n  r hF) σ
def q5l (n:Nat) (p1:GSession) (p2:GStep):Option (GSession×Int) :=
 cond ((p2.Op.tmod 6) == 0)
  (bindO (q70 n p1 p2.Propx p2.Yes) fun r5 =>
  some ((GSession.mk r5.1.Readings r5.1.Decisions r5.1.State),r5.2))
  (cond ((p2.Op.tmod 6) == 1)
   (bindO (qae n p1) fun r8 =>
   some ((GSession.mk r8.1.Readings r8.1.Decisions r8.1.State),r8.2))
   (cond ((p2.Op.tmod 6) == 2)
    (bindO (q8b n p1) fun r11 =>
    some ((GSession.mk r11.1.Readings r11.1.Decisions r11.1.State),r11.2))
    (cond ((p2.Op.tmod 6) == 3)
     (bindO (q8e n p1) fun r14 =>
     some ((GSession.mk r14.1.Readings r14.1.Decisions r14.1.State),r14.2))
     (bindO (q5w n p1) fun r16 =>
     bindO (q70 n p1 (GProp.mk r16.1.Kind r16.1.Name r16.1.From r16.1.To) p2.Yes) fun r18 =>
     some ((GSession.mk r18.1.Readings r18.1.Decisions r18.1.State),r18.2)))))
theorem qf9 (n:Nat) (p1:GSession) (p2:GStep) (r:GSession×Int) (hF:q5l n p1 p2=some r):EvU Tryz.prog 11 [.agg (cGSession p1),.agg (cGStep p2)] ⟨[],0⟩ (fun u _=>u = .tup [.agg (cGSession r.1),.int .i64 r.2]∧Bel 0 u):=by
 unfold q5l at hF
 refine EvU.of_body Tryz.tb_ok fn11 rfl ?_
 refine WPU.ghost (tm':=fr 51 [(0,.agg (cGSession p1)),(1,.agg (cGStep p2))]) (Gh.start (Nat.le_of_ble_eq_true rfl)) (Nat.zero_le _) ?_
 refine sr ?_
 refine RS.q (u:=.ptr 0 0 0) (σ':=⟨[(0,.row (cGSession p1) 28)],1⟩) rfl (q2j rfl rfl rfl) (RS.q (u:=.ptr 1 0 0) (σ':=⟨[(1,.row (cGStep p2) 35),(0,.row (cGSession p1) 28)],2⟩) rfl (q2j rfl rfl rfl) (RS.q (u:=.ptr 2 0 0) (σ':=⟨[(2,.row [.nils,.nils,.int .i64 0] 28),(1,.row (cGStep p2) 35),(0,.row (cGSession p1) 28)],3⟩) rfl (q0v inf28 rfl rfl) ?_))
 refine se ?_
 refine RS.q (u:=.ptr 1 0 0) rfl (q0c und35 rfl (q01 inf5) rfl rfl rfl) (RS.q (u:=.int .u8 p2.Op) rfl (q09 und5 rfl rfl rfl rfl) ?_)
 refine RS.q rfl (q02 rfl rfl (ix_rem _ (by decide)) rfl) ?_
 refine sd ?_
 refine WPU.block ?_
 refine sr ?_
 refine RS.q rfl (q02 rfl rfl (q0j _ _ _) rfl) ?_
 refine sd ?_
 refine WPU.condS (t:=((p2.Op.tmod 6) == 0)) rfl (fun h4=>?_) (fun h4=>?_)
 replace hF:=q05 h4 hF
 refine st ?_
 obtain ⟨r5,h6,hF⟩:=q00 hF
 refine sr ?_
 refine RS.q (u:=.agg (cGSession p1)) rfl (q0a und28 rfl (q01 inf28) rfl rfl rfl) (RS.q (u:=.ptr 1 0 1) rfl (q0c und35 rfl (q01 inf33) rfl rfl rfl) (RS.q (u:=.agg (cGProp p2.Propx)) rfl (q0a und33 rfl (q01 inf33) rfl rfl rfl) (RS.q (u:=.ptr 1 0 5) rfl (q0c und35 rfl (q01 inf4) rfl rfl rfl) (RS.q (u:=.bool p2.Yes) rfl (q09 und4 rfl rfl rfl rfl) (RS.call (u:=.tup [.agg (cGSession r5.1),.int .i64 r5.2]) (args:=[.agg (cGSession p1),.agg (cGProp p2.Propx),.bool p2.Yes]) rfl (q03 rfl rfl fn37 hb37 rfl rfl) (qcf n p1 p2.Propx p2.Yes r5 h6 _) rfl rfl (RS.q rfl (q26 rfl rfl) (RS.q rfl (q26 rfl rfl) ?_)))))))
 refine RS.opn (u:=.junk) (σ':=⟨[(2,.row (cGSession r5.1) 28),(1,.row (cGStep p2) 35),(0,.row (cGSession p1) 28)],3⟩) rfl (q0d (q01 inf28) rfl rfl rfl rfl rfl rfl rfl rfl) rfl ?_
 refine sd ?_
 refine WPU.ret ?_
 refine st ?_
 have hr:=Option.some.inj hF
 subst hr
 exact ⟨.inr rfl,[.agg (cGSession r5.1),.int .i64 r5.2],q5f (q0a und28 rfl (q01 inf28) rfl rfl rfl) (q0l rfl (q0i)),.tup [.agg (cGSession r5.1),.int .i64 r5.2],⟨[],0⟩,Nat.le_refl _,Gh.toR (.tup [.agg (cGSession r5.1),.int .i64 r5.2]) rfl,rfl,BU.h⟩
 replace hF:=q04 h4 hF
 refine sr ?_
 refine RS.q rfl (q02 rfl rfl (q0j _ _ _) rfl) ?_
 refine sd ?_
 refine WPU.condS (t:=((p2.Op.tmod 6) == 1)) rfl (fun h7=>?_) (fun h7=>?_)
 replace hF:=q05 h7 hF
 refine st ?_
 obtain ⟨r8,h9,hF⟩:=q00 hF
 refine sr ?_
 refine RS.q (u:=.agg (cGSession p1)) rfl (q0a und28 rfl (q01 inf28) rfl rfl rfl) (RS.call (u:=.tup [.agg (cGSession r8.1),.int .i64 r8.2]) (args:=[.agg (cGSession p1)]) rfl (q03 rfl rfl fn38 hb38 rfl rfl) (ref46_Undo_ok n p1 r8 h9 _) rfl rfl (RS.q rfl (q26 rfl rfl) (RS.q rfl (q26 rfl rfl) (RS.opn (u:=.junk) (σ':=⟨[(2,.row (cGSession r8.1) 28),(1,.row (cGStep p2) 35),(0,.row (cGSession p1) 28)],3⟩) rfl (q0d (q01 inf28) rfl rfl rfl rfl rfl rfl rfl rfl) rfl ?_))))
 refine sd ?_
 refine WPU.ret ?_
 refine st ?_
 have hr:=Option.some.inj hF
 subst hr
 exact ⟨.inr rfl,[.agg (cGSession r8.1),.int .i64 r8.2],q5f (q0a und28 rfl (q01 inf28) rfl rfl rfl) (q0l rfl (q0i)),.tup [.agg (cGSession r8.1),.int .i64 r8.2],⟨[],0⟩,Nat.le_refl _,Gh.toR (.tup [.agg (cGSession r8.1),.int .i64 r8.2]) rfl,rfl,BU.h⟩
 replace hF:=q04 h7 hF
 refine sr ?_
 refine RS.q rfl (q02 rfl rfl (q0j _ _ _) rfl) ?_
 refine sd ?_
 refine WPU.condS (t:=((p2.Op.tmod 6) == 2)) rfl (fun h10=>?_) (fun h10=>?_)
 replace hF:=q05 h10 hF
 refine st ?_
 obtain ⟨r11,h12,hF⟩:=q00 hF
 refine sr ?_
 refine RS.q (u:=.agg (cGSession p1)) rfl (q0a und28 rfl (q01 inf28) rfl rfl rfl) (RS.call (u:=.tup [.agg (cGSession r11.1),.int .i64 r11.2]) (args:=[.agg (cGSession p1)]) rfl (q03 rfl rfl fn39 hb39 rfl rfl) (qhz n p1 r11 h12 _) rfl rfl (RS.q rfl (q26 rfl rfl) (RS.q rfl (q26 rfl rfl) (RS.opn (u:=.junk) (σ':=⟨[(2,.row (cGSession r11.1) 28),(1,.row (cGStep p2) 35),(0,.row (cGSession p1) 28)],3⟩) rfl (q0d (q01 inf28) rfl rfl rfl rfl rfl rfl rfl rfl) rfl ?_))))
 refine sd ?_
 refine WPU.ret ?_
 refine st ?_
 have hr:=Option.some.inj hF
 subst hr
 exact ⟨.inr rfl,[.agg (cGSession r11.1),.int .i64 r11.2],q5f (q0a und28 rfl (q01 inf28) rfl rfl rfl) (q0l rfl (q0i)),.tup [.agg (cGSession r11.1),.int .i64 r11.2],⟨[],0⟩,Nat.le_refl _,Gh.toR (.tup [.agg (cGSession r11.1),.int .i64 r11.2]) rfl,rfl,BU.h⟩
 replace hF:=q04 h10 hF
 refine sr ?_
 refine RS.q rfl (q02 rfl rfl (q0j _ _ _) rfl) ?_
 refine sd ?_
 refine WPU.condS (t:=((p2.Op.tmod 6) == 3)) rfl (fun h13=>?_) (fun h13=>?_)
 replace hF:=q05 h13 hF
 refine st ?_
 obtain ⟨r14,h15,hF⟩:=q00 hF
 refine sr ?_
 refine RS.q (u:=.agg (cGSession p1)) rfl (q0a und28 rfl (q01 inf28) rfl rfl rfl) (RS.call (u:=.tup [.agg (cGSession r14.1),.int .i64 r14.2]) (args:=[.agg (cGSession p1)]) rfl (q03 rfl rfl fn40 hb40 rfl rfl) (qi1 n p1 r14 h15 _) rfl rfl (RS.q rfl (q26 rfl rfl) (RS.q rfl (q26 rfl rfl) (RS.opn (u:=.junk) (σ':=⟨[(2,.row (cGSession r14.1) 28),(1,.row (cGStep p2) 35),(0,.row (cGSession p1) 28)],3⟩) rfl (q0d (q01 inf28) rfl rfl rfl rfl rfl rfl rfl rfl) rfl ?_))))
 refine sd ?_
 refine WPU.ret ?_
 refine st ?_
 have hr:=Option.some.inj hF
 subst hr
 exact ⟨.inr rfl,[.agg (cGSession r14.1),.int .i64 r14.2],q5f (q0a und28 rfl (q01 inf28) rfl rfl rfl) (q0l rfl (q0i)),.tup [.agg (cGSession r14.1),.int .i64 r14.2],⟨[],0⟩,Nat.le_refl _,Gh.toR (.tup [.agg (cGSession r14.1),.int .i64 r14.2]) rfl,rfl,BU.h⟩
 replace hF:=q04 h13 hF
 refine st ?_
 refine WPU.skip ?_
 refine st ?_
 obtain ⟨r16,h17,hF⟩:=q00 hF
 refine sr ?_
 refine RS.q (u:=.agg (cGSession p1)) rfl (q0a und28 rfl (q01 inf28) rfl rfl rfl) (RS.call (u:=.tup [.agg (cGProp r16.1),.bool r16.2]) (args:=[.agg (cGSession p1)]) rfl (q03 rfl rfl fn9 hb9 rfl rfl) (qbz n p1 r16 h17 _) rfl rfl (RS.mv rfl rfl rfl rfl (RS.q rfl (q26 rfl rfl) (RS.q rfl (q26 rfl rfl) (RS.q (u:=.ptr 3 0 0) (σ':=⟨[(3,.row [.int .i64 0,.str [],.int .i64 0,.int .i64 0] 33),(2,.row [.nils,.nils,.int .i64 0] 28),(1,.row (cGStep p2) 35),(0,.row (cGSession p1) 28)],4⟩) rfl (q0v inf33 rfl rfl) (RS.opn (u:=.junk) (σ':=⟨[(3,.row (cGProp r16.1) 33),(2,.row [.nils,.nils,.int .i64 0] 28),(1,.row (cGStep p2) 35),(0,.row (cGSession p1) 28)],4⟩) rfl (q0d (q01 inf33) rfl rfl rfl rfl rfl rfl rfl rfl) rfl ?_))))))
 refine sd ?_
 obtain ⟨r18,h19,hF⟩:=q00 hF
 refine sr ?_
 refine RS.q (u:=.agg (cGSession p1)) rfl (q0a und28 rfl (q01 inf28) rfl rfl rfl) (RS.q (u:=.agg (cGProp r16.1)) rfl (q0a und33 rfl (q01 inf33) rfl rfl rfl) (RS.q (u:=.ptr 1 0 5) rfl (q0c und35 rfl (q01 inf4) rfl rfl rfl) (RS.q (u:=.bool p2.Yes) rfl (q09 und4 rfl rfl rfl rfl) (RS.call (u:=.tup [.agg (cGSession r18.1),.int .i64 r18.2]) (args:=[.agg (cGSession p1),.agg (cGProp r16.1),.bool p2.Yes]) rfl (q03 rfl rfl fn37 hb37 rfl rfl) (qcf n p1 (GProp.mk r16.1.Kind r16.1.Name r16.1.From r16.1.To) p2.Yes r18 h19 _) rfl rfl (RS.q rfl (q26 rfl rfl) (RS.q rfl (q26 rfl rfl) (RS.opn (u:=.junk) (σ':=⟨[(3,.row (cGProp r16.1) 33),(2,.row (cGSession r18.1) 28),(1,.row (cGStep p2) 35),(0,.row (cGSession p1) 28)],4⟩) rfl (q0d (q01 inf28) rfl rfl rfl rfl rfl rfl rfl rfl) rfl ?_)))))))
 refine sd ?_
 refine WPU.ret ?_
 refine st ?_
 have hr:=Option.some.inj hF
 subst hr
 exact ⟨.inr rfl,[.agg (cGSession r18.1),.int .i64 r18.2],q5f (q0a und28 rfl (q01 inf28) rfl rfl rfl) (q0l rfl (q0i)),.tup [.agg (cGSession r18.1),.int .i64 r18.2],⟨[],0⟩,Nat.le_refl _,Gh.toR (.tup [.agg (cGSession r18.1),.int .i64 r18.2]) rfl,rfl,BU.h⟩
theorem qeb (n:Nat) (p1:GSession) (p2:GStep) (r:GSession×Int) (hF:q5l n p1 p2=some r) (σ:Sg):EvU Tryz.prog 11 [.agg (cGSession p1),.agg (cGStep p2)] σ (fun u σ'=>u = .tup [.agg (cGSession r.1),.int .i64 r.2]∧σ'=σ) :=
 EvU.pure1C (qf9 n p1 p2 r hF) σ
def q53 (n:Nat) (l40:List GDeriv) (l41:List GDecision) (z42:Int) (l43:List GDeriv) (l44:List GDecision) (z45:Int):Option (Bool) :=
 bindO (q32 n) fun r46 =>
 some r46
def q3c (p2:List GStep) (n:Nat):Nat→Int→(List GDeriv)→(List GDecision)→Int→(List GDeriv)→(List GDecision)→Int→Option (Bool)
 | 0,_,_,_,_,_,_,_=>none
 | m1+1,z33,l34,l35,z36,l37,l38,z39 =>
  cond (decide (z33<(p2.length:Int)))
   (bindO (idxO p2 z33) fun x49 =>
   bindO (q38 n (GSession.mk l37 l38 z39)) fun r51 =>
   bindO (q5w n (GSession.mk l34 l35 z36)) fun r53 =>
   bindO (cond (!(eqGProp (GProp.mk r51.1.Kind r51.1.Name r51.1.From r51.1.To) (GProp.mk r53.1.Kind r53.1.Name r53.1.From r53.1.To)))
    (some true)
    (some (!(r51.2 == r53.2)))) fun b56 =>
   cond b56
    (some false)
    (bindO (q77 n (GSession.mk l37 l38 z39) x49) fun r59 =>
    bindO (q5l n (GSession.mk l34 l35 z36) x49) fun r61 =>
    bindO (cond (r59.2 != r61.2)
     (some true)
     (bindO (qad n (GSession.mk r59.1.Readings r59.1.Decisions r59.1.State) (GSession.mk r61.1.Readings r61.1.Decisions r61.1.State)) fun r64 =>
     some (!r64))) fun b66 =>
    cond b66
     (some false)
     ((q3c p2 n m1) (IntKind.i64.wrap (z33+1)) r61.1.Readings r61.1.Decisions r61.1.State r59.1.Readings r59.1.Decisions r59.1.State)))
   (q53 n l34 l35 z36 l37 l38 z39)
def q6i (n:Nat) (p1:List GDeriv) (p2:List GStep):Option (Bool) :=
 bindO (bindO (q98 n p1) fun r3 =>
 cond (!r3)
  (some true)
  (some (decide ((p2.length:Int) > 10)))) fun b6 =>
 cond b6
  (bindO (q32 n) fun r9 =>
  some r9)
  (bindO (q50 n p1) fun r11 =>
  bindO (qbc n p1) fun r13 =>
  bindO (cond (r11.2 != r13.2)
   (some true)
   (some (r11.2 != 0))) fun b16 =>
  cond b16
   (bindO (cond (r11.2 == r13.2)
    (bindO (q32 n) fun r20 =>
    some r20)
    (some false)) fun b22 =>
   some b22)
   (q3c p2 n n 0 r13.1.Readings r13.1.Decisions r13.1.State r11.1.Readings r11.1.Decisions r11.1.State))
theorem qcx (n:Nat) (p1:List GDeriv) (p2:List GStep) (r:Bool) (hF:q6i n p1 p2=some r):EvU Tryz.prog 3 [.isl false (List.map cGDeriv p1),.isl false (List.map cGStep p2)] ⟨[],0⟩ (fun u _=>u = .bool r∧Bel 0 u):=by
 unfold q6i at hF
 refine EvU.of_body Tryz.tb_ok fn3 rfl ?_
 refine WPU.ghost (tm':=fr 94 [(0,.isl false (List.map cGDeriv p1)),(1,.isl false (List.map cGStep p2))]) (Gh.start (Nat.le_of_ble_eq_true rfl)) (Nat.zero_le _) ?_
 refine sr ?_
 refine sd ?_
 obtain ⟨b6,h7,hF⟩:=q00 hF
 refine WPU.joinK (fun tm σ=>tm=fr 94 [(0,.isl false (List.map cGDeriv p1)),(1,.isl false (List.map cGStep p2)),(22,.bool b6)]∧σ=⟨[],0⟩) ?_ ?_
 rintro _ _ ⟨rfl,rfl⟩
 refine st ?_
 refine WPU.condS (t:=b6) rfl (fun h8=>?_) (fun h8=>?_)
 replace hF:=q05 h8 hF
 refine st ?_
 obtain ⟨r9,h10,hF⟩:=q00 hF
 refine sr ?_
 refine RS.call (u:=.bool r9) (args:=[]) rfl (q03 rfl rfl fn5 hb5 rfl rfl) (q6w n  r9 h10 _) rfl rfl ?_
 refine sd ?_
 refine WPU.ret ?_
 refine st ?_
 have hr:=Option.some.inj hF
 subst hr
 exact ⟨.inr rfl,[.bool r9],q0l rfl (q0i),.bool r9,⟨[],0⟩,Nat.le_refl _,Gh.toR (.bool r9) rfl,rfl,BU.h⟩
 replace hF:=q04 h8 hF
 refine st ?_
 refine WPU.skip ?_
 refine st ?_
 obtain ⟨r11,h12,hF⟩:=q00 hF
 refine sr ?_
 refine RS.call (u:=.tup [.agg (cGSession r11.1),.int .i64 r11.2]) (args:=[.isl false (List.map cGDeriv p1)]) rfl (q03 rfl rfl fn6 hb6 rfl rfl) (q8l n p1 r11 h12 _) rfl rfl (RS.mv rfl rfl rfl rfl (RS.q rfl (q26 rfl rfl) (RS.q rfl (q26 rfl rfl) (RS.q (u:=.ptr 0 0 0) (σ':=⟨[(0,.row [.nils,.nils,.int .i64 0] 28)],1⟩) rfl (q0v inf28 rfl rfl) (RS.opn (u:=.junk) (σ':=⟨[(0,.row (cGSession r11.1) 28)],1⟩) rfl (q0d (q01 inf28) rfl rfl rfl rfl rfl rfl rfl rfl) rfl ?_)))))
 refine sd ?_
 obtain ⟨r13,h14,hF⟩:=q00 hF
 refine sr ?_
 refine RS.call (u:=.tup [.agg (cGSession r13.1),.int .i64 r13.2]) (args:=[.isl false (List.map cGDeriv p1)]) rfl (q03 rfl rfl fn7 hb7 rfl rfl) (ref46_New_ok n p1 r13 h14 _) rfl rfl (RS.mv rfl rfl rfl rfl (RS.q rfl (q26 rfl rfl) (RS.q rfl (q26 rfl rfl) (RS.q (u:=.ptr 1 0 0) (σ':=⟨[(1,.row [.nils,.nils,.int .i64 0] 28),(0,.row (cGSession r11.1) 28)],2⟩) rfl (q0v inf28 rfl rfl) (RS.opn (u:=.junk) (σ':=⟨[(1,.row (cGSession r13.1) 28),(0,.row (cGSession r11.1) 28)],2⟩) rfl (q0d (q01 inf28) rfl rfl rfl rfl rfl rfl rfl rfl) rfl ?_)))))
 refine sd ?_
 obtain ⟨b16,h17,hF⟩:=q00 hF
 refine WPU.joinK (fun tm σ=>tm=fr 94 [(1,.isl false (List.map cGStep p2)),(5,.ptr 0 0 0),(6,.int .i64 r11.2),(7,.ptr 1 0 0),(8,.int .i64 r13.2),(40,.bool b16)]∧σ=⟨[(1,.row (cGSession r13.1) 28),(0,.row (cGSession r11.1) 28)],2⟩) ?_ ?_
 rintro _ _ ⟨rfl,rfl⟩
 refine st ?_
 refine WPU.condS (t:=b16) rfl (fun h18=>?_) (fun h18=>?_)
 replace hF:=q05 h18 hF
 refine st ?_
 obtain ⟨b22,h23,hF⟩:=q00 hF
 refine WPU.joinK (fun tm σ=>tm=fr 94 [(4,.bool b22)]∧σ=⟨[(1,.row (cGSession r13.1) 28),(0,.row (cGSession r11.1) 28)],2⟩) ?_ ?_
 rintro _ _ ⟨rfl,rfl⟩
 refine st ?_
 refine WPU.ret ?_
 refine st ?_
 have hr:=Option.some.inj hF
 subst hr
 exact ⟨.inr rfl,[.bool b22],q0l rfl (q0i),.bool b22,⟨[],0⟩,Nat.le_refl _,Gh.toR (.bool b22) rfl,rfl,BU.h⟩
 rcases q2r (r11.2 == r13.2) with h19 | h19
 replace h23:=q05 h19 h23
 obtain ⟨r20,h21,h23⟩:=q00 h23
 replace h23:=Option.some.inj h23
 subst h23
 refine sr ?_
 repeat refine RS.mv rfl rfl rfl rfl ?_
 refine RS.q rfl (q02 rfl rfl (q0j _ _ _) rfl) (RS.mv rfl rfl rfl rfl (RS.call (u:=.bool r20) (args:=[]) (want1 rfl rfl rfl h19) (q03 rfl rfl fn5 hb5 rfl rfl) (q6w n  r20 h21 _) rfl rfl (RS.q (u:=.bool r20) rfl (q06 rfl h19 rfl) ?_)))
 refine sd ?_
 exact ⟨_,_,⟨rfl,rfl⟩,(Nat.zero_le _),Gh.toC (n1:=2) ⟨rfl,trivial⟩ rfl (Nat.zero_le _) (by simp)⟩
 replace h23:=q04 h19 h23
 replace h23:=Option.some.inj h23
 subst h23
 refine sr ?_
 repeat refine RS.mv rfl rfl rfl rfl ?_
 refine RS.q rfl (q02 rfl rfl (q0j _ _ _) rfl) (RS.mv rfl rfl rfl rfl (RS.no (want0 rfl rfl rfl h19) rfl rfl (RS.q (u:=.bool false) rfl (q07 rfl h19 rfl) ?_)))
 refine sd ?_
 exact ⟨_,_,⟨rfl,rfl⟩,(Nat.zero_le _),Gh.toC (n1:=2) ⟨rfl,trivial⟩ rfl (Nat.zero_le _) (by simp)⟩
 replace hF:=q04 h18 hF
 refine st ?_
 refine WPU.skip ?_
 refine sr ?_
 refine RS.q rfl (q0k rfl rfl rfl (q0g cGStep und23)) (RS.mv rfl rfl rfl rfl ?_)
 refine sd ?_
 refine WPU.ghost (tm':=fr 94 [(5,.ptr 0 0 0),(7,.ptr 1 0 0),(47,.isl false (List.map cGStep p2)),(48,.int .i64 (p2.length:Int)),(49,.int .i64 0)]) (Gh.sub ⟨rfl,rfl,rfl,rfl,rfl,trivial⟩) (Nat.zero_le _) ?_
 refine WPU.loopK (fun m tm σ=>∃ z33:Int,∃ l34:List GDeriv,∃ l35:List GDecision,∃ z36:Int,∃ l37:List GDeriv,∃ l38:List GDecision,∃ z39:Int,q3c p2 n m z33 l34 l35 z36 l37 l38 z39=some r∧tm=fr 94 [(5,.ptr 0 0 0),(7,.ptr 1 0 0),(47,.isl false (List.map cGStep p2)),(48,.int .i64 (p2.length:Int)),(49,.int .i64 z33)]∧σ=⟨[(1,.row [.isl false (List.map cGDeriv l34),.isl false (List.map cGDecision l35),.int .i64 z36] 28),(0,.row [.isl false (List.map cGDeriv l37),.isl false (List.map cGDecision l38),.int .i64 z39] 28)],2⟩) (fun tm σ=>∃ l40:List GDeriv,∃ l41:List GDecision,∃ z42:Int,∃ l43:List GDeriv,∃ l44:List GDecision,∃ z45:Int,q53 n l40 l41 z42 l43 l44 z45=some r∧tm=fr 94 []∧σ=⟨[(1,.row [.isl false (List.map cGDeriv l40),.isl false (List.map cGDecision l41),.int .i64 z42] 28),(0,.row [.isl false (List.map cGDeriv l43),.isl false (List.map cGDecision l44),.int .i64 z45] 28)],2⟩) n ⟨0,r13.1.Readings,r13.1.Decisions,r13.1.State,r11.1.Readings,r11.1.Decisions,r11.1.State,hF,rfl,rfl⟩ ?_ ?_
 rintro _ _ ⟨l40,l41,z42,l43,l44,z45,hF,rfl,rfl⟩
 unfold q53 at hF
 refine st ?_
 obtain ⟨r46,h47,hF⟩:=q00 hF
 refine sr ?_
 refine RS.call (u:=.bool r46) (args:=[]) rfl (q03 rfl rfl fn5 hb5 rfl rfl) (q6w n  r46 h47 _) rfl rfl ?_
 refine sd ?_
 refine WPU.ret ?_
 refine st ?_
 have hr:=Option.some.inj hF
 subst hr
 exact ⟨.inr rfl,[.bool r46],q0l rfl (q0i),.bool r46,⟨[],0⟩,Nat.le_refl _,Gh.toR (.bool r46) rfl,rfl,BU.h⟩
 rintro m1 _ _ ⟨z33,l34,l35,z36,l37,l38,z39,hF,rfl,rfl⟩
 rcases m1 with _ | m1
 cases hF
 unfold q3c at hF
 refine sr ?_
 refine RS.q rfl (q02 rfl rfl (q18 _ _ _) rfl) ?_
 refine sd ?_
 refine WPU.condS (t:=(decide (z33<(p2.length:Int)))) rfl (fun h48=>?_) (fun h48=>?_)
 replace hF:=q05 h48 hF
 refine st ?_
 refine WPU.skip ?_
 refine st ?_
 refine WPU.block ?_
 refine st ?_
 obtain ⟨x49,h50,hF⟩:=q00 hF
 refine sr ?_
 refine RS.q (u:=.iptr (cGStep x49)) rfl (q2a rfl rfl (q1f cGStep und23 (q01 inf35) len_cGStep h50 rfl)) (RS.q (u:=.agg (cGStep x49)) rfl (q2e und35 rfl (q01 inf35) rfl rfl) (RS.q (u:=.ptr 2 0 0) (σ':=⟨[(2,.row [.int .u8 0,.int .i64 0,.str [],.int .i64 0,.int .i64 0,.bool false] 35),(1,.row [.isl false (List.map cGDeriv l34),.isl false (List.map cGDecision l35),.int .i64 z36] 28),(0,.row [.isl false (List.map cGDeriv l37),.isl false (List.map cGDecision l38),.int .i64 z39] 28)],3⟩) rfl (q0v inf35 rfl rfl) (RS.opn (u:=.junk) (σ':=⟨[(2,.row (cGStep x49) 35),(1,.row [.isl false (List.map cGDeriv l34),.isl false (List.map cGDecision l35),.int .i64 z36] 28),(0,.row [.isl false (List.map cGDeriv l37),.isl false (List.map cGDecision l38),.int .i64 z39] 28)],3⟩) rfl (q0d (q01 inf35) rfl rfl rfl rfl rfl rfl rfl rfl) rfl ?_)))
 refine sd ?_
 obtain ⟨r51,h52,hF⟩:=q00 hF
 refine sr ?_
 refine RS.q (u:=.agg [.isl false (List.map cGDeriv l37),.isl false (List.map cGDecision l38),.int .i64 z39]) rfl (q0a und28 rfl (q01 inf28) rfl rfl rfl) (RS.call (u:=.tup [.agg (cGProp r51.1),.bool r51.2]) (args:=[.agg [.isl false (List.map cGDeriv l37),.isl false (List.map cGDecision l38),.int .i64 z39]]) rfl (q03 rfl rfl fn8 hb8 rfl rfl) (q5t n (GSession.mk l37 l38 z39) r51 h52 _) rfl rfl (RS.mv rfl rfl rfl rfl (RS.q rfl (q26 rfl rfl) (RS.q rfl (q26 rfl rfl) (RS.q (u:=.ptr 3 0 0) (σ':=⟨[(3,.row [.int .i64 0,.str [],.int .i64 0,.int .i64 0] 33),(2,.row (cGStep x49) 35),(1,.row [.isl false (List.map cGDeriv l34),.isl false (List.map cGDecision l35),.int .i64 z36] 28),(0,.row [.isl false (List.map cGDeriv l37),.isl false (List.map cGDecision l38),.int .i64 z39] 28)],4⟩) rfl (q0v inf33 rfl rfl) (RS.opn (u:=.junk) (σ':=⟨[(3,.row (cGProp r51.1) 33),(2,.row (cGStep x49) 35),(1,.row [.isl false (List.map cGDeriv l34),.isl false (List.map cGDecision l35),.int .i64 z36] 28),(0,.row [.isl false (List.map cGDeriv l37),.isl false (List.map cGDecision l38),.int .i64 z39] 28)],4⟩) rfl (q0d (q01 inf33) rfl rfl rfl rfl rfl rfl rfl rfl) rfl ?_))))))
 refine sd ?_
 obtain ⟨r53,h54,hF⟩:=q00 hF
 refine sr ?_
 refine RS.q (u:=.agg [.isl false (List.map cGDeriv l34),.isl false (List.map cGDecision l35),.int .i64 z36]) rfl (q0a und28 rfl (q01 inf28) rfl rfl rfl) (RS.call (u:=.tup [.agg (cGProp r53.1),.bool r53.2]) (args:=[.agg [.isl false (List.map cGDeriv l34),.isl false (List.map cGDecision l35),.int .i64 z36]]) rfl (q03 rfl rfl fn9 hb9 rfl rfl) (qbz n (GSession.mk l34 l35 z36) r53 h54 _) rfl rfl (RS.mv rfl rfl rfl rfl (RS.q rfl (q26 rfl rfl) (RS.q rfl (q26 rfl rfl) (RS.q (u:=.ptr 4 0 0) (σ':=⟨[(4,.row [.int .i64 0,.str [],.int .i64 0,.int .i64 0] 33),(3,.row (cGProp r51.1) 33),(2,.row (cGStep x49) 35),(1,.row [.isl false (List.map cGDeriv l34),.isl false (List.map cGDecision l35),.int .i64 z36] 28),(0,.row [.isl false (List.map cGDeriv l37),.isl false (List.map cGDecision l38),.int .i64 z39] 28)],5⟩) rfl (q0v inf33 rfl rfl) (RS.opn (u:=.junk) (σ':=⟨[(4,.row (cGProp r53.1) 33),(3,.row (cGProp r51.1) 33),(2,.row (cGStep x49) 35),(1,.row [.isl false (List.map cGDeriv l34),.isl false (List.map cGDecision l35),.int .i64 z36] 28),(0,.row [.isl false (List.map cGDeriv l37),.isl false (List.map cGDecision l38),.int .i64 z39] 28)],5⟩) rfl (q0d (q01 inf33) rfl rfl rfl rfl rfl rfl rfl rfl) rfl ?_))))))
 refine sd ?_
 obtain ⟨b56,h57,hF⟩:=q00 hF
 refine WPU.joinK (fun tm σ=>tm=fr 94 [(5,.ptr 0 0 0),(7,.ptr 1 0 0),(10,.ptr 2 0 0),(47,.isl false (List.map cGStep p2)),(48,.int .i64 (p2.length:Int)),(49,.int .i64 z33),(70,.bool b56)]∧σ=⟨[(4,.row (cGProp r53.1) 33),(3,.row (cGProp r51.1) 33),(2,.row (cGStep x49) 35),(1,.row [.isl false (List.map cGDeriv l34),.isl false (List.map cGDecision l35),.int .i64 z36] 28),(0,.row [.isl false (List.map cGDeriv l37),.isl false (List.map cGDecision l38),.int .i64 z39] 28)],5⟩) ?_ ?_
 rintro _ _ ⟨rfl,rfl⟩
 refine st ?_
 refine WPU.condS (t:=b56) rfl (fun h58=>?_) (fun h58=>?_)
 replace hF:=q05 h58 hF
 refine sr ?_
 refine sd ?_
 refine WPU.ret ?_
 refine st ?_
 have hr:=Option.some.inj hF
 subst hr
 exact ⟨.inr rfl,[.bool false],q0l rfl (q0i),.bool false,⟨[],0⟩,Nat.le_refl _,Gh.toR (.bool false) rfl,rfl,BU.h⟩
 replace hF:=q04 h58 hF
 refine st ?_
 refine WPU.skip ?_
 refine st ?_
 obtain ⟨r59,h60,hF⟩:=q00 hF
 refine sr ?_
 refine RS.q (u:=.agg [.isl false (List.map cGDeriv l37),.isl false (List.map cGDecision l38),.int .i64 z39]) rfl (q0a und28 rfl (q01 inf28) rfl rfl rfl) (RS.q (u:=.agg (cGStep x49)) rfl (q0a und35 rfl (q01 inf35) rfl rfl rfl) (RS.call (u:=.tup [.agg (cGSession r59.1),.int .i64 r59.2]) (args:=[.agg [.isl false (List.map cGDeriv l37),.isl false (List.map cGDecision l38),.int .i64 z39],.agg (cGStep x49)]) rfl (q03 rfl rfl fn10 hb10 rfl rfl) (qg6 n (GSession.mk l37 l38 z39) x49 r59 h60 _) rfl rfl (RS.mv rfl rfl rfl rfl (RS.q rfl (q26 rfl rfl) (RS.q rfl (q26 rfl rfl) (RS.opn (u:=.junk) (σ':=⟨[(4,.row (cGProp r53.1) 33),(3,.row (cGProp r51.1) 33),(2,.row (cGStep x49) 35),(1,.row [.isl false (List.map cGDeriv l34),.isl false (List.map cGDecision l35),.int .i64 z36] 28),(0,.row (cGSession r59.1) 28)],5⟩) rfl (q0d (q01 inf28) rfl rfl rfl rfl rfl rfl rfl rfl) rfl ?_))))))
 refine sd ?_
 obtain ⟨r61,h62,hF⟩:=q00 hF
 refine sr ?_
 refine RS.q (u:=.agg [.isl false (List.map cGDeriv l34),.isl false (List.map cGDecision l35),.int .i64 z36]) rfl (q0a und28 rfl (q01 inf28) rfl rfl rfl) (RS.q (u:=.agg (cGStep x49)) rfl (q0a und35 rfl (q01 inf35) rfl rfl rfl) (RS.call (u:=.tup [.agg (cGSession r61.1),.int .i64 r61.2]) (args:=[.agg [.isl false (List.map cGDeriv l34),.isl false (List.map cGDecision l35),.int .i64 z36],.agg (cGStep x49)]) rfl (q03 rfl rfl fn11 hb11 rfl rfl) (qeb n (GSession.mk l34 l35 z36) x49 r61 h62 _) rfl rfl (RS.mv rfl rfl rfl rfl (RS.q rfl (q26 rfl rfl) (RS.q rfl (q26 rfl rfl) (RS.opn (u:=.junk) (σ':=⟨[(4,.row (cGProp r53.1) 33),(3,.row (cGProp r51.1) 33),(2,.row (cGStep x49) 35),(1,.row (cGSession r61.1) 28),(0,.row (cGSession r59.1) 28)],5⟩) rfl (q0d (q01 inf28) rfl rfl rfl rfl rfl rfl rfl rfl) rfl ?_))))))
 refine sd ?_
 obtain ⟨b66,h67,hF⟩:=q00 hF
 refine WPU.joinK (fun tm σ=>tm=fr 94 [(5,.ptr 0 0 0),(7,.ptr 1 0 0),(47,.isl false (List.map cGStep p2)),(48,.int .i64 (p2.length:Int)),(49,.int .i64 z33),(91,.bool b66)]∧σ=⟨[(4,.row (cGProp r53.1) 33),(3,.row (cGProp r51.1) 33),(2,.row (cGStep x49) 35),(1,.row (cGSession r61.1) 28),(0,.row (cGSession r59.1) 28)],5⟩) ?_ ?_
 rintro _ _ ⟨rfl,rfl⟩
 refine st ?_
 refine WPU.condS (t:=b66) rfl (fun h68=>?_) (fun h68=>?_)
 replace hF:=q05 h68 hF
 refine sr ?_
 refine sd ?_
 refine WPU.ret ?_
 refine st ?_
 have hr:=Option.some.inj hF
 subst hr
 exact ⟨.inr rfl,[.bool false],q0l rfl (q0i),.bool false,⟨[],0⟩,Nat.le_refl _,Gh.toR (.bool false) rfl,rfl,BU.h⟩
 replace hF:=q04 h68 hF
 refine st ?_
 refine WPU.skip ?_
 refine sr ?_
 refine RS.q rfl (q02 rfl rfl (q1q _ _ _) rfl) (RS.mv rfl rfl rfl rfl ?_)
 refine sd ?_
 exact ⟨m1,_,_,Nat.lt_succ_self _,⟨(IntKind.i64.wrap (z33+1)),r61.1.Readings,r61.1.Decisions,r61.1.State,r59.1.Readings,r59.1.Decisions,r59.1.State,hF,rfl,rfl⟩,(Nat.zero_le _),Gh.toC (n1:=2) ⟨rfl,rfl,rfl,rfl,rfl,trivial⟩ rfl (Nat.zero_le _) (by simp)⟩
 rcases q2r (r59.2 != r61.2) with h63 | h63
 replace h67:=q05 h63 h67
 replace h67:=Option.some.inj h67
 subst h67
 refine sr ?_
 repeat refine RS.mv rfl rfl rfl rfl ?_
 refine RS.q rfl (q02 rfl rfl (q52 _ _ _) rfl) (RS.mv rfl rfl rfl rfl ?_)
 repeat refine RS.no (want0 rfl rfl rfl h63) rfl rfl ?_
 refine RS.q (u:=.bool true) rfl (q06 rfl h63 rfl) ?_
 refine sd ?_
 exact ⟨_,_,⟨rfl,rfl⟩,(Nat.zero_le _),Gh.toC (n1:=5) ⟨rfl,rfl,rfl,rfl,rfl,rfl,trivial⟩ rfl (Nat.zero_le _) (by simp)⟩
 replace h67:=q04 h63 h67
 obtain ⟨r64,h65,h67⟩:=q00 h67
 replace h67:=Option.some.inj h67
 subst h67
 refine sr ?_
 repeat refine RS.mv rfl rfl rfl rfl ?_
 refine RS.q rfl (q02 rfl rfl (q52 _ _ _) rfl) (RS.mv rfl rfl rfl rfl (RS.op (u:=.agg (cGSession r59.1)) (want1 rfl rfl rfl h63) (q0a und28 rfl (q01 inf28) rfl rfl rfl) rfl rfl (RS.op (u:=.agg (cGSession r61.1)) (want1 rfl rfl rfl h63) (q0a und28 rfl (q01 inf28) rfl rfl rfl) rfl rfl (RS.call (u:=.bool r64) (args:=[.agg (cGSession r59.1),.agg (cGSession r61.1)]) (want1 rfl rfl rfl h63) (q03 rfl rfl fn12 hb12 rfl rfl) (ref46_Same_ok n (GSession.mk r59.1.Readings r59.1.Decisions r59.1.State) (GSession.mk r61.1.Readings r61.1.Decisions r61.1.State) r64 h65 _) rfl rfl (RS.op (u:=.bool (!r64)) (want1 rfl rfl rfl h63) (q7l rfl rfl rfl rfl) rfl rfl (RS.q (u:=.bool (!r64)) rfl (q07 rfl h63 rfl) ?_))))))
 refine sd ?_
 exact ⟨_,_,⟨rfl,rfl⟩,(Nat.zero_le _),Gh.toC (n1:=5) ⟨rfl,rfl,rfl,rfl,rfl,rfl,trivial⟩ rfl (Nat.zero_le _) (by simp)⟩
 rcases q2r (!(eqGProp (GProp.mk r51.1.Kind r51.1.Name r51.1.From r51.1.To) (GProp.mk r53.1.Kind r53.1.Name r53.1.From r53.1.To))) with h55 | h55
 replace h57:=q05 h55 h57
 replace h57:=Option.some.inj h57
 subst h57
 refine sr ?_
 refine RS.q (u:=.agg (cGProp r51.1)) rfl (q0a und33 rfl (q01 inf33) rfl rfl rfl) (RS.q (u:=.agg (cGProp r53.1)) rfl (q0a und33 rfl (q01 inf33) rfl rfl rfl) (RS.q (u:=.bool (!(eqGProp (GProp.mk r51.1.Kind r51.1.Name r51.1.From r51.1.To) (GProp.mk r53.1.Kind r53.1.Name r53.1.From r53.1.To)))) rfl (q7j rfl rfl (qhc (GProp.mk r51.1.Kind r51.1.Name r51.1.From r51.1.To) (GProp.mk r53.1.Kind r53.1.Name r53.1.From r53.1.To))) (RS.mv rfl rfl rfl rfl ?_)))
 repeat refine RS.no (want0 rfl rfl rfl h55) rfl rfl ?_
 refine RS.q (u:=.bool true) rfl (q06 rfl h55 rfl) ?_
 refine sd ?_
 exact ⟨_,_,⟨rfl,rfl⟩,(Nat.zero_le _),Gh.toC (n1:=5) ⟨rfl,rfl,rfl,rfl,rfl,rfl,rfl,trivial⟩ rfl (Nat.zero_le _) (by simp)⟩
 replace h57:=q04 h55 h57
 replace h57:=Option.some.inj h57
 subst h57
 refine sr ?_
 refine RS.q (u:=.agg (cGProp r51.1)) rfl (q0a und33 rfl (q01 inf33) rfl rfl rfl) (RS.q (u:=.agg (cGProp r53.1)) rfl (q0a und33 rfl (q01 inf33) rfl rfl rfl) (RS.q (u:=.bool (!(eqGProp (GProp.mk r51.1.Kind r51.1.Name r51.1.From r51.1.To) (GProp.mk r53.1.Kind r53.1.Name r53.1.From r53.1.To)))) rfl (q7j rfl rfl (qhc (GProp.mk r51.1.Kind r51.1.Name r51.1.From r51.1.To) (GProp.mk r53.1.Kind r53.1.Name r53.1.From r53.1.To))) (RS.mv rfl rfl rfl rfl (RS.op (want1 rfl rfl rfl h55) (q0h rfl) rfl rfl (RS.op (want1 rfl rfl rfl h55) (q0h rfl) rfl rfl ?_)))))
 refine RS.op (u:=.bool (!(r51.2 == r53.2))) (want1 rfl rfl rfl h55) (q7j rfl rfl (by simp only [g2,toV,binX,guardX,eqv,cond_true,ofV,und4])) rfl rfl ?_
 refine RS.q (u:=.bool (!(r51.2 == r53.2))) rfl (q07 rfl h55 rfl) ?_
 refine sd ?_
 exact ⟨_,_,⟨rfl,rfl⟩,(Nat.zero_le _),Gh.toC (n1:=5) ⟨rfl,rfl,rfl,rfl,rfl,rfl,rfl,trivial⟩ rfl (Nat.zero_le _) (by simp)⟩
 replace hF:=q04 h48 hF
 refine st ?_
 refine WPU.exit ?_
 refine st ?_
 exact ⟨_,_,⟨l34,l35,z36,l37,l38,z39,hF,rfl,rfl⟩,(Nat.zero_le _),Gh.toC (n1:=2) trivial rfl (Nat.zero_le _) (by simp)⟩
 rcases q2r (r11.2 != r13.2) with h15 | h15
 replace h17:=q05 h15 h17
 replace h17:=Option.some.inj h17
 subst h17
 refine sr ?_
 repeat refine RS.mv rfl rfl rfl rfl ?_
 refine RS.q rfl (q02 rfl rfl (q52 _ _ _) rfl) (RS.mv rfl rfl rfl rfl ?_)
 repeat refine RS.no (want0 rfl rfl rfl h15) rfl rfl ?_
 refine RS.q (u:=.bool true) rfl (q06 rfl h15 rfl) ?_
 refine sd ?_
 exact ⟨_,_,⟨rfl,rfl⟩,(Nat.zero_le _),Gh.toC (n1:=2) ⟨rfl,rfl,rfl,rfl,rfl,rfl,trivial⟩ rfl (Nat.zero_le _) (by simp)⟩
 replace h17:=q04 h15 h17
 replace h17:=Option.some.inj h17
 subst h17
 refine sr ?_
 repeat refine RS.mv rfl rfl rfl rfl ?_
 refine RS.q rfl (q02 rfl rfl (q52 _ _ _) rfl) (RS.mv rfl rfl rfl rfl (RS.op (want1 rfl rfl rfl h15) (q0h rfl) rfl rfl (RS.op (want1 rfl rfl rfl h15) (q02 rfl rfl (q52 _ _ _) rfl) rfl rfl (RS.q (u:=.bool (r11.2 != 0)) rfl (q07 rfl h15 rfl) ?_))))
 refine sd ?_
 exact ⟨_,_,⟨rfl,rfl⟩,(Nat.zero_le _),Gh.toC (n1:=2) ⟨rfl,rfl,rfl,rfl,rfl,rfl,trivial⟩ rfl (Nat.zero_le _) (by simp)⟩
 obtain ⟨r3,h4,h7⟩:=q00 h7
 rcases q2r (!r3) with h5 | h5
 replace h7:=q05 h5 h7
 replace h7:=Option.some.inj h7
 subst h7
 refine sr ?_
 refine RS.call (u:=.bool r3) (args:=[.isl false (List.map cGDeriv p1)]) rfl (q03 rfl rfl fn4 hb4 rfl rfl) (qd5 n p1 r3 h4 _) rfl rfl (RS.q (u:=.bool (!r3)) rfl (q7l rfl rfl rfl rfl) (RS.mv rfl rfl rfl rfl ?_))
 repeat refine RS.no (want0 rfl rfl rfl h5) rfl rfl ?_
 refine RS.q (u:=.bool true) rfl (q06 rfl h5 rfl) ?_
 refine sd ?_
 exact ⟨_,_,⟨rfl,rfl⟩,(Nat.zero_le _),Gh.toC (n1:=0) ⟨rfl,rfl,rfl,trivial⟩ rfl (Nat.zero_le _) (by simp)⟩
 replace h7:=q04 h5 h7
 replace h7:=Option.some.inj h7
 subst h7
 refine sr ?_
 refine RS.call (u:=.bool r3) (args:=[.isl false (List.map cGDeriv p1)]) rfl (q03 rfl rfl fn4 hb4 rfl rfl) (qd5 n p1 r3 h4 _) rfl rfl (RS.q (u:=.bool (!r3)) rfl (q7l rfl rfl rfl rfl) (RS.mv rfl rfl rfl rfl (RS.op (want1 rfl rfl rfl h5) (q0h rfl) rfl rfl (RS.op (want1 rfl rfl rfl h5) (q0k rfl rfl rfl (q0g cGStep und23)) rfl rfl (RS.op (want1 rfl rfl rfl h5) (q02 rfl rfl (qhi _ _ _) rfl) rfl rfl (RS.q (u:=.bool (decide ((p2.length:Int) > 10))) rfl (q07 rfl h5 rfl) ?_))))))
 refine sd ?_
 exact ⟨_,_,⟨rfl,rfl⟩,(Nat.zero_le _),Gh.toC (n1:=0) ⟨rfl,rfl,rfl,trivial⟩ rfl (Nat.zero_le _) (by simp)⟩
end Go.Proofs
end
