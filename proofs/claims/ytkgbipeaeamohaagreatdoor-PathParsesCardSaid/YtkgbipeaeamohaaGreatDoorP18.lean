/-
  Texts of the walk: H4 PlA MpA Q1 Q6 K1.
-/
import Derived.Test.YtkgbipeaeamohaaGreatDoorP17
set_option linter.unusedSimpArgs false
set_option linter.unusedVariables false
section
namespace Go.Proofs
open Go Go.Rx Go.Vx Tryz
set_option maxRecDepth 20000
set_option maxHeartbeats 4000000
set_option synthInstance.maxSize 4000
set_option synthInstance.maxHeartbeats 200000
def q44 (z10:Int) (rc1:Int→(List (List UInt8))→Option ((List (List UInt8)))) (l32:List (List UInt8)):Option ((List (List UInt8))) :=
 rc1 (IntKind.i64.wrap (z10+1)) l32
def q5y (r3:(List (List UInt8))) (z10:Int) (l11:List (List UInt8)) (rc1:Int→(List (List UInt8))→Option ((List (List UInt8)))) (b30:Bool):Option ((List (List UInt8))) :=
 cond b30
  (q03 (q0o r3 z10) fun x34 =>
  q0y ((l11.length+1)*16≤140737488355328∧l11.length+1≤140737488355328) (
  q44 z10 rc1 (l11++[x34])))
  (q44 z10 rc1 l11)
def q2h (n:Nat) (r3:(List (List UInt8))) (z10:Int) (l11:List (List UInt8)) (rc1:Int→(List (List UInt8))→Option ((List (List UInt8)))) (r18:(List (List UInt8))):Nat→Bool→Int→Option ((List (List UInt8)))
 | 0,_,_=>none
 | m2+1,b28,z29 =>
  cond (decide (z29<(r3.length:Int)))
   (q03 (cond b28
    (cond (z29 == z10)
     (some true)
     (q03 (q0o r3 z29) fun x40 =>
     q03 (q2g n r18 x40) fun r42 =>
     some (!r42)))
    (some false)) fun b44 =>
   (q2h n r3 z10 l11 rc1 r18 m2) b44 (IntKind.i64.wrap (z29+1)))
   (q5y r3 z10 l11 rc1 b28)
def q5x  (l13:List (List UInt8)):Option ((List (List UInt8))) :=
 some l13
def q12 (p1:List q01) (n:Nat) (r3:(List (List UInt8))):Nat→Int→(List (List UInt8))→Option ((List (List UInt8)))
 | 0,_,_=>none
 | m1+1,z10,l11 =>
  cond (decide (z10<(r3.length:Int)))
   (q03 (q0o r3 z10) fun x16 =>
   q03 (qab n p1 x16) fun r18 =>
   q2h n r3 z10 l11 (q12 p1 n r3 m1) r18 n true 0)
   (q5x l11)
def q59 (n:Nat) (p1:List q01) (p2:List (List UInt8)):Option ((List (List UInt8))) :=
 q03 (q89 n p1 p2) fun r3 =>
 q12 p1 n r3 n 0 ([]:List (List UInt8))
theorem qdn (n:Nat) (p1:List q01) (p2:List (List UInt8)) (r:(List (List UInt8))) (hF:q59 n p1 p2=some r):EvU Tryz.prog 131 [.isl false (List.map q02 p1),.isl false (List.map cS p2)] ⟨[],0⟩ (fun u _=>u = .isl false (List.map cS r)∧Bel 0 u):=by
 unfold q59 at hF
 refine bg2 56 fn131 ?_
 obtain ⟨r3,h4,hF⟩:=q00 hF
 refine go ?_
 refine RS.cl rfl (pC (qib n p1 p2 r3 h4) _) fn150 ?_
 refine gr ?_
 refine WPU.ghost (tm':=fr 56 [(0,.iM q02 p1),(5,.vl 0 0 0 (([]:List (List UInt8)).length)),(6,.iM cS r3),(7,.i6 0)]) (σ':=⟨[(0,.vec (List.map cS ([]:List (List UInt8))).flatten 9 1 0)],1⟩) (Gh.trans (z0n 5 9 1 (by decide) NZ rfl rfl) (z0o ⟨rfl,rfl,rfl,rfl,trivial⟩ rfl)) NZ ?_
 refine gS (l':=[(0,_),(5,_),(6,_),(7,_)]) ?_
 refine z0j (fun m tm σ=>∃ z10:Int,∃ l11:List (List UInt8),∃ t12:Nat,q12 p1 n r3 m z10 l11=some r∧tm=fr 56 [(0,.iM q02 p1),(5,.vl 0 t12 0 l11.length),(6,.iM cS r3),(7,.i6 z10)]∧σ=⟨[(0,.vec (List.map cS l11).flatten 9 1 t12)],1⟩) (fun tm σ=>∃ l13:List (List UInt8),∃ t14:Nat,q5x l13=some r∧tm=fr 56 [(5,.vl 0 t14 0 l13.length)]∧σ=⟨[(0,.vec (List.map cS l13).flatten 9 1 t14)],1⟩) n ⟨0,([]:List (List UInt8)),0,hF,rfl,rfl⟩ ?_ ?_
 rintro _ _ ⟨l13,t14,hF,rfl,rfl⟩
 unfold q5x at hF
 refine go ?_
 obtain rfl:=sI hF
 exact rT (us:=[.vl 0 t14 0 l13.length]) (u:=.iM cS l13) (q1v rfl (q2r)) (fR 0 1)
 rintro (_|m1) _ _ ⟨z10,l11,t12,hF,rfl,rfl⟩
 cases hF
 unfold q12 at hF
 refine go ?_
 refine cF hF (fun h15 hF=>?_) (fun h15 hF=>?_)
 refine go ?_
 refine WPU.block ?_
 obtain ⟨x16,h17,hF⟩:=q00 hF
 obtain ⟨r18,h19,hF⟩:=q00 hF
 refine go ?_
 refine RS.ix h17 ?_
 refine go ?_
 refine RS.cl rfl (pC (qmu n p1 x16 r18 h19) _) fn151 ?_
 refine go ?_
 refine gS (l':=[(0,_),(5,_),(6,_),(7,_),(8,_),(9,_),(10,_)]) ?_
 refine z0j (fun m tm σ=>∃ b28:Bool,∃ z29:Int,q2h n r3 z10 l11 (q12 p1 n r3 m1) r18 m b28 z29=some r∧tm=fr 56 [(0,.iM q02 p1),(5,.vl 0 t12 0 l11.length),(6,.iM cS r3),(7,.i6 z10),(8,.iM cS r18),(9,.bool b28),(10,.i6 z29)]∧σ=⟨[(0,.vec (List.map cS l11).flatten 9 1 t12)],1⟩) (fun tm σ=>∃ b30:Bool,q5y r3 z10 l11 (q12 p1 n r3 m1) b30=some r∧tm=fr 56 [(0,.iM q02 p1),(5,.vl 0 t12 0 l11.length),(6,.iM cS r3),(7,.i6 z10),(9,.bool b30)]∧σ=⟨[(0,.vec (List.map cS l11).flatten 9 1 t12)],1⟩) n ⟨true,0,hF,rfl,rfl⟩ ?_ ?_
 rintro _ _ ⟨b30,hF,rfl,rfl⟩
 unfold q5y at hF
 refine gr ?_
 refine z0k (fun tm σ=>∃ l32:List (List UInt8),∃ t33:Nat,q44 z10 (q12 p1 n r3 m1) l32=some r∧tm=fr 56 [(0,.iM q02 p1),(5,.vl 0 t33 0 l32.length),(6,.iM cS r3),(7,.i6 z10)]∧σ=⟨[(0,.vec (List.map cS l32).flatten 9 1 t33)],1⟩) ?_ ?_
 rintro _ _ ⟨l32,t33,hF,rfl,rfl⟩
 unfold q44 at hF
 refine go ?_
 exact lC ⟨_,l32,t33,hF,rfl,rfl⟩
 refine cF hF (fun h31 hF=>?_) (fun h31 hF=>?_)
 obtain ⟨x34,h35,hF⟩:=q00 hF
 obtain ⟨h36,hF⟩:=q08 hF
 refine go ?_
 refine RS.ix h35 ?_
 refine go ?_
 refine RS.g ?_
 refine RS.g ?_
 refine go ?_
 exact xC ⟨(l11++[x34]),(t12+1),hF,rfl,rfl⟩
 refine go ?_
 exact xC ⟨l11,t12,hF,rfl,rfl⟩
 rintro (_|m2) _ _ ⟨b28,z29,hF,rfl,rfl⟩
 cases hF
 unfold q2h at hF
 refine go ?_
 refine cF hF (fun h37 hF=>?_) (fun h37 hF=>?_)
 refine go ?_
 refine WPU.block ?_
 obtain ⟨b44,h45,hF⟩:=q00 hF
 refine gn ?_
 refine z0k (fun tm σ=>tm=fr 56 [(0,.iM q02 p1),(5,.vl 0 t12 0 l11.length),(6,.iM cS r3),(7,.i6 z10),(8,.iM cS r18),(9,.bool b44),(10,.i6 z29)]∧σ=⟨[(0,.vec (List.map cS l11).flatten 9 1 t12)],1⟩) ?_ ?_
 rintro _ _ ⟨rfl,rfl⟩
 refine go ?_
 exact lC ⟨b44,(IntKind.i64.wrap (z29+1)),hF,rfl,rfl⟩
 rcases gB h45 with ⟨h38,h45⟩ | ⟨h38,h45⟩
 rcases gB h45 with ⟨h39,h45⟩ | ⟨h39,h45⟩
 exact gy h45
 obtain ⟨x40,h41,h45⟩:=q00 h45
 obtain ⟨r42,h43,h45⟩:=q00 h45
 obtain rfl:=sI h45
 refine go ?_
 refine RS.ix h41 ?_
 refine go ?_
 refine RS.cl rfl (pC (q1t n r18 x40 r42 h43) _) fn126 ?_
 refine go ?_
 exact xC ⟨rfl,rfl⟩
 obtain rfl:=sI h45
 refine go ?_
 repeat refine RS.no (qif rfl rfl rfl) rfl rfl ?_
 refine go ?_
 exact xC ⟨rfl,rfl⟩
 refine go ?_
 exact xC ⟨b28,hF,rfl,rfl⟩
 refine go ?_
 exact xC ⟨l11,t12,hF,rfl,rfl⟩
def q77 (r17:(List (List UInt8))) (z23:Int) (rc2:(List UInt8)→Int→Option ((List UInt8))) (s27:List UInt8):Option ((List UInt8)) :=
 q03 (q0o r17 z23) fun x28 =>
 q0y (s27.length+x28.length≤9223372036854775807) (
 rc2 (s27++x28) (IntKind.i64.wrap (z23+1)))
def q9s  (s24:List UInt8):Option ((List UInt8)) :=
 some s24
def q28 (r17:(List (List UInt8))):Nat→(List UInt8)→Int→Option ((List UInt8))
 | 0,_,_=>none
 | m2+1,s22,z23 =>
  cond (decide (z23<(r17.length:Int)))
   (cond (decide (z23 > 0))
    (q0y (s22.length+([38]).length≤9223372036854775807) (
    q77 r17 z23 (q28 r17 m2) (s22++[38])))
    (q77 r17 z23 (q28 r17 m2) s22))
   (q9s s22)
def q78 (z12:Int) (rc1:Int→(List (List UInt8))→Option ((List UInt8))) (l43:List (List UInt8)):Option ((List UInt8)) :=
 rc1 (IntKind.i64.wrap (z12+1)) l43
def q9r (p1:List q01) (n:Nat) (l15:List (List UInt8)):Option ((List UInt8)) :=
 q03 (q59 n p1 l15) fun r17 =>
 q28 r17 n [] 0
def q2q (p1:List q01) (p2:List (List UInt8)) (p3:List (List Int)) (p4:List Int) (n:Nat):Nat→Int→(List (List UInt8))→Option ((List UInt8))
 | 0,_,_=>none
 | m1+1,z12,l13 =>
  cond (decide (z12<(p2.length:Int)))
   (q03 (q0o p3 z12) fun x33 =>
   q03 (qa9 n x33 p4) fun r35 =>
   cond r35
    (q03 (q0o p2 z12) fun x38 =>
    some x38)
    (q03 (qbr n p4 z12) fun r40 =>
    cond r40
     (q03 (q0o p2 z12) fun x45 =>
     q0y ((l13.length+1)*16≤140737488355328∧l13.length+1≤140737488355328) (
     q78 z12 (q2q p1 p2 p3 p4 n m1) (l13++[x45])))
     (q78 z12 (q2q p1 p2 p3 p4 n m1) l13)))
   (q9r p1 n l13)
def qbu (n:Nat) (p1:List q01) (p2:List (List UInt8)) (p3:List (List Int)) (p4:List Int):Option ((List UInt8)) :=
 q2q p1 p2 p3 p4 n n 0 ([]:List (List UInt8))
theorem qot (n:Nat) (p1:List q01) (p2:List (List UInt8)) (p3:List (List Int)) (p4:List Int) (r:(List UInt8)) (hF:qbu n p1 p2 p3 p4=some r):EvU Tryz.prog 98 [.isl false (List.map q02 p1),.isl false (List.map cS p2),.isl false (List.map (cL (cI .u64)) p3),.isl false (List.map (cI .u64) p4)] ⟨[],0⟩ (fun u _=>u = .str r∧Bel 0 u):=by
 unfold qbu at hF
 refine bg4 59 fn98 ?_
 refine gr ?_
 refine gr ?_
 refine gr ?_
 refine WPU.ghost (tm':=fr 59 [(0,.iM q02 p1),(1,.iM cS p2),(2,.iM (cL (cI .u64)) p3),(3,.iM (cI .u64) p4),(9,.vl 0 0 0 (([]:List (List UInt8)).length)),(10,.i6 0)]) (σ':=⟨[(0,.vec (List.map cS ([]:List (List UInt8))).flatten 9 1 0)],1⟩) (Gh.trans (z0n 9 9 1 (by decide) NZ rfl rfl) (z0o ⟨rfl,rfl,rfl,rfl,rfl,rfl,trivial⟩ rfl)) NZ ?_
 refine gS (l':=[(0,_),(1,_),(2,_),(3,_),(9,_),(10,_)]) ?_
 refine z0j (fun m tm σ=>∃ z12:Int,∃ l13:List (List UInt8),∃ t14:Nat,q2q p1 p2 p3 p4 n m z12 l13=some r∧tm=fr 59 [(0,.iM q02 p1),(1,.iM cS p2),(2,.iM (cL (cI .u64)) p3),(3,.iM (cI .u64) p4),(9,.vl 0 t14 0 l13.length),(10,.i6 z12)]∧σ=⟨[(0,.vec (List.map cS l13).flatten 9 1 t14)],1⟩) (fun tm σ=>∃ l15:List (List UInt8),∃ t16:Nat,q9r p1 n l15=some r∧tm=fr 59 [(0,.iM q02 p1),(9,.vl 0 t16 0 l15.length)]∧σ=⟨[(0,.vec (List.map cS l15).flatten 9 1 t16)],1⟩) n ⟨0,([]:List (List UInt8)),0,hF,rfl,rfl⟩ ?_ ?_
 rintro _ _ ⟨l15,t16,hF,rfl,rfl⟩
 unfold q9r at hF
 refine gn ?_
 refine WPU.ghost (tm':=fr 59 [(0,.iM q02 p1),(9,.iM cS l15)]) (σ':=⟨[],1⟩) (Gh.trans (Gh.sub (l':=[(0,.iM q02 p1),(9,.vl 0 t16 0 l15.length)]) ⟨rfl,rfl,trivial⟩) (z0v 0 1)) NZ ?_
 obtain ⟨r17,h18,hF⟩:=q00 hF
 refine go ?_
 refine RS.cl rfl (pC (qdn n p1 l15 r17 h18) _) fn131 ?_
 refine go ?_
 refine gS (l':=[(9,_),(11,_),(12,_)]) ?_
 refine z0j (fun m tm σ=>∃ s22:List UInt8,∃ z23:Int,q28 r17 m s22 z23=some r∧tm=fr 59 [(9,.iM cS r17),(11,.str s22),(12,.i6 z23)]∧σ=⟨[],1⟩) (fun tm σ=>∃ s24:List UInt8,q9s s24=some r∧tm=fr 59 [(11,.str s24)]∧σ=⟨[],1⟩) n ⟨[],0,hF,rfl,rfl⟩ ?_ ?_
 rintro _ _ ⟨s24,hF,rfl,rfl⟩
 unfold q9s at hF
 exact gx hF
 rintro (_|m2) _ _ ⟨s22,z23,hF,rfl,rfl⟩
 cases hF
 unfold q28 at hF
 refine go ?_
 refine cF hF (fun h25 hF=>?_) (fun h25 hF=>?_)
 refine go ?_
 refine WPU.block ?_
 refine gr ?_
 refine z0k (fun tm σ=>∃ s27:List UInt8,q77 r17 z23 (q28 r17 m2) s27=some r∧tm=fr 59 [(9,.iM cS r17),(11,.str s27),(12,.i6 z23)]∧σ=⟨[],1⟩) ?_ ?_
 rintro _ _ ⟨s27,hF,rfl,rfl⟩
 unfold q77 at hF
 obtain ⟨x28,h29,hF⟩:=q00 hF
 obtain ⟨h30,hF⟩:=q08 hF
 refine go ?_
 refine RS.ix h29 ?_
 refine go ?_
 refine RS.q (u:=.str (s27++x28)) rfl (q6e rfl rfl (qyy h30) rfl) ?_
 refine go ?_
 exact lC ⟨(s27++x28),(IntKind.i64.wrap (z23+1)),hF,rfl,rfl⟩
 refine cF hF (fun h26 hF=>?_) (fun h26 hF=>?_)
 obtain ⟨h31,hF⟩:=q08 hF
 refine go ?_
 refine RS.q (u:=.str (s22++[38])) rfl (q6e rfl rfl (qyy h31) rfl) ?_
 refine go ?_
 exact xC ⟨(s22++[38]),hF,rfl,rfl⟩
 refine go ?_
 exact xC ⟨s22,hF,rfl,rfl⟩
 refine go ?_
 exact xC ⟨s22,hF,rfl,rfl⟩
 rintro (_|m1) _ _ ⟨z12,l13,t14,hF,rfl,rfl⟩
 cases hF
 unfold q2q at hF
 refine go ?_
 refine cF hF (fun h32 hF=>?_) (fun h32 hF=>?_)
 refine go ?_
 refine WPU.block ?_
 obtain ⟨x33,h34,hF⟩:=q00 hF
 obtain ⟨r35,h36,hF⟩:=q00 hF
 refine go ?_
 refine RS.ix h34 ?_
 refine go ?_
 refine RS.cl rfl (pC (qms n x33 p4 r35 h36) _) fn129 ?_
 refine go ?_
 refine cF hF (fun h37 hF=>?_) (fun h37 hF=>?_)
 obtain ⟨x38,h39,hF⟩:=q00 hF
 refine go ?_
 refine RS.ix h39 ?_
 exact gx hF
 obtain ⟨r40,h41,hF⟩:=q00 hF
 refine go ?_
 refine RS.cl rfl (pC (qk7 n p4 z12 r40 h41) _) fn130 ?_
 refine gn ?_
 refine z0k (fun tm σ=>∃ l43:List (List UInt8),∃ t44:Nat,q78 z12 (q2q p1 p2 p3 p4 n m1) l43=some r∧tm=fr 59 [(0,.iM q02 p1),(1,.iM cS p2),(2,.iM (cL (cI .u64)) p3),(3,.iM (cI .u64) p4),(9,.vl 0 t44 0 l43.length),(10,.i6 z12)]∧σ=⟨[(0,.vec (List.map cS l43).flatten 9 1 t44)],1⟩) ?_ ?_
 rintro _ _ ⟨l43,t44,hF,rfl,rfl⟩
 unfold q78 at hF
 refine go ?_
 exact lC ⟨_,l43,t44,hF,rfl,rfl⟩
 refine cF hF (fun h42 hF=>?_) (fun h42 hF=>?_)
 obtain ⟨x45,h46,hF⟩:=q00 hF
 obtain ⟨h47,hF⟩:=q08 hF
 refine go ?_
 refine RS.ix h46 ?_
 refine go ?_
 refine RS.g ?_
 refine RS.g ?_
 refine go ?_
 exact xC ⟨(l13++[x45]),(t14+1),hF,rfl,rfl⟩
 refine go ?_
 exact xC ⟨l13,t14,hF,rfl,rfl⟩
 refine go ?_
 exact xC ⟨l13,t14,hF,rfl,rfl⟩
def q6x (z6:Int) (rc1:Int→(List Int)→Option ((List Int))) (l15:List Int):Option ((List Int)) :=
 rc1 (IntKind.i64.wrap (z6+1)) l15
def q9l  (l9:List Int):Option ((List Int)) :=
 some l9
def q2o (p1:List Int) (n:Nat):Nat→Int→(List Int)→Option ((List Int))
 | 0,_,_=>none
 | m1+1,z6,l7 =>
  cond (decide (z6<(IntKind.i64.wrap (64*(p1.length:Int)))))
   (q03 (qbr n p1 z6) fun r12 =>
   cond r12
    (q0y ((l7.length+1)*8≤140737488355328∧l7.length+1≤140737488355328) (
    q6x z6 (q2o p1 n m1) (l7++[z6])))
    (q6x z6 (q2o p1 n m1) l7))
   (q9l l7)
def qe9 (n:Nat) (p1:List Int):Option ((List Int)) :=
 q2o p1 n n 0 ([]:List Int)
theorem qoq (n:Nat) (p1:List Int) (r:(List Int)) (hF:qe9 n p1=some r):EvU Tryz.prog 152 [.isl false (List.map (cI .u64) p1)] ⟨[],0⟩ (fun u _=>u = .isl false (List.map (cI .i64) r)∧Bel 0 u):=by
 unfold qe9 at hF
 refine bg1 20 fn152 ?_
 refine gr ?_
 refine gr ?_
 refine gr ?_
 refine WPU.ghost (tm':=fr 20 [(0,.iM (cI .u64) p1),(3,.vl 0 0 0 (([]:List Int).length)),(4,.i6 0)]) (σ':=⟨[(0,.vec (List.map (cI .i64) ([]:List Int)).flatten 3 1 0)],1⟩) (Gh.trans (z0n 3 3 1 (by decide) NZ rfl rfl) (z0o ⟨rfl,rfl,rfl,trivial⟩ rfl)) NZ ?_
 refine gS (l':=[(0,_),(3,_),(4,_)]) ?_
 refine z0j (fun m tm σ=>∃ z6:Int,∃ l7:List Int,∃ t8:Nat,q2o p1 n m z6 l7=some r∧tm=fr 20 [(0,.iM (cI .u64) p1),(3,.vl 0 t8 0 l7.length),(4,.i6 z6)]∧σ=⟨[(0,.vec (List.map (cI .i64) l7).flatten 3 1 t8)],1⟩) (fun tm σ=>∃ l9:List Int,∃ t10:Nat,q9l l9=some r∧tm=fr 20 [(3,.vl 0 t10 0 l9.length)]∧σ=⟨[(0,.vec (List.map (cI .i64) l9).flatten 3 1 t10)],1⟩) n ⟨0,([]:List Int),0,hF,rfl,rfl⟩ ?_ ?_
 rintro _ _ ⟨l9,t10,hF,rfl,rfl⟩
 unfold q9l at hF
 refine go ?_
 obtain rfl:=sI hF
 exact rT (us:=[.vl 0 t10 0 l9.length]) (u:=.iM (cI .i64) l9) (q1v rfl (q2r)) (fR 0 1)
 rintro (_|m1) _ _ ⟨z6,l7,t8,hF,rfl,rfl⟩
 cases hF
 unfold q2o at hF
 refine go ?_
 refine cF hF (fun h11 hF=>?_) (fun h11 hF=>?_)
 refine go ?_
 refine WPU.block ?_
 obtain ⟨r12,h13,hF⟩:=q00 hF
 refine go ?_
 refine RS.cl rfl (pC (qk7 n p1 z6 r12 h13) _) fn130 ?_
 refine gn ?_
 refine z0k (fun tm σ=>∃ l15:List Int,∃ t16:Nat,q6x z6 (q2o p1 n m1) l15=some r∧tm=fr 20 [(0,.iM (cI .u64) p1),(3,.vl 0 t16 0 l15.length),(4,.i6 z6)]∧σ=⟨[(0,.vec (List.map (cI .i64) l15).flatten 3 1 t16)],1⟩) ?_ ?_
 rintro _ _ ⟨l15,t16,hF,rfl,rfl⟩
 unfold q6x at hF
 refine go ?_
 exact lC ⟨_,l15,t16,hF,rfl,rfl⟩
 refine cF hF (fun h14 hF=>?_) (fun h14 hF=>?_)
 obtain ⟨h17,hF⟩:=q08 hF
 refine go ?_
 refine RS.g ?_
 refine RS.g ?_
 refine go ?_
 exact xC ⟨(l7++[z6]),(t8+1),hF,rfl,rfl⟩
 refine go ?_
 exact xC ⟨l7,t8,hF,rfl,rfl⟩
 refine go ?_
 exact xC ⟨l7,t8,hF,rfl,rfl⟩
def q7n (n:Nat) (p1:List Int):Option (Int) :=
 q03 (qe9 n p1) fun r2 =>
 some (r2.length:Int)
theorem qgc (n:Nat) (p1:List Int) (r:Int) (hF:q7n n p1=some r):EvU Tryz.prog 132 [.isl false (List.map (cI .u64) p1)] ⟨[],0⟩ (fun u _=>u = .int .i64 r∧Bel 0 u):=by
 unfold q7n at hF
 refine bg1 6 fn132 ?_
 obtain ⟨r2,h3,hF⟩:=q00 hF
 refine go ?_
 refine RS.cl rfl (pC (qoq n p1 r2 h3) _) fn152 ?_
 exact gx hF
def q8w (n:Nat) (p1:q0c) (p2:q0c):Option (Bool) :=
 q03 (q7n n p1.Code) fun r3 =>
 q03 (q7n n p2.Code) fun r5 =>
 q03 (cond (decide (r3 > r5))
  (some true)
  (cond (r3 == r5)
   (some (q11 p1.Name p2.Name))
   (some false))) fun b9 =>
 some b9
theorem ql6 (n:Nat) (p1:q0c) (p2:q0c) (r:Bool) (hF:q8w n p1 p2=some r):EvU Tryz.prog 99 [.agg (q0d p1),.agg (q0d p2)] ⟨[],0⟩ (fun u _=>u = .bool r∧Bel 0 u):=by
 unfold q8w at hF
 refine bg2 28 fn99 ?_
 obtain ⟨r3,h4,hF⟩:=q00 hF
 refine go ?_
 refine RS.cl rfl (pC (qgc n p1.Code r3 h4) _) fn132 ?_
 obtain ⟨r5,h6,hF⟩:=q00 hF
 refine go ?_
 refine RS.cl rfl (pC (qgc n p2.Code r5 h6) _) fn132 ?_
 obtain ⟨b9,h10,hF⟩:=q00 hF
 refine gn ?_
 refine z0k (fun tm σ=>tm=fr 28 [(4,.bool b9)]∧σ=⟨[(1,.row (q0d p2) 105),(0,.row (q0d p1) 105)],2⟩) ?_ ?_
 rintro _ _ ⟨rfl,rfl⟩
 exact gx hF
 rcases gB h10 with ⟨h7,h10⟩ | ⟨h7,h10⟩
 obtain rfl:=sI h10
 refine go ?_
 repeat refine RS.no (qif rfl rfl rfl) rfl rfl ?_
 refine go ?_
 exact xC ⟨rfl,rfl⟩
 rcases gB h10 with ⟨h8,h10⟩ | ⟨h8,h10⟩
 obtain rfl:=sI h10
 refine go ?_
 refine RS.w (u:=.bool (q11 p1.Name p2.Name)) rfl (q6e rfl rfl rfl rfl) ?_
 refine go ?_
 exact xC ⟨rfl,rfl⟩
 exact gy h10
def q5q (z27:Int) (l28:List q0c) (rc2:Int→(List q0c)→Option ((List q0c)×Int)) (r35:(List UInt8)) (x37:List Int) (z50:Int):Option ((List q0c)×Int) :=
 q0y ((0:Int)≤z50∧z50≤((l28.length:Nat):Int)) (
 q0y (0+z50.toNat≤l28.length) (
 q0y (((l28.drop 0).take z50.toNat).length*40≤140737488355328∧((l28.drop 0).take z50.toNat).length≤140737488355328) (
 q0y ((((l28.drop 0).take z50.toNat).length+1)*40≤140737488355328∧((l28.drop 0).take z50.toNat).length+1≤140737488355328) (
 q0y ((0:Int)≤z50∧z50≤((l28.length:Nat):Int)) (
 q0y ((0+z50.toNat)+(l28.length - z50.toNat)≤l28.length) (
 q0y (((((l28.drop 0).take z50.toNat)++[(q0c.mk r35 x37)]).length+((l28.drop (0+z50.toNat)).take (l28.length - z50.toNat)).length)*40≤140737488355328∧(((l28.drop 0).take z50.toNat)++[(q0c.mk r35 x37)]).length+((l28.drop (0+z50.toNat)).take (l28.length - z50.toNat)).length≤140737488355328) (
 rc2 (IntKind.i64.wrap (z27+1)) ((((l28.drop 0).take z50.toNat)++[(q0c.mk r35 x37)])++((l28.drop (0+z50.toNat)).take (l28.length - z50.toNat))))))))))
def q4b (n:Nat) (z27:Int) (l28:List q0c) (rc2:Int→(List q0c)→Option ((List q0c)×Int)) (r35:(List UInt8)) (x37:List Int):Nat→Int→Option ((List q0c)×Int)
 | 0,_=>none
 | m3+1,z49 =>
  q03 (cond (decide (z49 > 0))
   (q03 (q0o l28 (IntKind.i64.wrap (z49 - 1))) fun x59 =>
   q03 (q8w n (q0c.mk r35 x37) x59) fun r61 =>
   some r61)
   (some false)) fun b63 =>
  cond b63
   ((q4b n z27 l28 rc2 r35 x37 m3) (IntKind.i64.wrap (z49 - 1)))
   (q5q z27 l28 rc2 r35 x37 z49)
def q8e  (l30:List q0c):Option ((List q0c)×Int) :=
 some (l30,0)
def q27 (p1:List q01) (n:Nat) (r5:(List (List UInt8))) (l15:List (List Int)) (r17:(List (List Int))):Nat→Int→(List q0c)→Option ((List q0c)×Int)
 | 0,_,_=>none
 | m2+1,z27,l28 =>
  cond (decide (z27<(r17.length:Int)))
   (q03 (q0o r17 z27) fun x33 =>
   q03 (qbu n p1 r5 l15 x33) fun r35 =>
   q03 (q0o r17 z27) fun x37 =>
   q4b n z27 l28 (q27 p1 n r5 l15 r17 m2) r35 x37 n (l28.length:Int))
   (q8e l28)
def q8d (p1:List q01) (n:Nat) (r5:(List (List UInt8))) (l15:List (List Int)):Option ((List q0c)×Int) :=
 q03 (q8x n l15) fun r17 =>
 cond (decide ((r17.length:Int) > 256))
  (some ([],7))
  (q27 p1 n r5 l15 r17 n 0 ([]:List q0c))
def q3k (p1:List q01) (n:Nat) (r5:(List (List UInt8))):Nat→Int→(List (List Int))→Option ((List q0c)×Int)
 | 0,_,_=>none
 | m1+1,z12,l13 =>
  cond (decide (z12<(r5.length:Int)))
   (q03 (q0o r5 z12) fun x67 =>
   q03 (qbt n p1 r5 x67) fun r69 =>
   q0y ((l13.length+1)*24≤140737488355328∧l13.length+1≤140737488355328) (
   (q3k p1 n r5 m1) (IntKind.i64.wrap (z12+1)) (l13++[r69])))
   (q8d p1 n r5 l13)
def q3z (n:Nat) (p1:List q01):Option ((List q0c)×Int) :=
 q03 (qad n p1) fun r2 =>
 cond (r2 != 0)
  (some ([],r2))
  (q03 (qae n p1) fun r5 =>
  q3k p1 n r5 n 0 ([]:List (List Int)))
theorem q9o (n:Nat) (p1:List q01) (r:(List q0c)×Int) (hF:q3z n p1=some r):EvU Tryz.prog 72 [.isl false (List.map q02 p1)] ⟨[],0⟩ (fun u _=>u = .tup [.isl false (List.map q0d r.1),.int .i64 r.2]∧Bel 0 u):=by
 unfold q3z at hF
 refine bg1 92 fn72 ?_
 obtain ⟨r2,h3,hF⟩:=q00 hF
 refine go ?_
 refine RS.cl rfl (pC (qmw n p1 r2 h3) _) fn94 ?_
 refine go ?_
 refine cF hF (fun h4 hF=>?_) (fun h4 hF=>?_)
 refine go ?_
 obtain rfl:=sI hF
 exact rT (us:=[.nils,.i6 r2]) (u:=.tup [.isl false [],.i6 r2]) (q1v rfl (q1v rfl (q2r))) wR
 obtain ⟨r5,h6,hF⟩:=q00 hF
 refine go ?_
 refine RS.cl rfl (pC (qge n p1 r5 h6) _) fn95 ?_
 refine gr ?_
 refine gr ?_
 refine WPU.ghost (tm':=fr 92 [(0,.iM q02 p1),(5,.iM cS r5),(6,.vl 0 0 0 (([]:List (List Int)).length)),(7,.i6 0)]) (σ':=⟨[(0,.vec (List.map (cL (cI .u64)) ([]:List (List Int))).flatten 103 1 0)],1⟩) (Gh.trans (z0n 6 103 1 (by decide) NZ rfl rfl) (z0o ⟨rfl,rfl,rfl,rfl,trivial⟩ rfl)) NZ ?_
 refine gS (l':=[(0,_),(5,_),(6,_),(7,_)]) ?_
 refine z0j (fun m tm σ=>∃ z12:Int,∃ l13:List (List Int),∃ t14:Nat,q3k p1 n r5 m z12 l13=some r∧tm=fr 92 [(0,.iM q02 p1),(5,.iM cS r5),(6,.vl 0 t14 0 l13.length),(7,.i6 z12)]∧σ=⟨[(0,.vec (List.map (cL (cI .u64)) l13).flatten 103 1 t14)],1⟩) (fun tm σ=>∃ l15:List (List Int),∃ t16:Nat,q8d p1 n r5 l15=some r∧tm=fr 92 [(0,.iM q02 p1),(5,.iM cS r5),(6,.vl 0 t16 0 l15.length)]∧σ=⟨[(0,.vec (List.map (cL (cI .u64)) l15).flatten 103 1 t16)],1⟩) n ⟨0,([]:List (List Int)),0,hF,rfl,rfl⟩ ?_ ?_
 rintro _ _ ⟨l15,t16,hF,rfl,rfl⟩
 unfold q8d at hF
 refine gn ?_
 refine WPU.ghost (tm':=fr 92 [(0,.iM q02 p1),(5,.iM cS r5),(6,.iM (cL (cI .u64)) l15)]) (σ':=⟨[],1⟩) (Gh.trans (Gh.sub (l':=[(0,.iM q02 p1),(5,.iM cS r5),(6,.vl 0 t16 0 l15.length)]) ⟨rfl,rfl,rfl,trivial⟩) (z0v 0 1)) NZ ?_
 obtain ⟨r17,h18,hF⟩:=q00 hF
 refine go ?_
 refine RS.cl rfl (pC (ql7 n l15 r17 h18) _) fn97 ?_
 refine go ?_
 refine cF hF (fun h19 hF=>?_) (fun h19 hF=>?_)
 refine go ?_
 obtain rfl:=sI hF
 exact rT (us:=[.nils,.i6 7]) (u:=.tup [.isl false [],.i6 7]) (q1v rfl (q1v rfl (q2r))) wR
 refine gr ?_
 refine gr ?_
 refine WPU.ghost (tm':=fr 92 [(0,.iM q02 p1),(5,.iM cS r5),(6,.iM (cL (cI .u64)) l15),(8,.iM (cL (cI .u64)) r17),(9,.vl 1 0 0 (([]:List q0c).length)),(10,.i6 0)]) (σ':=⟨[(1,.vec (List.map q0d ([]:List q0c)).flatten 105 2 0)],2⟩) (Gh.trans (z0n 9 105 2 (by decide) NZ rfl rfl) (z0o ⟨rfl,rfl,rfl,rfl,rfl,rfl,trivial⟩ rfl)) NZ ?_
 refine gS (l':=[(0,_),(5,_),(6,_),(8,_),(9,_),(10,_)]) ?_
 refine z0j (fun m tm σ=>∃ z27:Int,∃ l28:List q0c,∃ t29:Nat,q27 p1 n r5 l15 r17 m z27 l28=some r∧tm=fr 92 [(0,.iM q02 p1),(5,.iM cS r5),(6,.iM (cL (cI .u64)) l15),(8,.iM (cL (cI .u64)) r17),(9,.vl 1 t29 0 l28.length),(10,.i6 z27)]∧σ=⟨[(1,.vec (List.map q0d l28).flatten 105 2 t29)],2⟩) (fun tm σ=>∃ l30:List q0c,∃ t31:Nat,q8e l30=some r∧tm=fr 92 [(9,.vl 1 t31 0 l30.length)]∧σ=⟨[(1,.vec (List.map q0d l30).flatten 105 2 t31)],2⟩) n ⟨0,([]:List q0c),0,hF,rfl,rfl⟩ ?_ ?_
 rintro _ _ ⟨l30,t31,hF,rfl,rfl⟩
 unfold q8e at hF
 refine go ?_
 obtain rfl:=sI hF
 exact rT (us:=[.vl 1 t31 0 l30.length,.i6 0]) (u:=.tup [.iM q0d l30,.i6 0]) (q1v rfl (q1v rfl (q2r))) (fR 1 2)
 rintro (_|m2) _ _ ⟨z27,l28,t29,hF,rfl,rfl⟩
 cases hF
 unfold q27 at hF
 refine go ?_
 refine cF hF (fun h32 hF=>?_) (fun h32 hF=>?_)
 refine go ?_
 refine WPU.block ?_
 obtain ⟨x33,h34,hF⟩:=q00 hF
 obtain ⟨r35,h36,hF⟩:=q00 hF
 obtain ⟨x37,h38,hF⟩:=q00 hF
 refine go ?_
 refine z0m Tryz.tb_ok [(0,13),(1,13),(2,13),(3,13),(4,13),(5,13),(6,13),(8,13),(9,13),(10,13),(11,13),(12,13)] (by kernel_rfl) ?_
 refine gd ?_
 refine RD.ix h34 ?_
 refine gd ?_
 refine RD.fl rfl (pC (qot n p1 r5 l15 x33 r35 h36)) fn98 ?_
 refine gd ?_
 refine RD.ix h38 ?_
 refine gd ?_
 refine RD.g ?_
 refine RD.gz ?_
 refine RD.done ⟨by kernel_rfl,⟨q4f rfl,⟨q4f rfl,⟨q4f rfl,⟨q4f rfl,⟨q4f rfl,⟨qbd rfl rfl (qu6 (cL (cI .u64)) un148.h (q2l if103.h) (qdd (cI .u64)) h34 rfl),⟨quc un103.h rfl rfl rfl,⟨q4f rfl,⟨q4f rfl,⟨qbd rfl rfl (qu6 (cL (cI .u64)) un148.h (q2l if103.h) (qdd (cI .u64)) h38 rfl),⟨quc un103.h rfl rfl rfl,⟨qym bd105.h rfl rfl rfl,trivial⟩⟩⟩⟩⟩⟩⟩⟩⟩⟩⟩⟩,?_⟩
 refine go ?_
 refine gS (l':=[(0,_),(5,_),(6,_),(8,_),(9,_),(10,_),(11,_),(12,_)]) ?_
 refine z0j (fun m tm σ=>∃ z49:Int,q4b n z27 l28 (q27 p1 n r5 l15 r17 m2) r35 x37 m z49=some r∧tm=fr 92 [(0,.iM q02 p1),(5,.iM cS r5),(6,.iM (cL (cI .u64)) l15),(8,.iM (cL (cI .u64)) r17),(9,.vl 1 t29 0 l28.length),(10,.i6 z27),(11,.ptr 2 0 0),(12,.i6 z49)]∧σ=⟨[(2,.row [.str r35,.iM (cI .u64) x37] 105),(1,.vec (List.map q0d l28).flatten 105 2 t29)],3⟩) (fun tm σ=>∃ z50:Int,q5q z27 l28 (q27 p1 n r5 l15 r17 m2) r35 x37 z50=some r∧tm=fr 92 [(0,.iM q02 p1),(5,.iM cS r5),(6,.iM (cL (cI .u64)) l15),(8,.iM (cL (cI .u64)) r17),(9,.vl 1 t29 0 l28.length),(10,.i6 z27),(11,.ptr 2 0 0),(12,.i6 z50)]∧σ=⟨[(2,.row [.str r35,.iM (cI .u64) x37] 105),(1,.vec (List.map q0d l28).flatten 105 2 t29)],3⟩) n ⟨(l28.length:Int),hF,rfl,rfl⟩ ?_ ?_
 rintro _ _ ⟨z50,hF,rfl,rfl⟩
 unfold q5q at hF
 obtain ⟨h51,hF⟩:=q08 hF
 obtain ⟨h52,hF⟩:=q08 hF
 obtain ⟨h53,hF⟩:=q08 hF
 refine go ?_
 refine RS.q (u:=.vl 1 t29 0 z50.toNat) rfl (qc8 rfl qs4 (qy5 rfl) qs4 (sl_vp q0d un99.h (q2l if105.h) q4q (vo rfl) (Nat.le_of_eq (Nat.zero_add _)) (qy1 h51.1 h51.2))) (RS.q (u:=.vl 3 0 0 (((l28.drop 0).take z50.toNat).length)) (σ':=⟨[(3,.vec (List.map q0d ((l28.drop 0).take z50.toNat)).flatten 105 2 0),(2,.row [.str r35,.iM (cI .u64) x37] 105),(1,.vec (List.map q0d l28).flatten 105 2 t29)],4⟩) rfl (qdk rfl rfl rfl rfl (qt0 q0d ((l28.drop 0).take z50.toNat) un99.h un99.h if105.h rfl (qyw q0d q4q (vo rfl) h52) h53)) ?_)
 obtain ⟨h54,hF⟩:=q08 hF
 refine go ?_
 refine RS.g ?_
 refine RS.g ?_
 obtain ⟨h55,hF⟩:=q08 hF
 obtain ⟨h56,hF⟩:=q08 hF
 obtain ⟨h57,hF⟩:=q08 hF
 refine go ?_
 refine RS.q (u:=.vl 1 t29 (0+z50.toNat) (l28.length - z50.toNat)) rfl (qc8 rfl (qy5 rfl) qs4 qs4 (sl_vp q0d un99.h (q2l if105.h) q4q (vo rfl) (Nat.le_of_eq (Nat.zero_add _)) (qy2 h55.1 h55.2))) (RS.q (u:=.vl 3 2 0 (((((l28.drop 0).take z50.toNat)++[(q0c.mk r35 x37)])++((l28.drop (0+z50.toNat)).take (l28.length - z50.toNat))).length)) (σ':=⟨[(4,.row [.str r35,.iM (cI .u64) x37] 105),(3,.vec (List.map q0d ((((l28.drop 0).take z50.toNat)++[(q0c.mk r35 x37)])++((l28.drop (0+z50.toNat)).take (l28.length - z50.toNat)))).flatten 105 2 2),(2,.row [.str r35,.iM (cI .u64) x37] 105),(1,.vec (List.map q0d l28).flatten 105 2 t29)],5⟩) rfl (qdk rfl rfl rfl rfl (qlf q0d ((l28.drop (0+z50.toNat)).take (l28.length - z50.toNat)) un99.h un99.h if105.h rfl q4q rfl (qyw q0d q4q (vo rfl) h56) h57)) ?_)
 refine go ?_
 exact ⟨m2,_,_,Nat.lt_succ_self _,⟨(IntKind.i64.wrap (z27+1)),((((l28.drop 0).take z50.toNat)++[(q0c.mk r35 x37)])++((l28.drop (0+z50.toNat)).take (l28.length - z50.toNat))),2,hF,rfl,rfl⟩,NZ,Gh.trans (Gh.sub (l':=[(0,.iM q02 p1),(5,.iM cS r5),(6,.iM (cL (cI .u64)) l15),(8,.iM (cL (cI .u64)) r17),(9,.vl 3 2 0 (((((l28.drop 0).take z50.toNat)++[(q0c.mk r35 x37)])++((l28.drop (0+z50.toNat)).take (l28.length - z50.toNat))).length)),(10,.i6 (IntKind.i64.wrap (z27+1)))]) ⟨rfl,rfl,rfl,rfl,rfl,rfl,trivial⟩) (Gh.trans (Gh.mv (l':=[(0,.iM q02 p1),(5,.iM cS r5),(6,.iM (cL (cI .u64)) l15),(8,.iM (cL (cI .u64)) r17),(9,.vl 1 2 0 (((((l28.drop 0).take z50.toNat)++[(q0c.mk r35 x37)])++((l28.drop (0+z50.toNat)).take (l28.length - z50.toNat))).length)),(10,.i6 (IntKind.i64.wrap (z27+1)))]) (h':=[(4,.row [.str r35,.iM (cI .u64) x37] 105),(1,.vec (List.map q0d ((((l28.drop 0).take z50.toNat)++[(q0c.mk r35 x37)])++((l28.drop (0+z50.toNat)).take (l28.length - z50.toNat)))).flatten 105 2 2),(2,.row [.str r35,.iM (cI .u64) x37] 105)]) 1 3 NZ rfl rfl (by simp only [rS,rU,rUL,qhj,mvN,Nat.beq,cond_true,cond_false]) rfl (by simp only [avH,rB,qon,rUL,rU,qhj,qv1,mvN,Nat.beq,cond_true,cond_false,and_self])) (Gh.toC (n1:=2) ⟨rfl,rfl,rfl,rfl,rfl,rfl,trivial⟩ rfl NZ (by simp)))⟩
 rintro (_|m3) _ _ ⟨z49,hF,rfl,rfl⟩
 cases hF
 unfold q4b at hF
 obtain ⟨b63,h64,hF⟩:=q00 hF
 refine gn ?_
 refine z0k (fun tm σ=>tm=fr 92 [(0,.iM q02 p1),(5,.iM cS r5),(6,.iM (cL (cI .u64)) l15),(8,.iM (cL (cI .u64)) r17),(9,.vl 1 t29 0 l28.length),(10,.i6 z27),(11,.ptr 2 0 0),(12,.i6 z49),(73,.bool b63)]∧σ=⟨[(2,.row [.str r35,.iM (cI .u64) x37] 105),(1,.vec (List.map q0d l28).flatten 105 2 t29)],3⟩) ?_ ?_
 rintro _ _ ⟨rfl,rfl⟩
 refine go ?_
 refine cF hF (fun h65 hF=>?_) (fun h65 hF=>?_)
 refine go ?_
 refine WPU.block ?_
 refine go ?_
 exact lC ⟨_,hF,rfl,rfl⟩
 refine go ?_
 exact xC ⟨z49,hF,rfl,rfl⟩
 rcases gB h64 with ⟨h58,h64⟩ | ⟨h58,h64⟩
 obtain ⟨x59,h60,h64⟩:=q00 h64
 obtain ⟨r61,h62,h64⟩:=q00 h64
 obtain rfl:=sI h64
 refine z0m Tryz.tb_ok [] (by kernel_rfl) ?_
 refine gd ?_
 refine RD.w rfl (qbd rfl rfl (qi9 q0d un99.h (q2l if105.h) (by decide) q4q (vo rfl) h60)) ?_
 refine RD.w (u:=.agg (q0d x59)) rfl (ld_vec q0d un105.h rfl (q2l if105.h) q4q rfl rfl h60 rfl) (RD.fl rfl (pC (ql6 n (q0c.mk r35 x37) x59 r61 h62)) fn99 ?_)
 refine gd ?_
 refine RD.done ⟨by kernel_rfl,trivial,?_⟩
 refine go ?_
 exact xC ⟨rfl,rfl⟩
 obtain rfl:=sI h64
 refine z0m Tryz.tb_ok [] (by kernel_rfl) ?_
 refine gd ?_
 refine RD.done ⟨by kernel_rfl,trivial,?_⟩
 refine go ?_
 exact xC ⟨rfl,rfl⟩
 refine go ?_
 exact xC ⟨l28,t29,hF,rfl,rfl⟩
 rintro (_|m1) _ _ ⟨z12,l13,t14,hF,rfl,rfl⟩
 cases hF
 unfold q3k at hF
 refine go ?_
 refine cF hF (fun h66 hF=>?_) (fun h66 hF=>?_)
 refine go ?_
 refine WPU.block ?_
 obtain ⟨x67,h68,hF⟩:=q00 hF
 obtain ⟨r69,h70,hF⟩:=q00 hF
 obtain ⟨h71,hF⟩:=q08 hF
 refine go ?_
 refine RS.ix h68 ?_
 refine go ?_
 refine RS.cl rfl (pC (qos n p1 r5 x67 r69 h70) _) fn96 ?_
 refine RS.g ?_
 refine RS.g ?_
 refine go ?_
 exact lC ⟨_,(l13++[r69]),(t14+1),hF,rfl,rfl⟩
 refine go ?_
 exact xC ⟨l13,t14,hF,rfl,rfl⟩
def q8l   : Option ((List UInt8)×Bool) :=
 some ([],false)
def q3o (p1:q01) (p2:List UInt8):Nat→Int→Option ((List UInt8)×Bool)
 | 0,_=>none
 | m1+1,z8 =>
  cond (decide (z8<(p1.Feats.length:Int)))
   (q03 (q0o p1.Feats z8) fun x10 =>
   cond (q0k x10.Feat p2)
    (q03 (q0o p1.Feats z8) fun x13 =>
    some (x13.Value,true))
    ((q3o p1 p2 m1) (IntKind.i64.wrap (z8+1))))
   (q8l)
def qah (n:Nat) (p1:q01) (p2:List UInt8):Option ((List UInt8)×Bool) :=
 q3o p1 p2 n 0
theorem qgh (n:Nat) (p1:q01) (p2:List UInt8) (r:(List UInt8)×Bool) (hF:qah n p1 p2=some r):EvU Tryz.prog 117 [.agg (q02 p1),.str p2] ⟨[],0⟩ (fun u _=>u = .tup [.str r.1,.bool r.2]∧Bel 0 u):=by
 unfold qah at hF
 refine bg2 28 fn117 ?_
 refine go ?_
 refine gS (l':=[(1,_),(2,_),(6,_)]) ?_
 refine z0j (fun m tm σ=>∃ z8:Int,q3o p1 p2 m z8=some r∧tm=fr 28 [(1,.str p2),(2,.ptr 0 0 0),(6,.i6 z8)]∧σ=⟨[(0,.row (q02 p1) 127)],1⟩) (fun tm σ=>q8l=some r∧tm=fr 28 []∧σ=⟨[(0,.row (q02 p1) 127)],1⟩) n ⟨0,hF,rfl,rfl⟩ ?_ ?_
 rintro _ _ ⟨hF,rfl,rfl⟩
 unfold q8l at hF
 refine go ?_
 obtain rfl:=sI hF
 exact rt2 rfl rfl rfl rfl rfl
 rintro (_|m1) _ _ ⟨z8,hF,rfl,rfl⟩
 cases hF
 unfold q3o at hF
 refine go ?_
 refine cF hF (fun h9 hF=>?_) (fun h9 hF=>?_)
 refine go ?_
 refine WPU.block ?_
 obtain ⟨x10,h11,hF⟩:=q00 hF
 refine go ?_
 refine RS.ix h11 ?_
 refine go ?_
 refine RS.q (u:=.bool (q0k x10.Feat p2)) rfl (q6e rfl rfl rfl rfl) ?_
 refine go ?_
 refine cF hF (fun h12 hF=>?_) (fun h12 hF=>?_)
 obtain ⟨x13,h14,hF⟩:=q00 hF
 refine go ?_
 refine RS.ix h14 ?_
 refine go ?_
 obtain rfl:=sI hF
 exact rt2 rfl rfl rfl rfl rfl
 refine go ?_
 exact lC ⟨_,hF,rfl,rfl⟩
 refine go ?_
 exact xC ⟨hF,rfl,rfl⟩
def q5s (z8:Int) (rc1:(List (List UInt8))→Int→Option ((List UInt8)×Bool)) (l21:List (List UInt8)):Option ((List UInt8)×Bool) :=
 rc1 l21 (IntKind.i64.wrap (z8+1))
def q8k (p1:List q01) (n:Nat) (l9:List (List UInt8)):Option ((List UInt8)×Bool) :=
 q03 (q59 n p1 l9) fun r10 =>
 cond ((r10.length:Int) != 1)
  (some ([],false))
  (q03 (q0o r10 0) fun x13 =>
  some (x13,true))
def q29 (p1:List q01) (p2:List UInt8) (n:Nat):Nat→(List (List UInt8))→Int→Option ((List UInt8)×Bool)
 | 0,_,_=>none
 | m1+1,l7,z8 =>
  cond (decide (z8<(p1.length:Int)))
   (q03 (q0o p1 z8) fun x16 =>
   q03 (qah n x16 p2) fun r18 =>
   cond r18.2
    (q03 (q0o p1 z8) fun x22 =>
    q03 (q6z n l7 x22.Name) fun r24 =>
    q5s z8 (q29 p1 p2 n m1) r24)
    (q5s z8 (q29 p1 p2 n m1) l7))
   (q8k p1 n l7)
def qag (n:Nat) (p1:List q01) (p2:List UInt8):Option ((List UInt8)×Bool) :=
 q29 p1 p2 n n [] 0
theorem qgg (n:Nat) (p1:List q01) (p2:List UInt8) (r:(List UInt8)×Bool) (hF:qag n p1 p2=some r):EvU Tryz.prog 101 [.isl false (List.map q02 p1),.str p2] ⟨[],0⟩ (fun u _=>u = .tup [.str r.1,.bool r.2]∧Bel 0 u):=by
 unfold qag at hF
 refine bg2 43 fn101 ?_
 refine gr ?_
 refine gr ?_
 refine gr ?_
 refine WPU.ghost (tm':=fr 43 [(0,.iM q02 p1),(1,.str p2),(6,.iM cS []),(7,.i6 0)]) (Gh.trans (Gh.sub (l':=[(0,.iM q02 p1),(1,.str p2),(6,.nils),(7,.i6 0)]) ⟨rfl,rfl,rfl,rfl,trivial⟩) (Gh.wkS (l':=[(0,.iM q02 p1),(1,.str p2),(6,.iM cS []),(7,.i6 0)]) (.cons (.refl _) (.cons (.refl _) (.cons (.nil false) (.cons (.refl _) .nil)))))) NZ ?_
 refine gS (l':=[(0,_),(1,_),(6,_),(7,_)]) ?_
 refine z0j (fun m tm σ=>∃ l7:List (List UInt8),∃ z8:Int,q29 p1 p2 n m l7 z8=some r∧tm=fr 43 [(0,.iM q02 p1),(1,.str p2),(6,.iM cS l7),(7,.i6 z8)]∧σ=⟨[],0⟩) (fun tm σ=>∃ l9:List (List UInt8),q8k p1 n l9=some r∧tm=fr 43 [(0,.iM q02 p1),(6,.iM cS l9)]∧σ=⟨[],0⟩) n ⟨[],0,hF,rfl,rfl⟩ ?_ ?_
 rintro _ _ ⟨l9,hF,rfl,rfl⟩
 unfold q8k at hF
 obtain ⟨r10,h11,hF⟩:=q00 hF
 refine go ?_
 refine RS.cl rfl (pC (qdn n p1 l9 r10 h11) _) fn131 ?_
 refine go ?_
 refine cF hF (fun h12 hF=>?_) (fun h12 hF=>?_)
 refine go ?_
 obtain rfl:=sI hF
 exact rt2 rfl rfl rfl rfl rfl
 obtain ⟨x13,h14,hF⟩:=q00 hF
 refine go ?_
 refine RS.ix h14 ?_
 refine go ?_
 obtain rfl:=sI hF
 exact rt2 rfl rfl rfl rfl rfl
 rintro (_|m1) _ _ ⟨l7,z8,hF,rfl,rfl⟩
 cases hF
 unfold q29 at hF
 refine go ?_
 refine cF hF (fun h15 hF=>?_) (fun h15 hF=>?_)
 refine go ?_
 refine WPU.block ?_
 obtain ⟨x16,h17,hF⟩:=q00 hF
 obtain ⟨r18,h19,hF⟩:=q00 hF
 refine go ?_
 refine RS.ix h17 ?_
 refine go ?_
 refine RS.cl rfl (pC (qgh n x16 p2 r18 h19) _) fn117 ?_
 refine gr ?_
 refine z0k (fun tm σ=>∃ l21:List (List UInt8),q5s z8 (q29 p1 p2 n m1) l21=some r∧tm=fr 43 [(0,.iM q02 p1),(1,.str p2),(6,.iM cS l21),(7,.i6 z8)]∧σ=⟨[],0⟩) ?_ ?_
 rintro _ _ ⟨l21,hF,rfl,rfl⟩
 unfold q5s at hF
 refine go ?_
 exact lC ⟨l21,(IntKind.i64.wrap (z8+1)),hF,rfl,rfl⟩
 refine cF hF (fun h20 hF=>?_) (fun h20 hF=>?_)
 obtain ⟨x22,h23,hF⟩:=q00 hF
 obtain ⟨r24,h25,hF⟩:=q00 hF
 refine go ?_
 refine RS.ix h23 ?_
 refine go ?_
 refine RS.cl rfl (pC (q7s n l7 x22.Name r24 h25) _) fn116 ?_
 refine go ?_
 exact xC ⟨r24,hF,rfl,rfl⟩
 refine go ?_
 exact xC ⟨l7,hF,rfl,rfl⟩
 refine go ?_
 exact xC ⟨l7,hF,rfl,rfl⟩
def q3d (n:Nat) (r2:(List (List UInt8))) (x9:q01) (z16:Int) (rc2:Int→Option (Int))  : Option (Int) :=
 q03 (q0o x9.Feats z16) fun x30 =>
 q03 (q2g n r2 x30.Value) fun r32 =>
 cond (!r32)
  (some 5)
  (rc2 (IntKind.i64.wrap (z16+1)))
def q1k (n:Nat) (r2:(List (List UInt8))) (x9:q01) (z16:Int) (rc2:Int→Option (Int)):Nat→Int→Option (Int)
 | 0,_=>none
 | m3+1,z29 =>
  cond (decide (z29<z16))
   (q03 (q0o x9.Feats z29) fun x36 =>
   q03 (q0o x9.Feats z16) fun x38 =>
   cond (q0k x36.Feat x38.Feat)
    (some 4)
    ((q1k n r2 x9 z16 rc2 m3) (IntKind.i64.wrap (z29+1))))
   (q3d n r2 x9 z16 rc2)
def q3c (z7:Int) (rc1:Int→Option (Int))  : Option (Int) :=
 rc1 (IntKind.i64.wrap (z7+1))
def q0q (n:Nat) (r2:(List (List UInt8))) (z7:Int) (rc1:Int→Option (Int)) (x9:q01):Nat→Int→Option (Int)
 | 0,_=>none
 | m2+1,z16 =>
  cond (decide (z16<(x9.Feats.length:Int)))
   (q03 (q0o x9.Feats z16) fun x18 =>
   q03 (q22 n x18.Feat) fun r20 =>
   cond (!r20)
    (some 1)
    (q1k n r2 x9 z16 (q0q n r2 z7 rc1 x9 m2) n 0))
   (q3c z7 rc1)
def q3b   : Option (Int) :=
 some 0
def q0f (p1:List q01) (n:Nat) (r2:(List (List UInt8))):Nat→Int→Option (Int)
 | 0,_=>none
 | m1+1,z7 =>
  cond (decide (z7<(p1.length:Int)))
   (q03 (q0o p1 z7) fun x9 =>
   q0q n r2 z7 (q0f p1 n r2 m1) x9 n 0)
   (q3b)
def q3a (n:Nat) (p1:List q01):Option (Int) :=
 q03 (qae n p1) fun r2 =>
 q0f p1 n r2 n 0
theorem qeh (n:Nat) (p1:List q01) (r:Int) (hF:q3a n p1=some r):EvU Tryz.prog 115 [.isl false (List.map q02 p1)] ⟨[],0⟩ (fun u _=>u = .int .i64 r∧Bel 0 u):=by
 unfold q3a at hF
 refine bg1 58 fn115 ?_
 obtain ⟨r2,h3,hF⟩:=q00 hF
 refine go ?_
 refine RS.cl rfl (pC (qge n p1 r2 h3) _) fn95 ?_
 refine go ?_
 refine gS (l':=[(0,_),(3,_),(4,_)]) ?_
 refine z0j (fun m tm σ=>∃ z7:Int,q0f p1 n r2 m z7=some r∧tm=fr 58 [(0,.iM q02 p1),(3,.iM cS r2),(4,.i6 z7)]∧σ=⟨[],0⟩) (fun tm σ=>q3b=some r∧tm=fr 58 []∧σ=⟨[],0⟩) n ⟨0,hF,rfl,rfl⟩ ?_ ?_
 rintro _ _ ⟨hF,rfl,rfl⟩
 unfold q3b at hF
 exact gx hF
 rintro (_|m1) _ _ ⟨z7,hF,rfl,rfl⟩
 cases hF
 unfold q0f at hF
 refine go ?_
 refine cF hF (fun h8 hF=>?_) (fun h8 hF=>?_)
 refine go ?_
 refine WPU.block ?_
 obtain ⟨x9,h10,hF⟩:=q00 hF
 refine go ?_
 refine RS.ix h10 ?_
 refine go ?_
 refine gS (l':=[(0,_),(3,_),(4,_),(5,_),(6,_)]) ?_
 refine z0j (fun m tm σ=>∃ z16:Int,q0q n r2 z7 (q0f p1 n r2 m1) x9 m z16=some r∧tm=fr 58 [(0,.iM q02 p1),(3,.iM cS r2),(4,.i6 z7),(5,.iM q0e x9.Feats),(6,.i6 z16)]∧σ=⟨[],0⟩) (fun tm σ=>q3c z7 (q0f p1 n r2 m1)=some r∧tm=fr 58 [(0,.iM q02 p1),(3,.iM cS r2),(4,.i6 z7)]∧σ=⟨[],0⟩) n ⟨0,hF,rfl,rfl⟩ ?_ ?_
 rintro _ _ ⟨hF,rfl,rfl⟩
 unfold q3c at hF
 refine go ?_
 exact lC ⟨_,hF,rfl,rfl⟩
 rintro (_|m2) _ _ ⟨z16,hF,rfl,rfl⟩
 cases hF
 unfold q0q at hF
 refine go ?_
 refine cF hF (fun h17 hF=>?_) (fun h17 hF=>?_)
 refine go ?_
 refine WPU.block ?_
 obtain ⟨x18,h19,hF⟩:=q00 hF
 obtain ⟨r20,h21,hF⟩:=q00 hF
 refine go ?_
 refine RS.ix h19 ?_
 refine go ?_
 refine RS.cl rfl (pC (qdm n x18.Feat r20 h21) _) fn57 ?_
 refine go ?_
 refine cF hF (fun h22 hF=>?_) (fun h22 hF=>?_)
 exact gx hF
 refine go ?_
 refine gS (l':=[(0,_),(3,_),(4,_),(5,_),(6,_),(7,_)]) ?_
 refine z0j (fun m tm σ=>∃ z29:Int,q1k n r2 x9 z16 (q0q n r2 z7 (q0f p1 n r2 m1) x9 m2) m z29=some r∧tm=fr 58 [(0,.iM q02 p1),(3,.iM cS r2),(4,.i6 z7),(5,.iM q0e x9.Feats),(6,.i6 z16),(7,.i6 z29)]∧σ=⟨[],0⟩) (fun tm σ=>q3d n r2 x9 z16 (q0q n r2 z7 (q0f p1 n r2 m1) x9 m2)=some r∧tm=fr 58 [(0,.iM q02 p1),(3,.iM cS r2),(4,.i6 z7),(5,.iM q0e x9.Feats),(6,.i6 z16)]∧σ=⟨[],0⟩) n ⟨0,hF,rfl,rfl⟩ ?_ ?_
 rintro _ _ ⟨hF,rfl,rfl⟩
 unfold q3d at hF
 obtain ⟨x30,h31,hF⟩:=q00 hF
 obtain ⟨r32,h33,hF⟩:=q00 hF
 refine go ?_
 refine RS.ix h31 ?_
 refine go ?_
 refine RS.cl rfl (pC (q1t n r2 x30.Value r32 h33) _) fn126 ?_
 refine go ?_
 refine cF hF (fun h34 hF=>?_) (fun h34 hF=>?_)
 exact gx hF
 refine go ?_
 exact lC ⟨_,hF,rfl,rfl⟩
 rintro (_|m3) _ _ ⟨z29,hF,rfl,rfl⟩
 cases hF
 unfold q1k at hF
 refine go ?_
 refine cF hF (fun h35 hF=>?_) (fun h35 hF=>?_)
 refine go ?_
 refine WPU.block ?_
 obtain ⟨x36,h37,hF⟩:=q00 hF
 obtain ⟨x38,h39,hF⟩:=q00 hF
 refine go ?_
 refine z0m Tryz.tb_ok [] (by kernel_rfl) ?_
 refine gd ?_
 refine RD.ix h37 ?_
 refine gd ?_
 refine RD.ix h39 ?_
 refine gd ?_
 refine RD.q (u:=.bool (q0k x36.Feat x38.Feat)) rfl (q6e rfl rfl rfl rfl) ?_
 refine RD.done ⟨by kernel_rfl,trivial,?_⟩
 refine go ?_
 refine cF hF (fun h40 hF=>?_) (fun h40 hF=>?_)
 exact gx hF
 refine go ?_
 exact lC ⟨_,hF,rfl,rfl⟩
 refine go ?_
 exact xC ⟨hF,rfl,rfl⟩
 refine go ?_
 exact xC ⟨hF,rfl,rfl⟩
 refine go ?_
 exact xC ⟨hF,rfl,rfl⟩
def q8j (z6:Int) (rc1:(List (List UInt8))→Int→Option ((List (List UInt8)))) (l15:List (List UInt8)):Option ((List (List UInt8))) :=
 rc1 l15 (IntKind.i64.wrap (z6+1))
def q3n (p1:List q01) (n:Nat) (z6:Int) (rc1:(List (List UInt8))→Int→Option ((List (List UInt8)))):Nat→(List (List UInt8))→Int→Option ((List (List UInt8)))
 | 0,_,_=>none
 | m2+1,l13,z14 =>
  q03 (q0o p1 z6) fun x16 =>
  cond (decide (z14<(x16.Feats.length:Int)))
   (q03 (q0o p1 z6) fun x19 =>
   q03 (q0o x19.Feats z14) fun x21 =>
   q03 (q6z n l13 x21.Feat) fun r23 =>
   (q3n p1 n z6 rc1 m2) r23 (IntKind.i64.wrap (z14+1)))
   (q8j z6 rc1 l13)
def q8i  (l7:List (List UInt8)):Option ((List (List UInt8))) :=
 some l7
def q1q (p1:List q01) (n:Nat):Nat→(List (List UInt8))→Int→Option ((List (List UInt8)))
 | 0,_,_=>none
 | m1+1,l5,z6 =>
  cond (decide (z6<(p1.length:Int)))
   (q3n p1 n z6 (q1q p1 n m1) n l5 0)
   (q8i l5)
def q69 (n:Nat) (p1:List q01):Option ((List (List UInt8))) :=
 q1q p1 n n [] 0
theorem qcp (n:Nat) (p1:List q01) (r:(List (List UInt8))) (hF:q69 n p1=some r):EvU Tryz.prog 91 [.isl false (List.map q02 p1)] ⟨[],0⟩ (fun u _=>u = .isl false (List.map cS r)∧Bel 0 u):=by
 unfold q69 at hF
 refine bg1 34 fn91 ?_
 refine gr ?_
 refine gr ?_
 refine gr ?_
 refine WPU.ghost (tm':=fr 34 [(0,.iM q02 p1),(3,.iM cS []),(4,.i6 0)]) (Gh.trans (Gh.sub (l':=[(0,.iM q02 p1),(3,.nils),(4,.i6 0)]) ⟨rfl,rfl,rfl,trivial⟩) (Gh.wkS (l':=[(0,.iM q02 p1),(3,.iM cS []),(4,.i6 0)]) (.cons (.refl _) (.cons (.nil false) (.cons (.refl _) .nil))))) NZ ?_
 refine gS (l':=[(0,_),(3,_),(4,_)]) ?_
 refine z0j (fun m tm σ=>∃ l5:List (List UInt8),∃ z6:Int,q1q p1 n m l5 z6=some r∧tm=fr 34 [(0,.iM q02 p1),(3,.iM cS l5),(4,.i6 z6)]∧σ=⟨[],0⟩) (fun tm σ=>∃ l7:List (List UInt8),q8i l7=some r∧tm=fr 34 [(3,.iM cS l7)]∧σ=⟨[],0⟩) n ⟨[],0,hF,rfl,rfl⟩ ?_ ?_
 rintro _ _ ⟨l7,hF,rfl,rfl⟩
 unfold q8i at hF
 exact gx hF
 rintro (_|m1) _ _ ⟨l5,z6,hF,rfl,rfl⟩
 cases hF
 unfold q1q at hF
 refine go ?_
 refine cF hF (fun h8 hF=>?_) (fun h8 hF=>?_)
 refine go ?_
 refine WPU.block ?_
 refine go ?_
 refine gS (l':=[(0,_),(3,_),(4,_),(5,_)]) ?_
 refine z0j (fun m tm σ=>∃ l13:List (List UInt8),∃ z14:Int,q3n p1 n z6 (q1q p1 n m1) m l13 z14=some r∧tm=fr 34 [(0,.iM q02 p1),(3,.iM cS l13),(4,.i6 z6),(5,.i6 z14)]∧σ=⟨[],0⟩) (fun tm σ=>∃ l15:List (List UInt8),q8j z6 (q1q p1 n m1) l15=some r∧tm=fr 34 [(0,.iM q02 p1),(3,.iM cS l15),(4,.i6 z6)]∧σ=⟨[],0⟩) n ⟨l5,0,hF,rfl,rfl⟩ ?_ ?_
 rintro _ _ ⟨l15,hF,rfl,rfl⟩
 unfold q8j at hF
 refine go ?_
 exact lC ⟨l15,(IntKind.i64.wrap (z6+1)),hF,rfl,rfl⟩
 rintro (_|m2) _ _ ⟨l13,z14,hF,rfl,rfl⟩
 cases hF
 unfold q3n at hF
 obtain ⟨x16,h17,hF⟩:=q00 hF
 refine go ?_
 refine RS.ix h17 ?_
 refine go ?_
 refine cF hF (fun h18 hF=>?_) (fun h18 hF=>?_)
 refine go ?_
 refine WPU.block ?_
 obtain ⟨x19,h20,hF⟩:=q00 hF
 obtain ⟨x21,h22,hF⟩:=q00 hF
 obtain ⟨r23,h24,hF⟩:=q00 hF
 refine go ?_
 refine RS.ix h20 ?_
 refine go ?_
 refine RS.ix h22 ?_
 refine go ?_
 refine RS.cl rfl (pC (q7s n l13 x21.Feat r23 h24) _) fn116 ?_
 refine go ?_
 exact lC ⟨r23,(IntKind.i64.wrap (z14+1)),hF,rfl,rfl⟩
 refine go ?_
 exact xC ⟨l13,hF,rfl,rfl⟩
 refine go ?_
 exact xC ⟨l5,hF,rfl,rfl⟩
def q2w (n:Nat) (p1:List q0c) (p2:Int) (p3:Int):Option (Bool) :=
 q03 (q0o p1 p3) fun x4 =>
 q03 (q0o p1 p2) fun x6 =>
 q03 (q4s n x4.Code x6.Code) fun r8 =>
 some r8
theorem q45 (n:Nat) (p1:List q0c) (p2:Int) (p3:Int) (r:Bool) (hF:q2w n p1 p2 p3=some r):EvU Tryz.prog 100 [.isl false (List.map q0d p1),.int .i64 p2,.int .i64 p3] ⟨[],0⟩ (fun u _=>u = .bool r∧Bel 0 u):=by
 unfold q2w at hF
 refine bg3 18 fn100 ?_
 obtain ⟨x4,h5,hF⟩:=q00 hF
 obtain ⟨x6,h7,hF⟩:=q00 hF
 obtain ⟨r8,h9,hF⟩:=q00 hF
 refine go ?_
 refine z0m Tryz.tb_ok [] (by kernel_rfl) ?_
 refine gd ?_
 refine RD.ix h5 ?_
 refine gd ?_
 refine RD.ix h7 ?_
 refine gd ?_
 refine RD.fl rfl (pC (q7z n x4.Code x6.Code r8 h9)) fn133 ?_
 refine gd ?_
 refine RD.done ⟨by kernel_rfl,trivial,?_⟩
 exact gx hF
def q7b   : Option (Int) :=
 some (-1)
def q30 (p1:List q0c) (p2:List UInt8):Nat→Int→Option (Int)
 | 0,_=>none
 | m1+1,z6 =>
  cond (decide (z6<(p1.length:Int)))
   (q03 (q0o p1 z6) fun x8 =>
   cond (q0k x8.Name p2)
    (some z6)
    ((q30 p1 p2 m1) (IntKind.i64.wrap (z6+1))))
   (q7b)
def q6n (n:Nat) (p1:List q0c) (p2:List UInt8):Option (Int) :=
 q30 p1 p2 n 0
theorem qbh (n:Nat) (p1:List q0c) (p2:List UInt8) (r:Int) (hF:q6n n p1 p2=some r):EvU Tryz.prog 102 [.isl false (List.map q0d p1),.str p2] ⟨[],0⟩ (fun u _=>u = .int .i64 r∧Bel 0 u):=by
 unfold q6n at hF
 refine bg2 20 fn102 ?_
 refine go ?_
 refine gS (l':=[(0,_),(1,_),(5,_)]) ?_
 refine z0j (fun m tm σ=>∃ z6:Int,q30 p1 p2 m z6=some r∧tm=fr 20 [(0,.iM q0d p1),(1,.str p2),(5,.i6 z6)]∧σ=⟨[],0⟩) (fun tm σ=>q7b=some r∧tm=fr 20 []∧σ=⟨[],0⟩) n ⟨0,hF,rfl,rfl⟩ ?_ ?_
 rintro _ _ ⟨hF,rfl,rfl⟩
 unfold q7b at hF
 exact gx hF
 rintro (_|m1) _ _ ⟨z6,hF,rfl,rfl⟩
 cases hF
 unfold q30 at hF
 refine go ?_
 refine cF hF (fun h7 hF=>?_) (fun h7 hF=>?_)
 refine go ?_
 refine WPU.block ?_
 obtain ⟨x8,h9,hF⟩:=q00 hF
 refine go ?_
 refine RS.ix h9 ?_
 refine go ?_
 refine RS.q (u:=.bool (q0k x8.Name p2)) rfl (q6e rfl rfl rfl rfl) ?_
 refine go ?_
 refine cF hF (fun h10 hF=>?_) (fun h10 hF=>?_)
 exact gx hF
 refine go ?_
 exact lC ⟨_,hF,rfl,rfl⟩
 refine go ?_
 exact xC ⟨hF,rfl,rfl⟩
def q4l  (b17:Bool) (l18:List Int):Option ((List Int)×Bool) :=
 some (l18,b17)
def q1a (p1:List q01) (p2:List q0c) (p3:Int) (p4:List UInt8) (n:Nat):Nat→Bool→(List Int)→Int→Option ((List Int)×Bool)
 | 0,_,_,_=>none
 | m1+1,b14,l15,z16 =>
  cond (decide (z16<(p1.length:Int)))
   (q03 (q0o p1 z16) fun x20 =>
   q03 (qah n x20 p4) fun r22 =>
   q03 (cond (!r22.2)
    (some true)
    (q03 (q0o p1 z16) fun x25 =>
    q03 (q6n n p2 x25.Name) fun r27 =>
    q03 (q2w n p2 r27 p3) fun r29 =>
    some (!r29))) fun b31 =>
   cond b31
    ((q1a p1 p2 p3 p4 n m1) b14 l15 (IntKind.i64.wrap (z16+1)))
    (q03 (q6n n p2 r22.1) fun r34 =>
    q03 (q0o p2 r34) fun x36 =>
    q03 (qa8 n l15 x36.Code) fun r38 =>
    (q1a p1 p2 p3 p4 n m1) true r38 (IntKind.i64.wrap (z16+1))))
   (q4l b14 l15)
def q3v (n:Nat) (p1:List q01) (p2:List q0c) (p3:Int) (p4:List UInt8):Option ((List Int)×Bool) :=
 q03 (q0o p2 0) fun x5 =>
 q1a p1 p2 p3 p4 n n false x5.Code 0
theorem qbv (n:Nat) (p1:List q01) (p2:List q0c) (p3:Int) (p4:List UInt8) (r:(List Int)×Bool) (hF:q3v n p1 p2 p3 p4=some r):EvU Tryz.prog 92 [.isl false (List.map q02 p1),.isl false (List.map q0d p2),.int .i64 p3,.str p4] ⟨[],0⟩ (fun u _=>u = .tup [.isl false (List.map (cI .u64) r.1),.bool r.2]∧Bel 0 u):=by
 unfold q3v at hF
 refine bg4 60 fn92 ?_
 obtain ⟨x5,h6,hF⟩:=q00 hF
 refine go ?_
 refine RS.ix h6 ?_
 refine go ?_
 refine gS (l':=[(0,_),(1,_),(2,_),(3,_),(10,_),(11,_),(12,_)]) ?_
 refine z0j (fun m tm σ=>∃ b14:Bool,∃ l15:List Int,∃ z16:Int,q1a p1 p2 p3 p4 n m b14 l15 z16=some r∧tm=fr 60 [(0,.iM q02 p1),(1,.iM q0d p2),(2,.i6 p3),(3,.str p4),(10,.bool b14),(11,.iM (cI .u64) l15),(12,.i6 z16)]∧σ=⟨[],0⟩) (fun tm σ=>∃ b17:Bool,∃ l18:List Int,q4l b17 l18=some r∧tm=fr 60 [(10,.bool b17),(11,.iM (cI .u64) l18)]∧σ=⟨[],0⟩) n ⟨false,x5.Code,0,hF,rfl,rfl⟩ ?_ ?_
 rintro _ _ ⟨b17,l18,hF,rfl,rfl⟩
 unfold q4l at hF
 refine go ?_
 obtain rfl:=sI hF
 exact rt2 rfl rfl rfl rfl rfl
 rintro (_|m1) _ _ ⟨b14,l15,z16,hF,rfl,rfl⟩
 cases hF
 unfold q1a at hF
 refine go ?_
 refine cF hF (fun h19 hF=>?_) (fun h19 hF=>?_)
 refine go ?_
 refine WPU.block ?_
 obtain ⟨x20,h21,hF⟩:=q00 hF
 obtain ⟨r22,h23,hF⟩:=q00 hF
 refine go ?_
 refine RS.ix h21 ?_
 refine go ?_
 refine RS.cl rfl (pC (qgh n x20 p4 r22 h23) _) fn117 ?_
 obtain ⟨b31,h32,hF⟩:=q00 hF
 refine gn ?_
 refine z0k (fun tm σ=>tm=fr 60 [(0,.iM q02 p1),(1,.iM q0d p2),(2,.i6 p3),(3,.str p4),(10,.bool b14),(11,.iM (cI .u64) l15),(12,.i6 z16),(13,.str r22.1),(48,.bool b31)]∧σ=⟨[],0⟩) ?_ ?_
 rintro _ _ ⟨rfl,rfl⟩
 refine go ?_
 refine cF hF (fun h33 hF=>?_) (fun h33 hF=>?_)
 refine go ?_
 exact lC ⟨b14,l15,(IntKind.i64.wrap (z16+1)),hF,rfl,rfl⟩
 obtain ⟨r34,h35,hF⟩:=q00 hF
 obtain ⟨x36,h37,hF⟩:=q00 hF
 obtain ⟨r38,h39,hF⟩:=q00 hF
 refine go ?_
 refine RS.cl rfl (pC (qbh n p2 r22.1 r34 h35) _) fn102 ?_
 refine RS.ix h37 ?_
 refine go ?_
 refine RS.cl rfl (pC (qk6 n l15 x36.Code r38 h39) _) fn118 ?_
 refine go ?_
 exact lC ⟨true,r38,(IntKind.i64.wrap (z16+1)),hF,rfl,rfl⟩
 rcases gB h32 with ⟨h24,h32⟩ | ⟨h24,h32⟩
 exact gy h32
 obtain ⟨x25,h26,h32⟩:=q00 h32
 obtain ⟨r27,h28,h32⟩:=q00 h32
 obtain ⟨r29,h30,h32⟩:=q00 h32
 obtain rfl:=sI h32
 refine go ?_
 refine RS.ix h26 ?_
 refine go ?_
 refine RS.cl rfl (pC (qbh n p2 x25.Name r27 h28) _) fn102 ?_
 refine go ?_
 refine RS.cl rfl (pC (q45 n p2 r27 p3 r29 h30) _) fn100 ?_
 refine go ?_
 exact xC ⟨rfl,rfl⟩
 refine go ?_
 exact xC ⟨b14,l15,hF,rfl,rfl⟩
def q8h (z20:Int) (rc2:Int→Option (Int))  : Option (Int) :=
 rc2 (IntKind.i64.wrap (z20+1))
def q3m (p1:List q01) (n:Nat) (r2:(List q0c)×Int) (r5:(List (List UInt8))) (z20:Int) (rc2:Int→Option (Int)):Nat→Int→Option (Int)
 | 0,_=>none
 | m3+1,z27 =>
  cond (decide (z27<(r5.length:Int)))
   (q03 (q0o r5 z27) fun x29 =>
   q03 (q3v n p1 r2.1 z20 x29) fun r31 =>
   q03 (cond r31.2
    (some ((r31.1.length:Int) == 0))
    (some false)) fun b34 =>
   cond b34
    (some 11)
    ((q3m p1 n r2 r5 z20 rc2 m3) (IntKind.i64.wrap (z27+1))))
   (q8h z20 rc2)
def q8g   : Option (Int) :=
 some 0
def q1p (p1:List q01) (n:Nat) (r2:(List q0c)×Int) (r5:(List (List UInt8))):Nat→Int→Option (Int)
 | 0,_=>none
 | m2+1,z20 =>
  cond (decide (z20<(r2.1.length:Int)))
   (q3m p1 n r2 r5 z20 (q1p p1 n r2 r5 m2) n 0)
   (q8g)
def q8f (p1:List q01) (n:Nat) (r2:(List q0c)×Int) (r5:(List (List UInt8)))  : Option (Int) :=
 q1p p1 n r2 r5 n 0
def q3l (p1:List q01) (n:Nat) (r2:(List q0c)×Int) (r5:(List (List UInt8))):Nat→Int→Option (Int)
 | 0,_=>none
 | m1+1,z15 =>
  cond (decide (z15<(r5.length:Int)))
   (q03 (q0o r5 z15) fun x38 =>
   q03 (qag n p1 x38) fun r40 =>
   cond (!r40.2)
    (some 10)
    ((q3l p1 n r2 r5 m1) (IntKind.i64.wrap (z15+1))))
   (q8f p1 n r2 r5)
def q4z (n:Nat) (p1:List q01):Option (Int) :=
 q03 (q3z n p1) fun r2 =>
 cond (r2.2 != 0)
  (some r2.2)
  (q03 (q69 n p1) fun r5 =>
  cond (decide ((r5.length:Int) > 64))
   (some 7)
   (q03 (q3a n p1) fun r8 =>
   cond (r8 != 0)
    (some r8)
    (q3l p1 n r2 r5 n 0)))
theorem qgf (n:Nat) (p1:List q01) (r:Int) (hF:q4z n p1=some r):EvU Tryz.prog 90 [.isl false (List.map q02 p1)] ⟨[],0⟩ (fun u _=>u = .int .i64 r∧Bel 0 u):=by
 unfold q4z at hF
 refine bg1 78 fn90 ?_
 obtain ⟨r2,h3,hF⟩:=q00 hF
 refine go ?_
 refine RS.cl rfl (pC (q9o n p1 r2 h3) _) fn72 ?_
 refine go ?_
 refine cF hF (fun h4 hF=>?_) (fun h4 hF=>?_)
 exact gx hF
 obtain ⟨r5,h6,hF⟩:=q00 hF
 refine go ?_
 refine RS.cl rfl (pC (qcp n p1 r5 h6) _) fn91 ?_
 refine go ?_
 refine cF hF (fun h7 hF=>?_) (fun h7 hF=>?_)
 exact gx hF
 obtain ⟨r8,h9,hF⟩:=q00 hF
 refine go ?_
 refine RS.cl rfl (pC (qeh n p1 r8 h9) _) fn115 ?_
 refine go ?_
 refine cF hF (fun h10 hF=>?_) (fun h10 hF=>?_)
 exact gx hF
 refine go ?_
 refine gS (l':=[(0,_),(3,_),(5,_),(7,_)]) ?_
 refine z0j (fun m tm σ=>∃ z15:Int,q3l p1 n r2 r5 m z15=some r∧tm=fr 78 [(0,.iM q02 p1),(3,.iM q0d r2.1),(5,.iM cS r5),(7,.i6 z15)]∧σ=⟨[],0⟩) (fun tm σ=>q8f p1 n r2 r5=some r∧tm=fr 78 [(0,.iM q02 p1),(3,.iM q0d r2.1),(5,.iM cS r5)]∧σ=⟨[],0⟩) n ⟨0,hF,rfl,rfl⟩ ?_ ?_
 rintro _ _ ⟨hF,rfl,rfl⟩
 unfold q8f at hF
 refine go ?_
 refine gS (l':=[(0,_),(3,_),(5,_),(10,_)]) ?_
 refine z0j (fun m tm σ=>∃ z20:Int,q1p p1 n r2 r5 m z20=some r∧tm=fr 78 [(0,.iM q02 p1),(3,.iM q0d r2.1),(5,.iM cS r5),(10,.i6 z20)]∧σ=⟨[],0⟩) (fun tm σ=>q8g=some r∧tm=fr 78 []∧σ=⟨[],0⟩) n ⟨0,hF,rfl,rfl⟩ ?_ ?_
 rintro _ _ ⟨hF,rfl,rfl⟩
 unfold q8g at hF
 exact gx hF
 rintro (_|m2) _ _ ⟨z20,hF,rfl,rfl⟩
 cases hF
 unfold q1p at hF
 refine go ?_
 refine cF hF (fun h21 hF=>?_) (fun h21 hF=>?_)
 refine go ?_
 refine WPU.block ?_
 refine go ?_
 refine gS (l':=[(0,_),(3,_),(5,_),(10,_),(11,_)]) ?_
 refine z0j (fun m tm σ=>∃ z27:Int,q3m p1 n r2 r5 z20 (q1p p1 n r2 r5 m2) m z27=some r∧tm=fr 78 [(0,.iM q02 p1),(3,.iM q0d r2.1),(5,.iM cS r5),(10,.i6 z20),(11,.i6 z27)]∧σ=⟨[],0⟩) (fun tm σ=>q8h z20 (q1p p1 n r2 r5 m2)=some r∧tm=fr 78 [(0,.iM q02 p1),(3,.iM q0d r2.1),(5,.iM cS r5),(10,.i6 z20)]∧σ=⟨[],0⟩) n ⟨0,hF,rfl,rfl⟩ ?_ ?_
 rintro _ _ ⟨hF,rfl,rfl⟩
 unfold q8h at hF
 refine go ?_
 exact lC ⟨_,hF,rfl,rfl⟩
 rintro (_|m3) _ _ ⟨z27,hF,rfl,rfl⟩
 cases hF
 unfold q3m at hF
 refine go ?_
 refine cF hF (fun h28 hF=>?_) (fun h28 hF=>?_)
 refine go ?_
 refine WPU.block ?_
 obtain ⟨x29,h30,hF⟩:=q00 hF
 obtain ⟨r31,h32,hF⟩:=q00 hF
 refine go ?_
 refine RS.ix h30 ?_
 refine go ?_
 refine RS.cl rfl (pC (qbv n p1 r2.1 z20 x29 r31 h32) _) fn92 ?_
 obtain ⟨b34,h35,hF⟩:=q00 hF
 refine gn ?_
 refine z0k (fun tm σ=>tm=fr 78 [(0,.iM q02 p1),(3,.iM q0d r2.1),(5,.iM cS r5),(10,.i6 z20),(11,.i6 z27),(77,.bool b34)]∧σ=⟨[],0⟩) ?_ ?_
 rintro _ _ ⟨rfl,rfl⟩
 refine go ?_
 refine cF hF (fun h36 hF=>?_) (fun h36 hF=>?_)
 exact gx hF
 refine go ?_
 exact lC ⟨_,hF,rfl,rfl⟩
 rcases gB h35 with ⟨h33,h35⟩ | ⟨h33,h35⟩
 exact gy h35
 exact gy h35
 refine go ?_
 exact xC ⟨hF,rfl,rfl⟩
 refine go ?_
 exact xC ⟨hF,rfl,rfl⟩
 rintro (_|m1) _ _ ⟨z15,hF,rfl,rfl⟩
 cases hF
 unfold q3l at hF
 refine go ?_
 refine cF hF (fun h37 hF=>?_) (fun h37 hF=>?_)
 refine go ?_
 refine WPU.block ?_
 obtain ⟨x38,h39,hF⟩:=q00 hF
 obtain ⟨r40,h41,hF⟩:=q00 hF
 refine go ?_
 refine RS.ix h39 ?_
 refine go ?_
 refine RS.cl rfl (pC (qgg n p1 x38 r40 h41) _) fn101 ?_
 refine go ?_
 refine cF hF (fun h42 hF=>?_) (fun h42 hF=>?_)
 exact gx hF
 refine go ?_
 exact lC ⟨_,hF,rfl,rfl⟩
 refine go ?_
 exact xC ⟨hF,rfl,rfl⟩
def q9p   : Option (Int) :=
 some (-1)
def q40 (p1:List q0c) (n:Nat) (r3:(List Int)):Nat→Int→Option (Int)
 | 0,_=>none
 | m1+1,z8 =>
  cond (decide (z8<(p1.length:Int)))
   (q03 (q0o p1 z8) fun x10 =>
   q03 (q6j n x10.Code r3) fun r12 =>
   cond r12
    (some z8)
    ((q40 p1 n r3 m1) (IntKind.i64.wrap (z8+1))))
   (q9p)
def qbs (n:Nat) (p1:List q0c) (p2:List Int):Option (Int) :=
 q03 (q2t n p2) fun r3 =>
 q40 p1 n r3 n 0
theorem qor (n:Nat) (p1:List q0c) (p2:List Int) (r:Int) (hF:qbs n p1 p2=some r):EvU Tryz.prog 93 [.isl false (List.map q0d p1),.isl false (List.map (cI .u64) p2)] ⟨[],0⟩ (fun u _=>u = .int .i64 r∧Bel 0 u):=by
 unfold qbs at hF
 refine bg2 23 fn93 ?_
 obtain ⟨r3,h4,hF⟩:=q00 hF
 refine go ?_
 refine RS.cl rfl (pC (q7y n p2 r3 h4) _) fn119 ?_
 refine go ?_
 refine gS (l':=[(0,_),(5,_),(6,_)]) ?_
 refine z0j (fun m tm σ=>∃ z8:Int,q40 p1 n r3 m z8=some r∧tm=fr 23 [(0,.iM q0d p1),(5,.iM (cI .u64) r3),(6,.i6 z8)]∧σ=⟨[],0⟩) (fun tm σ=>q9p=some r∧tm=fr 23 []∧σ=⟨[],0⟩) n ⟨0,hF,rfl,rfl⟩ ?_ ?_
 rintro _ _ ⟨hF,rfl,rfl⟩
 unfold q9p at hF
 exact gx hF
 rintro (_|m1) _ _ ⟨z8,hF,rfl,rfl⟩
 cases hF
 unfold q40 at hF
 refine go ?_
 refine cF hF (fun h9 hF=>?_) (fun h9 hF=>?_)
 refine go ?_
 refine WPU.block ?_
 obtain ⟨x10,h11,hF⟩:=q00 hF
 obtain ⟨r12,h13,hF⟩:=q00 hF
 refine go ?_
 refine RS.ix h11 ?_
 refine go ?_
 refine RS.cl rfl (pC (qi2 n x10.Code r3 r12 h13) _) fn120 ?_
 refine go ?_
 refine cF hF (fun h14 hF=>?_) (fun h14 hF=>?_)
 exact gx hF
 refine go ?_
 exact lC ⟨_,hF,rfl,rfl⟩
 refine go ?_
 exact xC ⟨hF,rfl,rfl⟩
def q50 (z30:Int) (rc2:Int→(List q0v)→Option ((List (List q0v))×Int)) (l42:List q0v):Option ((List (List q0v))×Int) :=
 rc2 (IntKind.i64.wrap (z30+1)) l42
def q7a (z15:Int) (l16:List (List q0v)) (rc1:Int→(List (List q0v))→Option ((List (List q0v))×Int)) (l33:List q0v):Option ((List (List q0v))×Int) :=
 q0y ((l16.length+1)*24≤140737488355328∧l16.length+1≤140737488355328) (
 rc1 (IntKind.i64.wrap (z15+1)) (l16++[l33]))
def q1u (p1:List q01) (n:Nat) (r5:(List q0c)×Int) (r7:(List (List UInt8))) (z15:Int) (l16:List (List q0v)) (rc1:Int→(List (List q0v))→Option ((List (List q0v))×Int)):Nat→Int→(List q0v)→Option ((List (List q0v))×Int)
 | 0,_,_=>none
 | m2+1,z30,l31 =>
  cond (decide (z30<(r7.length:Int)))
   (q03 (q0o r7 z30) fun x37 =>
   q03 (q3v n p1 r5.1 z15 x37) fun r39 =>
   cond r39.2
    (q03 (qbs n r5.1 r39.1) fun r44 =>
    q0y ((l31.length+1)*16≤140737488355328∧l31.length+1≤140737488355328) (
    q50 z30 (q1u p1 n r5 r7 z15 l16 rc1 m2) (l31++[(q0v.mk z30 r44)])))
    (q50 z30 (q1u p1 n r5 r7 z15 l16 rc1 m2) l31))
   (q7a z15 l16 rc1 l31)
def q79  (l18:List (List q0v)):Option ((List (List q0v))×Int) :=
 some (l18,0)
def q16 (p1:List q01) (n:Nat) (r5:(List q0c)×Int) (r7:(List (List UInt8))):Nat→Int→(List (List q0v))→Option ((List (List q0v))×Int)
 | 0,_,_=>none
 | m1+1,z15,l16 =>
  cond (decide (z15<(r5.1.length:Int)))
   (q1u p1 n r5 r7 z15 l16 (q16 p1 n r5 r7 m1) n 0 ([]:List q0v))
   (q79 l16)
def q6m (n:Nat) (p1:List q01):Option ((List (List q0v))×Int) :=
 q03 (q4z n p1) fun r2 =>
 cond (r2 != 0)
  (some ([],r2))
  (q03 (q3z n p1) fun r5 =>
  q03 (q69 n p1) fun r7 =>
  q16 p1 n r5 r7 n 0 ([]:List (List q0v)))
theorem ql8 (n:Nat) (p1:List q01) (r:(List (List q0v))×Int) (hF:q6m n p1=some r):EvU Tryz.prog 71 [.isl false (List.map q02 p1)] ⟨[],0⟩ (fun u _=>u = .tup [.isl false (List.map (cL q1g) r.1),.int .i64 r.2]∧Bel 0 u):=by
 unfold q6m at hF
 refine bg1 63 fn71 ?_
 obtain ⟨r2,h3,hF⟩:=q00 hF
 refine go ?_
 refine RS.cl rfl (pC (qgf n p1 r2 h3) _) fn90 ?_
 refine go ?_
 refine cF hF (fun h4 hF=>?_) (fun h4 hF=>?_)
 refine go ?_
 obtain rfl:=sI hF
 exact rT (us:=[.nils,.i6 r2]) (u:=.tup [.isl false [],.i6 r2]) (q1v rfl (q1v rfl (q2r))) wR
 obtain ⟨r5,h6,hF⟩:=q00 hF
 refine go ?_
 refine RS.cl rfl (pC (q9o n p1 r5 h6) _) fn72 ?_
 obtain ⟨r7,h8,hF⟩:=q00 hF
 refine go ?_
 refine RS.cl rfl (pC (qcp n p1 r7 h8) _) fn91 ?_
 refine gr ?_
 refine gr ?_
 refine WPU.ghost (tm':=fr 63 [(0,.iM q02 p1),(5,.iM q0d r5.1),(7,.iM cS r7),(8,.vl 0 0 0 (([]:List (List q0v)).length)),(9,.i6 0)]) (σ':=⟨[(0,.vec (List.map (cL q1g) ([]:List (List q0v))).flatten 107 1 0)],1⟩) (Gh.trans (z0n 8 107 1 (by decide) NZ rfl rfl) (z0o ⟨rfl,rfl,rfl,rfl,rfl,trivial⟩ rfl)) NZ ?_
 refine gS (l':=[(0,_),(5,_),(7,_),(8,_),(9,_)]) ?_
 refine z0j (fun m tm σ=>∃ z15:Int,∃ l16:List (List q0v),∃ t17:Nat,q16 p1 n r5 r7 m z15 l16=some r∧tm=fr 63 [(0,.iM q02 p1),(5,.iM q0d r5.1),(7,.iM cS r7),(8,.vl 0 t17 0 l16.length),(9,.i6 z15)]∧σ=⟨[(0,.vec (List.map (cL q1g) l16).flatten 107 1 t17)],1⟩) (fun tm σ=>∃ l18:List (List q0v),∃ t19:Nat,q79 l18=some r∧tm=fr 63 [(8,.vl 0 t19 0 l18.length)]∧σ=⟨[(0,.vec (List.map (cL q1g) l18).flatten 107 1 t19)],1⟩) n ⟨0,([]:List (List q0v)),0,hF,rfl,rfl⟩ ?_ ?_
 rintro _ _ ⟨l18,t19,hF,rfl,rfl⟩
 unfold q79 at hF
 refine go ?_
 obtain rfl:=sI hF
 exact rT (us:=[.vl 0 t19 0 l18.length,.i6 0]) (u:=.tup [.iM (cL q1g) l18,.i6 0]) (q1v rfl (q1v rfl (q2r))) (fR 0 1)
 rintro (_|m1) _ _ ⟨z15,l16,t17,hF,rfl,rfl⟩
 cases hF
 unfold q16 at hF
 refine go ?_
 refine cF hF (fun h20 hF=>?_) (fun h20 hF=>?_)
 refine go ?_
 refine WPU.block ?_
 refine gr ?_
 refine gr ?_
 refine WPU.ghost (tm':=fr 63 [(0,.iM q02 p1),(5,.iM q0d r5.1),(7,.iM cS r7),(8,.vl 0 t17 0 l16.length),(9,.i6 z15),(10,.vl 1 0 0 (([]:List q0v).length)),(11,.i6 0)]) (σ':=⟨[(1,.vec (List.map q1g ([]:List q0v)).flatten 147 2 0),(0,.vec (List.map (cL q1g) l16).flatten 107 1 t17)],2⟩) (Gh.trans (z0n 10 147 2 (by decide) NZ rfl rfl) (z0o ⟨rfl,rfl,rfl,rfl,rfl,rfl,rfl,trivial⟩ rfl)) NZ ?_
 refine gS (l':=[(0,_),(5,_),(7,_),(8,_),(9,_),(10,_),(11,_)]) ?_
 refine z0j (fun m tm σ=>∃ z30:Int,∃ l31:List q0v,∃ t32:Nat,q1u p1 n r5 r7 z15 l16 (q16 p1 n r5 r7 m1) m z30 l31=some r∧tm=fr 63 [(0,.iM q02 p1),(5,.iM q0d r5.1),(7,.iM cS r7),(8,.vl 0 t17 0 l16.length),(9,.i6 z15),(10,.vl 1 t32 0 l31.length),(11,.i6 z30)]∧σ=⟨[(1,.vec (List.map q1g l31).flatten 147 2 t32),(0,.vec (List.map (cL q1g) l16).flatten 107 1 t17)],2⟩) (fun tm σ=>∃ l33:List q0v,∃ t34:Nat,q7a z15 l16 (q16 p1 n r5 r7 m1) l33=some r∧tm=fr 63 [(0,.iM q02 p1),(5,.iM q0d r5.1),(7,.iM cS r7),(8,.vl 0 t17 0 l16.length),(9,.i6 z15),(10,.vl 1 t34 0 l33.length)]∧σ=⟨[(1,.vec (List.map q1g l33).flatten 147 2 t34),(0,.vec (List.map (cL q1g) l16).flatten 107 1 t17)],2⟩) n ⟨0,([]:List q0v),0,hF,rfl,rfl⟩ ?_ ?_
 rintro _ _ ⟨l33,t34,hF,rfl,rfl⟩
 unfold q7a at hF
 refine gn ?_
 refine WPU.ghost (tm':=fr 63 [(0,.iM q02 p1),(5,.iM q0d r5.1),(7,.iM cS r7),(8,.vl 0 t17 0 l16.length),(9,.i6 z15),(10,.iM q1g l33)]) (σ':=⟨[(0,.vec (List.map (cL q1g) l16).flatten 107 1 t17)],2⟩) (Gh.trans (Gh.sub (l':=[(0,.iM q02 p1),(5,.iM q0d r5.1),(7,.iM cS r7),(8,.vl 0 t17 0 l16.length),(9,.i6 z15),(10,.vl 1 t34 0 l33.length)]) ⟨rfl,rfl,rfl,rfl,rfl,rfl,trivial⟩) (z0v 1 2)) NZ ?_
 obtain ⟨h35,hF⟩:=q08 hF
 refine go ?_
 refine RS.g ?_
 refine RS.g ?_
 refine go ?_
 exact lC ⟨_,(l16++[l33]),(t17+1),hF,rfl,rfl⟩
 rintro (_|m2) _ _ ⟨z30,l31,t32,hF,rfl,rfl⟩
 cases hF
 unfold q1u at hF
 refine go ?_
 refine cF hF (fun h36 hF=>?_) (fun h36 hF=>?_)
 refine go ?_
 refine WPU.block ?_
 obtain ⟨x37,h38,hF⟩:=q00 hF
 obtain ⟨r39,h40,hF⟩:=q00 hF
 refine go ?_
 refine RS.ix h38 ?_
 refine go ?_
 refine RS.cl rfl (pC (qbv n p1 r5.1 z15 x37 r39 h40) _) fn92 ?_
 refine gr ?_
 refine z0k (fun tm σ=>∃ l42:List q0v,∃ t43:Nat,q50 z30 (q1u p1 n r5 r7 z15 l16 (q16 p1 n r5 r7 m1) m2) l42=some r∧tm=fr 63 [(0,.iM q02 p1),(5,.iM q0d r5.1),(7,.iM cS r7),(8,.vl 0 t17 0 l16.length),(9,.i6 z15),(10,.vl 1 t43 0 l42.length),(11,.i6 z30)]∧σ=⟨[(1,.vec (List.map q1g l42).flatten 147 2 t43),(0,.vec (List.map (cL q1g) l16).flatten 107 1 t17)],2⟩) ?_ ?_
 rintro _ _ ⟨l42,t43,hF,rfl,rfl⟩
 unfold q50 at hF
 refine go ?_
 exact lC ⟨_,l42,t43,hF,rfl,rfl⟩
 refine cF hF (fun h41 hF=>?_) (fun h41 hF=>?_)
 obtain ⟨r44,h45,hF⟩:=q00 hF
 obtain ⟨h46,hF⟩:=q08 hF
 refine go ?_
 refine RS.cl rfl (pC (qor n r5.1 r39.1 r44 h45) _) fn93 ?_
 refine go ?_
 refine RS.g ?_
 refine RS.g ?_
 refine go ?_
 exact xC ⟨(l31++[(q0v.mk z30 r44)]),(t32+1),hF,rfl,rfl⟩
 refine go ?_
 exact xC ⟨l31,t32,hF,rfl,rfl⟩
 refine go ?_
 exact xC ⟨l31,t32,hF,rfl,rfl⟩
 refine go ?_
 exact xC ⟨l16,t17,hF,rfl,rfl⟩
def q4v (z8:Int) (rc1:Int→(List Int)→Option ((List Int))) (l31:List Int):Option ((List Int)) :=
 rc1 (IntKind.i64.wrap (z8+1)) l31
def q75 (z8:Int) (l9:List Int) (rc1:Int→(List Int)→Option ((List Int))) (b29:Bool):Option ((List Int)) :=
 cond b29
  (q0y ((l9.length+1)*8≤140737488355328∧l9.length+1≤140737488355328) (
  q4v z8 rc1 (l9++[z8])))
  (q4v z8 rc1 l9)
def q2e (p1:List q0c) (p2:Int) (n:Nat) (z8:Int) (l9:List Int) (rc1:Int→(List Int)→Option ((List Int))):Nat→Bool→Int→Option ((List Int))
 | 0,_,_=>none
 | m2+1,b27,z28 =>
  cond (decide (z28<(p1.length:Int)))
   (q03 (cond b27
    (cond (z28 == p2)
     (some true)
     (cond (z28 == z8)
      (some true)
      (q03 (q2w n p1 z8 z28) fun r38 =>
      cond (!r38)
       (some true)
       (q03 (q2w n p1 z28 p2) fun r41 =>
       some (!r41)))))
    (some false)) fun b43 =>
   (q2e p1 p2 n z8 l9 rc1 m2) b43 (IntKind.i64.wrap (z28+1)))
   (q75 z8 l9 rc1 b27)
def q74  (l11:List Int):Option ((List Int)) :=
 some l11
def q0x (p1:List q0c) (p2:Int) (n:Nat):Nat→Int→(List Int)→Option ((List Int))
 | 0,_,_=>none
 | m1+1,z8,l9 =>
  cond (decide (z8<(p1.length:Int)))
   (q03 (cond (z8 == p2)
    (some true)
    (q03 (q2w n p1 z8 p2) fun r15 =>
    some (!r15))) fun b17 =>
   cond b17
    ((q0x p1 p2 n m1) (IntKind.i64.wrap (z8+1)) l9)
    (q2e p1 p2 n z8 l9 (q0x p1 p2 n m1) n true 0))
   (q74 l9)
def qb5 (n:Nat) (p1:List q0c) (p2:Int):Option ((List Int)) :=
 q0x p1 p2 n n 0 ([]:List Int)
theorem ql5 (n:Nat) (p1:List q0c) (p2:Int) (r:(List Int)) (hF:qb5 n p1 p2=some r):EvU Tryz.prog 73 [.isl false (List.map q0d p1),.int .i64 p2] ⟨[],0⟩ (fun u _=>u = .isl false (List.map (cI .i64) r)∧Bel 0 u):=by
 unfold qb5 at hF
 refine bg2 62 fn73 ?_
 refine gr ?_
 refine gr ?_
 refine gr ?_
 refine WPU.ghost (tm':=fr 62 [(0,.iM q0d p1),(1,.i6 p2),(5,.vl 0 0 0 (([]:List Int).length)),(6,.i6 0)]) (σ':=⟨[(0,.vec (List.map (cI .i64) ([]:List Int)).flatten 3 1 0)],1⟩) (Gh.trans (z0n 5 3 1 (by decide) NZ rfl rfl) (z0o ⟨rfl,rfl,rfl,rfl,trivial⟩ rfl)) NZ ?_
 refine gS (l':=[(0,_),(1,_),(5,_),(6,_)]) ?_
 refine z0j (fun m tm σ=>∃ z8:Int,∃ l9:List Int,∃ t10:Nat,q0x p1 p2 n m z8 l9=some r∧tm=fr 62 [(0,.iM q0d p1),(1,.i6 p2),(5,.vl 0 t10 0 l9.length),(6,.i6 z8)]∧σ=⟨[(0,.vec (List.map (cI .i64) l9).flatten 3 1 t10)],1⟩) (fun tm σ=>∃ l11:List Int,∃ t12:Nat,q74 l11=some r∧tm=fr 62 [(5,.vl 0 t12 0 l11.length)]∧σ=⟨[(0,.vec (List.map (cI .i64) l11).flatten 3 1 t12)],1⟩) n ⟨0,([]:List Int),0,hF,rfl,rfl⟩ ?_ ?_
 rintro _ _ ⟨l11,t12,hF,rfl,rfl⟩
 unfold q74 at hF
 refine go ?_
 obtain rfl:=sI hF
 exact rT (us:=[.vl 0 t12 0 l11.length]) (u:=.iM (cI .i64) l11) (q1v rfl (q2r)) (fR 0 1)
 rintro (_|m1) _ _ ⟨z8,l9,t10,hF,rfl,rfl⟩
 cases hF
 unfold q0x at hF
 refine go ?_
 refine cF hF (fun h13 hF=>?_) (fun h13 hF=>?_)
 refine go ?_
 refine WPU.block ?_
 obtain ⟨b17,h18,hF⟩:=q00 hF
 refine gn ?_
 refine z0k (fun tm σ=>tm=fr 62 [(0,.iM q0d p1),(1,.i6 p2),(5,.vl 0 t10 0 l9.length),(6,.i6 z8),(24,.bool b17)]∧σ=⟨[(0,.vec (List.map (cI .i64) l9).flatten 3 1 t10)],1⟩) ?_ ?_
 rintro _ _ ⟨rfl,rfl⟩
 refine go ?_
 refine cF hF (fun h19 hF=>?_) (fun h19 hF=>?_)
 refine go ?_
 exact lC ⟨_,l9,t10,hF,rfl,rfl⟩
 refine go ?_
 refine gS (l':=[(0,_),(1,_),(5,_),(6,_),(7,_),(8,_)]) ?_
 refine z0j (fun m tm σ=>∃ b27:Bool,∃ z28:Int,q2e p1 p2 n z8 l9 (q0x p1 p2 n m1) m b27 z28=some r∧tm=fr 62 [(0,.iM q0d p1),(1,.i6 p2),(5,.vl 0 t10 0 l9.length),(6,.i6 z8),(7,.bool b27),(8,.i6 z28)]∧σ=⟨[(0,.vec (List.map (cI .i64) l9).flatten 3 1 t10)],1⟩) (fun tm σ=>∃ b29:Bool,q75 z8 l9 (q0x p1 p2 n m1) b29=some r∧tm=fr 62 [(0,.iM q0d p1),(1,.i6 p2),(5,.vl 0 t10 0 l9.length),(6,.i6 z8),(7,.bool b29)]∧σ=⟨[(0,.vec (List.map (cI .i64) l9).flatten 3 1 t10)],1⟩) n ⟨true,0,hF,rfl,rfl⟩ ?_ ?_
 rintro _ _ ⟨b29,hF,rfl,rfl⟩
 unfold q75 at hF
 refine gr ?_
 refine z0k (fun tm σ=>∃ l31:List Int,∃ t32:Nat,q4v z8 (q0x p1 p2 n m1) l31=some r∧tm=fr 62 [(0,.iM q0d p1),(1,.i6 p2),(5,.vl 0 t32 0 l31.length),(6,.i6 z8)]∧σ=⟨[(0,.vec (List.map (cI .i64) l31).flatten 3 1 t32)],1⟩) ?_ ?_
 rintro _ _ ⟨l31,t32,hF,rfl,rfl⟩
 unfold q4v at hF
 refine go ?_
 exact lC ⟨_,l31,t32,hF,rfl,rfl⟩
 refine cF hF (fun h30 hF=>?_) (fun h30 hF=>?_)
 obtain ⟨h33,hF⟩:=q08 hF
 refine go ?_
 refine RS.g ?_
 refine RS.g ?_
 refine go ?_
 exact xC ⟨(l9++[z8]),(t10+1),hF,rfl,rfl⟩
 refine go ?_
 exact xC ⟨l9,t10,hF,rfl,rfl⟩
 rintro (_|m2) _ _ ⟨b27,z28,hF,rfl,rfl⟩
 cases hF
 unfold q2e at hF
 refine go ?_
 refine cF hF (fun h34 hF=>?_) (fun h34 hF=>?_)
 refine go ?_
 refine WPU.block ?_
 obtain ⟨b43,h44,hF⟩:=q00 hF
 refine gn ?_
 refine z0k (fun tm σ=>tm=fr 62 [(0,.iM q0d p1),(1,.i6 p2),(5,.vl 0 t10 0 l9.length),(6,.i6 z8),(7,.bool b43),(8,.i6 z28)]∧σ=⟨[(0,.vec (List.map (cI .i64) l9).flatten 3 1 t10)],1⟩) ?_ ?_
 rintro _ _ ⟨rfl,rfl⟩
 refine go ?_
 exact lC ⟨b43,(IntKind.i64.wrap (z28+1)),hF,rfl,rfl⟩
 rcases gB h44 with ⟨h35,h44⟩ | ⟨h35,h44⟩
 rcases gB h44 with ⟨h36,h44⟩ | ⟨h36,h44⟩
 exact gy h44
 rcases gB h44 with ⟨h37,h44⟩ | ⟨h37,h44⟩
 exact gy h44
 obtain ⟨r38,h39,h44⟩:=q00 h44
 rcases gB h44 with ⟨h40,h44⟩ | ⟨h40,h44⟩
 obtain rfl:=sI h44
 refine go ?_
 refine RS.cl rfl (pC (q45 n p1 z8 z28 r38 h39) _) fn100 ?_
 refine go ?_
 exact xC ⟨rfl,rfl⟩
 obtain ⟨r41,h42,h44⟩:=q00 h44
 obtain rfl:=sI h44
 refine go ?_
 refine RS.cl rfl (pC (q45 n p1 z8 z28 r38 h39) _) fn100 ?_
 refine go ?_
 refine RS.cl rfl (pC (q45 n p1 z28 p2 r41 h42) _) fn100 ?_
 refine go ?_
 exact xC ⟨rfl,rfl⟩
 obtain rfl:=sI h44
 refine go ?_
 repeat refine RS.no (qif rfl rfl rfl) rfl rfl ?_
 refine go ?_
 repeat refine RS.no (qif rfl rfl rfl) rfl rfl ?_
 refine go ?_
 repeat refine RS.no (qif rfl rfl rfl) rfl rfl ?_
 refine go ?_
 exact xC ⟨rfl,rfl⟩
 refine go ?_
 exact xC ⟨b27,hF,rfl,rfl⟩
 rcases gB h18 with ⟨h14,h18⟩ | ⟨h14,h18⟩
 exact gy h18
 obtain ⟨r15,h16,h18⟩:=q00 h18
 obtain rfl:=sI h18
 refine go ?_
 refine RS.cl rfl (pC (q45 n p1 z8 p2 r15 h16) _) fn100 ?_
 refine go ?_
 exact xC ⟨rfl,rfl⟩
 refine go ?_
 exact xC ⟨l9,t10,hF,rfl,rfl⟩
def q5b  (l18:List q0s):Option ((List q0s)×Int) :=
 some (l18,0)
def q20 (p1:List q01) (n:Nat) (r5:(List q0c)×Int) (r7:(List (List UInt8))):Nat→Int→(List q0s)→Option ((List q0s)×Int)
 | 0,_,_=>none
 | m1+1,z15,l16 =>
  cond (decide (z15<(r7.length:Int)))
   (q03 (q0o r7 z15) fun x21 =>
   q03 (qag n p1 x21) fun r23 =>
   q03 (q0o r7 z15) fun x25 =>
   q03 (q6n n r5.1 r23.1) fun r27 =>
   q0y ((l16.length+1)*24≤140737488355328∧l16.length+1≤140737488355328) (
   (q20 p1 n r5 r7 m1) (IntKind.i64.wrap (z15+1)) (l16++[(q0s.mk x25 r27)])))
   (q5b l16)
def q5r (n:Nat) (p1:List q01):Option ((List q0s)×Int) :=
 q03 (q4z n p1) fun r2 =>
 cond (r2 != 0)
  (some ([],r2))
  (q03 (q3z n p1) fun r5 =>
  q03 (q69 n p1) fun r7 =>
  q20 p1 n r5 r7 n 0 ([]:List q0s))
theorem qic (n:Nat) (p1:List q01) (r:(List q0s)×Int) (hF:q5r n p1=some r):EvU Tryz.prog 74 [.isl false (List.map q02 p1)] ⟨[],0⟩ (fun u _=>u = .tup [.isl false (List.map q2y r.1),.int .i64 r.2]∧Bel 0 u):=by
 unfold q5r at hF
 refine bg1 51 fn74 ?_
 obtain ⟨r2,h3,hF⟩:=q00 hF
 refine go ?_
 refine RS.cl rfl (pC (qgf n p1 r2 h3) _) fn90 ?_
 refine go ?_
 refine cF hF (fun h4 hF=>?_) (fun h4 hF=>?_)
 refine go ?_
 obtain rfl:=sI hF
 exact rT (us:=[.nils,.i6 r2]) (u:=.tup [.isl false [],.i6 r2]) (q1v rfl (q1v rfl (q2r))) wR
 obtain ⟨r5,h6,hF⟩:=q00 hF
 refine go ?_
 refine RS.cl rfl (pC (q9o n p1 r5 h6) _) fn72 ?_
 obtain ⟨r7,h8,hF⟩:=q00 hF
 refine go ?_
 refine RS.cl rfl (pC (qcp n p1 r7 h8) _) fn91 ?_
 refine gr ?_
 refine gr ?_
 refine WPU.ghost (tm':=fr 51 [(0,.iM q02 p1),(5,.iM q0d r5.1),(7,.iM cS r7),(8,.vl 0 0 0 (([]:List q0s).length)),(9,.i6 0)]) (σ':=⟨[(0,.vec (List.map q2y ([]:List q0s)).flatten 82 2 0)],1⟩) (Gh.trans (z0n 8 82 2 (by decide) NZ rfl rfl) (z0o ⟨rfl,rfl,rfl,rfl,rfl,trivial⟩ rfl)) NZ ?_
 refine gS (l':=[(0,_),(5,_),(7,_),(8,_),(9,_)]) ?_
 refine z0j (fun m tm σ=>∃ z15:Int,∃ l16:List q0s,∃ t17:Nat,q20 p1 n r5 r7 m z15 l16=some r∧tm=fr 51 [(0,.iM q02 p1),(5,.iM q0d r5.1),(7,.iM cS r7),(8,.vl 0 t17 0 l16.length),(9,.i6 z15)]∧σ=⟨[(0,.vec (List.map q2y l16).flatten 82 2 t17)],1⟩) (fun tm σ=>∃ l18:List q0s,∃ t19:Nat,q5b l18=some r∧tm=fr 51 [(8,.vl 0 t19 0 l18.length)]∧σ=⟨[(0,.vec (List.map q2y l18).flatten 82 2 t19)],1⟩) n ⟨0,([]:List q0s),0,hF,rfl,rfl⟩ ?_ ?_
 rintro _ _ ⟨l18,t19,hF,rfl,rfl⟩
 unfold q5b at hF
 refine go ?_
 obtain rfl:=sI hF
 exact rT (us:=[.vl 0 t19 0 l18.length,.i6 0]) (u:=.tup [.iM q2y l18,.i6 0]) (q1v rfl (q1v rfl (q2r))) (fR 0 2)
 rintro (_|m1) _ _ ⟨z15,l16,t17,hF,rfl,rfl⟩
 cases hF
 unfold q20 at hF
 refine go ?_
 refine cF hF (fun h20 hF=>?_) (fun h20 hF=>?_)
 refine go ?_
 refine WPU.block ?_
 obtain ⟨x21,h22,hF⟩:=q00 hF
 obtain ⟨r23,h24,hF⟩:=q00 hF
 refine go ?_
 refine RS.ix h22 ?_
 refine go ?_
 refine RS.cl rfl (pC (qgg n p1 x21 r23 h24) _) fn101 ?_
 obtain ⟨x25,h26,hF⟩:=q00 hF
 obtain ⟨r27,h28,hF⟩:=q00 hF
 obtain ⟨h29,hF⟩:=q08 hF
 refine go ?_
 refine z0m Tryz.tb_ok [(0,9)] (by kernel_rfl) ?_
 refine gd ?_
 refine RD.ix h26 ?_
 refine gd ?_
 refine RD.fl rfl (pC (qbh n r5.1 r23.1 r27 h28)) fn102 ?_
 refine gd ?_
 refine RD.g ?_
 refine RD.g ?_
 refine gd ?_
 refine RD.done ⟨by kernel_rfl,⟨q4f rfl,trivial⟩,?_⟩
 refine go ?_
 exact lC ⟨_,(l16++[(q0s.mk x25 r27)]),(t17+1),hF,rfl,rfl⟩
 refine go ?_
 exact xC ⟨l16,t17,hF,rfl,rfl⟩
def q5z (p1:List q01) (n:Nat) (l16:List qd2):Option (q09×Int) :=
 q03 (q5r n p1) fun r18 =>
 some ((q09.mk l16 r18.1),0)
def q2i (p1:List q01) (n:Nat) (r2:(List (List q0v))×Int) (r5:(List q0c)×Int):Nat→Int→(List qd2)→Option (q09×Int)
 | 0,_,_=>none
 | m1+1,z13,l14 =>
  cond (decide (z13<(r5.1.length:Int)))
   (q03 (q0o r5.1 z13) fun x21 =>
   q03 (q0o r5.1 z13) fun x23 =>
   q03 (qb5 n r5.1 z13) fun r25 =>
   q03 (q0o r2.1 z13) fun x27 =>
   q0y ((l14.length+1)*88≤140737488355328∧l14.length+1≤140737488355328) (
   (q2i p1 n r2 r5 m1) (IntKind.i64.wrap (z13+1)) (l14++[(qd2.mk x21.Name x23.Code r25 x27)])))
   (q5z p1 n l14)
def q5c (n:Nat) (p1:List q01):Option (q09×Int) :=
 q03 (q6m n p1) fun r2 =>
 cond (r2.2 != 0)
  (some ((q09.mk [] []),r2.2))
  (q03 (q3z n p1) fun r5 =>
  q2i p1 n r2 r5 n 0 ([]:List qd2))
theorem qdo (n:Nat) (p1:List q01) (r:q09×Int) (hF:q5c n p1=some r):EvU Tryz.prog 51 [.isl false (List.map q02 p1)] ⟨[],0⟩ (fun u _=>u = .tup [.agg (q0a r.1),.int .i64 r.2]∧Bel 0 u):=by
 unfold q5c at hF
 refine bg1 63 fn51 ?_
 obtain ⟨r2,h3,hF⟩:=q00 hF
 refine go ?_
 refine RS.cl rfl (pC (ql8 n p1 r2 h3) _) fn71 ?_
 refine go ?_
 refine cF hF (fun h4 hF=>?_) (fun h4 hF=>?_)
 refine go ?_
 obtain rfl:=sI hF
 exact rT (us:=[.agg [.nils,.nils],.i6 r2.2]) (u:=.tup [.agg [.isl false [],.isl false []],.i6 r2.2]) (qid (qbm un43.h rfl (q2l if43.h) rfl rfl rfl) (q1v rfl (q2r))) wR
 obtain ⟨r5,h6,hF⟩:=q00 hF
 refine go ?_
 refine RS.cl rfl (pC (q9o n p1 r5 h6) _) fn72 ?_
 refine gr ?_
 refine gr ?_
 refine WPU.ghost (tm':=fr 63 [(0,.iM q02 p1),(2,.ptr 0 0 0),(4,.iM (cL q1g) r2.1),(6,.iM q0d r5.1),(8,.ptr 1 0 0),(9,.i6 0)]) (σ':=⟨[(2,.vec (List.map qd8 ([]:List qd2)).flatten 109 4 0),(1,.row [.vl 2 0 0 (([]:List qd2).length),.nils] 43),(0,.row [.nils,.nils] 43)],3⟩) (Gh.trans (z0u 1 0 109 4 (by decide) NZ rfl rfl) (z0o ⟨rfl,rfl,rfl,rfl,rfl,rfl,trivial⟩ rfl)) NZ ?_
 refine gS (l':=[(0,_),(2,_),(4,_),(6,_),(8,_),(9,_)]) ?_
 refine z0j (fun m tm σ=>∃ z13:Int,∃ l14:List qd2,∃ t15:Nat,q2i p1 n r2 r5 m z13 l14=some r∧tm=fr 63 [(0,.iM q02 p1),(2,.ptr 0 0 0),(4,.iM (cL q1g) r2.1),(6,.iM q0d r5.1),(8,.ptr 1 0 0),(9,.i6 z13)]∧σ=⟨[(2,.vec (List.map qd8 l14).flatten 109 4 t15),(1,.row [.vl 2 t15 0 l14.length,.nils] 43),(0,.row [.nils,.nils] 43)],3⟩) (fun tm σ=>∃ l16:List qd2,∃ t17:Nat,q5z p1 n l16=some r∧tm=fr 63 [(0,.iM q02 p1),(2,.ptr 0 0 0),(8,.ptr 1 0 0)]∧σ=⟨[(2,.vec (List.map qd8 l16).flatten 109 4 t17),(1,.row [.vl 2 t17 0 l16.length,.nils] 43),(0,.row [.nils,.nils] 43)],3⟩) n ⟨0,([]:List qd2),0,hF,rfl,rfl⟩ ?_ ?_
 rintro _ _ ⟨l16,t17,hF,rfl,rfl⟩
 unfold q5z at hF
 obtain ⟨r18,h19,hF⟩:=q00 hF
 refine go ?_
 refine RS.cl rfl (pC (qic n p1 r18 h19) _) fn74 ?_
 refine go ?_
 obtain rfl:=sI hF
 exact rT (us:=[.agg [.vl 2 t17 0 l16.length,.iM q2y r18.1],.i6 0]) (u:=.tup [.agg [.iM qd8 l16,.iM q2y r18.1],.i6 0]) (qid (qbm un43.h rfl (q2l if43.h) rfl rfl rfl) (q1v rfl (q2r))) (fR 2 4)
 rintro (_|m1) _ _ ⟨z13,l14,t15,hF,rfl,rfl⟩
 cases hF
 unfold q2i at hF
 refine go ?_
 refine cF hF (fun h20 hF=>?_) (fun h20 hF=>?_)
 refine go ?_
 refine WPU.block ?_
 obtain ⟨x21,h22,hF⟩:=q00 hF
 obtain ⟨x23,h24,hF⟩:=q00 hF
 obtain ⟨r25,h26,hF⟩:=q00 hF
 obtain ⟨x27,h28,hF⟩:=q00 hF
 obtain ⟨h29,hF⟩:=q08 hF
 refine go ?_
 refine z0m Tryz.tb_ok [(0,20),(1,20)] (by kernel_rfl) ?_
 refine gd ?_
 refine RD.ix h22 ?_
 refine gd ?_
 refine RD.ix h24 ?_
 refine gd ?_
 refine RD.fl rfl (pC (ql5 n r5.1 z13 r25 h26)) fn73 ?_
 refine gd ?_
 refine RD.ix h28 ?_
 refine gd ?_
 refine RD.g ?_
 refine RD.g ?_
 refine gd ?_
 refine RD.gz ?_
 refine RD.done ⟨by kernel_rfl,⟨qpw un43.h rfl (q2l if40.h) rfl rfl rfl,⟨qjr un40.h rfl rfl rfl rfl,trivial⟩⟩,?_⟩
 refine go ?_
 exact lC ⟨_,(l14++[(qd2.mk x21.Name x23.Code r25 x27)]),(t15+1),hF,rfl,rfl⟩
 refine go ?_
 exact xC ⟨l14,t15,hF,rfl,rfl⟩
def qcr (p1:List UInt8) (p2:List UInt8) (l15:List q0u):Option (q01) :=
 some (q01.mk p1 ([p2]) l15)
def q9t (p1:List UInt8) (p2:List UInt8) (p3:List (List UInt8)):Nat→Int→(List q0u)→Option (q01)
 | 0,_,_=>none
 | m1+1,z12,l13 =>
  cond (decide ((IntKind.i64.wrap (z12+1))<(p3.length:Int)))
   (q03 (q0o p3 z12) fun x18 =>
   q03 (q0o p3 (IntKind.i64.wrap (z12+1))) fun x20 =>
   q0y ((l13.length+1)*32≤140737488355328∧l13.length+1≤140737488355328) (
   (q9t p1 p2 p3 m1) (IntKind.i64.wrap (z12+2)) (l13++[(q0u.mk x18 x20)])))
   (qcr p1 p2 l13)
def qcs (p1:List UInt8) (l32:List q0u):Option (q01) :=
 some (q01.mk p1 [] l32)
def q9u (p1:List UInt8) (p3:List (List UInt8)):Nat→Int→(List q0u)→Option (q01)
 | 0,_,_=>none
 | m2+1,z29,l30 =>
  cond (decide ((IntKind.i64.wrap (z29+1))<(p3.length:Int)))
   (q03 (q0o p3 z29) fun x35 =>
   q03 (q0o p3 (IntKind.i64.wrap (z29+1))) fun x37 =>
   q0y ((l30.length+1)*32≤140737488355328∧l30.length+1≤140737488355328) (
   (q9u p1 p3 m2) (IntKind.i64.wrap (z29+2)) (l30++[(q0u.mk x35 x37)])))
   (qcs p1 l30)
def q21 (n:Nat) (p1:List UInt8) (p2:List UInt8) (p3:List (List UInt8)):Option (q01) :=
 cond (!q0k p2 [])
  (q9t p1 p2 p3 n 0 ([]:List q0u))
  (q9u p1 p3 n 0 ([]:List q0u))
theorem q1l (n:Nat) (p1:List UInt8) (p2:List UInt8) (p3:List (List UInt8)) (r:q01) (hF:q21 n p1 p2 p3=some r):EvU Tryz.prog 82 [.str p1,.str p2,.isl false (List.map cS p3)] ⟨[],0⟩ (fun u _=>u = .agg (q02 r)∧Bel 0 u):=by
 unfold q21 at hF
 refine bg3 39 fn82 ?_
 refine go ?_
 refine RS.q (u:=.bool (!q0k p2 [])) rfl (q6e rfl rfl rfl rfl) ?_
 refine go ?_
 refine cF hF (fun h4 hF=>?_) (fun h4 hF=>?_)
 refine go ?_
 refine RS.g ?_
 refine gr ?_
 refine WPU.ghost (tm':=fr 39 [(2,.iM cS p3),(6,.ptr 0 0 0),(7,.ptr 1 0 0),(8,.i6 0)]) (σ':=⟨[(3,.vec (List.map q0e ([]:List q0u)).flatten 162 2 0),(2,.row [.str p2] 9),(1,.row [.str p1,.sl 2 0 1 1,.vl 3 0 0 (([]:List q0u).length)] 127),(0,.row [.str [],.nils,.nils] 127)],4⟩) (Gh.trans (z0u 1 2 162 2 (by decide) NZ rfl rfl) (z0o ⟨rfl,rfl,rfl,rfl,trivial⟩ rfl)) NZ ?_
 refine gS (l':=[(2,_),(6,_),(7,_),(8,_)]) ?_
 refine z0j (fun m tm σ=>∃ z12:Int,∃ l13:List q0u,∃ t14:Nat,q9t p1 p2 p3 m z12 l13=some r∧tm=fr 39 [(2,.iM cS p3),(6,.ptr 0 0 0),(7,.ptr 1 0 0),(8,.i6 z12)]∧σ=⟨[(3,.vec (List.map q0e l13).flatten 162 2 t14),(2,.row [.str p2] 9),(1,.row [.str p1,.sl 2 0 1 1,.vl 3 t14 0 l13.length] 127),(0,.row [.str [],.nils,.nils] 127)],4⟩) (fun tm σ=>∃ l15:List q0u,∃ t16:Nat,qcr p1 p2 l15=some r∧tm=fr 39 [(6,.ptr 0 0 0),(7,.ptr 1 0 0)]∧σ=⟨[(3,.vec (List.map q0e l15).flatten 162 2 t16),(2,.row [.str p2] 9),(1,.row [.str p1,.sl 2 0 1 1,.vl 3 t16 0 l15.length] 127),(0,.row [.str [],.nils,.nils] 127)],4⟩) n ⟨0,([]:List q0u),0,hF,rfl,rfl⟩ ?_ ?_
 rintro _ _ ⟨l15,t16,hF,rfl,rfl⟩
 unfold qcr at hF
 refine go ?_
 obtain rfl:=sI hF
 exact ⟨.inr rfl,[.agg [.str p1,.sl 2 0 1 1,.vl 3 t16 0 l15.length]],qid (qbm un127.h rfl (q2l if127.h) rfl rfl rfl) (q2r),.agg [.str p1,.iM cS ([p2]),.iM q0e l15],⟨[],0⟩,Nat.le_refl _,Gh.trans (z0l 2 1) (Gh.trans (z0l 3 2) (z0s (.agg [.str p1,.iM cS ([p2]),.iM q0e l15]) rfl)),rfl,BU.h⟩
 rintro (_|m1) _ _ ⟨z12,l13,t14,hF,rfl,rfl⟩
 cases hF
 unfold q9t at hF
 refine go ?_
 refine cF hF (fun h17 hF=>?_) (fun h17 hF=>?_)
 refine go ?_
 refine WPU.block ?_
 obtain ⟨x18,h19,hF⟩:=q00 hF
 obtain ⟨x20,h21,hF⟩:=q00 hF
 obtain ⟨h22,hF⟩:=q08 hF
 refine go ?_
 refine z0m Tryz.tb_ok [(0,12),(1,12)] (by kernel_rfl) ?_
 refine gd ?_
 refine RD.ix h19 ?_
 refine gd ?_
 refine RD.ix h21 ?_
 refine gd ?_
 refine RD.g ?_
 refine RD.g ?_
 refine gd ?_
 refine RD.gz ?_
 refine RD.done ⟨by kernel_rfl,⟨qpw un127.h rfl (q2l if125.h) rfl rfl rfl,⟨qjr un125.h rfl rfl rfl rfl,trivial⟩⟩,?_⟩
 refine go ?_
 exact lC ⟨_,(l13++[(q0u.mk x18 x20)]),(t14+1),hF,rfl,rfl⟩
 refine go ?_
 exact xC ⟨l13,t14,hF,rfl,rfl⟩
 refine gr ?_
 refine WPU.ghost (tm':=fr 39 [(2,.iM cS p3),(6,.ptr 0 0 0),(7,.ptr 1 0 0),(8,.i6 0)]) (σ':=⟨[(2,.vec (List.map q0e ([]:List q0u)).flatten 162 2 0),(1,.row [.str p1,.nils,.vl 2 0 0 (([]:List q0u).length)] 127),(0,.row [.str [],.nils,.nils] 127)],3⟩) (Gh.trans (z0u 1 2 162 2 (by decide) NZ rfl rfl) (z0o ⟨rfl,rfl,rfl,rfl,trivial⟩ rfl)) NZ ?_
 refine gS (l':=[(2,_),(6,_),(7,_),(8,_)]) ?_
 refine z0j (fun m tm σ=>∃ z29:Int,∃ l30:List q0u,∃ t31:Nat,q9u p1 p3 m z29 l30=some r∧tm=fr 39 [(2,.iM cS p3),(6,.ptr 0 0 0),(7,.ptr 1 0 0),(8,.i6 z29)]∧σ=⟨[(2,.vec (List.map q0e l30).flatten 162 2 t31),(1,.row [.str p1,.nils,.vl 2 t31 0 l30.length] 127),(0,.row [.str [],.nils,.nils] 127)],3⟩) (fun tm σ=>∃ l32:List q0u,∃ t33:Nat,qcs p1 l32=some r∧tm=fr 39 [(6,.ptr 0 0 0),(7,.ptr 1 0 0)]∧σ=⟨[(2,.vec (List.map q0e l32).flatten 162 2 t33),(1,.row [.str p1,.nils,.vl 2 t33 0 l32.length] 127),(0,.row [.str [],.nils,.nils] 127)],3⟩) n ⟨0,([]:List q0u),0,hF,rfl,rfl⟩ ?_ ?_
 rintro _ _ ⟨l32,t33,hF,rfl,rfl⟩
 unfold qcs at hF
 refine go ?_
 obtain rfl:=sI hF
 exact ⟨.inr rfl,[.agg [.str p1,.nils,.vl 2 t33 0 l32.length]],qid (qbm un127.h rfl (q2l if127.h) rfl rfl rfl) (q2r),.agg [.str p1,.isl false [],.iM q0e l32],⟨[],0⟩,Nat.le_refl _,Gh.trans (z0l 2 2) (Gh.trans (Gh.wk (.cons (.agg (.cons (.refl _) (.cons (.nil false) (.cons (.refl _) .nil)))) .nil)) (z0s (.agg [.str p1,.isl false [],.iM q0e l32]) rfl)),rfl,BU.h⟩
 rintro (_|m2) _ _ ⟨z29,l30,t31,hF,rfl,rfl⟩
 cases hF
 unfold q9u at hF
 refine go ?_
 refine cF hF (fun h34 hF=>?_) (fun h34 hF=>?_)
 refine go ?_
 refine WPU.block ?_
 obtain ⟨x35,h36,hF⟩:=q00 hF
 obtain ⟨x37,h38,hF⟩:=q00 hF
 obtain ⟨h39,hF⟩:=q08 hF
 refine go ?_
 refine z0m Tryz.tb_ok [(0,12),(1,12)] (by kernel_rfl) ?_
 refine gd ?_
 refine RD.ix h36 ?_
 refine gd ?_
 refine RD.ix h38 ?_
 refine gd ?_
 refine RD.g ?_
 refine RD.g ?_
 refine gd ?_
 refine RD.gz ?_
 refine RD.done ⟨by kernel_rfl,⟨qpw un127.h rfl (q2l if125.h) rfl rfl rfl,⟨qjr un125.h rfl rfl rfl rfl,trivial⟩⟩,?_⟩
 refine go ?_
 exact lC ⟨_,(l30++[(q0u.mk x35 x37)]),(t31+1),hF,rfl,rfl⟩
 refine go ?_
 exact xC ⟨l30,t31,hF,rfl,rfl⟩
def qcq (n:Nat)  : Option ((List q01)) :=
 q03 (q21 n ([116,111,112]) [] []) fun r1 =>
 q03 (q21 n ([108,105,115,116]) ([116,111,112]) []) fun r3 =>
 q03 (q21 n ([99,111,110,115]) ([108,105,115,116]) ([[70,73,82,83,84],[116,111,112],[82,69,83,84],[108,105,115,116]])) fun r5 =>
 q03 (q21 n ([110,117,108,108]) ([108,105,115,116]) []) fun r7 =>
 q03 (q21 n ([100,108,105,115,116]) ([116,111,112]) ([[76,73,83,84],[108,105,115,116],[76,65,83,84],[108,105,115,116]])) fun r9 =>
 q03 (q21 n ([105,110,100,101,120]) ([116,111,112]) []) fun r11 =>
 q03 (q21 n ([104,97,110,100,108,101]) ([105,110,100,101,120]) []) fun r13 =>
 q03 (q21 n ([101,118,101,110,116]) ([105,110,100,101,120]) []) fun r15 =>
 q03 (q21 n ([101,110,116,105,116,121]) ([105,110,100,101,120]) []) fun r17 =>
 q03 (q21 n ([114,101,108]) ([116,111,112]) ([[76,65,66,69,76],[104,97,110,100,108,101]])) fun r19 =>
 q03 (q21 n ([113,101,113]) ([116,111,112]) ([[72,73,71,72],[104,97,110,100,108,101],[76,79,87],[104,97,110,100,108,101]])) fun r21 =>
 q03 (q21 n ([115,101,109]) ([116,111,112]) ([[84,79,80],[104,97,110,100,108,101],[73,78,68,69,88],[105,110,100,101,120],[82,69,76,83],[100,108,105,115,116],[67,79,78,83],[100,108,105,115,116]])) fun r23 =>
 q03 (q21 n ([115,105,103,110]) ([116,111,112]) ([[83,69,77],[115,101,109],[65,82,71,83],[108,105,115,116]])) fun r25 =>
 some ([r1,r3,r5,r7,r9,r11,r13,r15,r17,r19,r21,r23,r25])
theorem qk9 (n:Nat)  (r:(List q01)) (hF:qcq n  = some r):EvU Tryz.prog 60 [] ⟨[],0⟩ (fun u _=>u = .isl false (List.map q02 r)∧Bel 0 u):=by
 unfold qcq at hF
 refine bg0 21 fn60 ?_
 obtain ⟨r1,h2,hF⟩:=q00 hF
 obtain ⟨r3,h4,hF⟩:=q00 hF
 obtain ⟨r5,h6,hF⟩:=q00 hF
 obtain ⟨r7,h8,hF⟩:=q00 hF
 obtain ⟨r9,h10,hF⟩:=q00 hF
 obtain ⟨r11,h12,hF⟩:=q00 hF
 obtain ⟨r13,h14,hF⟩:=q00 hF
 obtain ⟨r15,h16,hF⟩:=q00 hF
 obtain ⟨r17,h18,hF⟩:=q00 hF
 obtain ⟨r19,h20,hF⟩:=q00 hF
 obtain ⟨r21,h22,hF⟩:=q00 hF
 obtain ⟨r23,h24,hF⟩:=q00 hF
 obtain ⟨r25,h26,hF⟩:=q00 hF
 refine go ?_
 refine RS.cl rfl (z0q (args':=[.str ([116,111,112]),.str [],.isl false []]) (.cons (.refl _) (.cons (.refl _) (.cons (.nil false) .nil))) (pC (q1l n ([116,111,112]) [] [] r1 h2)) _) fn82 (RS.cl rfl (z0q (args':=[.str ([108,105,115,116]),.str ([116,111,112]),.isl false []]) (.cons (.refl _) (.cons (.refl _) (.cons (.nil false) .nil))) (pC (q1l n ([108,105,115,116]) ([116,111,112]) [] r3 h4)) _) fn82 ?_)
 refine RS.g ?_
 refine z0p rfl (z0l 0 1) (pC (q1l n ([99,111,110,115]) ([108,105,115,116]) ([[70,73,82,83,84],[116,111,112],[82,69,83,84],[108,105,115,116]]) r5 h6) _) fn82 (RS.cl rfl (z0q (args':=[.str ([110,117,108,108]),.str ([108,105,115,116]),.isl false []]) (.cons (.refl _) (.cons (.refl _) (.cons (.nil false) .nil))) (pC (q1l n ([110,117,108,108]) ([108,105,115,116]) [] r7 h8)) _) fn82 ?_)
 refine RS.g ?_
 refine z0p rfl (z0l 1 1) (pC (q1l n ([100,108,105,115,116]) ([116,111,112]) ([[76,73,83,84],[108,105,115,116],[76,65,83,84],[108,105,115,116]]) r9 h10) _) fn82 (RS.cl rfl (z0q (args':=[.str ([105,110,100,101,120]),.str ([116,111,112]),.isl false []]) (.cons (.refl _) (.cons (.refl _) (.cons (.nil false) .nil))) (pC (q1l n ([105,110,100,101,120]) ([116,111,112]) [] r11 h12)) _) fn82 (RS.cl rfl (z0q (args':=[.str ([104,97,110,100,108,101]),.str ([105,110,100,101,120]),.isl false []]) (.cons (.refl _) (.cons (.refl _) (.cons (.nil false) .nil))) (pC (q1l n ([104,97,110,100,108,101]) ([105,110,100,101,120]) [] r13 h14)) _) fn82 (RS.cl rfl (z0q (args':=[.str ([101,118,101,110,116]),.str ([105,110,100,101,120]),.isl false []]) (.cons (.refl _) (.cons (.refl _) (.cons (.nil false) .nil))) (pC (q1l n ([101,118,101,110,116]) ([105,110,100,101,120]) [] r15 h16)) _) fn82 (RS.cl rfl (z0q (args':=[.str ([101,110,116,105,116,121]),.str ([105,110,100,101,120]),.isl false []]) (.cons (.refl _) (.cons (.refl _) (.cons (.nil false) .nil))) (pC (q1l n ([101,110,116,105,116,121]) ([105,110,100,101,120]) [] r17 h18)) _) fn82 ?_))))
 refine RS.g ?_
 refine z0p rfl (z0l 2 1) (pC (q1l n ([114,101,108]) ([116,111,112]) ([[76,65,66,69,76],[104,97,110,100,108,101]]) r19 h20) _) fn82 ?_
 refine RS.g ?_
 refine z0p rfl (z0l 3 1) (pC (q1l n ([113,101,113]) ([116,111,112]) ([[72,73,71,72],[104,97,110,100,108,101],[76,79,87],[104,97,110,100,108,101]]) r21 h22) _) fn82 (RS.q (u:=.sl 4 0 8 8) (σ':=⟨[(4,.row [.str ([84,79,80]),.str ([104,97,110,100,108,101]),.str ([73,78,68,69,88]),.str ([105,110,100,101,120]),.str ([82,69,76,83]),.str ([100,108,105,115,116]),.str ([67,79,78,83]),.str ([100,108,105,115,116])] 9)],5⟩) rfl (q99 un80.h if9.h rfl rfl rfl rfl rfl rfl rfl) (z0p rfl (z0l 4 1) (pC (q1l n ([115,101,109]) ([116,111,112]) ([[84,79,80],[104,97,110,100,108,101],[73,78,68,69,88],[105,110,100,101,120],[82,69,76,83],[100,108,105,115,116],[67,79,78,83],[100,108,105,115,116]]) r23 h24) _) fn82 ?_))
 refine RS.g ?_
 refine z0p rfl (z0l 5 1) (pC (q1l n ([115,105,103,110]) ([116,111,112]) ([[83,69,77],[115,101,109],[65,82,71,83],[108,105,115,116]]) r25 h26) _) fn82 (RS.q (u:=.sl 6 0 13 13) (σ':=⟨[(6,.row [.str r1.Name,.iM cS r1.Supers,.iM q0e r1.Feats,.str r3.Name,.iM cS r3.Supers,.iM q0e r3.Feats,.str r5.Name,.iM cS r5.Supers,.iM q0e r5.Feats,.str r7.Name,.iM cS r7.Supers,.iM q0e r7.Feats,.str r9.Name,.iM cS r9.Supers,.iM q0e r9.Feats,.str r11.Name,.iM cS r11.Supers,.iM q0e r11.Feats,.str r13.Name,.iM cS r13.Supers,.iM q0e r13.Feats,.str r15.Name,.iM cS r15.Supers,.iM q0e r15.Feats,.str r17.Name,.iM cS r17.Supers,.iM q0e r17.Feats,.str r19.Name,.iM cS r19.Supers,.iM q0e r19.Feats,.str r21.Name,.iM cS r21.Supers,.iM q0e r21.Feats,.str r23.Name,.iM cS r23.Supers,.iM q0e r23.Feats,.str r25.Name,.iM cS r25.Supers,.iM q0e r25.Feats] 127)],7⟩) rfl (q99 un38.h if127.h rfl rfl rfl rfl rfl rfl rfl) ?_)
 refine go ?_
 obtain rfl:=sI hF
 exact rT (us:=[.sl 6 0 13 13]) (u:=.iM q02 ([r1,r3,r5,r7,r9,r11,r13,r15,r17,r19,r21,r23,r25])) (q1v rfl (q2r)) (fR 6 3)
def q38 (n:Nat)  : Option (q09) :=
 q03 (qcq n) fun r1 =>
 q03 (q5c n r1) fun r3 =>
 some (q09.mk r3.1.Types r3.1.Feats)
theorem qa4 (n:Nat)  (r:q09) (hF:q38 n  = some r):EvU Tryz.prog 31 [] ⟨[],0⟩ (fun u _=>u = .agg (q0a r)∧Bel 0 u):=by
 unfold q38 at hF
 refine bg0 9 fn31 ?_
 obtain ⟨r1,h2,hF⟩:=q00 hF
 obtain ⟨r3,h4,hF⟩:=q00 hF
 refine go ?_
 refine RS.cl rfl (pC (qk9 n r1 h2) _) fn60 (RS.cl rfl (pC (qdo n r1 r3 h4) _) fn51 ?_)
 refine go ?_
 obtain rfl:=sI hF
 exact rT (qid (qbm un43.h rfl (q2l if43.h) rfl rfl rfl) (q2r)) (z0s _ rfl)
def qg2 (n:Nat) (p1:List q0z):Option (GFS) :=
 some (GFS.mk p1)
theorem q6c (n:Nat) (p1:List q0z) (r:GFS) (hF:qg2 n p1=some r):EvU Tryz.prog 43 [.isl false (List.map q07 p1)] ⟨[],0⟩ (fun u _=>u = .agg [.isl false (List.map q07 r.Nodes)]∧Bel 0 u):=by
 unfold qg2 at hF
 refine bg1 5 fn43 ?_
 refine go ?_
 obtain rfl:=sI hF
 exact rT (qid (qbm un24.h rfl (q2l if24.h) rfl rfl rfl) (q2r)) (z0s _ rfl)
def qc1 (p1:Int) (l12:List q3w):Option (q0z) :=
 some (q0z.mk p1 l12)
def q9e (p1:Int) (p2:List Int):Nat→Int→(List q3w)→Option (q0z)
 | 0,_,_=>none
 | m1+1,z9,l10 =>
  cond (decide ((IntKind.i64.wrap (z9+1))<(p2.length:Int)))
   (q03 (q0o p2 z9) fun x15 =>
   q03 (q0o p2 (IntKind.i64.wrap (z9+1))) fun x17 =>
   q0y ((l10.length+1)*16≤140737488355328∧l10.length+1≤140737488355328) (
   (q9e p1 p2 m1) (IntKind.i64.wrap (z9+2)) (l10++[(q3w.mk x15 x17)])))
   (qc1 p1 l10)
def q53 (n:Nat) (p1:Int) (p2:List Int):Option (q0z) :=
 q9e p1 p2 n 0 ([]:List q3w)
theorem q0n (n:Nat) (p1:Int) (p2:List Int) (r:q0z) (hF:q53 n p1 p2=some r):EvU Tryz.prog 44 [.int .i64 p1,.isl false (List.map (cI .i64) p2)] ⟨[],0⟩ (fun u _=>u = .agg (q07 r)∧Bel 0 u):=by
 unfold q53 at hF
 refine bg2 32 fn44 ?_
 refine gr ?_
 refine gr ?_
 refine gr ?_
 refine WPU.ghost (tm':=fr 32 [(1,.iM (cI .i64) p2),(4,.ptr 0 0 0),(5,.ptr 1 0 0),(6,.i6 0)]) (σ':=⟨[(2,.vec (List.map q1w ([]:List q3w)).flatten 66 2 0),(1,.row [.i6 p1,.vl 2 0 0 (([]:List q3w).length)] 54),(0,.row [.i6 0,.nils] 54)],3⟩) (Gh.trans (z0u 1 1 66 2 (by decide) NZ rfl rfl) (z0o ⟨rfl,rfl,rfl,rfl,trivial⟩ rfl)) NZ ?_
 refine gS (l':=[(1,_),(4,_),(5,_),(6,_)]) ?_
 refine z0j (fun m tm σ=>∃ z9:Int,∃ l10:List q3w,∃ t11:Nat,q9e p1 p2 m z9 l10=some r∧tm=fr 32 [(1,.iM (cI .i64) p2),(4,.ptr 0 0 0),(5,.ptr 1 0 0),(6,.i6 z9)]∧σ=⟨[(2,.vec (List.map q1w l10).flatten 66 2 t11),(1,.row [.i6 p1,.vl 2 t11 0 l10.length] 54),(0,.row [.i6 0,.nils] 54)],3⟩) (fun tm σ=>∃ l12:List q3w,∃ t13:Nat,qc1 p1 l12=some r∧tm=fr 32 [(4,.ptr 0 0 0),(5,.ptr 1 0 0)]∧σ=⟨[(2,.vec (List.map q1w l12).flatten 66 2 t13),(1,.row [.i6 p1,.vl 2 t13 0 l12.length] 54),(0,.row [.i6 0,.nils] 54)],3⟩) n ⟨0,([]:List q3w),0,hF,rfl,rfl⟩ ?_ ?_
 rintro _ _ ⟨l12,t13,hF,rfl,rfl⟩
 unfold qc1 at hF
 refine go ?_
 obtain rfl:=sI hF
 exact rT (us:=[.agg [.i6 p1,.vl 2 t13 0 l12.length]]) (u:=.agg [.i6 p1,.iM q1w l12]) (qid (qbm un54.h rfl (q2l if54.h) rfl rfl rfl) (q2r)) (fR 2 2)
 rintro (_|m1) _ _ ⟨z9,l10,t11,hF,rfl,rfl⟩
 cases hF
 unfold q9e at hF
 refine go ?_
 refine cF hF (fun h14 hF=>?_) (fun h14 hF=>?_)
 refine go ?_
 refine WPU.block ?_
 obtain ⟨x15,h16,hF⟩:=q00 hF
 obtain ⟨x17,h18,hF⟩:=q00 hF
 obtain ⟨h19,hF⟩:=q08 hF
 refine go ?_
 refine z0m Tryz.tb_ok [(0,12),(1,12)] (by kernel_rfl) ?_
 refine gd ?_
 refine RD.ix h16 ?_
 refine gd ?_
 refine RD.ix h18 ?_
 refine gd ?_
 refine RD.g ?_
 refine RD.g ?_
 refine gd ?_
 refine RD.gz ?_
 refine RD.done ⟨by kernel_rfl,⟨qpw un54.h rfl (q2l if52.h) rfl rfl rfl,⟨qjr un52.h rfl rfl rfl rfl,trivial⟩⟩,?_⟩
 refine go ?_
 exact lC ⟨_,(l10++[(q3w.mk x15 x17)]),(t11+1),hF,rfl,rfl⟩
 refine go ?_
 exact xC ⟨l10,t11,hF,rfl,rfl⟩
def qhk (n:Nat) (p1:Int):Option (GFS) :=
 some (GFS.mk ([(q0z.mk p1 [])]))
theorem q6o (n:Nat) (p1:Int) (r:GFS) (hF:qhk n p1=some r):EvU Tryz.prog 45 [.int .i64 p1] ⟨[],0⟩ (fun u _=>u = .agg [.isl false (List.map q07 r.Nodes)]∧Bel 0 u):=by
 unfold qhk at hF
 refine bg1 7 fn45 ?_
 refine go ?_
 refine RS.g ?_
 refine go ?_
 obtain rfl:=sI hF
 exact ⟨.inr rfl,[.agg [.sl 1 0 1 1]],qid (qbm un24.h rfl (q2l if24.h) rfl rfl rfl) (q2r),.agg [.iM q07 ([(q0z.mk p1 [])])],⟨[],0⟩,Nat.le_refl _,Gh.trans (Gh.trans (z0w 1) (z0l 1 2)) (z0s (.agg [.iM q07 ([(q0z.mk p1 [])])]) rfl),rfl,BU.h⟩
def q1s (n:Nat)  : Option (Bool) :=
 q03 (q53 n 1 ([0,1,1,2])) fun r1 =>
 q03 (q53 n 3 ([0,2])) fun r3 =>
 q03 (q53 n 2 []) fun r5 =>
 q03 (qg2 n ([r1,r3,r5])) fun r7 =>
 q03 (q03 (qe8 n r7) fun r9 =>
 q03 (qaa n r9 ([[],[0],[1]])) fun r11 =>
 cond (!r11)
  (some true)
  (q03 (qcd n r7) fun r14 =>
  q03 (q63 n r14 ([(q0j.mk ([1]) ([0,0]))])) fun r16 =>
  cond (!r16)
   (some true)
   (q03 (q53 n 1 ([5,0])) fun r19 =>
   q03 (qg2 n ([r19])) fun r21 =>
   q03 (qcd n r21) fun r23 =>
   q03 (q63 n r23 ([(q0j.mk [] ([5]))])) fun r25 =>
   some (!r25)))) fun b27 =>
 cond b27
  (some false)
  (q03 (qk3 n r7 ([0,0])) fun r30 =>
  q03 (qmp n r7 ([0,1])) fun r32 =>
  q03 (q38 n) fun r34 =>
  q03 (q6f n r34 ([82,69,83,84,46,70,73,82,83,84])) fun r36 =>
  q03 (q6f n r34 ([70,46])) fun r38 =>
  q03 (q6f n r34 ([70,73,82,83,84,46,71])) fun r40 =>
  q03 (cond (r30.1 == 2)
   (cond r30.2
    (cond (!r32.2)
     (q03 (qhk n 7) fun r45 =>
     q03 (qhg n ([3,4]) r45) fun r47 =>
     q03 (q53 n 0 ([3,1])) fun r49 =>
     q03 (q53 n 0 ([4,2])) fun r51 =>
     q03 (q53 n 7 []) fun r53 =>
     q03 (qg2 n ([r49,r51,r53])) fun r55 =>
     q03 (qf9 n r47 r55) fun r57 =>
     cond r57
      (cond (r36.2 == 0)
       (q03 (q49 n r36.1 ([10,2])) fun r61 =>
       cond r61
        (q03 (qbo n r34 r36.1) fun r64 =>
        cond (q0k r64 ([82,69,83,84,46,70,73,82,83,84]))
         (cond (r38.2 == 8)
          (some (r40.2 == 5))
          (some false))
         (some false))
        (some false))
       (some false))
      (some false))
     (some false))
    (some false))
   (some false)) fun b68 =>
  some b68)
theorem q5i (n:Nat)  (r:Bool) (hF:q1s n  = some r):EvU Tryz.prog 13 [] ⟨[],0⟩ (fun u _=>u = .bool r∧Bel 0 u):=by
 unfold q1s at hF
 refine bg0 122 fn13 ?_
 obtain ⟨r1,h2,hF⟩:=q00 hF
 obtain ⟨r3,h4,hF⟩:=q00 hF
 obtain ⟨r5,h6,hF⟩:=q00 hF
 obtain ⟨r7,h8,hF⟩:=q00 hF
 refine go ?_
 refine RS.g ?_
 refine z0p rfl (z0l 0 1) (pC (q0n n 1 ([0,1,1,2]) r1 h2) _) fn44 ?_
 refine RS.g ?_
 refine z0p rfl (z0l 1 1) (pC (q0n n 3 ([0,2]) r3 h4) _) fn44 (RS.cl rfl (z0q (args':=[.i6 2,.isl false []]) (.cons (.refl _) (.cons (.nil false) .nil)) (pC (q0n n 2 [] r5 h6)) _) fn44 (RS.q (u:=.sl 2 0 3 3) (σ':=⟨[(2,.row [.i6 r1.Typex,.iM q1w r1.Arcs,.i6 r3.Typex,.iM q1w r3.Arcs,.i6 r5.Typex,.iM q1w r5.Arcs] 54)],3⟩) rfl (q99 un22.h if54.h rfl rfl rfl rfl rfl rfl rfl) (z0p rfl (z0l 2 2) (pC (q6c n ([r1,r3,r5]) r7 h8) _) fn43 ?_)))
 obtain ⟨b27,h28,hF⟩:=q00 hF
 refine gn ?_
 refine z0k (fun tm σ=>tm=fr 122 [(1,.ptr 3 0 0),(48,.bool b27)]∧σ=⟨[(6,.row [.nils,.sl 4 0 1 1,.sl 5 0 1 1] 33),(5,.row [.i6 1] 3),(4,.row [.i6 0] 3),(3,.row [.iM q07 r7.Nodes] 24)],7⟩) ?_ ?_
 rintro _ _ ⟨rfl,rfl⟩
 refine go ?_
 refine cF hF (fun h29 hF=>?_) (fun h29 hF=>?_)
 exact gx hF
 obtain ⟨r30,h31,hF⟩:=q00 hF
 refine go ?_
 refine RS.g ?_
 refine RS.cl rfl (EvU.viewT (qpz n r7 ([0,0]) r30 h31) BUL.h (by simp only [toV,qnj,okL,okC,cond_true]<;>rfl) (fun m=>by simp [ren,q0t]) (z0l 7 1)) fn36 ?_
 obtain ⟨r32,h33,hF⟩:=q00 hF
 refine go ?_
 refine RS.g ?_
 refine RS.cl rfl (EvU.viewT (qoj n r7 ([0,1]) r32 h33) BUL.h (by simp only [toV,qnj,okL,okC,cond_true]<;>rfl) (fun m=>by simp [ren,q0t]) (z0l 8 1)) fn30 ?_
 obtain ⟨r34,h35,hF⟩:=q00 hF
 refine go ?_
 refine RS.cl rfl (pC (qa4 n r34 h35) _) fn31 ?_
 obtain ⟨r36,h37,hF⟩:=q00 hF
 refine go ?_
 refine RS.cl rfl (pC (qb1 n r34 ([82,69,83,84,46,70,73,82,83,84]) r36 h37) _) fn26 ?_
 obtain ⟨r38,h39,hF⟩:=q00 hF
 refine go ?_
 refine RS.cl rfl (pC (qb1 n r34 ([70,46]) r38 h39) _) fn26 ?_
 obtain ⟨r40,h41,hF⟩:=q00 hF
 refine go ?_
 refine RS.cl rfl (pC (qb1 n r34 ([70,73,82,83,84,46,71]) r40 h41) _) fn26 ?_
 obtain ⟨b68,h69,hF⟩:=q00 hF
 refine gn ?_
 refine z0k (fun tm σ=>tm=fr 122 [(0,.bool b68)]∧σ=⟨[(9,.row (q0a r34) 43),(8,.row [.i6 0,.i6 1] 3),(7,.row [.i6 0,.i6 0] 3),(6,.row [.nils,.sl 4 0 1 1,.sl 5 0 1 1] 33),(5,.row [.i6 1] 3),(4,.row [.i6 0] 3),(3,.row [.iM q07 r7.Nodes] 24)],10⟩) ?_ ?_
 rintro _ _ ⟨rfl,rfl⟩
 exact gx hF
 rcases gB h69 with ⟨h42,h69⟩ | ⟨h42,h69⟩
 rcases gB h69 with ⟨h43,h69⟩ | ⟨h43,h69⟩
 rcases gB h69 with ⟨h44,h69⟩ | ⟨h44,h69⟩
 obtain ⟨r45,h46,h69⟩:=q00 h69
 obtain ⟨r47,h48,h69⟩:=q00 h69
 obtain ⟨r49,h50,h69⟩:=q00 h69
 obtain ⟨r51,h52,h69⟩:=q00 h69
 obtain ⟨r53,h54,h69⟩:=q00 h69
 obtain ⟨r55,h56,h69⟩:=q00 h69
 obtain ⟨r57,h58,h69⟩:=q00 h69
 rcases gB h69 with ⟨h59,h69⟩ | ⟨h59,h69⟩
 rcases gB h69 with ⟨h60,h69⟩ | ⟨h60,h69⟩
 obtain ⟨r61,h62,h69⟩:=q00 h69
 rcases gB h69 with ⟨h63,h69⟩ | ⟨h63,h69⟩
 obtain ⟨r64,h65,h69⟩:=q00 h69
 rcases gB h69 with ⟨h66,h69⟩ | ⟨h66,h69⟩
 rcases gB h69 with ⟨h67,h69⟩ | ⟨h67,h69⟩
 obtain rfl:=sI h69
 refine go ?_
 refine RS.g ?_
 refine RS.cl rfl (pC (q6o n 7 r45 h46) _) fn45 (z0p rfl (z0l 10 1) (pC (q6g n ([3,4]) r45 r47 h48) _) fn22 ?_)
 refine RS.g ?_
 refine z0p rfl (z0l 11 1) (pC (q0n n 0 ([3,1]) r49 h50) _) fn44 ?_
 refine RS.g ?_
 refine z0p rfl (z0l 12 1) (pC (q0n n 0 ([4,2]) r51 h52) _) fn44 (RS.cl rfl (z0q (args':=[.i6 7,.isl false []]) (.cons (.refl _) (.cons (.nil false) .nil)) (pC (q0n n 7 [] r53 h54)) _) fn44 (RS.w (u:=.sl 13 0 3 3) (σ':=⟨[(13,.row [.i6 r49.Typex,.iM q1w r49.Arcs,.i6 r51.Typex,.iM q1w r51.Arcs,.i6 r53.Typex,.iM q1w r53.Arcs] 54),(9,.row (q0a r34) 43),(8,.row [.i6 0,.i6 1] 3),(7,.row [.i6 0,.i6 0] 3),(6,.row [.nils,.sl 4 0 1 1,.sl 5 0 1 1] 33),(5,.row [.i6 1] 3),(4,.row [.i6 0] 3),(3,.row [.iM q07 r7.Nodes] 24)],14⟩) rfl (q99 un22.h if54.h rfl rfl rfl rfl rfl rfl rfl) (z0p rfl (z0l 13 2) (pC (q6c n ([r49,r51,r53]) r55 h56) _) fn43 (RS.cl rfl (pC (q5d n r47 r55 r57 h58) _) fn21 ?_))))
 refine go ?_
 refine RS.g ?_
 refine RS.cl rfl (vw (q1h n r36.1 ([10,2]) r61 h62) (z0l 14 1)) fn28 ?_
 refine go ?_
 refine RS.cl rfl (pC (q8t n r34 r36.1 r64 h65) _) fn25 (RS.w (u:=.bool (q0k r64 ([82,69,83,84,46,70,73,82,83,84]))) rfl (q6e rfl rfl rfl rfl) ?_)
 refine go ?_
 exact xC ⟨rfl,rfl⟩
 obtain rfl:=sI h69
 refine go ?_
 refine RS.g ?_
 refine RS.cl rfl (pC (q6o n 7 r45 h46) _) fn45 (z0p rfl (z0l 10 1) (pC (q6g n ([3,4]) r45 r47 h48) _) fn22 ?_)
 refine RS.g ?_
 refine z0p rfl (z0l 11 1) (pC (q0n n 0 ([3,1]) r49 h50) _) fn44 ?_
 refine RS.g ?_
 refine z0p rfl (z0l 12 1) (pC (q0n n 0 ([4,2]) r51 h52) _) fn44 (RS.cl rfl (z0q (args':=[.i6 7,.isl false []]) (.cons (.refl _) (.cons (.nil false) .nil)) (pC (q0n n 7 [] r53 h54)) _) fn44 (RS.w (u:=.sl 13 0 3 3) (σ':=⟨[(13,.row [.i6 r49.Typex,.iM q1w r49.Arcs,.i6 r51.Typex,.iM q1w r51.Arcs,.i6 r53.Typex,.iM q1w r53.Arcs] 54),(9,.row (q0a r34) 43),(8,.row [.i6 0,.i6 1] 3),(7,.row [.i6 0,.i6 0] 3),(6,.row [.nils,.sl 4 0 1 1,.sl 5 0 1 1] 33),(5,.row [.i6 1] 3),(4,.row [.i6 0] 3),(3,.row [.iM q07 r7.Nodes] 24)],14⟩) rfl (q99 un22.h if54.h rfl rfl rfl rfl rfl rfl rfl) (z0p rfl (z0l 13 2) (pC (q6c n ([r49,r51,r53]) r55 h56) _) fn43 (RS.cl rfl (pC (q5d n r47 r55 r57 h58) _) fn21 ?_))))
 refine go ?_
 refine RS.g ?_
 refine RS.cl rfl (vw (q1h n r36.1 ([10,2]) r61 h62) (z0l 14 1)) fn28 ?_
 refine go ?_
 refine RS.cl rfl (pC (q8t n r34 r36.1 r64 h65) _) fn25 (RS.w (u:=.bool (q0k r64 ([82,69,83,84,46,70,73,82,83,84]))) rfl (q6e rfl rfl rfl rfl) ?_)
 refine go ?_
 exact xC ⟨rfl,rfl⟩
 obtain rfl:=sI h69
 refine go ?_
 refine RS.g ?_
 refine RS.cl rfl (pC (q6o n 7 r45 h46) _) fn45 (z0p rfl (z0l 10 1) (pC (q6g n ([3,4]) r45 r47 h48) _) fn22 ?_)
 refine RS.g ?_
 refine z0p rfl (z0l 11 1) (pC (q0n n 0 ([3,1]) r49 h50) _) fn44 ?_
 refine RS.g ?_
 refine z0p rfl (z0l 12 1) (pC (q0n n 0 ([4,2]) r51 h52) _) fn44 (RS.cl rfl (z0q (args':=[.i6 7,.isl false []]) (.cons (.refl _) (.cons (.nil false) .nil)) (pC (q0n n 7 [] r53 h54)) _) fn44 (RS.w (u:=.sl 13 0 3 3) (σ':=⟨[(13,.row [.i6 r49.Typex,.iM q1w r49.Arcs,.i6 r51.Typex,.iM q1w r51.Arcs,.i6 r53.Typex,.iM q1w r53.Arcs] 54),(9,.row (q0a r34) 43),(8,.row [.i6 0,.i6 1] 3),(7,.row [.i6 0,.i6 0] 3),(6,.row [.nils,.sl 4 0 1 1,.sl 5 0 1 1] 33),(5,.row [.i6 1] 3),(4,.row [.i6 0] 3),(3,.row [.iM q07 r7.Nodes] 24)],14⟩) rfl (q99 un22.h if54.h rfl rfl rfl rfl rfl rfl rfl) (z0p rfl (z0l 13 2) (pC (q6c n ([r49,r51,r53]) r55 h56) _) fn43 (RS.cl rfl (pC (q5d n r47 r55 r57 h58) _) fn21 ?_))))
 refine go ?_
 refine RS.g ?_
 refine RS.cl rfl (vw (q1h n r36.1 ([10,2]) r61 h62) (z0l 14 1)) fn28 ?_
 refine go ?_
 refine RS.cl rfl (pC (q8t n r34 r36.1 r64 h65) _) fn25 (RS.w (u:=.bool (q0k r64 ([82,69,83,84,46,70,73,82,83,84]))) rfl (q6e rfl rfl rfl rfl) ?_)
 refine go ?_
 exact xC ⟨rfl,rfl⟩
 obtain rfl:=sI h69
 refine go ?_
 refine RS.g ?_
 refine RS.cl rfl (pC (q6o n 7 r45 h46) _) fn45 (z0p rfl (z0l 10 1) (pC (q6g n ([3,4]) r45 r47 h48) _) fn22 ?_)
 refine RS.g ?_
 refine z0p rfl (z0l 11 1) (pC (q0n n 0 ([3,1]) r49 h50) _) fn44 ?_
 refine RS.g ?_
 refine z0p rfl (z0l 12 1) (pC (q0n n 0 ([4,2]) r51 h52) _) fn44 (RS.cl rfl (z0q (args':=[.i6 7,.isl false []]) (.cons (.refl _) (.cons (.nil false) .nil)) (pC (q0n n 7 [] r53 h54)) _) fn44 (RS.w (u:=.sl 13 0 3 3) (σ':=⟨[(13,.row [.i6 r49.Typex,.iM q1w r49.Arcs,.i6 r51.Typex,.iM q1w r51.Arcs,.i6 r53.Typex,.iM q1w r53.Arcs] 54),(9,.row (q0a r34) 43),(8,.row [.i6 0,.i6 1] 3),(7,.row [.i6 0,.i6 0] 3),(6,.row [.nils,.sl 4 0 1 1,.sl 5 0 1 1] 33),(5,.row [.i6 1] 3),(4,.row [.i6 0] 3),(3,.row [.iM q07 r7.Nodes] 24)],14⟩) rfl (q99 un22.h if54.h rfl rfl rfl rfl rfl rfl rfl) (z0p rfl (z0l 13 2) (pC (q6c n ([r49,r51,r53]) r55 h56) _) fn43 (RS.cl rfl (pC (q5d n r47 r55 r57 h58) _) fn21 ?_))))
 refine go ?_
 refine RS.g ?_
 refine RS.cl rfl (vw (q1h n r36.1 ([10,2]) r61 h62) (z0l 14 1)) fn28 ?_
 refine go ?_
 exact xC ⟨rfl,rfl⟩
 obtain rfl:=sI h69
 refine go ?_
 refine RS.g ?_
 refine RS.cl rfl (pC (q6o n 7 r45 h46) _) fn45 (z0p rfl (z0l 10 1) (pC (q6g n ([3,4]) r45 r47 h48) _) fn22 ?_)
 refine RS.g ?_
 refine z0p rfl (z0l 11 1) (pC (q0n n 0 ([3,1]) r49 h50) _) fn44 ?_
 refine RS.g ?_
 refine z0p rfl (z0l 12 1) (pC (q0n n 0 ([4,2]) r51 h52) _) fn44 (RS.cl rfl (z0q (args':=[.i6 7,.isl false []]) (.cons (.refl _) (.cons (.nil false) .nil)) (pC (q0n n 7 [] r53 h54)) _) fn44 (RS.w (u:=.sl 13 0 3 3) (σ':=⟨[(13,.row [.i6 r49.Typex,.iM q1w r49.Arcs,.i6 r51.Typex,.iM q1w r51.Arcs,.i6 r53.Typex,.iM q1w r53.Arcs] 54),(9,.row (q0a r34) 43),(8,.row [.i6 0,.i6 1] 3),(7,.row [.i6 0,.i6 0] 3),(6,.row [.nils,.sl 4 0 1 1,.sl 5 0 1 1] 33),(5,.row [.i6 1] 3),(4,.row [.i6 0] 3),(3,.row [.iM q07 r7.Nodes] 24)],14⟩) rfl (q99 un22.h if54.h rfl rfl rfl rfl rfl rfl rfl) (z0p rfl (z0l 13 2) (pC (q6c n ([r49,r51,r53]) r55 h56) _) fn43 (RS.cl rfl (pC (q5d n r47 r55 r57 h58) _) fn21 ?_))))
 refine go ?_
 exact xC ⟨rfl,rfl⟩
 obtain rfl:=sI h69
 refine go ?_
 refine RS.g ?_
 refine RS.cl rfl (pC (q6o n 7 r45 h46) _) fn45 (z0p rfl (z0l 10 1) (pC (q6g n ([3,4]) r45 r47 h48) _) fn22 ?_)
 refine RS.g ?_
 refine z0p rfl (z0l 11 1) (pC (q0n n 0 ([3,1]) r49 h50) _) fn44 ?_
 refine RS.g ?_
 refine z0p rfl (z0l 12 1) (pC (q0n n 0 ([4,2]) r51 h52) _) fn44 (RS.cl rfl (z0q (args':=[.i6 7,.isl false []]) (.cons (.refl _) (.cons (.nil false) .nil)) (pC (q0n n 7 [] r53 h54)) _) fn44 (RS.w (u:=.sl 13 0 3 3) (σ':=⟨[(13,.row [.i6 r49.Typex,.iM q1w r49.Arcs,.i6 r51.Typex,.iM q1w r51.Arcs,.i6 r53.Typex,.iM q1w r53.Arcs] 54),(9,.row (q0a r34) 43),(8,.row [.i6 0,.i6 1] 3),(7,.row [.i6 0,.i6 0] 3),(6,.row [.nils,.sl 4 0 1 1,.sl 5 0 1 1] 33),(5,.row [.i6 1] 3),(4,.row [.i6 0] 3),(3,.row [.iM q07 r7.Nodes] 24)],14⟩) rfl (q99 un22.h if54.h rfl rfl rfl rfl rfl rfl rfl) (z0p rfl (z0l 13 2) (pC (q6c n ([r49,r51,r53]) r55 h56) _) fn43 (RS.cl rfl (pC (q5d n r47 r55 r57 h58) _) fn21 ?_))))
 refine go ?_
 exact xC ⟨rfl,rfl⟩
 exact gy h69
 exact gy h69
 exact gy h69
 obtain ⟨r9,h10,h28⟩:=q00 h28
 obtain ⟨r11,h12,h28⟩:=q00 h28
 rcases gB h28 with ⟨h13,h28⟩ | ⟨h13,h28⟩
 obtain rfl:=sI h28
 refine go ?_
 refine RS.cl rfl (pC (qb0 n r7 r9 h10) _) fn15 ?_
 refine RS.g ?_
 refine RS.g ?_
 refine RS.g ?_
 refine RS.cl rfl (vw (q7q n r9 ([[],[0],[1]]) r11 h12) (Gh.trans (z0l 4 1) (Gh.trans (z0l 5 1) (Gh.trans (z0w 6) (z0l 6 1))))) fn14 ?_
 refine go ?_
 exact xC ⟨rfl,rfl⟩
 obtain ⟨r14,h15,h28⟩:=q00 h28
 obtain ⟨r16,h17,h28⟩:=q00 h28
 rcases gB h28 with ⟨h18,h28⟩ | ⟨h18,h28⟩
 obtain rfl:=sI h28
 refine go ?_
 refine RS.cl rfl (pC (qb0 n r7 r9 h10) _) fn15 ?_
 refine RS.g ?_
 refine RS.g ?_
 refine RS.g ?_
 refine RS.cl rfl (vw (q7q n r9 ([[],[0],[1]]) r11 h12) (Gh.trans (z0l 4 1) (Gh.trans (z0l 5 1) (Gh.trans (z0w 6) (z0l 6 1))))) fn14 ?_
 refine go ?_
 refine RS.cl rfl (pC (qce n r7 r14 h15) _) fn18 ?_
 refine RS.g ?_
 refine RS.g ?_
 refine go ?_
 refine RS.g ?_
 refine RS.cl rfl (vw (q7d n r14 ([(q0j.mk ([1]) ([0,0]))]) r16 h17) (Gh.trans (z0l 7 1) (Gh.trans (z0l 8 1) (z0l 9 2)))) fn17 ?_
 refine go ?_
 exact xC ⟨rfl,rfl⟩
 obtain ⟨r19,h20,h28⟩:=q00 h28
 obtain ⟨r21,h22,h28⟩:=q00 h28
 obtain ⟨r23,h24,h28⟩:=q00 h28
 obtain ⟨r25,h26,h28⟩:=q00 h28
 obtain rfl:=sI h28
 refine go ?_
 refine RS.cl rfl (pC (qb0 n r7 r9 h10) _) fn15 ?_
 refine RS.g ?_
 refine RS.g ?_
 refine RS.g ?_
 refine RS.cl rfl (vw (q7q n r9 ([[],[0],[1]]) r11 h12) (Gh.trans (z0l 4 1) (Gh.trans (z0l 5 1) (Gh.trans (z0w 6) (z0l 6 1))))) fn14 ?_
 refine go ?_
 refine RS.cl rfl (pC (qce n r7 r14 h15) _) fn18 ?_
 refine RS.g ?_
 refine RS.g ?_
 refine go ?_
 refine RS.g ?_
 refine RS.cl rfl (vw (q7d n r14 ([(q0j.mk ([1]) ([0,0]))]) r16 h17) (Gh.trans (z0l 7 1) (Gh.trans (z0l 8 1) (z0l 9 2)))) fn17 ?_
 refine go ?_
 refine RS.g ?_
 refine z0p rfl (z0l 10 1) (pC (q0n n 1 ([5,0]) r19 h20) _) fn44 (RS.w (u:=.sl 11 0 1 1) (σ':=⟨[(11,.row (q07 r19) 54),(9,.row [.sl 7 0 1 1,.sl 8 0 2 2] 56),(8,.row [.i6 0,.i6 0] 3),(7,.row [.i6 1] 3),(6,.row [.nils,.sl 4 0 1 1,.sl 5 0 1 1] 33),(5,.row [.i6 1] 3),(4,.row [.i6 0] 3),(3,.row [.iM q07 r7.Nodes] 24)],12⟩) rfl (q99 un22.h if54.h rfl rfl rfl rfl rfl rfl rfl) (z0p rfl (z0l 11 2) (pC (q6c n ([r19]) r21 h22) _) fn43 (RS.cl rfl (pC (qce n r21 r23 h24) _) fn18 ?_)))
 refine RS.g ?_
 refine go ?_
 refine RS.g ?_
 refine RS.cl rfl (vw (q7d n r23 ([(q0j.mk [] ([5]))]) r25 h26) (Gh.trans (z0l 12 1) (Gh.trans (z0w 13) (z0l 13 2)))) fn17 ?_
 refine go ?_
 exact xC ⟨rfl,rfl⟩
def q4p (n:Nat) (p1:List q01):Option (q09) :=
 cond (decide ((p1.length:Int) > 12))
  (q03 (q38 n) fun r3 =>
  some r3)
  (q03 (q5c n p1) fun r5 =>
  cond (r5.2 != 0)
   (q03 (q38 n) fun r8 =>
   some r8)
   (some (q09.mk r5.1.Types r5.1.Feats)))
theorem qha (n:Nat) (p1:List q01) (r:q09) (hF:q4p n p1=some r):EvU Tryz.prog 24 [.isl false (List.map q02 p1)] ⟨[],0⟩ (fun u _=>u = .agg (q0a r)∧Bel 0 u):=by
 unfold q4p at hF
 refine bg1 18 fn24 ?_
 refine go ?_
 refine cF hF (fun h2 hF=>?_) (fun h2 hF=>?_)
 obtain ⟨r3,h4,hF⟩:=q00 hF
 refine go ?_
 refine RS.cl rfl (pC (qa4 n r3 h4) _) fn31 ?_
 refine go ?_
 obtain rfl:=sI hF
 exact rT (qid (qbm un43.h rfl (q2l if43.h) rfl rfl rfl) (q2r)) (z0s _ rfl)
 obtain ⟨r5,h6,hF⟩:=q00 hF
 refine go ?_
 refine RS.cl rfl (pC (qdo n p1 r5 h6) _) fn51 ?_
 refine go ?_
 refine cF hF (fun h7 hF=>?_) (fun h7 hF=>?_)
 obtain ⟨r8,h9,hF⟩:=q00 hF
 refine go ?_
 refine RS.cl rfl (pC (qa4 n r8 h9) _) fn31 ?_
 refine go ?_
 obtain rfl:=sI hF
 exact rT (qid (qbm un43.h rfl (q2l if43.h) rfl rfl rfl) (q2r)) (z0s _ rfl)
 refine go ?_
 obtain rfl:=sI hF
 exact rT (qid (qbm un43.h rfl (q2l if43.h) rfl rfl rfl) (q2r)) (z0s _ rfl)
def q5v (n:Nat) (p1:List q01) (p2:List UInt8):Option (Bool) :=
 cond (decide ((p2.length:Int) > 3000))
  (q03 (q1s n) fun r4 =>
  some r4)
  (q03 (q4p n p1) fun r6 =>
  q03 (q6f n r6 p2) fun r8 =>
  q03 (qaj n r6 p2) fun r10 =>
  q03 (cond (r8.2 == r10.2)
   (q03 (q49 n r8.1 r10.1) fun r13 =>
   cond r13
    (cond (r8.2 != 0)
     (q03 (q1s n) fun r17 =>
     some r17)
     (q03 (qbo n r6 r8.1) fun r19 =>
     cond (q0k r19 p2)
      (q03 (q1s n) fun r22 =>
      some r22)
      (some false)))
    (some false))
   (some false)) fun b24 =>
  some b24)
theorem qg1 (n:Nat) (p1:List q01) (p2:List UInt8) (r:Bool) (hF:q5v n p1 p2=some r):EvU Tryz.prog 6 [.isl false (List.map q02 p1),.str p2] ⟨[],0⟩ (fun u _=>u = .bool r∧Bel 0 u):=by
 unfold q5v at hF
 refine bg2 50 fn6 ?_
 refine go ?_
 refine RS.q (u:=.i6 (p2.length:Int)) rfl (qay rfl rfl rfl (by simp only [qlu,un9.h])) ?_
 refine go ?_
 refine cF hF (fun h3 hF=>?_) (fun h3 hF=>?_)
 obtain ⟨r4,h5,hF⟩:=q00 hF
 refine go ?_
 refine RS.cl rfl (pC (q5i n r4 h5) _) fn13 ?_
 exact gx hF
 obtain ⟨r6,h7,hF⟩:=q00 hF
 refine go ?_
 refine RS.cl rfl (pC (qha n p1 r6 h7) _) fn24 ?_
 obtain ⟨r8,h9,hF⟩:=q00 hF
 refine go ?_
 refine RS.cl rfl (pC (qb1 n r6 p2 r8 h9) _) fn26 ?_
 obtain ⟨r10,h11,hF⟩:=q00 hF
 refine go ?_
 refine RS.cl rfl (pC (qn4 n r6 p2 r10 h11) _) fn29 ?_
 obtain ⟨b24,h25,hF⟩:=q00 hF
 refine gn ?_
 refine z0k (fun tm σ=>tm=fr 50 [(4,.bool b24)]∧σ=⟨[(0,.row (q0a r6) 43)],1⟩) ?_ ?_
 rintro _ _ ⟨rfl,rfl⟩
 exact gx hF
 rcases gB h25 with ⟨h12,h25⟩ | ⟨h12,h25⟩
 obtain ⟨r13,h14,h25⟩:=q00 h25
 rcases gB h25 with ⟨h15,h25⟩ | ⟨h15,h25⟩
 rcases gB h25 with ⟨h16,h25⟩ | ⟨h16,h25⟩
 obtain ⟨r17,h18,h25⟩:=q00 h25
 obtain rfl:=sI h25
 refine go ?_
 refine RS.cl rfl (pC (q1h n r8.1 r10.1 r13 h14) _) fn28 ?_
 refine go ?_
 refine RS.cl rfl (pC (q5i n r17 h18) _) fn13 ?_
 refine go ?_
 exact xC ⟨rfl,rfl⟩
 obtain ⟨r19,h20,h25⟩:=q00 h25
 rcases gB h25 with ⟨h21,h25⟩ | ⟨h21,h25⟩
 obtain ⟨r22,h23,h25⟩:=q00 h25
 obtain rfl:=sI h25
 refine go ?_
 refine RS.cl rfl (pC (q1h n r8.1 r10.1 r13 h14) _) fn28 ?_
 refine go ?_
 refine RS.cl rfl (pC (q8t n r6 r8.1 r19 h20) _) fn25 ?_
 refine go ?_
 refine RS.w (u:=.bool (q0k r19 p2)) rfl (q6e rfl rfl rfl rfl) ?_
 refine go ?_
 refine RS.cl rfl (pC (q5i n r22 h23) _) fn13 ?_
 refine go ?_
 exact xC ⟨rfl,rfl⟩
 obtain rfl:=sI h25
 refine go ?_
 refine RS.cl rfl (pC (q1h n r8.1 r10.1 r13 h14) _) fn28 ?_
 refine go ?_
 refine RS.cl rfl (pC (q8t n r6 r8.1 r19 h20) _) fn25 ?_
 refine go ?_
 refine RS.w (u:=.bool (q0k r19 p2)) rfl (q6e rfl rfl rfl rfl) ?_
 refine go ?_
 exact xC ⟨rfl,rfl⟩
 obtain rfl:=sI h25
 refine go ?_
 refine RS.cl rfl (pC (q1h n r8.1 r10.1 r13 h14) _) fn28 ?_
 refine go ?_
 repeat refine RS.no (qif rfl rfl rfl) rfl rfl ?_
 refine go ?_
 exact xC ⟨rfl,rfl⟩
 obtain rfl:=sI h25
 refine go ?_
 repeat refine RS.no (qif rfl rfl rfl) rfl rfl ?_
 refine go ?_
 exact xC ⟨rfl,rfl⟩
end Go.Proofs
end
section
namespace Go.Proofs
open Go Go.Rx Go.Vx Go.Shelf Go.Sort
theorem qht:∀ a:List UInt8,q0k a a=true
 | []=>rfl
 | x::a=>by simp [q0k,qht a]
theorem qey:∀ a b:List UInt8,q0k a b=true↔a=b
 | [],[]=>by simp [q0k]
 | [],_::_=>by simp [q0k]
 | _::_,[]=>by simp [q0k]
 | x::a,y::b=>by
  have h:(x.toNat=y.toNat)↔x=y:=UInt8.toNat_inj
  simp only [q0k,beq_eq]
  by_cases e:x=y
  ·subst e; simp [qey a b]
  ·simp [e,mt h.1 e]
theorem qz8 (a b:Nat):Nat.blt a b=true↔a<b:=by
 unfold Nat.blt
 rw [Nat.ble_eq]; exact Iff.rfl
theorem blt_iff' (a b:Nat):Nat.blt a b=decide (a<b):=by
 rw [Bool.eq_iff_iff,qz8]; simp
theorem qeq:∀ a:List UInt8,q11 a a=false
 | []=>rfl
 | x::a=>by simp [q11,blt_iff',qeq a]
theorem qfi:∀ a b c:List UInt8,q11 a b=true→q11 b c=true→q11 a c=true
 | _,[],_,h,_=>by simp [q11] at h
 | _,_::_,[],_,h=>by simp [q11] at h
 | [],_::_,_::_,_,_=>by simp [q11]
 | x::a,y::b,z::c,h1,h2=>by
  simp only [q11,blt_iff',beq_eq] at *
  by_cases h:x.toNat<y.toNat
  ·by_cases h':y.toNat<z.toNat
   ·have:x.toNat<z.toNat:=by omega
    simp [this]
   ·simp only [h',decide_false,cond_false] at h2
    by_cases e:y.toNat=z.toNat
    ·have:x.toNat<z.toNat:=by omega
     simp [this]
    ·simp [e] at h2
  ·simp only [h,decide_false,cond_false] at h1
   by_cases e:x.toNat=y.toNat
   ·simp only [e,decide_true,cond_true] at h1
    by_cases h':y.toNat<z.toNat
    ·simp [e,h']
    ·simp only [h',decide_false,cond_false] at h2
     by_cases e':y.toNat=z.toNat
     ·simp only [e',decide_true,cond_true] at h2
      have:=qfi a b c h1 h2
      simp [e,e',this]
     ·simp [e'] at h2
   ·simp [e] at h1
theorem qfh:∀ a b:List UInt8,q11 a b=false→q11 b a=false→a=b
 | [],[],_,_=>rfl
 | [],_::_,h,_=>by simp [q11] at h
 | _::_,[],_,h=>by simp [q11] at h
 | x::a,y::b,h1,h2=>by
  simp only [q11,blt_iff',beq_eq] at *
  by_cases h:x.toNat<y.toNat
  ·simp [h] at h1
  ·by_cases h':y.toNat<x.toNat
   ·simp [h'] at h2
   ·have e:x.toNat=y.toNat:=by omega
    simp only [e,Nat.lt_irrefl,decide_false,cond_false,decide_true,cond_true] at h1 h2
    rw [qfh a b h1 h2,UInt8.toNat_inj.1 e]
theorem q04 {α β:Type} (a:α) (k:α→Option β):q03 (some a) k=k a:=rfl
theorem wr {z:Int} (h1 : -9223372036854775808≤z) (h2:z≤9223372036854775807):IntKind.i64.wrap z=z:=qiv (by omega) (by omega)
theorem wr1 {i len:Nat} (h:i<len) (hl:len≤9223372036854775807):IntKind.i64.wrap ((i:Int)+1)=((i+1:Nat):Int):=by rw [wr (by omega) (by omega)]; simp
theorem wrn {z:Int} {k:Nat} (h:z=k) (h2:k≤9223372036854775807):IntKind.i64.wrap z=(k:Int):=by subst h; exact wr (by omega) (by omega)
theorem q35 {α:Type} {l:List α} {i:Nat} (h:i<l.length):∃ x,l[i]? = some x∧x∈l:=⟨l[i],by simp [h],by simp⟩
theorem q0m {α:Type} {l:List α} {i:Nat} {x:α} (h:l[i]? = some x):l.take (i+1)=l.take i++[x]:=by rw [List.take_add_one,h]; rfl
theorem drop_cons' {α:Type} {l:List α} {i:Nat} {x:α} (h:l[i]? = some x):l.drop i=x::l.drop (i+1):=by
 have hlt:i<l.length:=(List.getElem?_eq_some_iff.1 h).1
 rw [List.drop_eq_getElem_cons hlt]
 congr 1
 rw [List.getElem?_eq_getElem hlt] at h
 exact Option.some.inj h
theorem dlt {i n:Nat} (h:i<n):decide ((i:Int)<(n:Int))=true:=by simp; omega
theorem qs2 {i n:Nat} (h:¬ i<n):decide ((i:Int)<(n:Int))=false:=by simp; omega
theorem drop_nil' {α:Type} {l:List α} {i:Nat} (h:¬ i<l.length):l.drop i=[]:=List.drop_eq_nil_of_le (by omega)
section
variable {α:Type} {c:α→α→Int}
end
end Go.Proofs
end
section
namespace Go.Vx
open Go Go.Rx
section
variable {K V:Type} [DecidableEq K]
variable {eq:K→K→Bool} (he:∀ a b,eq a b=true↔a=b)
include he
omit he [DecidableEq K] in
theorem qrl (v:V):∀ (es:List (K×V×Nat)) (i:Nat),(qml v es i).map (fun e=>e.1)=es.map (fun e=>e.1)∧(qml v es i).map (fun e=>e.2.2)=es.map (fun e=>e.2.2)
 | [],i=>by simp [qml]
 | e::es,0=>by simp [qml]
 | e::es,i+1=>by simp [qml,qrl v es i]
structure MInv (m:qem K V):Prop where
 keys:(m.es.map (fun e=>e.1)).Nodup
 borns:(m.es.map (fun e=>e.2.2)).Nodup
 lt:∀ e∈m.es,e.2.2<m.cl
omit he [DecidableEq K] in
theorem MInv.set {m:qem K V} (h:MInv m) (v:V) (i:Nat):MInv (⟨qml v m.es i,m.cl⟩:qem K V):=by
 obtain ⟨h1,h2⟩:=qrl v m.es i
 refine ⟨by simp only [h1]; exact h.keys,by simp only [h2]; exact h.borns,fun e he=>?_⟩
 have:e.2.2∈(qml v m.es i).map (fun e=>e.2.2):=List.mem_map.2 ⟨e,he,rfl⟩
 rw [h2] at this
 obtain ⟨e',g1,g2⟩:=List.mem_map.1 this
 have:=h.lt e' g1
 simp only at g2 ⊢
 omega
end
end Go.Vx
end
section
namespace Go.Proofs
open Go Go.Rx Go.Vx Go.Shelf Go.Sort
set_option maxRecDepth 10000
theorem ex_ok (m:Nat):q1s (m+200)=some true:=by kernel_rfl
theorem ex_n {n:Nat} (h:200≤n):q1s n=some true:=by
 have:=ex_ok (n - 200)
 rwa [Nat.sub_add_cancel h] at this
theorem eqL {p q:List Int} (F:Nat→Int→Option Bool) (hF:∀ m (z:Int),F (m+1) z=cond (decide (z<(p.length:Int))) (q03 (q0o p z) fun x=>q03 (q0o q z) fun y=>cond (x != y) (some false) (F m (IntKind.i64.wrap (z+1)))) (some true)) (hl:p.length=q.length) (hp:p.length≤9223372036854775807) :
  ∀ (m i:Nat),p.length - i<m→i≤p.length→F m i=some (decide (p.drop i=q.drop i))
 | 0,i,hm,_=>by omega
 | m+1,i,hm,hi=>by
  rw [hF]
  by_cases hlt:i<p.length
  ·obtain ⟨x,hx,_⟩:=q35 hlt
   obtain ⟨y,hy,_⟩:=q35 (l:=q) (i:=i) (by omega)
   simp only [dlt hlt,cond_true,q0b,hx,hy,q04,wr1 hlt hp,drop_cons' hx,drop_cons' hy,List.cons.injEq]
   by_cases e:x=y
   ·subst e
    simp only [bne_self_eq_false,cond_false,true_and]
    exact eqL F hF hl hp m (i+1) (by omega) (by omega)
   ·have:(x != y)=true:=by simpa using e
    simp [this,e]
  ·simp only [qs2 hlt,cond_false,drop_nil' hlt,drop_nil' (show ¬ i<q.length by omega),decide_true]
theorem eqP {p q:List Int} (F:Nat→Int→Option Bool) (hF:∀ m (z:Int),F (m+1) z=cond (decide (z<(p.length:Int))) (q03 (q0o p z) fun x=>q03 (q0o q z) fun y=>cond (x != y) (some false) (F m (IntKind.i64.wrap (z+1)))) (some true)) (hp:p.length≤1000000) {n:Nat} (hn:p.length<n) :
  cond ((p.length:Int) != (q.length:Int)) (some false) (F n 0)=some (decide (p=q)):=by
 by_cases hl:p.length=q.length
 ·have h1:((p.length:Int) != (q.length:Int))=false:=by simp [hl]
  have h2:=eqL F hF hl (by omega) n 0 (by omega) (by omega)
  rw [Int.ofNat_zero,List.drop_zero,List.drop_zero] at h2
  rw [h1,cond_false,h2]
 ·have h1:((p.length:Int) != (q.length:Int))=true:=by simp; omega
  have h3:p≠q:=fun h=>hl (by rw [h])
  simp [h1,h3]
theorem qq9 {p q:List Int} (hp:p.length≤1000000) {n:Nat} (hn:p.length<n):q49 n p q=some (decide (p=q)):=eqP (q3s p q) (fun m z=>rfl) hp hn
def pr (o:Option Int):Int×Bool:=match o with | some v=>(v,true) | none=>(0,false)
end Go.Proofs
end
section
namespace Go.Proofs
open Go Go.Rx Go.Vx Go.Shelf Go.Sort
set_option maxRecDepth 100000
def preF:List q0s:=[⟨[65,82,71,83],12⟩,⟨[67,79,78,83],11⟩,⟨[70,73,82,83,84],3⟩,⟨[72,73,71,72],9⟩,⟨[73,78,68,69,88],11⟩,⟨[76,65,66,69,76],10⟩,⟨[76,65,83,84],4⟩,⟨[76,73,83,84],4⟩,⟨[76,79,87],9⟩,⟨[82,69,76,83],11⟩,⟨[82,69,83,84],3⟩,⟨[83,69,77],12⟩,⟨[84,79,80],11⟩]
theorem pre_ok (m:Nat):(q38 (m+200)).map q09.Feats=some preF:=by kernel_rfl
theorem pre_n {n:Nat} (h:200≤n):∃ ty,q38 n=some ⟨ty,preF⟩:=by
 have:=pre_ok (n - 200)
 rw [Nat.sub_add_cancel h] at this
 cases e:q38 n with
 | none=>rw [e] at this; cases this
 | some x =>
  rw [e] at this
  cases x with
  | mk ty fs=>cases this; exact ⟨ty,rfl⟩
end Go.Proofs
end
section
namespace Go.Proofs
open Go Go.Rx Go.Vx Go.Shelf Go.Sort
set_option maxRecDepth 10000
abbrev Str:=List UInt8
theorem qap {α S R:Type} {l:List α} (hl:l.length≤9223372036854775807) {F:Nat→Int→S→Option R} (I:Nat→S→Prop) {Q:R→Prop}
  (h:∀ (m i:Nat) (x:α) (s:S),l[i]? = some x→i<l.length→decide ((i:Int)<(l.length:Int))=true→IntKind.i64.wrap ((i:Int)+1)=((i+1:Nat):Int)→I i s→(∀ s',I (i+1) s'→∃ r,F m ((i+1:Nat):Int) s'=some r∧Q r)→∃ r,F (m+1) (i:Int) s=some r∧Q r)
  (hK:∀ (m:Nat) (s:S),decide ((l.length:Int)<(l.length:Int))=false→I l.length s→∃ r,F (m+1) (l.length:Int) s=some r∧Q r) :
  ∀ (m i:Nat) (s:S),l.length - i<m→i≤l.length→I i s→∃ r,F m (i:Int) s=some r∧Q r
 | 0,i,s,hm,_,_=>by omega
 | m+1,i,s,hm,hi,hs=>by
  by_cases hlt:i<l.length
  ·obtain ⟨x,hx,_⟩:=q35 hlt
   exact h m i x s hx hlt (dlt hlt) (wr1 hlt hl) hs fun s' hs'=>qap hl I h hK m (i+1) s' (by omega) (by omega) hs'
  ·have:i=l.length:=by omega
   subst this
   exact hK m s (qs2 (by omega)) hs
theorem ned {β:Type} {p:Prop} [Decidable p] {k:Option β} (h:p):q0y p k=k:=if_pos h
theorem beqF {a b:Str} (h:a≠b):q0k a b=false:=by
 cases e:q0k a b with
 | true=>exact absurd ((qey _ _).1 e) h
 | false=>rfl
theorem qz6 (a b:Str):q0k a b=decide (a=b):=by
 by_cases h:a=b
 ·rw [(qey _ _).2 h]; simp [h]
 ·rw [beqF h]; simp [h]
theorem qtj {α:Type} {l:List α} {a b:Nat} (h1:a≤b) (h2:b≤l.length):qnu l (a:Int) (b:Int)=some ((l.drop a).take (b - a)):=by
 unfold qnu
 have:0≤(a:Int)∧(a:Int)≤(b:Int)∧(b:Int)≤(l.length:Int):=by omega
 simp [this,List.drop_take]
theorem qwj {α:Type} {l:List α} {b:Nat} (h2:b≤l.length):qnu l 0 (b:Int)=some (l.take b):=by
 have:=qtj (l:=l) (Nat.zero_le b) h2
 rwa [Int.ofNat_zero,List.drop_zero,Nat.sub_zero] at this
theorem cut_e {α:Type} {l:List α} {a:Nat} (h2:a≤l.length):qnu l (a:Int) (l.length:Int)=some (l.drop a):=by
 have:=qtj (l:=l) h2 (Nat.le_refl _)
 rwa [List.take_of_length_le (by simp)] at this
theorem z00 (n:Nat) (z:Int) (b:Bool):∃ r,q7m n z b=some r:=by
 simp only [q7m,q3f,qa7,qa6]
 cases decide (z ≥ 48)<;>cases decide (z≤57)<;>cases (z == 45)<;>cases b<;>cases decide (z ≥ 65)<;>cases decide (z≤90)<;>cases decide (z ≥ 97)<;>cases decide (z≤122)<;>exact ⟨_,rfl⟩
theorem qgt {s:Str} {i:Nat} {x:UInt8} (h:s[i]? = some x):qne s (i:Int)=some (x.toNat:Int):=by
 have:=(List.getElem?_eq_some_iff.1 h).1
 have h2:0≤(i:Int)∧(i:Int)<(s.length:Int):=by omega
 simp [qne,h2,h]
theorem qr4 (s:Str) (b:Bool) {n:Nat} (hn:40≤n):∃ r,q66 n s b=some r∧(r=true→0<s.length∧s.length≤32):=by
 unfold q66
 by_cases h1:(s.length:Int)<1
 ·simp only [h1,decide_true,cond_true,q04]; exact ⟨false,rfl,fun h=>by cases h⟩
 ·by_cases h2:(s.length:Int) > 32
  ·simp only [h1,h2,decide_true,decide_false,cond_true,cond_false,q04]; exact ⟨false,rfl,fun h=>by cases h⟩
  ·obtain ⟨x,hx,_⟩:=q35 (show 0<s.length by omega)
   have h3:=qgt hx
   rw [Int.ofNat_zero] at h3
   have hd:∃ r,q3f n (x.toNat:Int)=some r:=by
    unfold q3f
    cases decide ((x.toNat:Int) ≥ 48)<;>exact ⟨_,rfl⟩
   obtain ⟨c,hc⟩:=hd
   have key:=qap (l:=s) (by omega) (F:=fun m z (_:Unit)=>q23 s b n m z) (fun _ _=>True) (Q:=fun r=>True)
    (fun m i x _ hx hlt hd hw _ ih=>by
     obtain ⟨r,hr⟩:=z00 n (x.toNat:Int) b
     obtain ⟨q,hq,_⟩:=ih () trivial
     simp only [q23,hd,cond_true,qgt hx,q04,hr,hw]
     cases r with
     | false=>exact ⟨_,rfl,trivial⟩
     | true=>exact ⟨q,hq,trivial⟩)
    (fun m _ hd _=>by simp only [q23,hd,cond_false,q5l]; exact ⟨_,rfl,trivial⟩) n 0 () (by omega) (by omega) trivial
   obtain ⟨q,hq,_⟩:=key
   rw [Int.ofNat_zero] at hq
   simp only [h1,h2,decide_false,cond_false,h3,q04,hc]
   cases c with
   | true=>simp only [cond_true,q04]; exact ⟨false,rfl,fun h=>by cases h⟩
   | false =>
    simp only [cond_false,q04]
    cases ((x.toNat:Int) == 45) with
    | true=>exact ⟨false,rfl,fun h=>by cases h⟩
    | false=>exact ⟨q,hq,fun _=>by omega⟩
theorem qy8 {d:List q01} (hd:d.length≤1000000) {s:Str}:∀ (m i:Nat),d.length - i<m→i≤d.length →
  (∃ j x,i≤j∧d[j]? = some x∧x.Name=s∧(∀ k y,i≤k→k<j→d[k]? = some y→y.Name≠s)∧q3y d s m i=some (j:Int))∨((∀ x∈d.drop i,x.Name≠s)∧q3y d s m i=some (-1))
 | 0,i,hm,_=>by omega
 | m+1,i,hm,hi=>by
  unfold q3y
  by_cases hlt:i<d.length
  ·obtain ⟨x,hx,_⟩:=q35 hlt
   simp only [dlt hlt,cond_true,q0b,hx,q04,wr1 hlt (show d.length≤9223372036854775807 by omega),qz6]
   by_cases hb:x.Name=s
   ·simp only [hb,decide_true,cond_true]
    exact .inl ⟨i,x,Nat.le_refl _,hx,hb,fun k y h1 h2=>by omega,rfl⟩
   ·simp only [hb,decide_false,cond_false]
    rcases qy8 hd (s:=s) m (i+1) (by omega) (by omega) with ⟨j,y,h1,h2,h3,h4,h5⟩ | ⟨h1,h2⟩
    ·refine .inl ⟨j,y,by omega,h2,h3,fun k z hk1 hk2 hz=>?_,h5⟩
     by_cases e:k=i
     ·subst e; rw [hx] at hz; cases hz; exact hb
     ·exact h4 k z (by omega) hk2 hz
    ·refine .inr ⟨fun y hy=>?_,h2⟩
     rw [drop_cons' hx] at hy
     rcases List.mem_cons.1 hy with rfl | hy
     ·exact hb
     ·exact h1 y hy
  ·simp only [qs2 hlt,cond_false,q9n,drop_nil' hlt]
   exact .inr ⟨fun x hx=>(List.not_mem_nil hx).elim,by simp⟩
theorem qby {d:List q01} (hd:d.length≤1000000) (s:Str) {n:Nat} (hn:d.length<n) :
  (∃ (j:Nat) (x:q01),d[j]? = some x∧x.Name=s∧(∀ k y,k<j→d[k]? = some y→y.Name≠s)∧q3u n d s=some (j:Int))∨((∀ x∈d,x.Name≠s)∧q3u n d s=some (-1)):=by
 rcases qy8 hd (s:=s) n 0 (by omega) (by omega) with ⟨j,y,_,h2,h3,h4,h5⟩ | ⟨h1,h2⟩
 ·exact .inl ⟨j,y,h2,h3,fun k z hk hz=>h4 k z (by omega) hk hz,h5⟩
 ·exact .inr ⟨by rw [List.drop_zero] at h1; exact h1,h2⟩
theorem qsz {l:List Str} (hl:l.length≤1000000) {s:Str}:∀ (m i:Nat),l.length - i<m→i≤l.length→q4a l s m i=some (decide (s∈l.drop i))
 | 0,i,hm,_=>by omega
 | m+1,i,hm,hi=>by
  unfold q4a
  by_cases hlt:i<l.length
  ·obtain ⟨x,hx,_⟩:=q35 hlt
   simp only [dlt hlt,cond_true,q0b,hx,q04,drop_cons' hx,List.mem_cons,wr1 hlt (show l.length≤9223372036854775807 by omega),qz6]
   by_cases e:x=s
   ·simp [e]
   ·have e':¬ s=x:=fun h=>e h.symm
    simp only [e,e',decide_false,cond_false,false_or]
    exact qsz hl m (i+1) (by omega) (by omega)
  ·simp only [qs2 hlt,cond_false,q83,drop_nil' hlt,List.not_mem_nil,decide_false]
theorem q9b {l:List Str} (hl:l.length≤1000000) (s:Str) {n:Nat} (hn:l.length<n):q2g n l s=some (decide (s∈l)):=by
 have:=qsz hl (s:=s) n 0 (by omega) (by omega)
 rw [Int.ofNat_zero,List.drop_zero] at this
 exact this
def AscS (l:List Str):Prop:=l.Pairwise fun a b=>q11 a b=true
theorem AscS.nodup {l:List Str} (h:AscS l):l.Nodup:=h.imp fun {a b} h e=>by subst e; rw [qeq] at h; cases h
theorem qyq {l:List Str} (hl:l.length≤1000000) (ha:AscS l) {s:Str} {j:Nat} (hj:j≤l.length) (hb:∀ x∈l.take j,q11 x s=true) (hx:∀ x,l[j]? = some x→q11 x s=false):∃ out,q8v l s j=some out∧(∀ x,x∈out↔x=s∨x∈l)∧out.length≤l.length+1∧AscS out:=by
 unfold q8v
 have tl:(l.take j).length=j:=by simp; omega
 have dl:(l.drop j).length=l.length - j:=by simp
 have ins:(∀ x∈l.drop j,q11 s x=true)→∃ out,(q03 (qnu l 0 (j:Int)) fun l14 =>
  q0y (l14.length*16≤140737488355328∧l14.length≤140737488355328) (
  q0y ((l14.length+1)*16≤140737488355328∧l14.length+1≤140737488355328) (
  q03 (qnu l (j:Int) (l.length:Int)) fun l20 =>
  q0y (((l14++[s]).length+l20.length)*16≤140737488355328∧(l14++[s]).length+l20.length≤140737488355328) (
  some ((l14++[s])++l20)))))=some out∧(∀ x,x∈out↔x=s∨x∈l)∧out.length≤l.length+1∧AscS out:=by
  intro hd
  refine ⟨(l.take j++[s])++l.drop j,?_,fun x=>?_,by simp; omega,?_⟩
  ·rw [qwj hj,q04,ned (by rw [tl]; omega),ned (by rw [tl]; omega),cut_e hj,q04,ned (by rw [List.length_append,tl,dl]; simp; omega)]
  ·have:=List.take_append_drop j l
   constructor
   ·intro h
    simp only [List.mem_append,List.mem_singleton] at h
    rcases h with (h | h) | h
    ·exact .inr (List.mem_of_mem_take h)
    ·exact .inl h
    ·exact .inr (List.mem_of_mem_drop h)
   ·rintro (h | h)
    ·simp [h]
    ·rw [← this] at h
     simp only [List.mem_append] at h ⊢
     rcases h with h | h
     ·exact .inl (.inl h)
     ·exact .inr h
  ·unfold AscS at *
   rw [← List.take_append_drop j l,List.pairwise_append] at ha
   rw [List.pairwise_append,List.pairwise_append]
   refine ⟨⟨ha.1,by simp,fun a h1 b h2=>by simp at h2; subst h2; exact hb a h1⟩,ha.2.1,fun a h1 b h2=>?_⟩
   rcases List.mem_append.1 h1 with h1 | h1
   ·exact ha.2.2 a h1 b h2
   ·simp at h1; subst h1; exact hd b h2
 by_cases hlt:j<l.length
 ·obtain ⟨x,hxj,hxm⟩:=q35 hlt
  have h1:=hx x hxj
  simp only [dlt hlt,cond_true,q0b,hxj,q04,qz6]
  by_cases e:x=s
  ·subst e
   simp only [decide_true,cond_true]
   exact ⟨l,rfl,fun y=>⟨fun h=>.inr h,fun h=>h.elim (fun h=>h ▸ hxm) id⟩,by omega,ha⟩
  ·simp only [e,decide_false,cond_false]
   have h2:q11 s x=true:=by
    cases h3:q11 s x with
    | true=>rfl
    | false=>exact absurd (qfh x s h1 h3) e
   refine ins fun y hy=>?_
   rw [drop_cons' hxj] at hy
   rcases List.mem_cons.1 hy with rfl | hy
   ·exact h2
   ·have:l=l.take (j+1)++l.drop (j+1):=(List.take_append_drop _ _).symm
    unfold AscS at ha
    rw [this,List.pairwise_append] at ha
    exact qfi _ _ _ h2 (ha.2.2 x (by rw [q0m hxj]; simp) y hy)
 ·simp only [qs2 hlt,cond_false,q04]
  exact ins fun y hy=>by rw [drop_nil' hlt] at hy; cases hy
theorem put_L {l:List Str} (hl:l.length≤1000000) (ha:AscS l) {s:Str}:∀ (m i:Nat),l.length - i<m→i≤l.length→(∀ x∈l.take i,q11 x s=true)→∃ out,q6k l s m i=some out∧(∀ x,x∈out↔x=s∨x∈l)∧out.length≤l.length+1∧AscS out
 | 0,i,hm,_,_=>by omega
 | m+1,i,hm,hi,hb=>by
  unfold q6k
  by_cases hlt:i<l.length
  ·obtain ⟨x,hx,_⟩:=q35 hlt
   simp only [dlt hlt,cond_true,q0b,hx,q04,wr1 hlt (show l.length≤9223372036854775807 by omega)]
   cases hbl:q11 x s with
   | true =>
    simp only [cond_true]
    refine put_L hl ha m (i+1) (by omega) (by omega) fun y hy=>?_
    rw [q0m hx] at hy
    rcases List.mem_append.1 hy with hy | hy
    ·exact hb y hy
    ·simp at hy; subst hy; exact hbl
   | false=>simp only [cond_false]; exact qyq hl ha hi hb fun y hy=>by rw [hx] at hy; cases hy; exact hbl
  ·simp only [qs2 hlt,cond_false,q04]
   exact qyq hl ha hi hb fun y hy=>by have:=(List.getElem?_eq_some_iff.1 hy).1; omega
theorem qm0 {l:List Str} (hl:l.length≤1000000) (ha:AscS l) (s:Str) {n:Nat} (hn:l.length<n):∃ out,q6z n l s=some out∧(∀ x,x∈out↔x=s∨x∈l)∧out.length≤l.length+1∧AscS out:=by
 have:=put_L hl ha (s:=s) n 0 (by omega) (by omega) (by simp)
 rw [Int.ofNat_zero] at this
 exact this
structure qnm (l0 l:List Str) (out:List Str):Prop where
 mem:∀ x,x∈out↔x∈l0∨x∈l
 len:out.length≤l0.length+l.length
 asc:AscS out
theorem qnm.next {l0 l out out':List Str} {s:Str} (h:qnm l0 l out) (h1:∀ x,x∈out'↔x=s∨x∈out) (h2:out'.length≤out.length+1) (h3:AscS out'):qnm l0 (l++[s]) out':=by
 refine ⟨fun x=>?_,by have:=h.len; simp; omega,h3⟩
 rw [h1,h.mem]
 simp only [List.mem_append,List.mem_singleton]
 constructor
 ·rintro (h | h | h)
  ·exact .inr (.inr h)
  ·exact .inl h
  ·exact .inr (.inl h)
 ·rintro (h | h | h)
  ·exact .inr (.inl h)
  ·exact .inr (.inr h)
  ·exact .inl h
theorem qnm.nil {l:List Str} (h:AscS l):qnm l [] l:=⟨fun x=>by simp,by simp,h⟩
theorem names_ok {d:List q01} (hd:d.length≤1000) {n:Nat} (hn:5000≤n):∃ out,qae n d=some out∧qnm [] (d.map q01.Name) out:=by
 have:=qap (l:=d) (by omega) (F:=fun m z s=>q3g d n m s z) (fun i s=>qnm [] ((d.take i).map q01.Name) s) (Q:=fun out=>qnm [] (d.map q01.Name) out)
  (fun m i x s hx hlt hd' hw hI ih=>by
   have hl:=hI.len
   simp at hl
   obtain ⟨o,h1,h2,h3,h4⟩:=qm0 (l:=s) (by omega) hI.asc x.Name (show s.length<n by omega)
   simp only [q3g,hd',cond_true,q0b,hx,q04,h1,hw]
   exact ih o (by rw [q0m hx,List.map_append]; exact hI.next h2 h3 h4))
  (fun m s hd' hI=>by
   simp only [q3g,hd',cond_false,q88]
   rw [List.take_of_length_le (Nat.le_refl _)] at hI
   exact ⟨s,rfl,hI⟩) n 0 [] (by omega) (by omega) (qnm.nil List.Pairwise.nil)
 rw [Int.ofNat_zero] at this
 exact this
theorem qxm {d:List q01} (hd:d.length≤12) {n:Nat} (hn:5000≤n):∃ e,qaf n d=some e∧(e=0→∀ x∈d,x.Supers.length≤256∧x.Feats.length≤256):=by
 have:=qap (l:=d) (by omega) (F:=fun m z (_:Unit)=>q3j d m z) (fun i _=>∀ x∈d.take i,x.Supers.length≤256∧x.Feats.length≤256) (Q:=fun e=>e=0→∀ x∈d,x.Supers.length≤256∧x.Feats.length≤256)
  (fun m i x _ hx hlt hd' hw hI ih=>by
   simp only [q3j,hd',cond_true,q0b,hx,q04,hw]
   by_cases h1:(x.Supers.length:Int) > 256
   ·simp only [h1,decide_true,cond_true,q04]; exact ⟨7,rfl,fun h=>by cases h⟩
   ·by_cases h2:(x.Feats.length:Int) > 256
    ·simp only [h1,h2,decide_true,decide_false,cond_true,cond_false,q04]; exact ⟨7,rfl,fun h=>by cases h⟩
    ·simp only [h1,h2,decide_false,cond_false,q04]
     refine ih () fun y hy=>?_
     rw [q0m hx] at hy
     rcases List.mem_append.1 hy with hy | hy
     ·exact hI y hy
     ·simp at hy; subst hy; omega)
  (fun m _ hd' hI=>by
   simp only [q3j,hd',cond_false,q8c]
   rw [List.take_of_length_le (Nat.le_refl _)] at hI
   exact ⟨0,rfl,fun _=>hI⟩) n 0 () (by omega) (by omega) (by simp)
 rw [Int.ofNat_zero] at this
 have h:¬ (d.length:Int) > 256:=by omega
 simp only [qaf,h,decide_false,cond_false]
 exact this
theorem qzv (s:Str) {n:Nat} (hn:40≤n):∃ r,qbq n s=some r∧(r=true→0<s.length∧s.length≤32):=by
 obtain ⟨r,h1,h2⟩:=qr4 s false hn
 exact ⟨r,by simp [qbq,h1,q04],h2⟩
structure qnl (d:List q01):Prop where
 nod:(d.map q01.Name).Nodup
 len:∀ x∈d,0<x.Name.length∧x.Name.length≤32
theorem qtl {d:List q01} (hd:d.length≤12) {n:Nat} (hn:5000≤n):∃ e,qcm n d=some e∧(e=0→qnl d):=by
 have:=qap (l:=d) (by omega) (F:=fun m z (_:Unit)=>q3h d n m z) (fun i _=>qnl (d.take i)) (Q:=fun e=>e=0→qnl d)
  (fun m i x _ hx hlt hd' hw hI ih=>by
   obtain ⟨r,h1,h2⟩:=qzv x.Name (show 40≤n by omega)
   simp only [q3h,hd',cond_true,q0b,hx,q04,hw,h1]
   cases r with
   | false=>exact ⟨1,rfl,fun h=>by cases h⟩
   | true =>
    simp only [Bool.not_true,cond_false]
    rcases qby (d:=d) (by omega) x.Name (show d.length<n by omega) with ⟨j,y,g1,g2,g3,g4⟩ | ⟨g1,g2⟩
    ·simp only [g4,q04]
     by_cases hj:(j:Int)<(i:Int)
     ·simp only [hj,decide_true,cond_true]; exact ⟨4,rfl,fun h=>by cases h⟩
     ·simp only [hj,decide_false,cond_false]
      refine ih () ?_
      rw [q0m hx]
      refine ⟨?_,fun z hz=>?_⟩
      ·rw [List.map_append,List.nodup_append]
       refine ⟨hI.nod,by simp,fun a ha b hb e=>?_⟩
       simp at hb
       subst hb
       obtain ⟨z,hz,e2⟩:=List.mem_map.1 ha
       obtain ⟨k,hk,e3⟩:=List.mem_iff_getElem.1 hz
       rw [List.length_take] at hk
       rw [List.getElem_take] at e3
       exact g3 k z (by omega) (by rw [List.getElem?_eq_getElem (by omega),e3]) (e2.trans e)
      ·rcases List.mem_append.1 hz with hz | hz
       ·exact hI.len z hz
       ·simp at hz; subst hz; exact h2 rfl
    ·exact absurd rfl (g1 x (List.mem_of_getElem? hx)))
  (fun m _ hd' hI=>by
   simp only [q3h,hd',cond_false,q8a]
   rw [List.take_of_length_le (Nat.le_refl _)] at hI
   exact ⟨0,rfl,fun _=>hI⟩) n 0 () (by omega) (by omega) ⟨by simp,by simp⟩
 rw [Int.ofNat_zero] at this
 exact this
def Dcl (d:List q01) (s:Str):Prop:=∃ x∈d,x.Name=s
theorem qme {d:List q01} (hd:d.length≤1000000) {s:Str} (h:Dcl d s) {n:Nat} (hn:d.length<n):∃ (j:Nat) (x:q01),d[j]? = some x∧x.Name=s∧q3u n d s=some (j:Int):=by
 rcases qby hd s hn with ⟨j,x,h1,h2,_,h4⟩ | ⟨h1,_⟩
 ·exact ⟨j,x,h1,h2,h4⟩
 ·obtain ⟨x,hx,e⟩:=h
  exact absurd e (h1 x hx)
def SupI (d:List q01) (x:q01):Prop:=(∀ s∈x.Supers,Dcl d s)∧x.Supers.Nodup
theorem qvo {d:List q01} (hd:d.length≤12) (hs:∀ x∈d,x.Supers.length≤256) {n:Nat} (hn:5000≤n):∃ e,qb4 n d=some e∧(e=0→∀ x∈d,SupI d x):=by
 have:=qap (l:=d) (by omega) (F:=fun m z (_:Unit)=>q1e d n m z) (fun i _=>∀ x∈d.take i,SupI d x) (Q:=fun e=>e=0→∀ x∈d,SupI d x)
  (fun m i x _ hx hlt hd' hw hI ih=>by
   have hxm:=List.mem_of_getElem? hx
   have hxs:=hs x hxm
   simp only [q1e,hd',cond_true,q0b,hx,q04]
   have:=qap (l:=x.Supers) (by omega) (F:=fun m' z (_:Unit)=>q2z d n i (q1e d n m) x m' z) (fun k _=>(∀ s∈x.Supers.take k,Dcl d s)∧(x.Supers.take k).Nodup) (Q:=fun e=>e=0→∀ x∈d,SupI d x)
    (fun m' k s _ hsx hlt2 hd2 hw2 hI2 ih2=>by
     simp only [q2z,hd2,cond_true,q0b,hsx,q04,hw2]
     rcases qby (d:=d) (by omega) s (show d.length<n by omega) with ⟨j,y,g1,g2,g3,g4⟩ | ⟨g1,g2⟩
     ·have hj:¬ (j:Int)<0:=by omega
      have hal:=q9b (l:=x.Supers.take k) (by simp; omega) s (n:=n) (by simp; omega)
      simp only [g4,q04,hj,decide_false,cond_false,qwj (show k≤x.Supers.length by omega),hal]
      by_cases hm:s∈x.Supers.take k
      ·simp only [hm,decide_true,cond_true]; exact ⟨4,rfl,fun h=>by cases h⟩
      ·simp only [hm,decide_false,cond_false]
       refine ih2 () ?_
       rw [q0m hsx]
       refine ⟨fun t ht=>?_,?_⟩
       ·rcases List.mem_append.1 ht with ht | ht
        ·exact hI2.1 t ht
        ·simp at ht; subst ht; exact ⟨y,List.mem_of_getElem? g1,g2⟩
       ·rw [List.nodup_append]
        exact ⟨hI2.2,by simp,fun a ha b hb e=>by simp at hb; subst hb; subst e; exact hm ha⟩
     ·simp only [g2,q04]
      exact ⟨5,rfl,fun h=>by cases h⟩)
    (fun m' _ hd2 hI2=>by
     simp only [q2z,hd2,cond_false,q73,hw]
     rw [List.take_of_length_le (Nat.le_refl _)] at hI2
     refine ih () fun y hy=>?_
     rw [q0m hx] at hy
     rcases List.mem_append.1 hy with hy | hy
     ·exact hI y hy
     ·simp at hy; subst hy; exact hI2) n 0 () (by omega) (by omega) ⟨by simp,by simp⟩
   rw [Int.ofNat_zero] at this
   exact this)
  (fun m _ hd' hI=>by
   simp only [q1e,hd',cond_false,q72]
   rw [List.take_of_length_le (Nat.le_refl _)] at hI
   exact ⟨0,rfl,fun _=>hI⟩) n 0 () (by omega) (by omega) (by simp)
 rw [Int.ofNat_zero] at this
 exact this
theorem qxk {x:q01} (hs:x.Supers.length≤256) {l:List Str} (hl:l.length≤1000) {n:Nat} (hn:5000≤n):qcn n x l=some (decide (∀ s∈x.Supers,s∈l)):=by
 have:=qap (l:=x.Supers) (by omega) (F:=fun m z (_:Unit)=>q3i x l n m z) (fun i _=>∀ s∈x.Supers.take i,s∈l) (Q:=fun b=>b=decide (∀ s∈x.Supers,s∈l))
  (fun m i s _ hx hlt hd' hw hI ih=>by
   simp only [q3i,hd',cond_true,q0b,hx,q04,hw,q9b (l:=l) (by omega) s (n:=n) (by omega)]
   by_cases hm:s∈l
   ·simp only [hm,decide_true,Bool.not_true,cond_false]
    refine ih () fun t ht=>?_
    rw [q0m hx] at ht
    rcases List.mem_append.1 ht with ht | ht
    ·exact hI t ht
    ·simp at ht; subst ht; exact hm
   ·simp only [hm,decide_false,Bool.not_false,cond_true]
    exact ⟨false,rfl,(decide_eq_false fun h=>hm (h s (List.mem_of_getElem? hx))).symm⟩)
  (fun m _ hd' hI=>by
   simp only [q3i,hd',cond_false,q8b]
   rw [List.take_of_length_le (Nat.le_refl _)] at hI
   exact ⟨true,rfl,(decide_eq_true hI).symm⟩) n 0 () (by omega) (by omega) (by simp)
 rw [Int.ofNat_zero] at this
 obtain ⟨r,h1,h2⟩:=this
 rw [← h2]
 exact h1
inductive Ord (d:List q01):List Str→Prop
 | nil:Ord d []
 | snoc {l:List Str} {x:q01}:Ord d l→x∈d→x.Name ∉ l→(∀ s∈x.Supers,s∈l)→Ord d (l++[x.Name])
theorem Ord.nodup {d:List q01} {l:List Str} (h:Ord d l):l.Nodup∧∀ s∈l,Dcl d s:=by
 induction h with
 | nil=>simp
 | @snoc l x h1 h2 h3 h4 ih =>
  refine ⟨?_,fun s hs=>?_⟩
  ·rw [List.nodup_append]
   exact ⟨ih.1,by simp,fun a ha b hb e=>by simp at hb; subst hb; subst e; exact h3 ha⟩
  ·rcases List.mem_append.1 hs with hs | hs
   ·exact ih.2 s hs
   ·simp at hs; subst hs; exact ⟨x,h2,rfl⟩
theorem qg6:∀ {a b:List Str},a.Nodup→(∀ x∈a,x∈b)→a.length≤b.length
 | [],b,_,_=>by simp
 | x::a,b,hn,hs=>by
  obtain ⟨h1,h2⟩:=List.nodup_cons.1 hn
  have h3:=qg6 (b:=b.erase x) h2 fun y hy=>by
   have:y≠x:=fun e=>h1 (e ▸ hy)
   exact (List.mem_erase_of_ne this).2 (hs y (List.mem_cons_of_mem x hy))
  have h4:=List.length_erase_of_mem (hs x (by simp))
  have h5:=List.length_pos_of_mem (hs x (by simp))
  simp only [List.length_cons]
  omega
theorem Ord.len {d:List q01} {l:List Str} (h:Ord d l):l.length≤d.length:=by
 have:=qg6 (b:=d.map q01.Name) h.nodup.1 fun s hs=>by
  obtain ⟨x,hx,rfl⟩:=h.nodup.2 s hs
  exact List.mem_map_of_mem hx
 rwa [List.length_map] at this
theorem quy {d:List q01} (hd:d.length≤12) (hs:∀ x∈d,x.Supers.length≤256) {n:Nat} (hn:5000≤n):∃ l,qb3 n d=some l∧Ord d l:=by
 have key:∀ (m:Nat) (b:Bool) (l:List Str),d.length - l.length+2≤m+(cond b 0 1)→Ord d l→∃ r,q15 d n m b l=some r∧Ord d r:=by
  intro m
  induction m with
  | zero=>intro b l hm; cases b<;>simp at hm<;>omega
  | succ m ih =>
   intro b l hm hl
   have hll:=hl.len
   unfold q15
   cases b with
   | false=>simp only [cond_false,q70]; exact ⟨l,rfl,hl⟩
   | true =>
    simp only [cond_true] at hm ⊢
    have:=qap (l:=d) (by omega) (F:=fun m' z (s:Bool×Str)=>q1d d n l (q15 d n m) m' s.1 s.2 z) (fun i s=>s.1=true→∃ x∈d,x.Name=s.2∧x.Name ∉ l∧∀ t∈x.Supers,t∈l) (Q:=fun r=>Ord d r)
     (fun m' i x s hx hlt hd' hw hI ih2=>by
      have hxm:=List.mem_of_getElem? hx
      simp only [q1d,hd',cond_true,q0b,hx,q04,hw,q9b (l:=l) (by omega) x.Name (n:=n) (by omega),qxk (hs x hxm) (show l.length≤1000 by omega) hn]
      by_cases h1:x.Name∈l
      ·simp only [h1,decide_true,cond_true,q04]
       exact ih2 (s.1,s.2) hI
      ·by_cases h2:∀ t∈x.Supers,t∈l
       ·have e1:decide (∀ t∈x.Supers,t∈l)=true:=decide_eq_true h2
        simp only [h1,e1,decide_false,cond_false,Bool.not_true,q04,q4u,hw]
        have hnew:∃ y∈d,y.Name=x.Name∧y.Name ∉ l∧∀ t∈y.Supers,t∈l:=⟨x,hxm,rfl,h1,h2⟩
        cases hb:s.1 with
        | false =>
         simp only [Bool.not_false,cond_true,q04]
         exact ih2 (true,x.Name) fun _=>hnew
        | true =>
         simp only [Bool.not_true,cond_false,q04]
         cases q11 x.Name s.2 with
         | true=>simp only [cond_true]; exact ih2 (true,x.Name) fun _=>hnew
         | false=>simp only [cond_false]; exact ih2 (true,s.2) fun _=>hI hb
       ·have e1:decide (∀ t∈x.Supers,t∈l)=false:=decide_eq_false h2
        simp only [h1,e1,decide_false,cond_false,Bool.not_false,q04,cond_true]
        exact ih2 (s.1,s.2) hI)
     (fun m' s hd' hI=>by
      simp only [q1d,hd',cond_false,q71,q4t]
      cases hb:s.1 with
      | false=>simp only [cond_false]; exact ih false l (by simp; omega) hl
      | true =>
       obtain ⟨x,hx,e,h1,h2⟩:=hI hb
       have hl2:Ord d (l++[s.2]):=by rw [← e]; exact .snoc hl hx h1 h2
       have:=hl2.len
       simp only [List.length_append,List.length_cons,List.length_nil] at this
       simp only [cond_true]
       rw [ned (by omega)]
       exact ih true (l++[s.2]) (by simp; omega) hl2) n 0 (false,[]) (by omega) (by omega) (fun h=>by cases h)
    rw [Int.ofNat_zero] at this
    exact this
 exact key n true [] (by simp; omega) .nil
structure DOK (d:List q01):Prop where
 len:d.length≤12
 siz:∀ x∈d,x.Supers.length≤256∧x.Feats.length≤256
 nam:qnl d
 sup:∀ x∈d,SupI d x
 ord:∃ l,Ord d l∧l.length=d.length
 one:(d.filter fun x=>decide (x.Supers=[])).length=1
theorem qtd {d:List q01} (hd:d.length≤12) {n:Nat} (hn:5000≤n):∃ e,qad n d=some e∧(e=0→DOK d):=by
 obtain ⟨e1,a1,a2⟩:=qxm hd hn
 simp only [qad,a1,q04]
 by_cases h1:e1=0
 ·subst h1
  have a3:=a2 rfl
  obtain ⟨e2,b1,b2⟩:=qtl hd hn
  simp only [bne_self_eq_false,cond_false,b1,q04]
  by_cases h2:e2=0
  ·subst h2
   obtain ⟨e3,c1,c2⟩:=qvo hd (fun x hx=>(a3 x hx).1) hn
   simp only [bne_self_eq_false,cond_false,c1,q04]
   by_cases h3:e3=0
   ·subst h3
    simp only [bne_self_eq_false,cond_false]
    have:=qap (l:=d) (by omega) (F:=fun m z (s:Int)=>q26 d n m s z) (fun i s=>s=(((d.take i).filter fun x=>decide (x.Supers=[])).length:Int)) (Q:=fun e=>e=0→DOK d)
     (fun m i x s hx hlt hd' hw hI ih=>by
      have hfl:=List.length_filter_le (fun x:q01=>decide (x.Supers=[])) (d.take i)
      rw [List.length_take] at hfl
      simp only [q26,hd',cond_true,q0b,hx,q04,q5p,hw]
      by_cases hz:x.Supers=[]
      ·have e0:((x.Supers.length:Int) == 0)=true:=by simp [hz]
       have e1:IntKind.i64.wrap (s+1)=s+1:=wr (by omega) (by omega)
       simp only [e0,cond_true,e1]
       refine ih (s+1) ?_
       rw [q0m hx,List.filter_append,List.length_append,hI]
       simp [hz]
      ·have e0:((x.Supers.length:Int) == 0)=false:=by simp [List.length_eq_zero_iff,hz]
       simp only [e0,cond_false]
       refine ih s ?_
       rw [q0m hx,List.filter_append,List.length_append,hI]
       simp [hz])
     (fun m s hd' hI=>by
      rw [List.take_of_length_le (Nat.le_refl _)] at hI
      simp only [q26,hd',cond_false,q87]
      by_cases h4:s=1
      ·obtain ⟨l,g1,g2⟩:=quy hd (fun x hx=>(a3 x hx).1) hn
       have hl:=g2.len
       simp only [h4,bne_self_eq_false,cond_false,g1,q04]
       by_cases h5:(l.length:Int)<(d.length:Int)
       ·simp only [h5,decide_true,cond_true]; exact ⟨6,rfl,fun h=>by cases h⟩
       ·simp only [h5,decide_false,cond_false]
        exact ⟨0,rfl,fun _=>⟨hd,a3,b2 rfl,c2 rfl,⟨l,g2,by omega⟩,by omega⟩⟩
      ·have e4:(s != 1)=true:=by simpa using h4
       simp only [e4,cond_true]; exact ⟨1,rfl,fun h=>by cases h⟩) n 0 0 (by omega) (by omega) (by simp)
    rw [Int.ofNat_zero] at this
    exact this
   ·have e4:(e3 != 0)=true:=by simpa using h3
    simp only [e4,cond_true]; exact ⟨e3,rfl,fun h=>absurd h h3⟩
  ·have e4:(e2 != 0)=true:=by simpa using h2
   simp only [e4,cond_true]; exact ⟨e2,rfl,fun h=>absurd h h2⟩
 ·have e4:(e1 != 0)=true:=by simpa using h1
  simp only [e4,cond_true]; exact ⟨e1,rfl,fun h=>absurd h h1⟩
end Go.Proofs
end
