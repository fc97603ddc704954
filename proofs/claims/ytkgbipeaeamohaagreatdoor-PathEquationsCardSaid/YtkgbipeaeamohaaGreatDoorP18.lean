/-
  Texts of the walk: H4.
-/
import Derived.Test.YtkgbipeaeamohaaGreatDoorP17
set_option linter.unusedSimpArgs false
set_option linter.unusedVariables false
section
namespace Go.Proofs
open Go Go.Rx Go.Vx Tryz
set_option maxRecDepth 20000
set_option maxHeartbeats 4000000
set_option synthInstance.maxSize 4000
set_option synthInstance.maxHeartbeats 200000
theorem qoq (n:Nat) (p1:List q05) (r:Int) (hF:qgk n p1=some r):EvU Tryz.prog 121 [.isl false (List.map q02 p1)] ⟨[],0⟩ (fun u _=>u = .int .i64 r∧Bel 0 u):=by
 unfold qgk at hF
 refine bg1 29 fn121 ?_
 refine go ?_
 refine RS.q rfl (q0a rfl rfl rfl (q07 q02 und38)) ?_
 refine go ?_
 refine cF hF (fun h2 hF=>?_) (fun h2 hF=>?_)
 exact gx hF
 refine go ?_
 refine gS (l':=[(0,_),(3,_)]) ?_
 refine z3e (fun m tm σ=>∃ z5:Int,q7z p1 m z5=some r∧tm=fr 29 [(0,.iM q02 p1),(3,.i6 z5)]∧σ=⟨[],0⟩) (fun tm σ=>qbj=some r∧tm=fr 29 []∧σ=⟨[],0⟩) n ⟨0,hF,rfl,rfl⟩ ?_ ?_
 rintro _ _ ⟨hF,rfl,rfl⟩
 unfold qbj at hF
 exact gx hF
 rintro (_|m1) _ _ ⟨z5,hF,rfl,rfl⟩
 cases hF
 unfold q7z at hF
 refine go ?_
 refine RS.q rfl (q0a rfl rfl rfl (q07 q02 und38)) ?_
 refine go ?_
 refine cF hF (fun h6 hF=>?_) (fun h6 hF=>?_)
 refine go ?_
 refine WPU.block ?_
 obtain ⟨b12,h13,hF⟩:=q00 hF
 refine gn ?_
 refine z3f (fun tm σ=>tm=fr 29 [(0,.iM q02 p1),(3,.i6 z5),(28,.bool b12)]∧σ=⟨[],0⟩) ?_ ?_
 rintro _ _ ⟨rfl,rfl⟩
 refine go ?_
 refine cF hF (fun h14 hF=>?_) (fun h14 hF=>?_)
 exact gx hF
 refine go ?_
 exact lC ⟨_,hF,rfl,rfl⟩
 obtain ⟨x7,h8,h13⟩:=q00 h13
 rcases gB h13 with ⟨h9,h13⟩ | ⟨h9,h13⟩
 obtain rfl:=sI h13
 refine go ?_
 refine RS.q rfl (q0i rfl rfl (q09 q02 und38 (q03 inf127) q0k h8 rfl)) (RS.q rfl (q1q und127 rfl (q03 inf80) rfl rfl) (RS.q rfl (q0c und80 rfl rfl rfl) (RS.q rfl (q0a rfl rfl rfl (q07 cS und80)) ?_)))
 refine go ?_
 exact xC ⟨rfl,rfl⟩
 obtain ⟨x10,h11,h13⟩:=q00 h13
 obtain rfl:=sI h13
 refine go ?_
 refine RS.q rfl (q0i rfl rfl (q09 q02 und38 (q03 inf127) q0k h8 rfl)) (RS.q rfl (q1q und127 rfl (q03 inf80) rfl rfl) (RS.q rfl (q0c und80 rfl rfl rfl) (RS.q rfl (q0a rfl rfl rfl (q07 cS und80)) ?_)))
 refine go ?_
 refine RS.w rfl (q0i rfl rfl (q09 q02 und38 (q03 inf127) q0k h11 rfl)) (RS.w rfl (q1q und127 rfl (q03 inf125) rfl rfl) (RS.w rfl (q0c und125 rfl rfl rfl) (RS.w rfl (q0a rfl rfl rfl (q07 q0f und125)) ?_)))
 refine go ?_
 exact xC ⟨rfl,rfl⟩
 refine go ?_
 exact xC ⟨hF,rfl,rfl⟩
def qiz (n:Nat) (p1:List UInt8):Option (Bool) :=
 q04 (qd5 n p1 false) fun r2 =>
 some r2
theorem qqh (n:Nat) (p1:List UInt8) (r:Bool) (hF:qiz n p1=some r):EvU Tryz.prog 147 [.str p1] ⟨[],0⟩ (fun u _=>u = .bool r∧Bel 0 u):=by
 unfold qiz at hF
 refine bg1 5 fn147 ?_
 obtain ⟨r2,h3,hF⟩:=q00 hF
 refine go ?_
 refine RS.cl rfl (pC (qhq n p1 false r2 h3) _) fn81 ?_
 exact gx hF
def qdc   : Option (Int) :=
 some (-1)
def q9c (p1:List q05) (p2:List UInt8):Nat→Int→Option (Int)
 | 0,_=>none
 | m1+1,z6 =>
  cond (decide (z6<(p1.length:Int)))
   (q04 (q0u p1 z6) fun x8 =>
   cond (q1k x8.Name p2)
    (some z6)
    ((q9c p1 p2 m1) (IntKind.i64.wrap (z6+1))))
   (qdc)
def q62 (n:Nat) (p1:List q05) (p2:List UInt8):Option (Int) :=
 q9c p1 p2 n 0
theorem q63 (n:Nat) (p1:List q05) (p2:List UInt8) (r:Int) (hF:q62 n p1 p2=some r):EvU Tryz.prog 148 [.isl false (List.map q02 p1),.str p2] ⟨[],0⟩ (fun u _=>u = .int .i64 r∧Bel 0 u):=by
 unfold q62 at hF
 refine bg2 20 fn148 ?_
 refine go ?_
 refine gS (l':=[(0,_),(1,_),(5,_)]) ?_
 refine z3e (fun m tm σ=>∃ z6:Int,q9c p1 p2 m z6=some r∧tm=fr 20 [(0,.iM q02 p1),(1,.str p2),(5,.i6 z6)]∧σ=⟨[],0⟩) (fun tm σ=>qdc=some r∧tm=fr 20 []∧σ=⟨[],0⟩) n ⟨0,hF,rfl,rfl⟩ ?_ ?_
 rintro _ _ ⟨hF,rfl,rfl⟩
 unfold qdc at hF
 exact gx hF
 rintro (_|m1) _ _ ⟨z6,hF,rfl,rfl⟩
 cases hF
 unfold q9c at hF
 refine go ?_
 refine RS.q rfl (q0a rfl rfl rfl (q07 q02 und38)) ?_
 refine go ?_
 refine cF hF (fun h7 hF=>?_) (fun h7 hF=>?_)
 refine go ?_
 refine WPU.block ?_
 obtain ⟨x8,h9,hF⟩:=q00 hF
 refine go ?_
 refine RS.q rfl (q0i rfl rfl (q09 q02 und38 (q03 inf127) q0k h9 rfl)) (RS.q rfl (q1q und127 rfl (q03 inf9) rfl rfl) (RS.q rfl (q0c und9 rfl rfl rfl) ?_))
 refine go ?_
 refine RS.q (u:=.bool (q1k x8.Name p2)) rfl (q8v rfl rfl rfl rfl) ?_
 refine go ?_
 refine cF hF (fun h10 hF=>?_) (fun h10 hF=>?_)
 exact gx hF
 refine go ?_
 exact lC ⟨_,hF,rfl,rfl⟩
 refine go ?_
 exact xC ⟨hF,rfl,rfl⟩
def qbh   : Option (Int) :=
 some 0
def q7x (p1:List q05) (n:Nat):Nat→Int→Option (Int)
 | 0,_=>none
 | m1+1,z4 =>
  cond (decide (z4<(p1.length:Int)))
   (q04 (q0u p1 z4) fun x6 =>
   q04 (qiz n x6.Name) fun r8 =>
   cond (!r8)
    (some 1)
    (q04 (q0u p1 z4) fun x11 =>
    q04 (q62 n p1 x11.Name) fun r13 =>
    cond (decide (r13<z4))
     (some 4)
     ((q7x p1 n m1) (IntKind.i64.wrap (z4+1)))))
   (qbh)
def qgi (n:Nat) (p1:List q05):Option (Int) :=
 q7x p1 n n 0
theorem qoo (n:Nat) (p1:List q05) (r:Int) (hF:qgi n p1=some r):EvU Tryz.prog 122 [.isl false (List.map q02 p1)] ⟨[],0⟩ (fun u _=>u = .int .i64 r∧Bel 0 u):=by
 unfold qgi at hF
 refine bg1 26 fn122 ?_
 refine go ?_
 refine gS (l':=[(0,_),(3,_)]) ?_
 refine z3e (fun m tm σ=>∃ z4:Int,q7x p1 n m z4=some r∧tm=fr 26 [(0,.iM q02 p1),(3,.i6 z4)]∧σ=⟨[],0⟩) (fun tm σ=>qbh=some r∧tm=fr 26 []∧σ=⟨[],0⟩) n ⟨0,hF,rfl,rfl⟩ ?_ ?_
 rintro _ _ ⟨hF,rfl,rfl⟩
 unfold qbh at hF
 exact gx hF
 rintro (_|m1) _ _ ⟨z4,hF,rfl,rfl⟩
 cases hF
 unfold q7x at hF
 refine go ?_
 refine RS.q rfl (q0a rfl rfl rfl (q07 q02 und38)) ?_
 refine go ?_
 refine cF hF (fun h5 hF=>?_) (fun h5 hF=>?_)
 refine go ?_
 refine WPU.block ?_
 obtain ⟨x6,h7,hF⟩:=q00 hF
 obtain ⟨r8,h9,hF⟩:=q00 hF
 refine go ?_
 refine RS.q rfl (q0i rfl rfl (q09 q02 und38 (q03 inf127) q0k h7 rfl)) (RS.q rfl (q1q und127 rfl (q03 inf9) rfl rfl) (RS.q rfl (q0c und9 rfl rfl rfl) (RS.cl rfl (pC (qqh n x6.Name r8 h9) _) fn147 ?_)))
 refine go ?_
 refine cF hF (fun h10 hF=>?_) (fun h10 hF=>?_)
 exact gx hF
 obtain ⟨x11,h12,hF⟩:=q00 hF
 obtain ⟨r13,h14,hF⟩:=q00 hF
 refine go ?_
 refine RS.q rfl (q0i rfl rfl (q09 q02 und38 (q03 inf127) q0k h12 rfl)) (RS.q rfl (q1q und127 rfl (q03 inf9) rfl rfl) (RS.q rfl (q0c und9 rfl rfl rfl) (RS.cl rfl (pC (q63 n p1 x11.Name r13 h14) _) fn148 ?_)))
 refine go ?_
 refine cF hF (fun h15 hF=>?_) (fun h15 hF=>?_)
 exact gx hF
 refine go ?_
 exact lC ⟨_,hF,rfl,rfl⟩
 refine go ?_
 exact xC ⟨hF,rfl,rfl⟩
def qba   : Option (Bool) :=
 some false
def q7s (p1:List (List UInt8)) (p2:List UInt8):Nat→Int→Option (Bool)
 | 0,_=>none
 | m1+1,z6 =>
  cond (decide (z6<(p1.length:Int)))
   (q04 (q0u p1 z6) fun x8 =>
   cond (q1k x8 p2)
    (some true)
    ((q7s p1 p2 m1) (IntKind.i64.wrap (z6+1))))
   (qba)
def q30 (n:Nat) (p1:List (List UInt8)) (p2:List UInt8):Option (Bool) :=
 q7s p1 p2 n 0
theorem q29 (n:Nat) (p1:List (List UInt8)) (p2:List UInt8) (r:Bool) (hF:q30 n p1 p2=some r):EvU Tryz.prog 126 [.isl false (List.map cS p1),.str p2] ⟨[],0⟩ (fun u _=>u = .bool r∧Bel 0 u):=by
 unfold q30 at hF
 refine bg2 18 fn126 ?_
 refine go ?_
 refine gS (l':=[(0,_),(1,_),(5,_)]) ?_
 refine z3e (fun m tm σ=>∃ z6:Int,q7s p1 p2 m z6=some r∧tm=fr 18 [(0,.iM cS p1),(1,.str p2),(5,.i6 z6)]∧σ=⟨[],0⟩) (fun tm σ=>qba=some r∧tm=fr 18 []∧σ=⟨[],0⟩) n ⟨0,hF,rfl,rfl⟩ ?_ ?_
 rintro _ _ ⟨hF,rfl,rfl⟩
 unfold qba at hF
 exact gx hF
 rintro (_|m1) _ _ ⟨z6,hF,rfl,rfl⟩
 cases hF
 unfold q7s at hF
 refine go ?_
 refine RS.q rfl (q0a rfl rfl rfl (q07 cS und80)) ?_
 refine go ?_
 refine cF hF (fun h7 hF=>?_) (fun h7 hF=>?_)
 refine go ?_
 refine WPU.block ?_
 obtain ⟨x8,h9,hF⟩:=q00 hF
 refine go ?_
 refine RS.q rfl (q0i rfl rfl (q09 cS und80 (q03 inf9) q1i h9 rfl)) (RS.q rfl (q0c und9 rfl rfl rfl) ?_)
 refine go ?_
 refine RS.q (u:=.bool (q1k x8 p2)) rfl (q8v rfl rfl rfl rfl) ?_
 refine go ?_
 refine cF hF (fun h10 hF=>?_) (fun h10 hF=>?_)
 exact gx hF
 refine go ?_
 exact lC ⟨_,hF,rfl,rfl⟩
 refine go ?_
 exact xC ⟨hF,rfl,rfl⟩
def qa5 (z4:Int) (rc1:Int→Option (Int))  : Option (Int) :=
 rc1 (IntKind.i64.wrap (z4+1))
def q6k (p1:List q05) (n:Nat) (z4:Int) (rc1:Int→Option (Int)) (x6:q05):Nat→Int→Option (Int)
 | 0,_=>none
 | m2+1,z12 =>
  cond (decide (z12<(x6.Supers.length:Int)))
   (q04 (q0u x6.Supers z12) fun x14 =>
   q04 (q62 n p1 x14) fun r16 =>
   cond (decide (r16<0))
    (some 5)
    (q04 (z0i x6.Supers 0 z12) fun l19 =>
    q04 (q0u x6.Supers z12) fun x23 =>
    q04 (q30 n l19 x23) fun r25 =>
    cond r25
     (some 4)
     ((q6k p1 n z4 rc1 x6 m2) (IntKind.i64.wrap (z12+1)))))
   (qa5 z4 rc1)
def qa4   : Option (Int) :=
 some 0
def q3o (p1:List q05) (n:Nat):Nat→Int→Option (Int)
 | 0,_=>none
 | m1+1,z4 =>
  cond (decide (z4<(p1.length:Int)))
   (q04 (q0u p1 z4) fun x6 =>
   q6k p1 n z4 (q3o p1 n m1) x6 n 0)
   (qa4)
def qen (n:Nat) (p1:List q05):Option (Int) :=
 q3o p1 n n 0
theorem qms (n:Nat) (p1:List q05) (r:Int) (hF:qen n p1=some r):EvU Tryz.prog 123 [.isl false (List.map q02 p1)] ⟨[],0⟩ (fun u _=>u = .int .i64 r∧Bel 0 u):=by
 unfold qen at hF
 refine bg1 38 fn123 ?_
 refine go ?_
 refine gS (l':=[(0,_),(3,_)]) ?_
 refine z3e (fun m tm σ=>∃ z4:Int,q3o p1 n m z4=some r∧tm=fr 38 [(0,.iM q02 p1),(3,.i6 z4)]∧σ=⟨[],0⟩) (fun tm σ=>qa4=some r∧tm=fr 38 []∧σ=⟨[],0⟩) n ⟨0,hF,rfl,rfl⟩ ?_ ?_
 rintro _ _ ⟨hF,rfl,rfl⟩
 unfold qa4 at hF
 exact gx hF
 rintro (_|m1) _ _ ⟨z4,hF,rfl,rfl⟩
 cases hF
 unfold q3o at hF
 refine go ?_
 refine RS.q rfl (q0a rfl rfl rfl (q07 q02 und38)) ?_
 refine go ?_
 refine cF hF (fun h5 hF=>?_) (fun h5 hF=>?_)
 refine go ?_
 refine WPU.block ?_
 obtain ⟨x6,h7,hF⟩:=q00 hF
 refine go ?_
 refine RS.q rfl (q0i rfl rfl (q09 q02 und38 (q03 inf127) q0k h7 rfl)) (RS.q rfl (q1q und127 rfl (q03 inf80) rfl rfl) (RS.q rfl (q0c und80 rfl rfl rfl) ?_))
 refine go ?_
 refine gS (l':=[(0,_),(3,_),(4,_),(5,_)]) ?_
 refine z3e (fun m tm σ=>∃ z12:Int,q6k p1 n z4 (q3o p1 n m1) x6 m z12=some r∧tm=fr 38 [(0,.iM q02 p1),(3,.i6 z4),(4,.iM cS x6.Supers),(5,.i6 z12)]∧σ=⟨[],0⟩) (fun tm σ=>qa5 z4 (q3o p1 n m1)=some r∧tm=fr 38 [(0,.iM q02 p1),(3,.i6 z4)]∧σ=⟨[],0⟩) n ⟨0,hF,rfl,rfl⟩ ?_ ?_
 rintro _ _ ⟨hF,rfl,rfl⟩
 unfold qa5 at hF
 refine go ?_
 exact lC ⟨_,hF,rfl,rfl⟩
 rintro (_|m2) _ _ ⟨z12,hF,rfl,rfl⟩
 cases hF
 unfold q6k at hF
 refine go ?_
 refine RS.q rfl (q0a rfl rfl rfl (q07 cS und80)) ?_
 refine go ?_
 refine cF hF (fun h13 hF=>?_) (fun h13 hF=>?_)
 refine go ?_
 refine WPU.block ?_
 obtain ⟨x14,h15,hF⟩:=q00 hF
 obtain ⟨r16,h17,hF⟩:=q00 hF
 refine go ?_
 refine RS.q rfl (q0i rfl rfl (q09 cS und80 (q03 inf9) q1i h15 rfl)) (RS.q rfl (q0c und9 rfl rfl rfl) (RS.cl rfl (pC (q63 n p1 x14 r16 h17) _) fn148 ?_))
 refine go ?_
 refine cF hF (fun h18 hF=>?_) (fun h18 hF=>?_)
 exact gx hF
 obtain ⟨l19,h20,hF⟩:=q00 hF
 obtain ⟨h21,h22⟩:=qvt cS .i64 h20
 obtain ⟨x23,h24,hF⟩:=q00 hF
 obtain ⟨r25,h26,hF⟩:=q00 hF
 refine go ?_
 refine z3g Tryz.tb_ok [] (by kernel_rfl) ?_
 repeat refine RD.mv rfl rfl rfl rfl ?_
 refine RD.q (u:=.iM cS l19) rfl (qau rfl qr3 (z0l rfl) qr3 (qtt cS und80 (q03 inf9) q1i h21 h22)) ?_
 repeat refine RD.mv rfl rfl rfl rfl ?_
 refine RD.q rfl (q0i rfl rfl (q09 cS und80 (q03 inf9) q1i h24 rfl)) (RD.q rfl (q0c und9 rfl rfl rfl) (RD.fl rfl (pC (q29 n l19 x23 r25 h26)) fn126 ?_))
 refine RD.done ⟨by kernel_rfl,trivial,?_⟩
 refine go ?_
 refine cF hF (fun h27 hF=>?_) (fun h27 hF=>?_)
 exact gx hF
 refine go ?_
 exact lC ⟨_,hF,rfl,rfl⟩
 refine go ?_
 exact xC ⟨hF,rfl,rfl⟩
 refine go ?_
 exact xC ⟨hF,rfl,rfl⟩
def qbi   : Option (Bool) :=
 some true
def q7y (p1:q05) (p2:List (List UInt8)) (n:Nat):Nat→Int→Option (Bool)
 | 0,_=>none
 | m1+1,z8 =>
  cond (decide (z8<(p1.Supers.length:Int)))
   (q04 (q0u p1.Supers z8) fun x10 =>
   q04 (q30 n p2 x10) fun r12 =>
   cond (!r12)
    (some false)
    ((q7y p1 p2 n m1) (IntKind.i64.wrap (z8+1))))
   (qbi)
def qgj (n:Nat) (p1:q05) (p2:List (List UInt8)):Option (Bool) :=
 q7y p1 p2 n n 0
theorem qop (n:Nat) (p1:q05) (p2:List (List UInt8)) (r:Bool) (hF:qgj n p1 p2=some r):EvU Tryz.prog 149 [.agg (q02 p1),.isl false (List.map cS p2)] ⟨[],0⟩ (fun u _=>u = .bool r∧Bel 0 u):=by
 unfold qgj at hF
 refine bg2 21 fn149 ?_
 refine go ?_
 refine RS.q (u:=.ptr 0 0 0) (σ':=⟨[(0,.row (q02 p1) 127)],1⟩) rfl (q3u rfl rfl rfl) ?_
 refine go ?_
 refine gS (l':=[(1,_),(2,_),(5,_)]) ?_
 refine z3e (fun m tm σ=>∃ z8:Int,q7y p1 p2 n m z8=some r∧tm=fr 21 [(1,.iM cS p2),(2,.ptr 0 0 0),(5,.i6 z8)]∧σ=⟨[(0,.row (q02 p1) 127)],1⟩) (fun tm σ=>qbi=some r∧tm=fr 21 []∧σ=⟨[(0,.row (q02 p1) 127)],1⟩) n ⟨0,hF,rfl,rfl⟩ ?_ ?_
 rintro _ _ ⟨hF,rfl,rfl⟩
 unfold qbi at hF
 exact gx hF
 rintro (_|m1) _ _ ⟨z8,hF,rfl,rfl⟩
 cases hF
 unfold q7y at hF
 refine go ?_
 refine RS.q rfl (q0y und127 rfl (q03 inf80) rfl rfl rfl) (RS.q rfl (q0m und80 rfl rfl rfl rfl) (RS.q rfl (q0a rfl rfl rfl (q07 cS und80)) ?_))
 refine go ?_
 refine cF hF (fun h9 hF=>?_) (fun h9 hF=>?_)
 refine go ?_
 refine WPU.block ?_
 obtain ⟨x10,h11,hF⟩:=q00 hF
 obtain ⟨r12,h13,hF⟩:=q00 hF
 refine go ?_
 refine RS.q rfl (q0y und127 rfl (q03 inf80) rfl rfl rfl) (RS.q rfl (q0m und80 rfl rfl rfl rfl) ?_)
 refine go ?_
 refine RS.q rfl (q0i rfl rfl (q09 cS und80 (q03 inf9) q1i h11 rfl)) (RS.q rfl (q0c und9 rfl rfl rfl) (RS.cl rfl (pC (q29 n p2 x10 r12 h13) _) fn126 ?_))
 refine go ?_
 refine cF hF (fun h14 hF=>?_) (fun h14 hF=>?_)
 exact gx hF
 refine go ?_
 exact lC ⟨_,hF,rfl,rfl⟩
 refine go ?_
 exact xC ⟨hF,rfl,rfl⟩
def q6i (rc1:Bool→(List (List UInt8))→Option ((List (List UInt8)))) (b21:Bool) (l24:List (List UInt8)):Option ((List (List UInt8))) :=
 rc1 b21 l24
def q6j (z20:Int) (rc2:Bool→(List UInt8)→Int→Option ((List (List UInt8)))) (s46:List UInt8):Option ((List (List UInt8))) :=
 rc2 true s46 (IntKind.i64.wrap (z20+1))
def qa3 (l7:List (List UInt8)) (rc1:Bool→(List (List UInt8))→Option ((List (List UInt8)))) (b21:Bool) (s22:List UInt8):Option ((List (List UInt8))) :=
 cond b21
  (q19 ((l7.length+1)*16≤140737488355328∧l7.length+1≤140737488355328) (
  q6i rc1 b21 (l7++[s22])))
  (q6i rc1 b21 l7)
def q31 (p1:List q05) (n:Nat) (l7:List (List UInt8)) (rc1:Bool→(List (List UInt8))→Option ((List (List UInt8)))):Nat→Bool→(List UInt8)→Int→Option ((List (List UInt8)))
 | 0,_,_,_=>none
 | m2+1,b18,s19,z20 =>
  cond (decide (z20<(p1.length:Int)))
   (q04 (q04 (q0u p1 z20) fun x28 =>
   q04 (q30 n l7 x28.Name) fun r30 =>
   cond r30
    (some true)
    (q04 (q0u p1 z20) fun x33 =>
    q04 (qgj n x33 l7) fun r35 =>
    some (!r35))) fun b37 =>
   cond b37
    ((q31 p1 n l7 rc1 m2) b18 s19 (IntKind.i64.wrap (z20+1)))
    (q04 (cond (!b18)
     (some true)
     (q04 (q0u p1 z20) fun x41 =>
     some (q5r x41.Name s19))) fun b43 =>
    cond b43
     (q04 (q0u p1 z20) fun x47 =>
     q6j z20 (q31 p1 n l7 rc1 m2) x47.Name)
     (q6j z20 (q31 p1 n l7 rc1 m2) s19)))
   (qa3 l7 rc1 b18 s19)
def qa2  (l9:List (List UInt8)):Option ((List (List UInt8))) :=
 some l9
def q2i (p1:List q05) (n:Nat):Nat→Bool→(List (List UInt8))→Option ((List (List UInt8)))
 | 0,_,_=>none
 | m1+1,b6,l7 =>
  cond b6
   (q31 p1 n l7 (q2i p1 n m1) n false [] 0)
   (qa2 l7)
def qem (n:Nat) (p1:List q05):Option ((List (List UInt8))) :=
 q2i p1 n n true ([]:List (List UInt8))
theorem qmr (n:Nat) (p1:List q05) (r:(List (List UInt8))) (hF:qem n p1=some r):EvU Tryz.prog 124 [.isl false (List.map q02 p1)] ⟨[],0⟩ (fun u _=>u = .isl false (List.map cS r)∧Bel 0 u):=by
 unfold qem at hF
 refine bg1 52 fn124 ?_
 refine gr ?_
 refine gr ?_
 refine gr ?_
 refine WPU.ghost (tm':=fr 52 [(0,.iM q02 p1),(3,.vl 0 0 0 (([]:List (List UInt8)).length)),(4,.bool true)]) (σ':=⟨[(0,.vec (List.map cS ([]:List (List UInt8))).flatten 9 1 0)],1⟩) (Gh.trans (z3k 3 9 1 (by decide) NZ rfl rfl) (z3j ⟨rfl,rfl,rfl,trivial⟩ rfl)) NZ ?_
 refine gS (l':=[(0,_),(3,_),(4,_)]) ?_
 refine z3e (fun m tm σ=>∃ b6:Bool,∃ l7:List (List UInt8),∃ t8:Nat,q2i p1 n m b6 l7=some r∧tm=fr 52 [(0,.iM q02 p1),(3,.vl 0 t8 0 l7.length),(4,.bool b6)]∧σ=⟨[(0,.vec (List.map cS l7).flatten 9 1 t8)],1⟩) (fun tm σ=>∃ l9:List (List UInt8),∃ t10:Nat,qa2 l9=some r∧tm=fr 52 [(3,.vl 0 t10 0 l9.length)]∧σ=⟨[(0,.vec (List.map cS l9).flatten 9 1 t10)],1⟩) n ⟨true,([]:List (List UInt8)),0,hF,rfl,rfl⟩ ?_ ?_
 rintro _ _ ⟨l9,t10,hF,rfl,rfl⟩
 unfold qa2 at hF
 refine go ?_
 obtain rfl:=sI hF
 exact rT (us:=[.vl 0 t10 0 l9.length]) (u:=.iM cS l9) (q2o rfl (q3b)) (fR 0 1)
 rintro (_|m1) _ _ ⟨b6,l7,t8,hF,rfl,rfl⟩
 cases hF
 unfold q2i at hF
 refine go ?_
 refine cF hF (fun h11 hF=>?_) (fun h11 hF=>?_)
 refine go ?_
 refine WPU.block ?_
 refine go ?_
 refine gS (l':=[(0,_),(3,_),(4,_),(5,_),(6,_)]) ?_
 refine z3e (fun m tm σ=>∃ b18:Bool,∃ s19:List UInt8,∃ z20:Int,q31 p1 n l7 (q2i p1 n m1) m b18 s19 z20=some r∧tm=fr 52 [(0,.iM q02 p1),(3,.vl 0 t8 0 l7.length),(4,.bool b18),(5,.str s19),(6,.i6 z20)]∧σ=⟨[(0,.vec (List.map cS l7).flatten 9 1 t8)],1⟩) (fun tm σ=>∃ b21:Bool,∃ s22:List UInt8,qa3 l7 (q2i p1 n m1) b21 s22=some r∧tm=fr 52 [(0,.iM q02 p1),(3,.vl 0 t8 0 l7.length),(4,.bool b21),(5,.str s22)]∧σ=⟨[(0,.vec (List.map cS l7).flatten 9 1 t8)],1⟩) n ⟨false,[],0,hF,rfl,rfl⟩ ?_ ?_
 rintro _ _ ⟨b21,s22,hF,rfl,rfl⟩
 unfold qa3 at hF
 refine gr ?_
 refine z3f (fun tm σ=>∃ l24:List (List UInt8),∃ t25:Nat,q6i (q2i p1 n m1) b21 l24=some r∧tm=fr 52 [(0,.iM q02 p1),(3,.vl 0 t25 0 l24.length),(4,.bool b21)]∧σ=⟨[(0,.vec (List.map cS l24).flatten 9 1 t25)],1⟩) ?_ ?_
 rintro _ _ ⟨l24,t25,hF,rfl,rfl⟩
 unfold q6i at hF
 refine go ?_
 exact lC ⟨b21,l24,t25,hF,rfl,rfl⟩
 refine cF hF (fun h23 hF=>?_) (fun h23 hF=>?_)
 obtain ⟨h26,hF⟩:=q0b hF
 refine go ?_
 refine RS.q (u:=.sl 1 0 1 1) (σ':=⟨[(1,.row [.str s22] 9),(0,.vec (List.map cS l7).flatten 9 1 t8)],2⟩) rfl (q0j und80 inf9 rfl rfl rfl rfl rfl rfl rfl) (RS.q (u:=.vl 0 (t8+1) 0 ((l7++[s22]).length)) (σ':=⟨[(1,.row [.str s22] 9),(0,.vec (List.map cS (l7++[s22])).flatten 9 1 (t8+1))],2⟩) rfl (q1n rfl rfl rfl rfl (q23 cS ([s22]) und80 und80 inf9 rfl q1i rfl (q1m cS [s22] rfl rfl rfl rfl) h26)) ?_)
 refine go ?_
 exact xC ⟨(l7++[s22]),(t8+1),hF,rfl,rfl⟩
 refine go ?_
 exact xC ⟨l7,t8,hF,rfl,rfl⟩
 rintro (_|m2) _ _ ⟨b18,s19,z20,hF,rfl,rfl⟩
 cases hF
 unfold q31 at hF
 refine go ?_
 refine RS.q rfl (q0a rfl rfl rfl (q07 q02 und38)) ?_
 refine go ?_
 refine cF hF (fun h27 hF=>?_) (fun h27 hF=>?_)
 refine go ?_
 refine WPU.block ?_
 obtain ⟨b37,h38,hF⟩:=q00 hF
 refine gn ?_
 refine z3f (fun tm σ=>tm=fr 52 [(0,.iM q02 p1),(3,.vl 0 t8 0 l7.length),(4,.bool b18),(5,.str s19),(6,.i6 z20),(29,.bool b37)]∧σ=⟨[(0,.vec (List.map cS l7).flatten 9 1 t8)],1⟩) ?_ ?_
 rintro _ _ ⟨rfl,rfl⟩
 refine go ?_
 refine cF hF (fun h39 hF=>?_) (fun h39 hF=>?_)
 refine go ?_
 exact lC ⟨b18,s19,(IntKind.i64.wrap (z20+1)),hF,rfl,rfl⟩
 obtain ⟨b43,h44,hF⟩:=q00 hF
 refine gn ?_
 refine z3f (fun tm σ=>tm=fr 52 [(0,.iM q02 p1),(3,.vl 0 t8 0 l7.length),(5,.str s19),(6,.i6 z20),(40,.bool b43)]∧σ=⟨[(0,.vec (List.map cS l7).flatten 9 1 t8)],1⟩) ?_ ?_
 rintro _ _ ⟨rfl,rfl⟩
 refine gn ?_
 refine z3f (fun tm σ=>∃ s46:List UInt8,q6j z20 (q31 p1 n l7 (q2i p1 n m1) m2) s46=some r∧tm=fr 52 [(0,.iM q02 p1),(3,.vl 0 t8 0 l7.length),(5,.str s46),(6,.i6 z20)]∧σ=⟨[(0,.vec (List.map cS l7).flatten 9 1 t8)],1⟩) ?_ ?_
 rintro _ _ ⟨s46,hF,rfl,rfl⟩
 unfold q6j at hF
 refine go ?_
 exact lC ⟨true,s46,(IntKind.i64.wrap (z20+1)),hF,rfl,rfl⟩
 refine cF hF (fun h45 hF=>?_) (fun h45 hF=>?_)
 obtain ⟨x47,h48,hF⟩:=q00 hF
 refine go ?_
 refine RS.q rfl (q0i rfl rfl (q09 q02 und38 (q03 inf127) q0k h48 rfl)) (RS.q rfl (q1q und127 rfl (q03 inf9) rfl rfl) (RS.q rfl (q0c und9 rfl rfl rfl) ?_))
 refine go ?_
 exact xC ⟨x47.Name,hF,rfl,rfl⟩
 refine go ?_
 exact xC ⟨s19,hF,rfl,rfl⟩
 rcases gB h44 with ⟨h40,h44⟩ | ⟨h40,h44⟩
 exact gy h44
 obtain ⟨x41,h42,h44⟩:=q00 h44
 obtain rfl:=sI h44
 refine go ?_
 refine RS.w rfl (q0i rfl rfl (q09 q02 und38 (q03 inf127) q0k h42 rfl)) (RS.w rfl (q1q und127 rfl (q03 inf9) rfl rfl) (RS.w rfl (q0c und9 rfl rfl rfl) ?_))
 refine go ?_
 refine RS.w (u:=.bool (q5r x41.Name s19)) rfl (q8v rfl rfl rfl rfl) ?_
 refine go ?_
 exact xC ⟨rfl,rfl⟩
 obtain ⟨x28,h29,h38⟩:=q00 h38
 obtain ⟨r30,h31,h38⟩:=q00 h38
 rcases gB h38 with ⟨h32,h38⟩ | ⟨h32,h38⟩
 obtain rfl:=sI h38
 refine go ?_
 refine RS.q rfl (q0i rfl rfl (q09 q02 und38 (q03 inf127) q0k h29 rfl)) (RS.q rfl (q1q und127 rfl (q03 inf9) rfl rfl) (RS.q rfl (q0c und9 rfl rfl rfl) (RS.cl rfl (vw (q29 n l7 x28.Name r30 h31) (z3h 0 1)) fn126 ?_)))
 refine go ?_
 exact xC ⟨rfl,rfl⟩
 obtain ⟨x33,h34,h38⟩:=q00 h38
 obtain ⟨r35,h36,h38⟩:=q00 h38
 obtain rfl:=sI h38
 refine go ?_
 refine RS.q rfl (q0i rfl rfl (q09 q02 und38 (q03 inf127) q0k h29 rfl)) (RS.q rfl (q1q und127 rfl (q03 inf9) rfl rfl) (RS.q rfl (q0c und9 rfl rfl rfl) (RS.cl rfl (vw (q29 n l7 x28.Name r30 h31) (z3h 0 1)) fn126 ?_)))
 refine go ?_
 refine RS.w rfl (q0i rfl rfl (q09 q02 und38 (q03 inf127) q0k h34 rfl)) (RS.w (u:=.agg (q02 x33)) rfl (q8u und127 rfl (q03 inf127) rfl rfl) ?_)
 refine go ?_
 refine RS.cl rfl (vw (qop n x33 l7 r35 h36) (z3h 0 1)) fn149 ?_
 refine go ?_
 exact xC ⟨rfl,rfl⟩
 refine go ?_
 exact xC ⟨b18,s19,hF,rfl,rfl⟩
 refine go ?_
 exact xC ⟨l7,t8,hF,rfl,rfl⟩
def q7v (z15:Int) (rc1:Int→Int→Option (Int)) (z25:Int):Option (Int) :=
 rc1 z25 (IntKind.i64.wrap (z15+1))
def qbe (p1:List q05) (n:Nat) (z16:Int):Option (Int) :=
 cond (z16 != 1)
  (some 1)
  (q04 (qem n p1) fun r18 =>
  cond (decide ((r18.length:Int)<(p1.length:Int)))
   (some 6)
   (some 0))
def q49 (p1:List q05) (n:Nat):Nat→Int→Int→Option (Int)
 | 0,_,_=>none
 | m1+1,z14,z15 =>
  cond (decide (z15<(p1.length:Int)))
   (q04 (q0u p1 z15) fun x22 =>
   cond ((x22.Supers.length:Int) == 0)
    (q7v z15 (q49 p1 n m1) (IntKind.i64.wrap (z14+1)))
    (q7v z15 (q49 p1 n m1) z14))
   (qbe p1 n z14)
def qgh (n:Nat) (p1:List q05):Option (Int) :=
 q04 (qgk n p1) fun r2 =>
 cond (r2 != 0)
  (some r2)
  (q04 (qgi n p1) fun r5 =>
  cond (r5 != 0)
   (some r5)
   (q04 (qen n p1) fun r8 =>
   cond (r8 != 0)
    (some r8)
    (q49 p1 n n 0 0)))
theorem qon (n:Nat) (p1:List q05) (r:Int) (hF:qgh n p1=some r):EvU Tryz.prog 94 [.isl false (List.map q02 p1)] ⟨[],0⟩ (fun u _=>u = .int .i64 r∧Bel 0 u):=by
 unfold qgh at hF
 refine bg1 46 fn94 ?_
 obtain ⟨r2,h3,hF⟩:=q00 hF
 refine go ?_
 refine RS.cl rfl (pC (qoq n p1 r2 h3) _) fn121 ?_
 refine go ?_
 refine cF hF (fun h4 hF=>?_) (fun h4 hF=>?_)
 exact gx hF
 obtain ⟨r5,h6,hF⟩:=q00 hF
 refine go ?_
 refine RS.cl rfl (pC (qoo n p1 r5 h6) _) fn122 ?_
 refine go ?_
 refine cF hF (fun h7 hF=>?_) (fun h7 hF=>?_)
 exact gx hF
 obtain ⟨r8,h9,hF⟩:=q00 hF
 refine go ?_
 refine RS.cl rfl (pC (qms n p1 r8 h9) _) fn123 ?_
 refine go ?_
 refine cF hF (fun h10 hF=>?_) (fun h10 hF=>?_)
 exact gx hF
 refine go ?_
 refine gS (l':=[(0,_),(6,_),(7,_)]) ?_
 refine z3e (fun m tm σ=>∃ z14:Int,∃ z15:Int,q49 p1 n m z14 z15=some r∧tm=fr 46 [(0,.iM q02 p1),(6,.i6 z14),(7,.i6 z15)]∧σ=⟨[],0⟩) (fun tm σ=>∃ z16:Int,qbe p1 n z16=some r∧tm=fr 46 [(0,.iM q02 p1),(6,.i6 z16)]∧σ=⟨[],0⟩) n ⟨0,0,hF,rfl,rfl⟩ ?_ ?_
 rintro _ _ ⟨z16,hF,rfl,rfl⟩
 unfold qbe at hF
 refine go ?_
 refine cF hF (fun h17 hF=>?_) (fun h17 hF=>?_)
 exact gx hF
 obtain ⟨r18,h19,hF⟩:=q00 hF
 refine go ?_
 refine RS.cl rfl (pC (qmr n p1 r18 h19) _) fn124 (RS.q rfl (q0a rfl rfl rfl (q07 cS und80)) ?_)
 refine go ?_
 refine RS.q rfl (q0a rfl rfl rfl (q07 q02 und38)) ?_
 refine go ?_
 refine cF hF (fun h20 hF=>?_) (fun h20 hF=>?_)
 exact gx hF
 exact gx hF
 rintro (_|m1) _ _ ⟨z14,z15,hF,rfl,rfl⟩
 cases hF
 unfold q49 at hF
 refine go ?_
 refine RS.q rfl (q0a rfl rfl rfl (q07 q02 und38)) ?_
 refine go ?_
 refine cF hF (fun h21 hF=>?_) (fun h21 hF=>?_)
 refine go ?_
 refine WPU.block ?_
 obtain ⟨x22,h23,hF⟩:=q00 hF
 refine go ?_
 refine RS.q rfl (q0i rfl rfl (q09 q02 und38 (q03 inf127) q0k h23 rfl)) (RS.q rfl (q1q und127 rfl (q03 inf80) rfl rfl) (RS.q rfl (q0c und80 rfl rfl rfl) (RS.q rfl (q0a rfl rfl rfl (q07 cS und80)) ?_)))
 refine gn ?_
 refine z3f (fun tm σ=>∃ z25:Int,q7v z15 (q49 p1 n m1) z25=some r∧tm=fr 46 [(0,.iM q02 p1),(6,.i6 z25),(7,.i6 z15)]∧σ=⟨[],0⟩) ?_ ?_
 rintro _ _ ⟨z25,hF,rfl,rfl⟩
 unfold q7v at hF
 refine go ?_
 exact lC ⟨z25,(IntKind.i64.wrap (z15+1)),hF,rfl,rfl⟩
 refine cF hF (fun h24 hF=>?_) (fun h24 hF=>?_)
 refine go ?_
 exact xC ⟨(IntKind.i64.wrap (z14+1)),hF,rfl,rfl⟩
 refine go ?_
 exact xC ⟨z14,hF,rfl,rfl⟩
 refine go ?_
 exact xC ⟨z14,hF,rfl,rfl⟩
def qel (p1:List (List UInt8)) (p2:List UInt8) (z7:Int):Option ((List (List UInt8))) :=
 q04 (cond (decide (z7<(p1.length:Int)))
  (q04 (q0u p1 z7) fun x9 =>
  some (q1k x9 p2))
  (some false)) fun b11 =>
 cond b11
  (some p1)
  (q04 (z0i p1 0 z7) fun l14 =>
  q19 (l14.length*16≤140737488355328∧l14.length≤140737488355328) (
  q19 ((l14.length+1)*16≤140737488355328∧l14.length+1≤140737488355328) (
  q04 (z0i p1 z7 (p1.length:Int)) fun l20 =>
  q19 (((l14++[p2]).length+l20.length)*16≤140737488355328∧(l14++[p2]).length+l20.length≤140737488355328) (
  some ((l14++[p2])++l20)))))
def qay (p1:List (List UInt8)) (p2:List UInt8):Nat→Int→Option ((List (List UInt8)))
 | 0,_=>none
 | m1+1,z6 =>
  q04 (cond (decide (z6<(p1.length:Int)))
   (q04 (q0u p1 z6) fun x26 =>
   some (q5r x26 p2))
   (some false)) fun b28 =>
  cond b28
   ((qay p1 p2 m1) (IntKind.i64.wrap (z6+1)))
   (qel p1 p2 z6)
def q8f (n:Nat) (p1:List (List UInt8)) (p2:List UInt8):Option ((List (List UInt8))) :=
 qay p1 p2 n 0
theorem q79 (n:Nat) (p1:List (List UInt8)) (p2:List UInt8) (r:(List (List UInt8))) (hF:q8f n p1 p2=some r):EvU Tryz.prog 116 [.isl false (List.map cS p1),.str p2] ⟨[],0⟩ (fun u _=>u = .isl false (List.map cS r)∧Bel 0 u):=by
 unfold q8f at hF
 refine bg2 48 fn116 ?_
 refine go ?_
 refine gS (l':=[(0,_),(1,_),(5,_),(6,_)]) ?_
 refine z3e (fun m tm σ=>∃ z6:Int,qay p1 p2 m z6=some r∧tm=fr 48 [(0,.iM cS p1),(1,.str p2),(5,.nils),(6,.i6 z6)]∧σ=⟨[],0⟩) (fun tm σ=>∃ z7:Int,qel p1 p2 z7=some r∧tm=fr 48 [(0,.iM cS p1),(1,.str p2),(5,.nils),(6,.i6 z7)]∧σ=⟨[],0⟩) n ⟨0,hF,rfl,rfl⟩ ?_ ?_
 rintro _ _ ⟨z7,hF,rfl,rfl⟩
 unfold qel at hF
 obtain ⟨b11,h12,hF⟩:=q00 hF
 refine gn ?_
 refine z3f (fun tm σ=>tm=fr 48 [(0,.iM cS p1),(1,.str p2),(5,.nils),(6,.i6 z7),(32,.bool b11)]∧σ=⟨[],0⟩) ?_ ?_
 rintro _ _ ⟨rfl,rfl⟩
 refine go ?_
 refine cF hF (fun h13 hF=>?_) (fun h13 hF=>?_)
 exact gx hF
 obtain ⟨l14,h15,hF⟩:=q00 hF
 obtain ⟨h16,h17⟩:=qvt cS .i64 h15
 obtain ⟨h18,hF⟩:=q0b hF
 refine go ?_
 refine RS.q (u:=.iM cS l14) rfl (qau rfl qr3 (z0l rfl) qr3 (qtt cS und80 (q03 inf9) q1i h16 h17)) (RS.q (u:=.vl 0 0 0 l14.length) (σ':=⟨[(0,.vec (List.map cS l14).flatten 9 1 0)],1⟩) rfl (q1n rfl rfl rfl rfl (qrb cS l14 und80 und80 inf9 rfl (qgq cS q1i) h18)) ?_)
 obtain ⟨h19,hF⟩:=q0b hF
 refine go ?_
 refine RS.q (u:=.sl 1 0 1 1) (σ':=⟨[(1,.row [.str p2] 9),(0,.vec (List.map cS l14).flatten 9 1 0)],2⟩) rfl (q0j und80 inf9 rfl rfl rfl rfl rfl rfl rfl) (RS.q (u:=.vl 0 1 0 ((l14++[p2]).length)) (σ':=⟨[(1,.row [.str p2] 9),(0,.vec (List.map cS (l14++[p2])).flatten 9 1 1)],2⟩) rfl (q1n rfl rfl rfl rfl (q23 cS ([p2]) und80 und80 inf9 rfl q1i rfl (q1m cS [p2] rfl rfl rfl rfl) h19)) ?_)
 obtain ⟨l20,h21,hF⟩:=q00 hF
 obtain ⟨h22,h23⟩:=cut_lo cS .i64 h21
 obtain ⟨h24,hF⟩:=q0b hF
 refine go ?_
 refine RS.q (u:=.iM cS l20) rfl (qau rfl (z0l rfl) qr3 qr3 (qtt cS und80 (q03 inf9) q1i h22 h23)) (RS.q (u:=.vl 0 2 0 (((l14++[p2])++l20).length)) (σ':=⟨[(1,.row [.str p2] 9),(0,.vec (List.map cS ((l14++[p2])++l20)).flatten 9 1 2)],2⟩) rfl (q1n rfl rfl rfl rfl (q23 cS l20 und80 und80 inf9 rfl q1i rfl (qgq cS q1i) h24)) ?_)
 refine go ?_
 obtain rfl:=sI hF
 exact rT (us:=[.vl 0 2 0 (((l14++[p2])++l20).length)]) (u:=.iM cS ((l14++[p2])++l20)) (q2o rfl (q3b)) (fR 0 1)
 rcases gB h12 with ⟨h8,h12⟩ | ⟨h8,h12⟩
 obtain ⟨x9,h10,h12⟩:=q00 h12
 obtain rfl:=sI h12
 refine go ?_
 refine RS.q rfl (q0a rfl rfl rfl (q07 cS und80)) ?_
 refine go ?_
 refine RS.w rfl (q0i rfl rfl (q09 cS und80 (q03 inf9) q1i h10 rfl)) (RS.w rfl (q0c und9 rfl rfl rfl) ?_)
 refine go ?_
 refine RS.w (u:=.bool (q1k x9 p2)) rfl (q8v rfl rfl rfl rfl) ?_
 refine go ?_
 exact xC ⟨rfl,rfl⟩
 obtain rfl:=sI h12
 refine go ?_
 refine RS.q rfl (q0a rfl rfl rfl (q07 cS und80)) ?_
 refine go ?_
 exact xC ⟨rfl,rfl⟩
 rintro (_|m1) _ _ ⟨z6,hF,rfl,rfl⟩
 cases hF
 unfold qay at hF
 obtain ⟨b28,h29,hF⟩:=q00 hF
 refine gn ?_
 refine z3f (fun tm σ=>tm=fr 48 [(0,.iM cS p1),(1,.str p2),(5,.nils),(6,.i6 z6),(18,.bool b28)]∧σ=⟨[],0⟩) ?_ ?_
 rintro _ _ ⟨rfl,rfl⟩
 refine go ?_
 refine cF hF (fun h30 hF=>?_) (fun h30 hF=>?_)
 refine go ?_
 refine WPU.block ?_
 refine go ?_
 exact lC ⟨_,hF,rfl,rfl⟩
 refine go ?_
 exact xC ⟨z6,hF,rfl,rfl⟩
 rcases gB h29 with ⟨h25,h29⟩ | ⟨h25,h29⟩
 obtain ⟨x26,h27,h29⟩:=q00 h29
 obtain rfl:=sI h29
 refine go ?_
 refine RS.q rfl (q0a rfl rfl rfl (q07 cS und80)) ?_
 refine go ?_
 refine RS.w rfl (q0i rfl rfl (q09 cS und80 (q03 inf9) q1i h27 rfl)) (RS.w rfl (q0c und9 rfl rfl rfl) ?_)
 refine go ?_
 refine RS.w (u:=.bool (q5r x26 p2)) rfl (q8v rfl rfl rfl rfl) ?_
 refine go ?_
 exact xC ⟨rfl,rfl⟩
 obtain rfl:=sI h29
 refine go ?_
 refine RS.q rfl (q0a rfl rfl rfl (q07 cS und80)) ?_
 refine go ?_
 exact xC ⟨rfl,rfl⟩
def qbf  (l7:List (List UInt8)):Option ((List (List UInt8))) :=
 some l7
def q7w (p1:List q05) (n:Nat):Nat→(List (List UInt8))→Int→Option ((List (List UInt8)))
 | 0,_,_=>none
 | m1+1,l5,z6 =>
  cond (decide (z6<(p1.length:Int)))
   (q04 (q0u p1 z6) fun x9 =>
   q04 (q8f n l5 x9.Name) fun r11 =>
   (q7w p1 n m1) r11 (IntKind.i64.wrap (z6+1)))
   (qbf l5)
def qdb (n:Nat) (p1:List q05):Option ((List (List UInt8))) :=
 q7w p1 n n [] 0
theorem qhu (n:Nat) (p1:List q05) (r:(List (List UInt8))) (hF:qdb n p1=some r):EvU Tryz.prog 95 [.isl false (List.map q02 p1)] ⟨[],0⟩ (fun u _=>u = .isl false (List.map cS r)∧Bel 0 u):=by
 unfold qdb at hF
 refine bg1 19 fn95 ?_
 refine gr ?_
 refine gr ?_
 refine gr ?_
 refine WPU.ghost (tm':=fr 19 [(0,.iM q02 p1),(3,.iM cS []),(4,.i6 0)]) (Gh.trans (Gh.sub (l':=[(0,.iM q02 p1),(3,.nils),(4,.i6 0)]) ⟨rfl,rfl,rfl,trivial⟩) (Gh.wkS (l':=[(0,.iM q02 p1),(3,.iM cS []),(4,.i6 0)]) (.cons (.refl _) (.cons (.nil false) (.cons (.refl _) .nil))))) NZ ?_
 refine gS (l':=[(0,_),(3,_),(4,_)]) ?_
 refine z3e (fun m tm σ=>∃ l5:List (List UInt8),∃ z6:Int,q7w p1 n m l5 z6=some r∧tm=fr 19 [(0,.iM q02 p1),(3,.iM cS l5),(4,.i6 z6)]∧σ=⟨[],0⟩) (fun tm σ=>∃ l7:List (List UInt8),qbf l7=some r∧tm=fr 19 [(3,.iM cS l7)]∧σ=⟨[],0⟩) n ⟨[],0,hF,rfl,rfl⟩ ?_ ?_
 rintro _ _ ⟨l7,hF,rfl,rfl⟩
 unfold qbf at hF
 exact gx hF
 rintro (_|m1) _ _ ⟨l5,z6,hF,rfl,rfl⟩
 cases hF
 unfold q7w at hF
 refine go ?_
 refine RS.q rfl (q0a rfl rfl rfl (q07 q02 und38)) ?_
 refine go ?_
 refine cF hF (fun h8 hF=>?_) (fun h8 hF=>?_)
 refine go ?_
 refine WPU.block ?_
 obtain ⟨x9,h10,hF⟩:=q00 hF
 obtain ⟨r11,h12,hF⟩:=q00 hF
 refine go ?_
 refine RS.q rfl (q0i rfl rfl (q09 q02 und38 (q03 inf127) q0k h10 rfl)) (RS.q rfl (q1q und127 rfl (q03 inf9) rfl rfl) (RS.q rfl (q0c und9 rfl rfl rfl) (RS.cl rfl (pC (q79 n l5 x9.Name r11 h12) _) fn116 ?_)))
 refine go ?_
 exact lC ⟨r11,(IntKind.i64.wrap (z6+1)),hF,rfl,rfl⟩
 refine go ?_
 exact xC ⟨l5,hF,rfl,rfl⟩
def qbc  (l21:List (List UInt8)):Option ((List (List UInt8))) :=
 some l21
def q7u (n:Nat) (l13:List (List UInt8)):Nat→(List (List UInt8))→Int→Option ((List (List UInt8)))
 | 0,_,_=>none
 | m2+1,l19,z20 =>
  cond (decide (z20<(l13.length:Int)))
   (q04 (q0u l13 z20) fun x23 =>
   q04 (q8f n l19 x23) fun r25 =>
   (q7u n l13 m2) r25 (IntKind.i64.wrap (z20+1)))
   (qbc l19)
def q7t (z33:Int) (rc3:Int→(List (List UInt8))→Option ((List (List UInt8)))) (l53:List (List UInt8)):Option ((List (List UInt8))) :=
 rc3 (IntKind.i64.wrap (z33+1)) l53
def qbd (z10:Int) (rc1:Int→(List (List UInt8))→Option ((List (List UInt8)))) (l36:List (List UInt8)):Option ((List (List UInt8))) :=
 rc1 (IntKind.i64.wrap (z10+1)) l36
def q48 (p1:List q05) (n:Nat) (z10:Int) (rc1:Int→(List (List UInt8))→Option ((List (List UInt8)))):Nat→Int→(List (List UInt8))→Option ((List (List UInt8)))
 | 0,_,_=>none
 | m3+1,z33,l34 =>
  cond (decide (z33<(p1.length:Int)))
   (q04 (q04 (q0u p1 z33) fun x39 =>
   q04 (q0u l34 z10) fun x41 =>
   q04 (q30 n x39.Supers x41) fun r43 =>
   cond r43
    (q04 (q0u p1 z33) fun x46 =>
    q04 (q30 n l34 x46.Name) fun r48 =>
    some (!r48))
    (some false)) fun b50 =>
   cond b50
    (q04 (q0u p1 z33) fun x55 =>
    q19 ((l34.length+1)*16≤140737488355328∧l34.length+1≤140737488355328) (
    q7t z33 (q48 p1 n z10 rc1 m3) (l34++[x55.Name])))
    (q7t z33 (q48 p1 n z10 rc1 m3) l34))
   (qbd z10 rc1 l34)
def qbb (n:Nat) (l13:List (List UInt8)):Option ((List (List UInt8))) :=
 q7u n l13 n [] 0
def q3k (p1:List q05) (n:Nat):Nat→Int→(List (List UInt8))→Option ((List (List UInt8)))
 | 0,_,_=>none
 | m1+1,z10,l11 =>
  cond (decide (z10<(l11.length:Int)))
   (q48 p1 n z10 (q3k p1 n m1) n 0 l11)
   (qbb n l11)
def qgg (n:Nat) (p1:List q05) (p2:List UInt8):Option ((List (List UInt8))) :=
 q04 (q62 n p1 p2) fun r3 =>
 cond (decide (r3<0))
  (some [])
  (q3k p1 n n 0 ([p2]))
theorem qom (n:Nat) (p1:List q05) (p2:List UInt8) (r:(List (List UInt8))) (hF:qgg n p1 p2=some r):EvU Tryz.prog 125 [.isl false (List.map q02 p1),.str p2] ⟨[],0⟩ (fun u _=>u = .isl false (List.map cS r)∧Bel 0 u):=by
 unfold qgg at hF
 refine bg2 69 fn125 ?_
 obtain ⟨r3,h4,hF⟩:=q00 hF
 refine go ?_
 refine RS.cl rfl (pC (q63 n p1 p2 r3 h4) _) fn148 ?_
 refine go ?_
 refine cF hF (fun h5 hF=>?_) (fun h5 hF=>?_)
 refine go ?_
 obtain rfl:=sI hF
 exact rT (us:=[.nils]) (u:=.isl false []) (q2o rfl (q3b)) wR
 refine go ?_
 refine RS.step (u:=.vl 0 0 0 ([p2].length)) (σ':=⟨[(0,.vec (List.map cS ([p2])).flatten 9 1 0)],1⟩) rfl (qdy.bslv (cs:=(List.map cS [p2]).flatten) Tryz.tb_ok rfl und80 inf9 rfl rfl rfl rfl rfl rfl rfl rfl) rfl rfl ?_
 refine go ?_
 refine gS (l':=[(0,_),(5,_),(6,_)]) ?_
 refine z3e (fun m tm σ=>∃ z10:Int,∃ l11:List (List UInt8),∃ t12:Nat,q3k p1 n m z10 l11=some r∧tm=fr 69 [(0,.iM q02 p1),(5,.vl 0 t12 0 l11.length),(6,.i6 z10)]∧σ=⟨[(0,.vec (List.map cS l11).flatten 9 1 t12)],1⟩) (fun tm σ=>∃ l13:List (List UInt8),∃ t14:Nat,qbb n l13=some r∧tm=fr 69 [(5,.vl 0 t14 0 l13.length)]∧σ=⟨[(0,.vec (List.map cS l13).flatten 9 1 t14)],1⟩) n ⟨0,[p2],0,hF,rfl,rfl⟩ ?_ ?_
 rintro _ _ ⟨l13,t14,hF,rfl,rfl⟩
 unfold qbb at hF
 refine gr ?_
 refine gr ?_
 refine WPU.ghost (tm':=fr 69 [(5,.vl 0 t14 0 l13.length),(8,.iM cS []),(9,.i6 0)]) (Gh.trans (Gh.sub (l':=[(5,.vl 0 t14 0 l13.length),(8,.nils),(9,.i6 0)]) ⟨rfl,rfl,rfl,trivial⟩) (Gh.wkS (l':=[(5,.vl 0 t14 0 l13.length),(8,.iM cS []),(9,.i6 0)]) (.cons (.refl _) (.cons (.nil false) (.cons (.refl _) .nil))))) NZ ?_
 refine gS (l':=[(5,_),(8,_),(9,_)]) ?_
 refine z3e (fun m tm σ=>∃ l19:List (List UInt8),∃ z20:Int,q7u n l13 m l19 z20=some r∧tm=fr 69 [(5,.vl 0 t14 0 l13.length),(8,.iM cS l19),(9,.i6 z20)]∧σ=⟨[(0,.vec (List.map cS l13).flatten 9 1 t14)],1⟩) (fun tm σ=>∃ l21:List (List UInt8),qbc l21=some r∧tm=fr 69 [(8,.iM cS l21)]∧σ=⟨[(0,.vec (List.map cS l13).flatten 9 1 t14)],1⟩) n ⟨[],0,hF,rfl,rfl⟩ ?_ ?_
 rintro _ _ ⟨l21,hF,rfl,rfl⟩
 unfold qbc at hF
 exact gx hF
 rintro (_|m2) _ _ ⟨l19,z20,hF,rfl,rfl⟩
 cases hF
 unfold q7u at hF
 refine go ?_
 refine RS.q rfl (q0a rfl rfl rfl (q9y und80 rfl)) ?_
 refine go ?_
 refine cF hF (fun h22 hF=>?_) (fun h22 hF=>?_)
 refine go ?_
 refine WPU.block ?_
 obtain ⟨x23,h24,hF⟩:=q00 hF
 obtain ⟨r25,h26,hF⟩:=q00 hF
 refine go ?_
 refine RS.q rfl (q0i rfl rfl (qai cS und80 (q03 inf9) (by decide) q1i (vo rfl) h24)) ?_
 refine RS.q rfl (q5s cS (fun x=>.str x) und9 rfl (fun _=>rfl) rfl rfl h24) (RS.cl rfl (pC (q79 n l19 x23 r25 h26) _) fn116 ?_)
 refine go ?_
 exact lC ⟨r25,(IntKind.i64.wrap (z20+1)),hF,rfl,rfl⟩
 refine go ?_
 exact xC ⟨l19,hF,rfl,rfl⟩
 rintro (_|m1) _ _ ⟨z10,l11,t12,hF,rfl,rfl⟩
 cases hF
 unfold q3k at hF
 refine go ?_
 refine RS.q rfl (q0a rfl rfl rfl (q9y und80 rfl)) ?_
 refine go ?_
 refine cF hF (fun h27 hF=>?_) (fun h27 hF=>?_)
 refine go ?_
 refine WPU.block ?_
 refine go ?_
 refine gS (l':=[(0,_),(5,_),(6,_),(7,_)]) ?_
 refine z3e (fun m tm σ=>∃ z33:Int,∃ l34:List (List UInt8),∃ t35:Nat,q48 p1 n z10 (q3k p1 n m1) m z33 l34=some r∧tm=fr 69 [(0,.iM q02 p1),(5,.vl 0 t35 0 l34.length),(6,.i6 z10),(7,.i6 z33)]∧σ=⟨[(0,.vec (List.map cS l34).flatten 9 1 t35)],1⟩) (fun tm σ=>∃ l36:List (List UInt8),∃ t37:Nat,qbd z10 (q3k p1 n m1) l36=some r∧tm=fr 69 [(0,.iM q02 p1),(5,.vl 0 t37 0 l36.length),(6,.i6 z10)]∧σ=⟨[(0,.vec (List.map cS l36).flatten 9 1 t37)],1⟩) n ⟨0,l11,t12,hF,rfl,rfl⟩ ?_ ?_
 rintro _ _ ⟨l36,t37,hF,rfl,rfl⟩
 unfold qbd at hF
 refine go ?_
 exact lC ⟨_,l36,t37,hF,rfl,rfl⟩
 rintro (_|m3) _ _ ⟨z33,l34,t35,hF,rfl,rfl⟩
 cases hF
 unfold q48 at hF
 refine go ?_
 refine RS.q rfl (q0a rfl rfl rfl (q07 q02 und38)) ?_
 refine go ?_
 refine cF hF (fun h38 hF=>?_) (fun h38 hF=>?_)
 refine go ?_
 refine WPU.block ?_
 obtain ⟨b50,h51,hF⟩:=q00 hF
 refine gn ?_
 refine z3f (fun tm σ=>tm=fr 69 [(0,.iM q02 p1),(5,.vl 0 t35 0 l34.length),(6,.i6 z10),(7,.i6 z33),(47,.bool b50)]∧σ=⟨[(0,.vec (List.map cS l34).flatten 9 1 t35)],1⟩) ?_ ?_
 rintro _ _ ⟨rfl,rfl⟩
 refine gn ?_
 refine z3f (fun tm σ=>∃ l53:List (List UInt8),∃ t54:Nat,q7t z33 (q48 p1 n z10 (q3k p1 n m1) m3) l53=some r∧tm=fr 69 [(0,.iM q02 p1),(5,.vl 0 t54 0 l53.length),(6,.i6 z10),(7,.i6 z33)]∧σ=⟨[(0,.vec (List.map cS l53).flatten 9 1 t54)],1⟩) ?_ ?_
 rintro _ _ ⟨l53,t54,hF,rfl,rfl⟩
 unfold q7t at hF
 refine go ?_
 exact lC ⟨_,l53,t54,hF,rfl,rfl⟩
 refine cF hF (fun h52 hF=>?_) (fun h52 hF=>?_)
 obtain ⟨x55,h56,hF⟩:=q00 hF
 obtain ⟨h57,hF⟩:=q0b hF
 refine go ?_
 refine RS.q rfl (q0i rfl rfl (q09 q02 und38 (q03 inf127) q0k h56 rfl)) (RS.q rfl (q1q und127 rfl (q03 inf9) rfl rfl) (RS.q rfl (q0c und9 rfl rfl rfl) (RS.q (u:=.sl 1 0 1 1) (σ':=⟨[(1,.row [.str x55.Name] 9),(0,.vec (List.map cS l34).flatten 9 1 t35)],2⟩) rfl (q0j und80 inf9 rfl rfl rfl rfl rfl rfl rfl) (RS.q (u:=.vl 0 (t35+1) 0 ((l34++[x55.Name]).length)) (σ':=⟨[(1,.row [.str x55.Name] 9),(0,.vec (List.map cS (l34++[x55.Name])).flatten 9 1 (t35+1))],2⟩) rfl (q1n rfl rfl rfl rfl (q23 cS ([x55.Name]) und80 und80 inf9 rfl q1i rfl (q1m cS [x55.Name] rfl rfl rfl rfl) h57)) ?_))))
 refine go ?_
 exact xC ⟨(l34++[x55.Name]),(t35+1),hF,rfl,rfl⟩
 refine go ?_
 exact xC ⟨l34,t35,hF,rfl,rfl⟩
 obtain ⟨x39,h40,h51⟩:=q00 h51
 obtain ⟨x41,h42,h51⟩:=q00 h51
 obtain ⟨r43,h44,h51⟩:=q00 h51
 rcases gB h51 with ⟨h45,h51⟩ | ⟨h45,h51⟩
 obtain ⟨x46,h47,h51⟩:=q00 h51
 obtain ⟨r48,h49,h51⟩:=q00 h51
 obtain rfl:=sI h51
 refine z3g Tryz.tb_ok [] (by kernel_rfl) ?_
 repeat refine RD.mv rfl rfl rfl rfl ?_
 refine RD.q rfl (q0i rfl rfl (q09 q02 und38 (q03 inf127) q0k h40 rfl)) (RD.q rfl (q1q und127 rfl (q03 inf80) rfl rfl) (RD.q rfl (q0c und80 rfl rfl rfl) ?_))
 repeat refine RD.mv rfl rfl rfl rfl ?_
 refine RD.q rfl (q0i rfl rfl (qai cS und80 (q03 inf9) (by decide) q1i (vo rfl) h42)) ?_
 refine RD.q rfl (q5s cS (fun x=>.str x) und9 rfl (fun _=>rfl) rfl rfl h42) (RD.fl rfl (pC (q29 n x39.Supers x41 r43 h44)) fn126 (RD.mv rfl rfl rfl rfl (RD.w rfl (q1w rfl) (RD.w rfl (q1w rfl) (RD.w rfl (q1w rfl) (RD.w rfl (q0i rfl rfl (q09 q02 und38 (q03 inf127) q0k h47 rfl)) (RD.w rfl (q1q und127 rfl (q03 inf9) rfl rfl) ?_)))))))
 refine RD.w rfl (q0c und9 rfl rfl rfl) (RD.call (u:=.bool r48) (args:=[.vl 0 t35 0 l34.length,.str x46.Name]) (z3b rfl rfl rfl h45) (qcs rfl rfl fn126 hb126 rfl rfl) (vw (q29 n l34 x46.Name r48 h49) (z3h 0 1)) rfl rfl (RD.w rfl (qur rfl rfl rfl rfl) (RD.q rfl (qhm rfl h45 rfl) ?_)))
 refine RD.done ⟨by kernel_rfl,trivial,?_⟩
 refine go ?_
 exact xC ⟨rfl,rfl⟩
 obtain rfl:=sI h51
 refine z3g Tryz.tb_ok [] (by kernel_rfl) ?_
 repeat refine RD.mv rfl rfl rfl rfl ?_
 refine RD.q rfl (q0i rfl rfl (q09 q02 und38 (q03 inf127) q0k h40 rfl)) (RD.q rfl (q1q und127 rfl (q03 inf80) rfl rfl) (RD.q rfl (q0c und80 rfl rfl rfl) ?_))
 repeat refine RD.mv rfl rfl rfl rfl ?_
 refine RD.q rfl (q0i rfl rfl (qai cS und80 (q03 inf9) (by decide) q1i (vo rfl) h42)) ?_
 refine RD.q rfl (q5s cS (fun x=>.str x) und9 rfl (fun _=>rfl) rfl rfl h42) (RD.fl rfl (pC (q29 n x39.Supers x41 r43 h44)) fn126 (RD.mv rfl rfl rfl rfl ?_))
 repeat refine RD.no (qv2 rfl rfl rfl h45) rfl rfl ?_
 refine RD.q rfl (qhl rfl h45 rfl) ?_
 refine RD.done ⟨by kernel_rfl,trivial,?_⟩
 refine go ?_
 exact xC ⟨rfl,rfl⟩
 refine go ?_
 exact xC ⟨l34,t35,hF,rfl,rfl⟩
 refine go ?_
 exact xC ⟨l11,t12,hF,rfl,rfl⟩
def qa0 (p1:List Int) (z5:Int):Option ((List Int)) :=
 q04 (z0i p1 0 z5) fun l6 =>
 q19 (l6.length*8≤140737488355328∧l6.length≤140737488355328) (
 some l6)
def q6g (p1:List Int):Nat→Int→Option ((List Int))
 | 0,_=>none
 | m1+1,z4 =>
  q04 (cond (decide (z4 > 0))
   (q04 (q0u p1 (IntKind.i64.wrap (z4 - 1))) fun x12 =>
   some (x12 == 0))
   (some false)) fun b14 =>
  cond b14
   ((q6g p1 m1) (IntKind.i64.wrap (z4 - 1)))
   (qa0 p1 z4)
def q61 (n:Nat) (p1:List Int):Option ((List Int)) :=
 q6g p1 n (p1.length:Int)
theorem q7n (n:Nat) (p1:List Int) (r:(List Int)) (hF:q61 n p1=some r):EvU Tryz.prog 119 [.isl false (List.map (cI .u64) p1)] ⟨[],0⟩ (fun u _=>u = .isl false (List.map (cI .u64) r)∧Bel 0 u):=by
 unfold q61 at hF
 refine bg1 23 fn119 ?_
 refine go ?_
 refine RS.q rfl (q0a rfl rfl rfl (q07 (cI .u64) und103)) ?_
 refine go ?_
 refine gS (l':=[(0,_),(3,_)]) ?_
 refine z3e (fun m tm σ=>∃ z4:Int,q6g p1 m z4=some r∧tm=fr 23 [(0,.iM (cI .u64) p1),(3,.i6 z4)]∧σ=⟨[],0⟩) (fun tm σ=>∃ z5:Int,qa0 p1 z5=some r∧tm=fr 23 [(0,.iM (cI .u64) p1),(3,.i6 z5)]∧σ=⟨[],0⟩) n ⟨(p1.length:Int),hF,rfl,rfl⟩ ?_ ?_
 rintro _ _ ⟨z5,hF,rfl,rfl⟩
 unfold qa0 at hF
 obtain ⟨l6,h7,hF⟩:=q00 hF
 obtain ⟨h8,h9⟩:=qvt (cI .u64) .i64 h7
 obtain ⟨h10,hF⟩:=q0b hF
 refine go ?_
 refine RS.q (u:=.sl 0 0 0 0) (σ':=⟨[(0,.row [] 191)],1⟩) rfl (q0j und103 inf191 rfl rfl rfl rfl rfl rfl rfl) ?_
 refine go ?_
 refine RS.q (u:=.iM (cI .u64) l6) rfl (qau rfl qr3 (z0l rfl) qr3 (qtt (cI .u64) und103 (q03 inf191) (q18 .u64) h8 h9)) (RS.q (u:=.vl 1 0 0 l6.length) (σ':=⟨[(1,.vec (List.map (cI .u64) l6).flatten 191 1 0),(0,.row [] 191)],2⟩) rfl (q1n rfl rfl rfl rfl (qra (cI .u64) l6 und103 und103 inf191 rfl rfl rfl (qgq (cI .u64) (q18 .u64)) h10)) ?_)
 refine go ?_
 obtain rfl:=sI hF
 exact rT (us:=[.vl 1 0 0 l6.length]) (u:=.iM (cI .u64) l6) (q2o rfl (q3b)) (fR 1 1)
 rintro (_|m1) _ _ ⟨z4,hF,rfl,rfl⟩
 cases hF
 unfold q6g at hF
 obtain ⟨b14,h15,hF⟩:=q00 hF
 refine gn ?_
 refine z3f (fun tm σ=>tm=fr 23 [(0,.iM (cI .u64) p1),(3,.i6 z4),(15,.bool b14)]∧σ=⟨[],0⟩) ?_ ?_
 rintro _ _ ⟨rfl,rfl⟩
 refine go ?_
 refine cF hF (fun h16 hF=>?_) (fun h16 hF=>?_)
 refine go ?_
 refine WPU.block ?_
 refine go ?_
 exact lC ⟨_,hF,rfl,rfl⟩
 refine go ?_
 exact xC ⟨z4,hF,rfl,rfl⟩
 rcases gB h15 with ⟨h11,h15⟩ | ⟨h11,h15⟩
 obtain ⟨x12,h13,h15⟩:=q00 h15
 obtain rfl:=sI h15
 refine go ?_
 refine RS.w rfl (q0i rfl rfl (q09 (cI .u64) und103 (q03 inf191) (q18 .u64) h13 rfl)) (RS.w rfl (q0c und191 rfl rfl rfl) ?_)
 refine go ?_
 exact xC ⟨rfl,rfl⟩
 exact gy h15
def qge (n:Nat) (l8:List Int):Option ((List Int)×Int) :=
 q19 ((64:Int).toNat=l8.length) (
 q04 (q61 n l8) fun r10 =>
 some (r10,0))
def qd9 (p1:List Int) (n:Nat):Nat→Int→(List Int)→Option ((List Int)×Int)
 | 0,_,_=>none
 | m1+1,z6,l7 =>
  cond (decide (z6<(p1.length:Int)))
   (q04 (q04 (q0u p1 z6) fun x13 =>
   cond (decide (x13<0))
    (some true)
    (q04 (q0u p1 z6) fun x16 =>
    some (decide (x16 > 4095)))) fun b18 =>
   cond b18
    (some ([],2))
    (q04 (q0u p1 z6) fun x21 =>
    q04 (q0u p1 z6) fun x24 =>
    q04 (qgs l7 0 ((64:Int).toNat) (IntKind.i64.wrap (x24.tdiv 64))) fun x27 =>
    q04 (q0u p1 z6) fun x29 =>
    q19 (¬ (IntKind.u64.wrap (x29.tmod 64))<0) (
    q04 (qgs l7 0 ((64:Int).toNat) (IntKind.i64.wrap (x21.tdiv 64))) fun x33 =>
    (qd9 p1 n m1) (IntKind.i64.wrap (z6+1)) (l7.set (IntKind.i64.wrap (x21.tdiv 64)).toNat (orI .u64 x27 (IntKind.u64.wrap (1*(2 ^ (min (IntKind.u64.wrap (x29.tmod 64)).toNat IntKind.u64.bits)))))))))
   (qge n l7)
def qok (n:Nat) (p1:List Int):Option ((List Int)×Int) :=
 q19 (0≤(64:Int)∧8*(64:Int).toNat≤281474976710656∧(64:Int)≤281474976710656) (
 qd9 p1 n n 0 (List.replicate (64:Int).toNat 0))
theorem qut (n:Nat) (p1:List Int) (r:(List Int)×Int) (hF:qok n p1=some r):EvU Tryz.prog 127 [.isl false (List.map (cI .i64) p1)] ⟨[],0⟩ (fun u _=>u = .tup [.isl false (List.map (cI .u64) r.1),.int .i64 r.2]∧Bel 0 u):=by
 unfold qok at hF
 refine bg1 50 fn127 ?_
 obtain ⟨h2,hF⟩:=q0b hF
 refine go ?_
 refine RS.q (u:=.sl 0 0 ((64:Int).toNat) ((64:Int).toNat)) (σ':=⟨[(0,.row (List.map (cI .u64) (List.replicate (64:Int).toNat 0)).flatten 191)],1⟩) rfl (qx6 (cI .u64) 0 rfl rfl und103 inf191 rfl rfl rfl rfl h2) ?_
 refine go ?_
 refine gS (l':=[(0,_),(4,_),(5,_)]) ?_
 refine z3e (fun m tm σ=>∃ z6:Int,∃ l7:List Int,qd9 p1 n m z6 l7=some r∧tm=fr 50 [(0,.iM (cI .i64) p1),(4,.sl 0 0 ((64:Int).toNat) ((64:Int).toNat)),(5,.i6 z6)]∧σ=⟨[(0,.row (List.map (cI .u64) l7).flatten 191)],1⟩) (fun tm σ=>∃ l8:List Int,qge n l8=some r∧tm=fr 50 [(4,.sl 0 0 ((64:Int).toNat) ((64:Int).toNat))]∧σ=⟨[(0,.row (List.map (cI .u64) l8).flatten 191)],1⟩) n ⟨0,(List.replicate (64:Int).toNat 0),hF,rfl,rfl⟩ ?_ ?_
 rintro _ _ ⟨l8,hF,rfl,rfl⟩
 unfold qge at hF
 obtain ⟨h9,hF⟩:=q0b hF
 refine gn ?_
 refine WPU.ghost (tm':=fr 50 [(4,.iM (cI .u64) l8)]) (σ':=⟨[],1⟩) (Gh.trans (Gh.sub (l':=[(4,.sl 0 0 ((64:Int).toNat) ((64:Int).toNat))]) ⟨rfl,trivial⟩) (Gh.fzS (l':=[(4,.iM (cI .u64) l8)]) (h':=[]) 0 (.row (List.map (cI .u64) l8).flatten 191) 1 rfl (by simp) (by simp only [fzS,qmj,qil,qao,qnd,ql8,qnf,qio,qlb,qla,ql9,qin,qne,qpw,qnc,qng,qui,qo6,qze (q18 .u64) h9]) (by simp only [fzH,fzB,ug,Nat.beq,cond_true,cond_false,qmj,qil,qao,qnd,ql8,qnf,qio,qlb,qla,ql9,qin,qne,qpw,qnc,qng,qui,qo6,qze (q18 .u64) h9]))) NZ ?_
 obtain ⟨r10,h11,hF⟩:=q00 hF
 refine go ?_
 refine RS.cl rfl (pC (q7n n l8 r10 h11) _) fn119 ?_
 refine go ?_
 obtain rfl:=sI hF
 exact rt2 rfl rfl rfl rfl rfl
 rintro (_|m1) _ _ ⟨z6,l7,hF,rfl,rfl⟩
 cases hF
 unfold qd9 at hF
 refine go ?_
 refine RS.q rfl (q0a rfl rfl rfl (q07 (cI .i64) und33)) ?_
 refine go ?_
 refine cF hF (fun h12 hF=>?_) (fun h12 hF=>?_)
 refine go ?_
 refine WPU.block ?_
 obtain ⟨b18,h19,hF⟩:=q00 hF
 refine gn ?_
 refine z3f (fun tm σ=>tm=fr 50 [(0,.iM (cI .i64) p1),(4,.sl 0 0 ((64:Int).toNat) ((64:Int).toNat)),(5,.i6 z6),(24,.bool b18)]∧σ=⟨[(0,.row (List.map (cI .u64) l7).flatten 191)],1⟩) ?_ ?_
 rintro _ _ ⟨rfl,rfl⟩
 refine go ?_
 refine cF hF (fun h20 hF=>?_) (fun h20 hF=>?_)
 refine go ?_
 obtain rfl:=sI hF
 exact rT (us:=[.nils,.i6 2]) (u:=.tup [.isl false [],.i6 2]) (q2o rfl (q2o rfl (q3b))) wR
 obtain ⟨x21,h22,hF⟩:=q00 hF
 obtain ⟨x24,h25,hF⟩:=q00 hF
 obtain ⟨x27,h28,hF⟩:=q00 hF
 obtain ⟨x29,h30,hF⟩:=q00 hF
 obtain ⟨h32,hF⟩:=q0b hF
 obtain ⟨x33,h34,hF⟩:=q00 hF
 refine go ?_
 refine z3g Tryz.tb_ok [] (by kernel_rfl) ?_
 repeat refine RD.mv rfl rfl rfl rfl ?_
 refine RD.q rfl (q0i rfl rfl (q09 (cI .i64) und33 (q03 inf3) (q18 .i64) h22 rfl)) (RD.q rfl (q0c und3 rfl rfl rfl) ?_)
 refine RD.q rfl (q2y rfl rfl (qsw _ (by decide)) rfl) ?_
 repeat refine RD.mv rfl rfl rfl rfl ?_
 refine RD.q rfl (q0i rfl rfl (q09 (cI .i64) und33 (q03 inf3) (q18 .i64) h25 rfl)) (RD.q rfl (q0c und3 rfl rfl rfl) ?_)
 refine RD.q rfl (q2y rfl rfl (qsw _ (by decide)) rfl) ?_
 refine RD.q rfl (q0i rfl rfl (quj und103 (q03 inf191) rfl h28)) (RD.q (u:=.int .u64 x27) rfl (z1c (cI .u64) (fun x=>.int .u64 x) und191 rfl (fun _=>rfl) rfl rfl h28) ?_)
 repeat refine RD.mv rfl rfl rfl rfl ?_
 refine RD.q rfl (q0i rfl rfl (q09 (cI .i64) und33 (q03 inf3) (q18 .i64) h30 rfl)) (RD.q rfl (q0c und3 rfl rfl rfl) ?_)
 refine RD.q rfl (q2y rfl rfl (z1b _ (by decide)) rfl) ?_
 refine RD.q (u:=.int .u64 (IntKind.u64.wrap (x29.tmod 64))) rfl (qx5 rfl rfl (by simp only [qrg,und3,und190]<;>rfl) rfl) ?_
 refine RD.q rfl (q2y rfl rfl (ix_shl _ h32) rfl) (RD.q rfl (q2y rfl rfl (ix_or _ _ _) rfl) (RD.q rfl (q0i rfl rfl (quj und103 (q03 inf191) rfl h34)) ?_))
 refine z3o (u:=.junk) (σ':=⟨[(0,.row (List.map (cI .u64) (l7.set (IntKind.i64.wrap (x21.tdiv 64)).toNat (orI .u64 x27 (IntKind.u64.wrap (1*(2 ^ (min (IntKind.u64.wrap (x29.tmod 64)).toNat IntKind.u64.bits))))))).flatten 191)],1⟩) rfl (z05 (cI .u64) (q03 inf191) (q18 .u64) rfl rfl rfl rfl rfl rfl h34 rfl) rfl ?_
 refine RD.done ⟨by kernel_rfl,trivial,?_⟩
 refine go ?_
 exact lC ⟨_,(l7.set (IntKind.i64.wrap (x21.tdiv 64)).toNat (orI .u64 x27 (IntKind.u64.wrap (1*(2 ^ (min (IntKind.u64.wrap (x29.tmod 64)).toNat IntKind.u64.bits)))))),hF,rfl,rfl⟩
 obtain ⟨x13,h14,h19⟩:=q00 h19
 rcases gB h19 with ⟨h15,h19⟩ | ⟨h15,h19⟩
 obtain rfl:=sI h19
 refine go ?_
 refine RS.q rfl (q0i rfl rfl (q09 (cI .i64) und33 (q03 inf3) (q18 .i64) h14 rfl)) (RS.q rfl (q0c und3 rfl rfl rfl) ?_)
 refine go ?_
 exact xC ⟨rfl,rfl⟩
 obtain ⟨x16,h17,h19⟩:=q00 h19
 obtain rfl:=sI h19
 refine go ?_
 refine RS.q rfl (q0i rfl rfl (q09 (cI .i64) und33 (q03 inf3) (q18 .i64) h14 rfl)) (RS.q rfl (q0c und3 rfl rfl rfl) ?_)
 refine go ?_
 refine RS.w rfl (q0i rfl rfl (q09 (cI .i64) und33 (q03 inf3) (q18 .i64) h17 rfl)) (RS.w rfl (q0c und3 rfl rfl rfl) ?_)
 refine go ?_
 exact xC ⟨rfl,rfl⟩
 refine go ?_
 exact xC ⟨l7,hF,rfl,rfl⟩
def q9f (z11:Int) (rc1:Int→(List Int)→Option ((List Int))) (l24:List Int):Option ((List Int)) :=
 rc1 (IntKind.i64.wrap (z11+1)) l24
def qde (n:Nat) (l14:List Int):Option ((List Int)) :=
 q04 (qok n l14) fun r16 =>
 some r16.1
def q4z (p2:List (List UInt8)) (n:Nat) (r4:(List (List UInt8))):Nat→Int→(List Int)→Option ((List Int))
 | 0,_,_=>none
 | m1+1,z11,l12 =>
  cond (decide (z11<(p2.length:Int)))
   (q04 (q0u p2 z11) fun x19 =>
   q04 (q30 n r4 x19) fun r21 =>
   cond r21
    (q19 ((l12.length+1)*8≤140737488355328∧l12.length+1≤140737488355328) (
    q9f z11 (q4z p2 n r4 m1) (l12++[z11])))
    (q9f z11 (q4z p2 n r4 m1) l12))
   (qde n l12)
def qj3 (n:Nat) (p1:List q05) (p2:List (List UInt8)) (p3:List UInt8):Option ((List Int)) :=
 q04 (qgg n p1 p3) fun r4 =>
 q4z p2 n r4 n 0 ([]:List Int)
theorem qql (n:Nat) (p1:List q05) (p2:List (List UInt8)) (p3:List UInt8) (r:(List Int)) (hF:qj3 n p1 p2 p3=some r):EvU Tryz.prog 96 [.isl false (List.map q02 p1),.isl false (List.map cS p2),.str p3] ⟨[],0⟩ (fun u _=>u = .isl false (List.map (cI .u64) r)∧Bel 0 u):=by
 unfold qj3 at hF
 refine bg3 37 fn96 ?_
 obtain ⟨r4,h5,hF⟩:=q00 hF
 refine go ?_
 refine RS.cl rfl (pC (qom n p1 p3 r4 h5) _) fn125 ?_
 refine gr ?_
 refine gr ?_
 refine WPU.ghost (tm':=fr 37 [(1,.iM cS p2),(7,.iM cS r4),(8,.vl 0 0 0 (([]:List Int).length)),(9,.i6 0)]) (σ':=⟨[(0,.vec (List.map (cI .i64) ([]:List Int)).flatten 3 1 0)],1⟩) (Gh.trans (z3k 8 3 1 (by decide) NZ rfl rfl) (z3j ⟨rfl,rfl,rfl,rfl,trivial⟩ rfl)) NZ ?_
 refine gS (l':=[(1,_),(7,_),(8,_),(9,_)]) ?_
 refine z3e (fun m tm σ=>∃ z11:Int,∃ l12:List Int,∃ t13:Nat,q4z p2 n r4 m z11 l12=some r∧tm=fr 37 [(1,.iM cS p2),(7,.iM cS r4),(8,.vl 0 t13 0 l12.length),(9,.i6 z11)]∧σ=⟨[(0,.vec (List.map (cI .i64) l12).flatten 3 1 t13)],1⟩) (fun tm σ=>∃ l14:List Int,∃ t15:Nat,qde n l14=some r∧tm=fr 37 [(8,.vl 0 t15 0 l14.length)]∧σ=⟨[(0,.vec (List.map (cI .i64) l14).flatten 3 1 t15)],1⟩) n ⟨0,([]:List Int),0,hF,rfl,rfl⟩ ?_ ?_
 rintro _ _ ⟨l14,t15,hF,rfl,rfl⟩
 unfold qde at hF
 refine gn ?_
 refine WPU.ghost (tm':=fr 37 [(8,.iM (cI .i64) l14)]) (σ':=⟨[],1⟩) (Gh.trans (Gh.sub (l':=[(8,.vl 0 t15 0 l14.length)]) ⟨rfl,trivial⟩) (z3s 0 1)) NZ ?_
 obtain ⟨r16,h17,hF⟩:=q00 hF
 refine go ?_
 refine RS.cl rfl (pC (qut n l14 r16 h17) _) fn127 ?_
 exact gx hF
 rintro (_|m1) _ _ ⟨z11,l12,t13,hF,rfl,rfl⟩
 cases hF
 unfold q4z at hF
 refine go ?_
 refine RS.q rfl (q0a rfl rfl rfl (q07 cS und80)) ?_
 refine go ?_
 refine cF hF (fun h18 hF=>?_) (fun h18 hF=>?_)
 refine go ?_
 refine WPU.block ?_
 obtain ⟨x19,h20,hF⟩:=q00 hF
 obtain ⟨r21,h22,hF⟩:=q00 hF
 refine go ?_
 refine RS.q rfl (q0i rfl rfl (q09 cS und80 (q03 inf9) q1i h20 rfl)) (RS.q rfl (q0c und9 rfl rfl rfl) (RS.cl rfl (pC (q29 n r4 x19 r21 h22) _) fn126 ?_))
 refine gn ?_
 refine z3f (fun tm σ=>∃ l24:List Int,∃ t25:Nat,q9f z11 (q4z p2 n r4 m1) l24=some r∧tm=fr 37 [(1,.iM cS p2),(7,.iM cS r4),(8,.vl 0 t25 0 l24.length),(9,.i6 z11)]∧σ=⟨[(0,.vec (List.map (cI .i64) l24).flatten 3 1 t25)],1⟩) ?_ ?_
 rintro _ _ ⟨l24,t25,hF,rfl,rfl⟩
 unfold q9f at hF
 refine go ?_
 exact lC ⟨_,l24,t25,hF,rfl,rfl⟩
 refine cF hF (fun h23 hF=>?_) (fun h23 hF=>?_)
 obtain ⟨h26,hF⟩:=q0b hF
 refine go ?_
 refine RS.q (u:=.sl 1 0 1 1) (σ':=⟨[(1,.row [.i6 z11] 3),(0,.vec (List.map (cI .i64) l12).flatten 3 1 t13)],2⟩) rfl (q0j und33 inf3 rfl rfl rfl rfl rfl rfl rfl) (RS.q (u:=.vl 0 (t13+1) 0 ((l12++[z11]).length)) (σ':=⟨[(1,.row [.i6 z11] 3),(0,.vec (List.map (cI .i64) (l12++[z11])).flatten 3 1 (t13+1))],2⟩) rfl (q1n rfl rfl rfl rfl (q23 (cI .i64) ([z11]) und33 und33 inf3 rfl (q18 .i64) rfl (q1m (cI .i64) [z11] rfl rfl rfl rfl) h26)) ?_)
 refine go ?_
 exact xC ⟨(l12++[z11]),(t13+1),hF,rfl,rfl⟩
 refine go ?_
 exact xC ⟨l12,t13,hF,rfl,rfl⟩
 refine go ?_
 exact xC ⟨l12,t13,hF,rfl,rfl⟩
def qf9 (n:Nat) (p1:List Int) (p2:Int):Option (Int) :=
 cond (decide (p2<(p1.length:Int)))
  (q04 (q0u p1 p2) fun x4 =>
  some x4)
  (some 0)
theorem qjn (n:Nat) (p1:List Int) (p2:Int) (r:Int) (hF:qf9 n p1 p2=some r):EvU Tryz.prog 146 [.isl false (List.map (cI .u64) p1),.int .i64 p2] ⟨[],0⟩ (fun u _=>u = .int .u64 r∧Bel 0 u):=by
 unfold qf9 at hF
 refine bg2 13 fn146 ?_
 refine go ?_
 refine RS.q rfl (q0a rfl rfl rfl (q07 (cI .u64) und103)) ?_
 refine go ?_
 refine cF hF (fun h3 hF=>?_) (fun h3 hF=>?_)
 obtain ⟨x4,h5,hF⟩:=q00 hF
 refine go ?_
 refine RS.q rfl (q0i rfl rfl (q09 (cI .u64) und103 (q03 inf191) (q18 .u64) h5 rfl)) (RS.q rfl (q0c und191 rfl rfl rfl) ?_)
 exact gx hF
 exact gx hF
def qej (n:Nat) (l11:List Int):Option ((List Int)) :=
 q04 (q61 n l11) fun r13 =>
 some r13
def qax (p1:List Int) (p2:List Int) (n:Nat):Nat→Int→(List Int)→Option ((List Int))
 | 0,_,_=>none
 | m1+1,z8,l9 =>
  cond (decide (z8<(p1.length:Int)))
   (q04 (q0u p1 z8) fun x16 =>
   q04 (qf9 n p2 z8) fun r18 =>
   q19 ((l9.length+1)*8≤140737488355328∧l9.length+1≤140737488355328) (
   (qax p1 p2 n m1) (IntKind.i64.wrap (z8+1)) (l9++[(qv9 .u64 x16 r18)])))
   (qej n l9)
def qhr (n:Nat) (p1:List Int) (p2:List Int):Option ((List Int)) :=
 qax p1 p2 n n 0 ([]:List Int)
theorem qlx (n:Nat) (p1:List Int) (p2:List Int) (r:(List Int)) (hF:qhr n p1 p2=some r):EvU Tryz.prog 118 [.isl false (List.map (cI .u64) p1),.isl false (List.map (cI .u64) p2)] ⟨[],0⟩ (fun u _=>u = .isl false (List.map (cI .u64) r)∧Bel 0 u):=by
 unfold qhr at hF
 refine bg2 26 fn118 ?_
 refine gr ?_
 refine gr ?_
 refine gr ?_
 refine WPU.ghost (tm':=fr 26 [(0,.iM (cI .u64) p1),(1,.iM (cI .u64) p2),(5,.vl 0 0 0 (([]:List Int).length)),(6,.i6 0)]) (σ':=⟨[(0,.vec (List.map (cI .u64) ([]:List Int)).flatten 191 1 0)],1⟩) (Gh.trans (z3k 5 191 1 (by decide) NZ rfl rfl) (z3j ⟨rfl,rfl,rfl,rfl,trivial⟩ rfl)) NZ ?_
 refine gS (l':=[(0,_),(1,_),(5,_),(6,_)]) ?_
 refine z3e (fun m tm σ=>∃ z8:Int,∃ l9:List Int,∃ t10:Nat,qax p1 p2 n m z8 l9=some r∧tm=fr 26 [(0,.iM (cI .u64) p1),(1,.iM (cI .u64) p2),(5,.vl 0 t10 0 l9.length),(6,.i6 z8)]∧σ=⟨[(0,.vec (List.map (cI .u64) l9).flatten 191 1 t10)],1⟩) (fun tm σ=>∃ l11:List Int,∃ t12:Nat,qej n l11=some r∧tm=fr 26 [(5,.vl 0 t12 0 l11.length)]∧σ=⟨[(0,.vec (List.map (cI .u64) l11).flatten 191 1 t12)],1⟩) n ⟨0,([]:List Int),0,hF,rfl,rfl⟩ ?_ ?_
 rintro _ _ ⟨l11,t12,hF,rfl,rfl⟩
 unfold qej at hF
 refine gn ?_
 refine WPU.ghost (tm':=fr 26 [(5,.iM (cI .u64) l11)]) (σ':=⟨[],1⟩) (Gh.trans (Gh.sub (l':=[(5,.vl 0 t12 0 l11.length)]) ⟨rfl,trivial⟩) (z3s 0 1)) NZ ?_
 obtain ⟨r13,h14,hF⟩:=q00 hF
 refine go ?_
 refine RS.cl rfl (pC (q7n n l11 r13 h14) _) fn119 ?_
 exact gx hF
 rintro (_|m1) _ _ ⟨z8,l9,t10,hF,rfl,rfl⟩
 cases hF
 unfold qax at hF
 refine go ?_
 refine RS.q rfl (q0a rfl rfl rfl (q07 (cI .u64) und103)) ?_
 refine go ?_
 refine cF hF (fun h15 hF=>?_) (fun h15 hF=>?_)
 refine go ?_
 refine WPU.block ?_
 obtain ⟨x16,h17,hF⟩:=q00 hF
 obtain ⟨r18,h19,hF⟩:=q00 hF
 obtain ⟨h20,hF⟩:=q0b hF
 refine go ?_
 refine z3g Tryz.tb_ok [(0,9)] (by kernel_rfl) ?_
 repeat refine RD.mv rfl rfl rfl rfl ?_
 refine RD.q rfl (q0i rfl rfl (q09 (cI .u64) und103 (q03 inf191) (q18 .u64) h17 rfl)) (RD.q rfl (q0c und191 rfl rfl rfl) ?_)
 repeat refine RD.mv rfl rfl rfl rfl ?_
 refine RD.fl rfl (pC (qjn n p2 z8 r18 h19)) fn146 (RD.q rfl (q2y rfl rfl (z0z _ _ _) rfl) (RD.act (u:=.sl 1 0 1 1) (σ':=⟨[(1,.row [.int .u64 (qv9 .u64 x16 r18)] 191),(0,.vec (List.map (cI .u64) l9).flatten 191 1 t10)],2⟩) rfl (q0j und103 inf191 rfl rfl rfl rfl rfl rfl rfl) rfl rfl (RD.act (u:=.vl 0 (t10+1) 0 ((l9++[(qv9 .u64 x16 r18)]).length)) (σ':=⟨[(1,.row [.int .u64 (qv9 .u64 x16 r18)] 191),(0,.vec (List.map (cI .u64) (l9++[(qv9 .u64 x16 r18)])).flatten 191 1 (t10+1))],2⟩) rfl (q1n rfl rfl rfl rfl (q23 (cI .u64) ([(qv9 .u64 x16 r18)]) und103 und103 inf191 rfl (q18 .u64) rfl (q1m (cI .u64) [(qv9 .u64 x16 r18)] rfl rfl rfl rfl) h20)) rfl rfl (RD.as rfl rfl rfl rfl ?_))))
 refine RD.done ⟨by kernel_rfl,⟨q1w rfl,trivial⟩,?_⟩
 refine go ?_
 exact lC ⟨_,(l9++[(qv9 .u64 x16 r18)]),(t10+1),hF,rfl,rfl⟩
 refine go ?_
 exact xC ⟨l9,t10,hF,rfl,rfl⟩
def qda   : Option (Bool) :=
 some true
def q9a (p1:List Int) (p2:List Int):Nat→Int→Option (Bool)
 | 0,_=>none
 | m1+1,z7 =>
  cond (decide (z7<(p1.length:Int)))
   (q04 (q0u p1 z7) fun x9 =>
   q04 (q0u p2 z7) fun x11 =>
   cond (x9 != x11)
    (some false)
    ((q9a p1 p2 m1) (IntKind.i64.wrap (z7+1))))
   (qda)
def qf8 (n:Nat) (p1:List Int) (p2:List Int):Option (Bool) :=
 cond ((p1.length:Int) != (p2.length:Int))
  (some false)
  (q9a p1 p2 n 0)
theorem qjm (n:Nat) (p1:List Int) (p2:List Int) (r:Bool) (hF:qf8 n p1 p2=some r):EvU Tryz.prog 120 [.isl false (List.map (cI .u64) p1),.isl false (List.map (cI .u64) p2)] ⟨[],0⟩ (fun u _=>u = .bool r∧Bel 0 u):=by
 unfold qf8 at hF
 refine bg2 26 fn120 ?_
 refine go ?_
 refine RS.q rfl (q0a rfl rfl rfl (q07 (cI .u64) und103)) ?_
 refine go ?_
 refine RS.q rfl (q0a rfl rfl rfl (q07 (cI .u64) und103)) ?_
 refine go ?_
 refine cF hF (fun h3 hF=>?_) (fun h3 hF=>?_)
 exact gx hF
 refine go ?_
 refine gS (l':=[(0,_),(1,_),(5,_)]) ?_
 refine z3e (fun m tm σ=>∃ z7:Int,q9a p1 p2 m z7=some r∧tm=fr 26 [(0,.iM (cI .u64) p1),(1,.iM (cI .u64) p2),(5,.i6 z7)]∧σ=⟨[],0⟩) (fun tm σ=>qda=some r∧tm=fr 26 []∧σ=⟨[],0⟩) n ⟨0,hF,rfl,rfl⟩ ?_ ?_
 rintro _ _ ⟨hF,rfl,rfl⟩
 unfold qda at hF
 exact gx hF
 rintro (_|m1) _ _ ⟨z7,hF,rfl,rfl⟩
 cases hF
 unfold q9a at hF
 refine go ?_
 refine RS.q rfl (q0a rfl rfl rfl (q07 (cI .u64) und103)) ?_
 refine go ?_
 refine cF hF (fun h8 hF=>?_) (fun h8 hF=>?_)
 refine go ?_
 refine WPU.block ?_
 obtain ⟨x9,h10,hF⟩:=q00 hF
 obtain ⟨x11,h12,hF⟩:=q00 hF
 refine go ?_
 refine z3g Tryz.tb_ok [] (by kernel_rfl) ?_
 repeat refine RD.mv rfl rfl rfl rfl ?_
 refine RD.q rfl (q0i rfl rfl (q09 (cI .u64) und103 (q03 inf191) (q18 .u64) h10 rfl)) (RD.q rfl (q0c und191 rfl rfl rfl) ?_)
 repeat refine RD.mv rfl rfl rfl rfl ?_
 refine RD.q rfl (q0i rfl rfl (q09 (cI .u64) und103 (q03 inf191) (q18 .u64) h12 rfl)) (RD.q rfl (q0c und191 rfl rfl rfl) (RD.q rfl (q2y rfl rfl (qq0 _ _ _) rfl) ?_))
 refine RD.done ⟨by kernel_rfl,trivial,?_⟩
 refine go ?_
 refine cF hF (fun h13 hF=>?_) (fun h13 hF=>?_)
 exact gx hF
 refine go ?_
 exact lC ⟨_,hF,rfl,rfl⟩
 refine go ?_
 exact xC ⟨hF,rfl,rfl⟩
def qgl   : Option (Bool) :=
 some false
def qdf (p1:List (List Int)) (p2:List Int) (n:Nat):Nat→Int→Option (Bool)
 | 0,_=>none
 | m1+1,z6 =>
  cond (decide (z6<(p1.length:Int)))
   (q04 (q0u p1 z6) fun x8 =>
   q04 (qf8 n x8 p2) fun r10 =>
   cond r10
    (some true)
    ((qdf p1 p2 n m1) (IntKind.i64.wrap (z6+1))))
   (qgl)
def qor (n:Nat) (p1:List (List Int)) (p2:List Int):Option (Bool) :=
 qdf p1 p2 n n 0
theorem quu (n:Nat) (p1:List (List Int)) (p2:List Int) (r:Bool) (hF:qor n p1 p2=some r):EvU Tryz.prog 128 [.isl false (List.map (cL (cI .u64)) p1),.isl false (List.map (cI .u64) p2)] ⟨[],0⟩ (fun u _=>u = .bool r∧Bel 0 u):=by
 unfold qor at hF
 refine bg2 18 fn128 ?_
 refine go ?_
 refine gS (l':=[(0,_),(1,_),(5,_)]) ?_
 refine z3e (fun m tm σ=>∃ z6:Int,qdf p1 p2 n m z6=some r∧tm=fr 18 [(0,.iM (cL (cI .u64)) p1),(1,.iM (cI .u64) p2),(5,.i6 z6)]∧σ=⟨[],0⟩) (fun tm σ=>qgl=some r∧tm=fr 18 []∧σ=⟨[],0⟩) n ⟨0,hF,rfl,rfl⟩ ?_ ?_
 rintro _ _ ⟨hF,rfl,rfl⟩
 unfold qgl at hF
 exact gx hF
 rintro (_|m1) _ _ ⟨z6,hF,rfl,rfl⟩
 cases hF
 unfold qdf at hF
 refine go ?_
 refine RS.q rfl (q0a rfl rfl rfl (q07 (cL (cI .u64)) und148)) ?_
 refine go ?_
 refine cF hF (fun h7 hF=>?_) (fun h7 hF=>?_)
 refine go ?_
 refine WPU.block ?_
 obtain ⟨x8,h9,hF⟩:=q00 hF
 obtain ⟨r10,h11,hF⟩:=q00 hF
 refine go ?_
 refine RS.q rfl (q0i rfl rfl (q09 (cL (cI .u64)) und148 (q03 inf103) (q41 (cI .u64)) h9 rfl)) (RS.q rfl (q0c und103 rfl rfl rfl) ?_)
 refine go ?_
 refine RS.cl rfl (pC (qjm n x8 p2 r10 h11) _) fn120 ?_
 refine go ?_
 refine cF hF (fun h12 hF=>?_) (fun h12 hF=>?_)
 exact gx hF
 refine go ?_
 exact lC ⟨_,hF,rfl,rfl⟩
 refine go ?_
 exact xC ⟨hF,rfl,rfl⟩
def q6n (z19:Int) (rc2:Int→(List (List Int))→Option ((List (List Int)))) (l40:List (List Int)):Option ((List (List Int))) :=
 rc2 (IntKind.i64.wrap (z19+1)) l40
def qa9 (z6:Int) (rc1:Int→(List (List Int))→Option ((List (List Int)))) (l22:List (List Int)):Option ((List (List Int))) :=
 rc1 (IntKind.i64.wrap (z6+1)) l22
def q3p (n:Nat) (z6:Int) (rc1:Int→(List (List Int))→Option ((List (List Int)))):Nat→Int→(List (List Int))→Option ((List (List Int)))
 | 0,_,_=>none
 | m2+1,z19,l20 =>
  q04 (cond (decide (z19<z6))
   (some (decide ((l20.length:Int)≤256)))
   (some false)) fun b25 =>
  cond b25
   (q04 (q0u l20 z6) fun x28 =>
   q04 (q0u l20 z19) fun x30 =>
   q04 (qhr n x28 x30) fun r32 =>
   q04 (cond (decide ((r32.length:Int) > 0))
    (q04 (qor n l20 r32) fun r35 =>
    some (!r35))
    (some false)) fun b37 =>
   cond b37
    (q19 ((l20.length+1)*24≤140737488355328∧l20.length+1≤140737488355328) (
    q6n z19 (q3p n z6 rc1 m2) (l20++[r32])))
    (q6n z19 (q3p n z6 rc1 m2) l20))
   (qa9 z6 rc1 l20)
def qa8  (l9:List (List Int)):Option ((List (List Int))) :=
 some l9
def q32 (n:Nat):Nat→Int→(List (List Int))→Option ((List (List Int)))
 | 0,_,_=>none
 | m1+1,z6,l7 =>
  q04 (cond (decide (z6<(l7.length:Int)))
   (some (decide ((l7.length:Int)≤256)))
   (some false)) fun b12 =>
  cond b12
   (q3p n z6 (q32 n m1) n 0 l7)
   (qa8 l7)
def qeq (n:Nat) (p1:List (List Int)):Option ((List (List Int))) :=
 q19 (p1.length*24≤140737488355328∧p1.length≤140737488355328) (
 q32 n n 0 p1)
theorem qmv (n:Nat) (p1:List (List Int)) (r:(List (List Int))) (hF:qeq n p1=some r):EvU Tryz.prog 97 [.isl false (List.map (cL (cI .u64)) p1)] ⟨[],0⟩ (fun u _=>u = .isl false (List.map (cL (cI .u64)) r)∧Bel 0 u):=by
 unfold qeq at hF
 refine bg1 54 fn97 ?_
 obtain ⟨h2,hF⟩:=q0b hF
 refine go ?_
 refine RS.q (u:=.sl 0 0 0 0) (σ':=⟨[(0,.row [] 103)],1⟩) rfl (q0j und148 inf103 rfl rfl rfl rfl rfl rfl rfl) ?_
 refine go ?_
 refine RS.q (u:=.vl 1 0 0 p1.length) (σ':=⟨[(1,.vec (List.map (cL (cI .u64)) p1).flatten 103 1 0),(0,.row [] 103)],2⟩) rfl (q1n rfl rfl rfl rfl (qra (cL (cI .u64)) p1 und148 und148 inf103 rfl rfl rfl (qgq (cL (cI .u64)) (q41 (cI .u64))) h2)) ?_
 refine go ?_
 refine gS (l':=[(3,_),(4,_)]) ?_
 refine z3e (fun m tm σ=>∃ z6:Int,∃ l7:List (List Int),∃ t8:Nat,q32 n m z6 l7=some r∧tm=fr 54 [(3,.vl 1 t8 0 l7.length),(4,.i6 z6)]∧σ=⟨[(1,.vec (List.map (cL (cI .u64)) l7).flatten 103 1 t8),(0,.row [] 103)],2⟩) (fun tm σ=>∃ l9:List (List Int),∃ t10:Nat,qa8 l9=some r∧tm=fr 54 [(3,.vl 1 t10 0 l9.length)]∧σ=⟨[(1,.vec (List.map (cL (cI .u64)) l9).flatten 103 1 t10),(0,.row [] 103)],2⟩) n ⟨0,p1,0,hF,rfl,rfl⟩ ?_ ?_
 rintro _ _ ⟨l9,t10,hF,rfl,rfl⟩
 unfold qa8 at hF
 refine go ?_
 obtain rfl:=sI hF
 exact rT (us:=[.vl 1 t10 0 l9.length]) (u:=.iM (cL (cI .u64)) l9) (q2o rfl (q3b)) (fR 1 1)
 rintro (_|m1) _ _ ⟨z6,l7,t8,hF,rfl,rfl⟩
 cases hF
 unfold q32 at hF
 obtain ⟨b12,h13,hF⟩:=q00 hF
 refine gn ?_
 refine z3f (fun tm σ=>tm=fr 54 [(3,.vl 1 t8 0 l7.length),(4,.i6 z6),(18,.bool b12)]∧σ=⟨[(1,.vec (List.map (cL (cI .u64)) l7).flatten 103 1 t8),(0,.row [] 103)],2⟩) ?_ ?_
 rintro _ _ ⟨rfl,rfl⟩
 refine go ?_
 refine cF hF (fun h14 hF=>?_) (fun h14 hF=>?_)
 refine go ?_
 refine WPU.block ?_
 refine go ?_
 refine gS (l':=[(3,_),(4,_),(5,_)]) ?_
 refine z3e (fun m tm σ=>∃ z19:Int,∃ l20:List (List Int),∃ t21:Nat,q3p n z6 (q32 n m1) m z19 l20=some r∧tm=fr 54 [(3,.vl 1 t21 0 l20.length),(4,.i6 z6),(5,.i6 z19)]∧σ=⟨[(1,.vec (List.map (cL (cI .u64)) l20).flatten 103 1 t21),(0,.row [] 103)],2⟩) (fun tm σ=>∃ l22:List (List Int),∃ t23:Nat,qa9 z6 (q32 n m1) l22=some r∧tm=fr 54 [(3,.vl 1 t23 0 l22.length),(4,.i6 z6)]∧σ=⟨[(1,.vec (List.map (cL (cI .u64)) l22).flatten 103 1 t23),(0,.row [] 103)],2⟩) n ⟨0,l7,t8,hF,rfl,rfl⟩ ?_ ?_
 rintro _ _ ⟨l22,t23,hF,rfl,rfl⟩
 unfold qa9 at hF
 refine go ?_
 exact lC ⟨_,l22,t23,hF,rfl,rfl⟩
 rintro (_|m2) _ _ ⟨z19,l20,t21,hF,rfl,rfl⟩
 cases hF
 unfold q3p at hF
 obtain ⟨b25,h26,hF⟩:=q00 hF
 refine gn ?_
 refine z3f (fun tm σ=>tm=fr 54 [(3,.vl 1 t21 0 l20.length),(4,.i6 z6),(5,.i6 z19),(28,.bool b25)]∧σ=⟨[(1,.vec (List.map (cL (cI .u64)) l20).flatten 103 1 t21),(0,.row [] 103)],2⟩) ?_ ?_
 rintro _ _ ⟨rfl,rfl⟩
 refine go ?_
 refine cF hF (fun h27 hF=>?_) (fun h27 hF=>?_)
 refine go ?_
 refine WPU.block ?_
 obtain ⟨x28,h29,hF⟩:=q00 hF
 obtain ⟨x30,h31,hF⟩:=q00 hF
 obtain ⟨r32,h33,hF⟩:=q00 hF
 refine go ?_
 refine z3g Tryz.tb_ok [] (by kernel_rfl) ?_
 repeat refine RD.mv rfl rfl rfl rfl ?_
 refine RD.q rfl (q0i rfl rfl (qai (cL (cI .u64)) und148 (q03 inf103) (by decide) (q41 (cI .u64)) (vo rfl) h29)) ?_
 refine RD.q rfl (q5s (cL (cI .u64)) (fun x=>.iM (cI .u64) x) und103 rfl (fun _=>rfl) rfl rfl h29) ?_
 repeat refine RD.mv rfl rfl rfl rfl ?_
 refine RD.q rfl (q0i rfl rfl (qai (cL (cI .u64)) und148 (q03 inf103) (by decide) (q41 (cI .u64)) (vo rfl) h31)) ?_
 refine RD.q rfl (q5s (cL (cI .u64)) (fun x=>.iM (cI .u64) x) und103 rfl (fun _=>rfl) rfl rfl h31) (RD.fl rfl (pC (qlx n x28 x30 r32 h33)) fn118 (RD.as rfl rfl rfl rfl ?_))
 refine RD.done ⟨by kernel_rfl,trivial,?_⟩
 obtain ⟨b37,h38,hF⟩:=q00 hF
 refine gn ?_
 refine z3f (fun tm σ=>tm=fr 54 [(3,.vl 1 t21 0 l20.length),(4,.i6 z6),(5,.i6 z19),(6,.iM (cI .u64) r32),(48,.bool b37)]∧σ=⟨[(1,.vec (List.map (cL (cI .u64)) l20).flatten 103 1 t21),(0,.row [] 103)],2⟩) ?_ ?_
 rintro _ _ ⟨rfl,rfl⟩
 refine gn ?_
 refine z3f (fun tm σ=>∃ l40:List (List Int),∃ t41:Nat,q6n z19 (q3p n z6 (q32 n m1) m2) l40=some r∧tm=fr 54 [(3,.vl 1 t41 0 l40.length),(4,.i6 z6),(5,.i6 z19)]∧σ=⟨[(1,.vec (List.map (cL (cI .u64)) l40).flatten 103 1 t41),(0,.row [] 103)],2⟩) ?_ ?_
 rintro _ _ ⟨l40,t41,hF,rfl,rfl⟩
 unfold q6n at hF
 refine go ?_
 exact lC ⟨_,l40,t41,hF,rfl,rfl⟩
 refine cF hF (fun h39 hF=>?_) (fun h39 hF=>?_)
 obtain ⟨h42,hF⟩:=q0b hF
 refine go ?_
 refine RS.q (u:=.sl 2 0 1 1) (σ':=⟨[(2,.row [.iM (cI .u64) r32] 103),(1,.vec (List.map (cL (cI .u64)) l20).flatten 103 1 t21),(0,.row [] 103)],3⟩) rfl (q0j und148 inf103 rfl rfl rfl rfl rfl rfl rfl) (RS.q (u:=.vl 1 (t21+1) 0 ((l20++[r32]).length)) (σ':=⟨[(2,.row [.iM (cI .u64) r32] 103),(1,.vec (List.map (cL (cI .u64)) (l20++[r32])).flatten 103 1 (t21+1)),(0,.row [] 103)],3⟩) rfl (q1n rfl rfl rfl rfl (q23 (cL (cI .u64)) ([r32]) und148 und148 inf103 rfl (q41 (cI .u64)) rfl (q1m (cL (cI .u64)) [r32] rfl rfl rfl rfl) h42)) ?_)
 refine go ?_
 exact xC ⟨(l20++[r32]),(t21+1),hF,rfl,rfl⟩
 refine go ?_
 exact xC ⟨l20,t21,hF,rfl,rfl⟩
 rcases gB h38 with ⟨h34,h38⟩ | ⟨h34,h38⟩
 obtain ⟨r35,h36,h38⟩:=q00 h38
 obtain rfl:=sI h38
 refine go ?_
 refine RS.q rfl (q0a rfl rfl rfl (q07 (cI .u64) und103)) ?_
 refine go ?_
 refine RS.cl rfl (vw (quu n l20 r32 r35 h36) (z3h 1 1)) fn128 ?_
 refine go ?_
 exact xC ⟨rfl,rfl⟩
 obtain rfl:=sI h38
 refine go ?_
 refine RS.q rfl (q0a rfl rfl rfl (q07 (cI .u64) und103)) ?_
 refine go ?_
 exact xC ⟨rfl,rfl⟩
 refine go ?_
 exact xC ⟨l20,t21,hF,rfl,rfl⟩
 rcases gB h26 with ⟨h24,h26⟩ | ⟨h24,h26⟩
 obtain rfl:=sI h26
 refine go ?_
 refine RS.w rfl (q0a rfl rfl rfl (q9y und148 rfl)) ?_
 refine go ?_
 exact xC ⟨rfl,rfl⟩
 exact gy h26
 refine go ?_
 exact xC ⟨l7,t8,hF,rfl,rfl⟩
 rcases gB h13 with ⟨h11,h13⟩ | ⟨h11,h13⟩
 obtain rfl:=sI h13
 refine go ?_
 refine RS.q rfl (q0a rfl rfl rfl (q9y und148 rfl)) ?_
 refine go ?_
 refine RS.w rfl (q0a rfl rfl rfl (q9y und148 rfl)) ?_
 refine go ?_
 exact xC ⟨rfl,rfl⟩
 obtain rfl:=sI h13
 refine go ?_
 refine RS.q rfl (q0a rfl rfl rfl (q9y und148 rfl)) ?_
 refine go ?_
 exact xC ⟨rfl,rfl⟩
def qb6 (n:Nat) (l11:List Int):Option ((List Int)) :=
 q04 (q61 n l11) fun r13 =>
 some r13
def q7m (p1:List Int) (p2:List Int) (n:Nat):Nat→Int→(List Int)→Option ((List Int))
 | 0,_,_=>none
 | m1+1,z8,l9 =>
  cond (decide (z8<(p1.length:Int)))
   (q04 (q0u p1 z8) fun x16 =>
   q04 (qf9 n p2 z8) fun r18 =>
   q19 ((l9.length+1)*8≤140737488355328∧l9.length+1≤140737488355328) (
   (q7m p1 p2 n m1) (IntKind.i64.wrap (z8+1)) (l9++[(qb1 .u64 x16 r18)])))
   (qb6 n l9)
def qgd (n:Nat) (p1:List Int) (p2:List Int):Option ((List Int)) :=
 q7m p1 p2 n n 0 ([]:List Int)
theorem qoj (n:Nat) (p1:List Int) (p2:List Int) (r:(List Int)) (hF:qgd n p1 p2=some r):EvU Tryz.prog 153 [.isl false (List.map (cI .u64) p1),.isl false (List.map (cI .u64) p2)] ⟨[],0⟩ (fun u _=>u = .isl false (List.map (cI .u64) r)∧Bel 0 u):=by
 unfold qgd at hF
 refine bg2 26 fn153 ?_
 refine gr ?_
 refine gr ?_
 refine gr ?_
 refine WPU.ghost (tm':=fr 26 [(0,.iM (cI .u64) p1),(1,.iM (cI .u64) p2),(5,.vl 0 0 0 (([]:List Int).length)),(6,.i6 0)]) (σ':=⟨[(0,.vec (List.map (cI .u64) ([]:List Int)).flatten 191 1 0)],1⟩) (Gh.trans (z3k 5 191 1 (by decide) NZ rfl rfl) (z3j ⟨rfl,rfl,rfl,rfl,trivial⟩ rfl)) NZ ?_
 refine gS (l':=[(0,_),(1,_),(5,_),(6,_)]) ?_
 refine z3e (fun m tm σ=>∃ z8:Int,∃ l9:List Int,∃ t10:Nat,q7m p1 p2 n m z8 l9=some r∧tm=fr 26 [(0,.iM (cI .u64) p1),(1,.iM (cI .u64) p2),(5,.vl 0 t10 0 l9.length),(6,.i6 z8)]∧σ=⟨[(0,.vec (List.map (cI .u64) l9).flatten 191 1 t10)],1⟩) (fun tm σ=>∃ l11:List Int,∃ t12:Nat,qb6 n l11=some r∧tm=fr 26 [(5,.vl 0 t12 0 l11.length)]∧σ=⟨[(0,.vec (List.map (cI .u64) l11).flatten 191 1 t12)],1⟩) n ⟨0,([]:List Int),0,hF,rfl,rfl⟩ ?_ ?_
 rintro _ _ ⟨l11,t12,hF,rfl,rfl⟩
 unfold qb6 at hF
 refine gn ?_
 refine WPU.ghost (tm':=fr 26 [(5,.iM (cI .u64) l11)]) (σ':=⟨[],1⟩) (Gh.trans (Gh.sub (l':=[(5,.vl 0 t12 0 l11.length)]) ⟨rfl,trivial⟩) (z3s 0 1)) NZ ?_
 obtain ⟨r13,h14,hF⟩:=q00 hF
 refine go ?_
 refine RS.cl rfl (pC (q7n n l11 r13 h14) _) fn119 ?_
 exact gx hF
 rintro (_|m1) _ _ ⟨z8,l9,t10,hF,rfl,rfl⟩
 cases hF
 unfold q7m at hF
 refine go ?_
 refine RS.q rfl (q0a rfl rfl rfl (q07 (cI .u64) und103)) ?_
 refine go ?_
 refine cF hF (fun h15 hF=>?_) (fun h15 hF=>?_)
 refine go ?_
 refine WPU.block ?_
 obtain ⟨x16,h17,hF⟩:=q00 hF
 obtain ⟨r18,h19,hF⟩:=q00 hF
 obtain ⟨h20,hF⟩:=q0b hF
 refine go ?_
 refine z3g Tryz.tb_ok [(0,9)] (by kernel_rfl) ?_
 repeat refine RD.mv rfl rfl rfl rfl ?_
 refine RD.q rfl (q0i rfl rfl (q09 (cI .u64) und103 (q03 inf191) (q18 .u64) h17 rfl)) (RD.q rfl (q0c und191 rfl rfl rfl) ?_)
 repeat refine RD.mv rfl rfl rfl rfl ?_
 refine RD.fl rfl (pC (qjn n p2 z8 r18 h19)) fn146 (RD.q rfl (q2y rfl rfl (qwk _ _ _) rfl) (RD.act (u:=.sl 1 0 1 1) (σ':=⟨[(1,.row [.int .u64 (qb1 .u64 x16 r18)] 191),(0,.vec (List.map (cI .u64) l9).flatten 191 1 t10)],2⟩) rfl (q0j und103 inf191 rfl rfl rfl rfl rfl rfl rfl) rfl rfl (RD.act (u:=.vl 0 (t10+1) 0 ((l9++[(qb1 .u64 x16 r18)]).length)) (σ':=⟨[(1,.row [.int .u64 (qb1 .u64 x16 r18)] 191),(0,.vec (List.map (cI .u64) (l9++[(qb1 .u64 x16 r18)])).flatten 191 1 (t10+1))],2⟩) rfl (q1n rfl rfl rfl rfl (q23 (cI .u64) ([(qb1 .u64 x16 r18)]) und103 und103 inf191 rfl (q18 .u64) rfl (q1m (cI .u64) [(qb1 .u64 x16 r18)] rfl rfl rfl rfl) h20)) rfl rfl (RD.as rfl rfl rfl rfl ?_))))
 refine RD.done ⟨by kernel_rfl,⟨q1w rfl,trivial⟩,?_⟩
 refine go ?_
 exact lC ⟨_,(l9++[(qb1 .u64 x16 r18)]),(t10+1),hF,rfl,rfl⟩
 refine go ?_
 exact xC ⟨l9,t10,hF,rfl,rfl⟩
def q8e (n:Nat) (p1:List Int) (p2:List Int):Option (Bool) :=
 q04 (qgd n p1 p2) fun r3 =>
 some ((r3.length:Int) == 0)
theorem q7p (n:Nat) (p1:List Int) (p2:List Int) (r:Bool) (hF:q8e n p1 p2=some r):EvU Tryz.prog 133 [.isl false (List.map (cI .u64) p1),.isl false (List.map (cI .u64) p2)] ⟨[],0⟩ (fun u _=>u = .bool r∧Bel 0 u):=by
 unfold q8e at hF
 refine bg2 10 fn133 ?_
 obtain ⟨r3,h4,hF⟩:=q00 hF
 refine go ?_
 refine RS.cl rfl (pC (qoj n p1 p2 r3 h4) _) fn153 (RS.q rfl (q0a rfl rfl rfl (q07 (cI .u64) und103)) ?_)
 exact gx hF
def qgc (n:Nat) (p1:List Int) (p2:List Int):Option (Bool) :=
 q04 (q04 (q8e n p1 p2) fun r3 =>
 cond r3
  (q04 (q8e n p2 p1) fun r6 =>
  some r6)
  (some false)) fun b8 =>
 some b8
theorem qoi (n:Nat) (p1:List Int) (p2:List Int) (r:Bool) (hF:qgc n p1 p2=some r):EvU Tryz.prog 129 [.isl false (List.map (cI .u64) p1),.isl false (List.map (cI .u64) p2)] ⟨[],0⟩ (fun u _=>u = .bool r∧Bel 0 u):=by
 unfold qgc at hF
 refine bg2 13 fn129 ?_
 obtain ⟨b8,h9,hF⟩:=q00 hF
 refine gr ?_
 refine z3f (fun tm σ=>tm=fr 13 [(4,.bool b8)]∧σ=⟨[],0⟩) ?_ ?_
 rintro _ _ ⟨rfl,rfl⟩
 exact gx hF
 obtain ⟨r3,h4,h9⟩:=q00 h9
 rcases gB h9 with ⟨h5,h9⟩ | ⟨h5,h9⟩
 obtain ⟨r6,h7,h9⟩:=q00 h9
 obtain rfl:=sI h9
 refine go ?_
 refine RS.cl rfl (pC (q7p n p1 p2 r3 h4) _) fn133 ?_
 refine go ?_
 refine RS.cl rfl (pC (q7p n p2 p1 r6 h7) _) fn133 ?_
 refine go ?_
 exact xC ⟨rfl,rfl⟩
 obtain rfl:=sI h9
 refine go ?_
 refine RS.cl rfl (pC (q7p n p1 p2 r3 h4) _) fn133 ?_
 refine go ?_
 exact xC ⟨rfl,rfl⟩
def qht (n:Nat) (p1:List Int) (p2:Int):Option (Bool) :=
 q04 (cond (decide (p2<0))
  (some true)
  (some (decide ((IntKind.i64.wrap (p2.tdiv 64)) ≥ (p1.length:Int))))) fun b5 =>
 cond b5
  (some false)
  (q04 (q0u p1 (IntKind.i64.wrap (p2.tdiv 64))) fun x9 =>
  q19 (¬ (IntKind.u64.wrap (p2.tmod 64))<0) (
  some ((qv9 .u64 (x9.fdiv (2 ^ (min (IntKind.u64.wrap (p2.tmod 64)).toNat IntKind.u64.bits))) 1) == 1)))
theorem qly (n:Nat) (p1:List Int) (p2:Int) (r:Bool) (hF:qht n p1 p2=some r):EvU Tryz.prog 130 [.isl false (List.map (cI .u64) p1),.int .i64 p2] ⟨[],0⟩ (fun u _=>u = .bool r∧Bel 0 u):=by
 unfold qht at hF
 refine bg2 25 fn130 ?_
 obtain ⟨b5,h6,hF⟩:=q00 hF
 refine gr ?_
 refine z3f (fun tm σ=>tm=fr 25 [(0,.iM (cI .u64) p1),(1,.i6 p2),(13,.bool b5)]∧σ=⟨[],0⟩) ?_ ?_
 rintro _ _ ⟨rfl,rfl⟩
 refine go ?_
 refine cF hF (fun h7 hF=>?_) (fun h7 hF=>?_)
 exact gx hF
 obtain ⟨x9,h10,hF⟩:=q00 hF
 obtain ⟨h12,hF⟩:=q0b hF
 refine go ?_
 refine RS.q rfl (q2y rfl rfl (qsw _ (by decide)) rfl) ?_
 refine RS.q rfl (q0i rfl rfl (q09 (cI .u64) und103 (q03 inf191) (q18 .u64) h10 rfl)) (RS.q rfl (q0c und191 rfl rfl rfl) ?_)
 refine go ?_
 refine RS.q rfl (q2y rfl rfl (z1b _ (by decide)) rfl) ?_
 refine RS.q (u:=.int .u64 (IntKind.u64.wrap (p2.tmod 64))) rfl (qx5 rfl rfl (by simp only [qrg,und3,und190]<;>rfl) rfl) ?_
 refine RS.q rfl (q2y rfl rfl (ix_shr _ h12) rfl) (RS.q rfl (q2y rfl rfl (z0z _ _ _) rfl) ?_)
 exact gx hF
 rcases gB h6 with ⟨h3,h6⟩ | ⟨h3,h6⟩
 exact gy h6
 obtain rfl:=sI h6
 refine go ?_
 refine RS.w rfl (q2y rfl rfl (qsw _ (by decide)) rfl) ?_
 refine go ?_
 refine RS.w rfl (q0a rfl rfl rfl (q07 (cI .u64) und103)) ?_
 refine go ?_
 exact xC ⟨rfl,rfl⟩
def q4y (z8:Int) (rc1:(List (List UInt8))→Int→Option ((List (List UInt8)))) (l16:List (List UInt8)):Option ((List (List UInt8))) :=
 rc1 l16 (IntKind.i64.wrap (z8+1))
def q7a  (l9:List (List UInt8)):Option ((List (List UInt8))) :=
 some l9
def q2v (p1:List q05) (p2:List (List UInt8)) (n:Nat):Nat→(List (List UInt8))→Int→Option ((List (List UInt8)))
 | 0,_,_=>none
 | m1+1,l7,z8 =>
  cond (decide (z8<(p2.length:Int)))
   (q04 (q0u p2 z8) fun x11 =>
   q04 (q62 n p1 x11) fun r13 =>
   cond (decide (r13 ≥ 0))
    (q04 (q0u p2 z8) fun x17 =>
    q04 (q8f n l7 x17) fun r19 =>
    q4y z8 (q2v p1 p2 n m1) r19)
    (q4y z8 (q2v p1 p2 n m1) l7))
   (q7a l7)
def qbg (n:Nat) (p1:List q05) (p2:List (List UInt8)):Option ((List (List UInt8))) :=
 q2v p1 p2 n n [] 0
theorem qk2 (n:Nat) (p1:List q05) (p2:List (List UInt8)) (r:(List (List UInt8))) (hF:qbg n p1 p2=some r):EvU Tryz.prog 150 [.isl false (List.map q02 p1),.isl false (List.map cS p2)] ⟨[],0⟩ (fun u _=>u = .isl false (List.map cS r)∧Bel 0 u):=by
 unfold qbg at hF
 refine bg2 27 fn150 ?_
 refine gr ?_
 refine gr ?_
 refine gr ?_
 refine WPU.ghost (tm':=fr 27 [(0,.iM q02 p1),(1,.iM cS p2),(5,.iM cS []),(6,.i6 0)]) (Gh.trans (Gh.sub (l':=[(0,.iM q02 p1),(1,.iM cS p2),(5,.nils),(6,.i6 0)]) ⟨rfl,rfl,rfl,rfl,trivial⟩) (Gh.wkS (l':=[(0,.iM q02 p1),(1,.iM cS p2),(5,.iM cS []),(6,.i6 0)]) (.cons (.refl _) (.cons (.refl _) (.cons (.nil false) (.cons (.refl _) .nil)))))) NZ ?_
 refine gS (l':=[(0,_),(1,_),(5,_),(6,_)]) ?_
 refine z3e (fun m tm σ=>∃ l7:List (List UInt8),∃ z8:Int,q2v p1 p2 n m l7 z8=some r∧tm=fr 27 [(0,.iM q02 p1),(1,.iM cS p2),(5,.iM cS l7),(6,.i6 z8)]∧σ=⟨[],0⟩) (fun tm σ=>∃ l9:List (List UInt8),q7a l9=some r∧tm=fr 27 [(5,.iM cS l9)]∧σ=⟨[],0⟩) n ⟨[],0,hF,rfl,rfl⟩ ?_ ?_
 rintro _ _ ⟨l9,hF,rfl,rfl⟩
 unfold q7a at hF
 exact gx hF
 rintro (_|m1) _ _ ⟨l7,z8,hF,rfl,rfl⟩
 cases hF
 unfold q2v at hF
 refine go ?_
 refine RS.q rfl (q0a rfl rfl rfl (q07 cS und80)) ?_
 refine go ?_
 refine cF hF (fun h10 hF=>?_) (fun h10 hF=>?_)
 refine go ?_
 refine WPU.block ?_
 obtain ⟨x11,h12,hF⟩:=q00 hF
 obtain ⟨r13,h14,hF⟩:=q00 hF
 refine go ?_
 refine RS.q rfl (q0i rfl rfl (q09 cS und80 (q03 inf9) q1i h12 rfl)) (RS.q rfl (q0c und9 rfl rfl rfl) (RS.cl rfl (pC (q63 n p1 x11 r13 h14) _) fn148 ?_))
 refine gn ?_
 refine z3f (fun tm σ=>∃ l16:List (List UInt8),q4y z8 (q2v p1 p2 n m1) l16=some r∧tm=fr 27 [(0,.iM q02 p1),(1,.iM cS p2),(5,.iM cS l16),(6,.i6 z8)]∧σ=⟨[],0⟩) ?_ ?_
 rintro _ _ ⟨l16,hF,rfl,rfl⟩
 unfold q4y at hF
 refine go ?_
 exact lC ⟨l16,(IntKind.i64.wrap (z8+1)),hF,rfl,rfl⟩
 refine cF hF (fun h15 hF=>?_) (fun h15 hF=>?_)
 obtain ⟨x17,h18,hF⟩:=q00 hF
 obtain ⟨r19,h20,hF⟩:=q00 hF
 refine go ?_
 refine RS.q rfl (q0i rfl rfl (q09 cS und80 (q03 inf9) q1i h18 rfl)) (RS.q rfl (q0c und9 rfl rfl rfl) (RS.cl rfl (pC (q79 n l7 x17 r19 h20) _) fn116 ?_))
 refine go ?_
 exact xC ⟨r19,hF,rfl,rfl⟩
 refine go ?_
 exact xC ⟨l7,hF,rfl,rfl⟩
 refine go ?_
 exact xC ⟨l7,hF,rfl,rfl⟩
def qb8  (l21:List (List UInt8)):Option ((List (List UInt8))) :=
 some l21
def q7r (n:Nat) (l13:List (List UInt8)):Nat→(List (List UInt8))→Int→Option ((List (List UInt8)))
 | 0,_,_=>none
 | m2+1,l19,z20 =>
  cond (decide (z20<(l13.length:Int)))
   (q04 (q0u l13 z20) fun x23 =>
   q04 (q8f n l19 x23) fun r25 =>
   (q7r n l13 m2) r25 (IntKind.i64.wrap (z20+1)))
   (qb8 l19)
def q7q (z40:Int) (rc3:Int→(List (List UInt8))→Option ((List (List UInt8)))) (l51:List (List UInt8)):Option ((List (List UInt8))) :=
 rc3 (IntKind.i64.wrap (z40+1)) l51
def qb9 (z10:Int) (rc1:Int→(List (List UInt8))→Option ((List (List UInt8)))) (l43:List (List UInt8)):Option ((List (List UInt8))) :=
 rc1 (IntKind.i64.wrap (z10+1)) l43
def q47 (n:Nat) (z10:Int) (rc1:Int→(List (List UInt8))→Option ((List (List UInt8)))) (x32:q05):Nat→Int→(List (List UInt8))→Option ((List (List UInt8)))
 | 0,_,_=>none
 | m3+1,z40,l41 =>
  cond (decide (z40<(x32.Supers.length:Int)))
   (q04 (q0u x32.Supers z40) fun x46 =>
   q04 (q30 n l41 x46) fun r48 =>
   cond (!r48)
    (q04 (q0u x32.Supers z40) fun x53 =>
    q19 ((l41.length+1)*16≤140737488355328∧l41.length+1≤140737488355328) (
    q7q z40 (q47 n z10 rc1 x32 m3) (l41++[x53])))
    (q7q z40 (q47 n z10 rc1 x32 m3) l41))
   (qb9 z10 rc1 l41)
def qb7 (n:Nat) (l13:List (List UInt8)):Option ((List (List UInt8))) :=
 q7r n l13 n [] 0
def q3j (p1:List q05) (n:Nat):Nat→Int→(List (List UInt8))→Option ((List (List UInt8)))
 | 0,_,_=>none
 | m1+1,z10,l11 =>
  cond (decide (z10<(l11.length:Int)))
   (q04 (q0u l11 z10) fun x28 =>
   q04 (q62 n p1 x28) fun r30 =>
   q04 (q0u p1 r30) fun x32 =>
   q47 n z10 (q3j p1 n m1) x32 n 0 l11)
   (qb7 n l11)
def qgf (n:Nat) (p1:List q05) (p2:List UInt8):Option ((List (List UInt8))) :=
 q04 (q62 n p1 p2) fun r3 =>
 cond (decide (r3<0))
  (some [])
  (q3j p1 n n 0 ([p2]))
theorem qol (n:Nat) (p1:List q05) (p2:List UInt8) (r:(List (List UInt8))) (hF:qgf n p1 p2=some r):EvU Tryz.prog 151 [.isl false (List.map q02 p1),.str p2] ⟨[],0⟩ (fun u _=>u = .isl false (List.map cS r)∧Bel 0 u):=by
 unfold qgf at hF
 refine bg2 66 fn151 ?_
 obtain ⟨r3,h4,hF⟩:=q00 hF
 refine go ?_
 refine RS.cl rfl (pC (q63 n p1 p2 r3 h4) _) fn148 ?_
 refine go ?_
 refine cF hF (fun h5 hF=>?_) (fun h5 hF=>?_)
 refine go ?_
 obtain rfl:=sI hF
 exact rT (us:=[.nils]) (u:=.isl false []) (q2o rfl (q3b)) wR
 refine go ?_
 refine RS.step (u:=.vl 0 0 0 ([p2].length)) (σ':=⟨[(0,.vec (List.map cS ([p2])).flatten 9 1 0)],1⟩) rfl (qdy.bslv (cs:=(List.map cS [p2]).flatten) Tryz.tb_ok rfl und80 inf9 rfl rfl rfl rfl rfl rfl rfl rfl) rfl rfl ?_
 refine go ?_
 refine gS (l':=[(0,_),(5,_),(6,_)]) ?_
 refine z3e (fun m tm σ=>∃ z10:Int,∃ l11:List (List UInt8),∃ t12:Nat,q3j p1 n m z10 l11=some r∧tm=fr 66 [(0,.iM q02 p1),(5,.vl 0 t12 0 l11.length),(6,.i6 z10)]∧σ=⟨[(0,.vec (List.map cS l11).flatten 9 1 t12)],1⟩) (fun tm σ=>∃ l13:List (List UInt8),∃ t14:Nat,qb7 n l13=some r∧tm=fr 66 [(5,.vl 0 t14 0 l13.length)]∧σ=⟨[(0,.vec (List.map cS l13).flatten 9 1 t14)],1⟩) n ⟨0,[p2],0,hF,rfl,rfl⟩ ?_ ?_
 rintro _ _ ⟨l13,t14,hF,rfl,rfl⟩
 unfold qb7 at hF
 refine gr ?_
 refine gr ?_
 refine WPU.ghost (tm':=fr 66 [(5,.vl 0 t14 0 l13.length),(9,.iM cS []),(10,.i6 0)]) (Gh.trans (Gh.sub (l':=[(5,.vl 0 t14 0 l13.length),(9,.nils),(10,.i6 0)]) ⟨rfl,rfl,rfl,trivial⟩) (Gh.wkS (l':=[(5,.vl 0 t14 0 l13.length),(9,.iM cS []),(10,.i6 0)]) (.cons (.refl _) (.cons (.nil false) (.cons (.refl _) .nil))))) NZ ?_
 refine gS (l':=[(5,_),(9,_),(10,_)]) ?_
 refine z3e (fun m tm σ=>∃ l19:List (List UInt8),∃ z20:Int,q7r n l13 m l19 z20=some r∧tm=fr 66 [(5,.vl 0 t14 0 l13.length),(9,.iM cS l19),(10,.i6 z20)]∧σ=⟨[(0,.vec (List.map cS l13).flatten 9 1 t14)],1⟩) (fun tm σ=>∃ l21:List (List UInt8),qb8 l21=some r∧tm=fr 66 [(9,.iM cS l21)]∧σ=⟨[(0,.vec (List.map cS l13).flatten 9 1 t14)],1⟩) n ⟨[],0,hF,rfl,rfl⟩ ?_ ?_
 rintro _ _ ⟨l21,hF,rfl,rfl⟩
 unfold qb8 at hF
 exact gx hF
 rintro (_|m2) _ _ ⟨l19,z20,hF,rfl,rfl⟩
 cases hF
 unfold q7r at hF
 refine go ?_
 refine RS.q rfl (q0a rfl rfl rfl (q9y und80 rfl)) ?_
 refine go ?_
 refine cF hF (fun h22 hF=>?_) (fun h22 hF=>?_)
 refine go ?_
 refine WPU.block ?_
 obtain ⟨x23,h24,hF⟩:=q00 hF
 obtain ⟨r25,h26,hF⟩:=q00 hF
 refine go ?_
 refine RS.q rfl (q0i rfl rfl (qai cS und80 (q03 inf9) (by decide) q1i (vo rfl) h24)) ?_
 refine RS.q rfl (q5s cS (fun x=>.str x) und9 rfl (fun _=>rfl) rfl rfl h24) (RS.cl rfl (pC (q79 n l19 x23 r25 h26) _) fn116 ?_)
 refine go ?_
 exact lC ⟨r25,(IntKind.i64.wrap (z20+1)),hF,rfl,rfl⟩
 refine go ?_
 exact xC ⟨l19,hF,rfl,rfl⟩
 rintro (_|m1) _ _ ⟨z10,l11,t12,hF,rfl,rfl⟩
 cases hF
 unfold q3j at hF
 refine go ?_
 refine RS.q rfl (q0a rfl rfl rfl (q9y und80 rfl)) ?_
 refine go ?_
 refine cF hF (fun h27 hF=>?_) (fun h27 hF=>?_)
 refine go ?_
 refine WPU.block ?_
 obtain ⟨x28,h29,hF⟩:=q00 hF
 obtain ⟨r30,h31,hF⟩:=q00 hF
 obtain ⟨x32,h33,hF⟩:=q00 hF
 refine go ?_
 refine RS.q rfl (q0i rfl rfl (qai cS und80 (q03 inf9) (by decide) q1i (vo rfl) h29)) ?_
 refine RS.q rfl (q5s cS (fun x=>.str x) und9 rfl (fun _=>rfl) rfl rfl h29) (RS.cl rfl (pC (q63 n p1 x28 r30 h31) _) fn148 (RS.q rfl (q0i rfl rfl (q09 q02 und38 (q03 inf127) q0k h33 rfl)) (RS.q rfl (q1q und127 rfl (q03 inf80) rfl rfl) (RS.q rfl (q0c und80 rfl rfl rfl) ?_))))
 refine go ?_
 refine gS (l':=[(0,_),(5,_),(6,_),(7,_),(8,_)]) ?_
 refine z3e (fun m tm σ=>∃ z40:Int,∃ l41:List (List UInt8),∃ t42:Nat,q47 n z10 (q3j p1 n m1) x32 m z40 l41=some r∧tm=fr 66 [(0,.iM q02 p1),(5,.vl 0 t42 0 l41.length),(6,.i6 z10),(7,.iM cS x32.Supers),(8,.i6 z40)]∧σ=⟨[(0,.vec (List.map cS l41).flatten 9 1 t42)],1⟩) (fun tm σ=>∃ l43:List (List UInt8),∃ t44:Nat,qb9 z10 (q3j p1 n m1) l43=some r∧tm=fr 66 [(0,.iM q02 p1),(5,.vl 0 t44 0 l43.length),(6,.i6 z10)]∧σ=⟨[(0,.vec (List.map cS l43).flatten 9 1 t44)],1⟩) n ⟨0,l11,t12,hF,rfl,rfl⟩ ?_ ?_
 rintro _ _ ⟨l43,t44,hF,rfl,rfl⟩
 unfold qb9 at hF
 refine go ?_
 exact lC ⟨_,l43,t44,hF,rfl,rfl⟩
 rintro (_|m3) _ _ ⟨z40,l41,t42,hF,rfl,rfl⟩
 cases hF
 unfold q47 at hF
 refine go ?_
 refine RS.q rfl (q0a rfl rfl rfl (q07 cS und80)) ?_
 refine go ?_
 refine cF hF (fun h45 hF=>?_) (fun h45 hF=>?_)
 refine go ?_
 refine WPU.block ?_
 obtain ⟨x46,h47,hF⟩:=q00 hF
 obtain ⟨r48,h49,hF⟩:=q00 hF
 refine go ?_
 refine RS.q rfl (q0i rfl rfl (q09 cS und80 (q03 inf9) q1i h47 rfl)) (RS.q rfl (q0c und9 rfl rfl rfl) (RS.cl rfl (vw (q29 n l41 x46 r48 h49) (z3h 0 1)) fn126 ?_))
 refine gn ?_
 refine z3f (fun tm σ=>∃ l51:List (List UInt8),∃ t52:Nat,q7q z40 (q47 n z10 (q3j p1 n m1) x32 m3) l51=some r∧tm=fr 66 [(0,.iM q02 p1),(5,.vl 0 t52 0 l51.length),(6,.i6 z10),(7,.iM cS x32.Supers),(8,.i6 z40)]∧σ=⟨[(0,.vec (List.map cS l51).flatten 9 1 t52)],1⟩) ?_ ?_
 rintro _ _ ⟨l51,t52,hF,rfl,rfl⟩
 unfold q7q at hF
 refine go ?_
 exact lC ⟨_,l51,t52,hF,rfl,rfl⟩
 refine cF hF (fun h50 hF=>?_) (fun h50 hF=>?_)
 obtain ⟨x53,h54,hF⟩:=q00 hF
 obtain ⟨h55,hF⟩:=q0b hF
 refine go ?_
 refine RS.q rfl (q0i rfl rfl (q09 cS und80 (q03 inf9) q1i h54 rfl)) (RS.q rfl (q0c und9 rfl rfl rfl) (RS.q (u:=.sl 1 0 1 1) (σ':=⟨[(1,.row [.str x53] 9),(0,.vec (List.map cS l41).flatten 9 1 t42)],2⟩) rfl (q0j und80 inf9 rfl rfl rfl rfl rfl rfl rfl) (RS.q (u:=.vl 0 (t42+1) 0 ((l41++[x53]).length)) (σ':=⟨[(1,.row [.str x53] 9),(0,.vec (List.map cS (l41++[x53])).flatten 9 1 (t42+1))],2⟩) rfl (q1n rfl rfl rfl rfl (q23 cS ([x53]) und80 und80 inf9 rfl q1i rfl (q1m cS [x53] rfl rfl rfl rfl) h55)) ?_)))
 refine go ?_
 exact xC ⟨(l41++[x53]),(t42+1),hF,rfl,rfl⟩
 refine go ?_
 exact xC ⟨l41,t42,hF,rfl,rfl⟩
 refine go ?_
 exact xC ⟨l41,t42,hF,rfl,rfl⟩
 refine go ?_
 exact xC ⟨l11,t12,hF,rfl,rfl⟩
def q5k (z10:Int) (rc1:Int→(List (List UInt8))→Option ((List (List UInt8)))) (l32:List (List UInt8)):Option ((List (List UInt8))) :=
 rc1 (IntKind.i64.wrap (z10+1)) l32
def q8n (r3:(List (List UInt8))) (z10:Int) (l11:List (List UInt8)) (rc1:Int→(List (List UInt8))→Option ((List (List UInt8)))) (b30:Bool):Option ((List (List UInt8))) :=
 cond b30
  (q04 (q0u r3 z10) fun x34 =>
  q19 ((l11.length+1)*16≤140737488355328∧l11.length+1≤140737488355328) (
  q5k z10 rc1 (l11++[x34])))
  (q5k z10 rc1 l11)
def q5l (n:Nat) (r3:(List (List UInt8))) (z10:Int) (l11:List (List UInt8)) (rc1:Int→(List (List UInt8))→Option ((List (List UInt8)))) (r18:(List (List UInt8))):Nat→Bool→Int→Option ((List (List UInt8)))
 | 0,_,_=>none
 | m2+1,b28,z29 =>
  cond (decide (z29<(r3.length:Int)))
   (q04 (cond b28
    (cond (z29 == z10)
     (some true)
     (q04 (q0u r3 z29) fun x40 =>
     q04 (q30 n r18 x40) fun r42 =>
     some (!r42)))
    (some false)) fun b44 =>
   (q5l n r3 z10 l11 rc1 r18 m2) b44 (IntKind.i64.wrap (z29+1)))
   (q8n r3 z10 l11 rc1 b28)
def q8m  (l13:List (List UInt8)):Option ((List (List UInt8))) :=
 some l13
def q2l (p1:List q05) (n:Nat) (r3:(List (List UInt8))):Nat→Int→(List (List UInt8))→Option ((List (List UInt8)))
 | 0,_,_=>none
 | m1+1,z10,l11 =>
  cond (decide (z10<(r3.length:Int)))
   (q04 (q0u r3 z10) fun x16 =>
   q04 (qgf n p1 x16) fun r18 =>
   q5l n r3 z10 l11 (q2l p1 n r3 m1) r18 n true 0)
   (q8m l11)
def q9b (n:Nat) (p1:List q05) (p2:List (List UInt8)):Option ((List (List UInt8))) :=
 q04 (qbg n p1 p2) fun r3 =>
 q2l p1 n r3 n 0 ([]:List (List UInt8))
theorem qek (n:Nat) (p1:List q05) (p2:List (List UInt8)) (r:(List (List UInt8))) (hF:q9b n p1 p2=some r):EvU Tryz.prog 131 [.isl false (List.map q02 p1),.isl false (List.map cS p2)] ⟨[],0⟩ (fun u _=>u = .isl false (List.map cS r)∧Bel 0 u):=by
 unfold q9b at hF
 refine bg2 56 fn131 ?_
 obtain ⟨r3,h4,hF⟩:=q00 hF
 refine go ?_
 refine RS.cl rfl (pC (qk2 n p1 p2 r3 h4) _) fn150 ?_
 refine gr ?_
 refine WPU.ghost (tm':=fr 56 [(0,.iM q02 p1),(5,.vl 0 0 0 (([]:List (List UInt8)).length)),(6,.iM cS r3),(7,.i6 0)]) (σ':=⟨[(0,.vec (List.map cS ([]:List (List UInt8))).flatten 9 1 0)],1⟩) (Gh.trans (z3k 5 9 1 (by decide) NZ rfl rfl) (z3j ⟨rfl,rfl,rfl,rfl,trivial⟩ rfl)) NZ ?_
 refine gS (l':=[(0,_),(5,_),(6,_),(7,_)]) ?_
 refine z3e (fun m tm σ=>∃ z10:Int,∃ l11:List (List UInt8),∃ t12:Nat,q2l p1 n r3 m z10 l11=some r∧tm=fr 56 [(0,.iM q02 p1),(5,.vl 0 t12 0 l11.length),(6,.iM cS r3),(7,.i6 z10)]∧σ=⟨[(0,.vec (List.map cS l11).flatten 9 1 t12)],1⟩) (fun tm σ=>∃ l13:List (List UInt8),∃ t14:Nat,q8m l13=some r∧tm=fr 56 [(5,.vl 0 t14 0 l13.length)]∧σ=⟨[(0,.vec (List.map cS l13).flatten 9 1 t14)],1⟩) n ⟨0,([]:List (List UInt8)),0,hF,rfl,rfl⟩ ?_ ?_
 rintro _ _ ⟨l13,t14,hF,rfl,rfl⟩
 unfold q8m at hF
 refine go ?_
 obtain rfl:=sI hF
 exact rT (us:=[.vl 0 t14 0 l13.length]) (u:=.iM cS l13) (q2o rfl (q3b)) (fR 0 1)
 rintro (_|m1) _ _ ⟨z10,l11,t12,hF,rfl,rfl⟩
 cases hF
 unfold q2l at hF
 refine go ?_
 refine RS.q rfl (q0a rfl rfl rfl (q07 cS und80)) ?_
 refine go ?_
 refine cF hF (fun h15 hF=>?_) (fun h15 hF=>?_)
 refine go ?_
 refine WPU.block ?_
 obtain ⟨x16,h17,hF⟩:=q00 hF
 obtain ⟨r18,h19,hF⟩:=q00 hF
 refine go ?_
 refine RS.q rfl (q0i rfl rfl (q09 cS und80 (q03 inf9) q1i h17 rfl)) (RS.q rfl (q0c und9 rfl rfl rfl) (RS.cl rfl (pC (qol n p1 x16 r18 h19) _) fn151 ?_))
 refine go ?_
 refine gS (l':=[(0,_),(5,_),(6,_),(7,_),(8,_),(9,_),(10,_)]) ?_
 refine z3e (fun m tm σ=>∃ b28:Bool,∃ z29:Int,q5l n r3 z10 l11 (q2l p1 n r3 m1) r18 m b28 z29=some r∧tm=fr 56 [(0,.iM q02 p1),(5,.vl 0 t12 0 l11.length),(6,.iM cS r3),(7,.i6 z10),(8,.iM cS r18),(9,.bool b28),(10,.i6 z29)]∧σ=⟨[(0,.vec (List.map cS l11).flatten 9 1 t12)],1⟩) (fun tm σ=>∃ b30:Bool,q8n r3 z10 l11 (q2l p1 n r3 m1) b30=some r∧tm=fr 56 [(0,.iM q02 p1),(5,.vl 0 t12 0 l11.length),(6,.iM cS r3),(7,.i6 z10),(9,.bool b30)]∧σ=⟨[(0,.vec (List.map cS l11).flatten 9 1 t12)],1⟩) n ⟨true,0,hF,rfl,rfl⟩ ?_ ?_
 rintro _ _ ⟨b30,hF,rfl,rfl⟩
 unfold q8n at hF
 refine gr ?_
 refine z3f (fun tm σ=>∃ l32:List (List UInt8),∃ t33:Nat,q5k z10 (q2l p1 n r3 m1) l32=some r∧tm=fr 56 [(0,.iM q02 p1),(5,.vl 0 t33 0 l32.length),(6,.iM cS r3),(7,.i6 z10)]∧σ=⟨[(0,.vec (List.map cS l32).flatten 9 1 t33)],1⟩) ?_ ?_
 rintro _ _ ⟨l32,t33,hF,rfl,rfl⟩
 unfold q5k at hF
 refine go ?_
 exact lC ⟨_,l32,t33,hF,rfl,rfl⟩
 refine cF hF (fun h31 hF=>?_) (fun h31 hF=>?_)
 obtain ⟨x34,h35,hF⟩:=q00 hF
 obtain ⟨h36,hF⟩:=q0b hF
 refine go ?_
 refine RS.q rfl (q0i rfl rfl (q09 cS und80 (q03 inf9) q1i h35 rfl)) (RS.q rfl (q0c und9 rfl rfl rfl) (RS.q (u:=.sl 1 0 1 1) (σ':=⟨[(1,.row [.str x34] 9),(0,.vec (List.map cS l11).flatten 9 1 t12)],2⟩) rfl (q0j und80 inf9 rfl rfl rfl rfl rfl rfl rfl) (RS.q (u:=.vl 0 (t12+1) 0 ((l11++[x34]).length)) (σ':=⟨[(1,.row [.str x34] 9),(0,.vec (List.map cS (l11++[x34])).flatten 9 1 (t12+1))],2⟩) rfl (q1n rfl rfl rfl rfl (q23 cS ([x34]) und80 und80 inf9 rfl q1i rfl (q1m cS [x34] rfl rfl rfl rfl) h36)) ?_)))
 refine go ?_
 exact xC ⟨(l11++[x34]),(t12+1),hF,rfl,rfl⟩
 refine go ?_
 exact xC ⟨l11,t12,hF,rfl,rfl⟩
 rintro (_|m2) _ _ ⟨b28,z29,hF,rfl,rfl⟩
 cases hF
 unfold q5l at hF
 refine go ?_
 refine RS.q rfl (q0a rfl rfl rfl (q07 cS und80)) ?_
 refine go ?_
 refine cF hF (fun h37 hF=>?_) (fun h37 hF=>?_)
 refine go ?_
 refine WPU.block ?_
 obtain ⟨b44,h45,hF⟩:=q00 hF
 refine gn ?_
 refine z3f (fun tm σ=>tm=fr 56 [(0,.iM q02 p1),(5,.vl 0 t12 0 l11.length),(6,.iM cS r3),(7,.i6 z10),(8,.iM cS r18),(9,.bool b44),(10,.i6 z29)]∧σ=⟨[(0,.vec (List.map cS l11).flatten 9 1 t12)],1⟩) ?_ ?_
 rintro _ _ ⟨rfl,rfl⟩
 refine go ?_
 exact lC ⟨b44,(IntKind.i64.wrap (z29+1)),hF,rfl,rfl⟩
 rcases gB h45 with ⟨h38,h45⟩ | ⟨h38,h45⟩
 rcases gB h45 with ⟨h39,h45⟩ | ⟨h39,h45⟩
 exact gy h45
 obtain ⟨x40,h41,h45⟩:=q00 h45
 obtain ⟨r42,h43,h45⟩:=q00 h45
 obtain rfl:=sI h45
 refine go ?_
 refine RS.w rfl (q0i rfl rfl (q09 cS und80 (q03 inf9) q1i h41 rfl)) (RS.w rfl (q0c und9 rfl rfl rfl) (RS.cl rfl (pC (q29 n r18 x40 r42 h43) _) fn126 ?_))
 refine go ?_
 exact xC ⟨rfl,rfl⟩
 obtain rfl:=sI h45
 refine go ?_
 repeat refine RS.no (qmc rfl rfl rfl) rfl rfl ?_
 refine go ?_
 exact xC ⟨rfl,rfl⟩
 refine go ?_
 exact xC ⟨b28,hF,rfl,rfl⟩
 refine go ?_
 exact xC ⟨l11,t12,hF,rfl,rfl⟩
def q9g (r17:(List (List UInt8))) (z23:Int) (rc2:(List UInt8)→Int→Option ((List UInt8))) (s27:List UInt8):Option ((List UInt8)) :=
 q04 (q0u r17 z23) fun x28 =>
 q19 (s27.length+x28.length≤9223372036854775807) (
 rc2 (s27++x28) (IntKind.i64.wrap (z23+1)))
def qdh  (s24:List UInt8):Option ((List UInt8)) :=
 some s24
def q51 (r17:(List (List UInt8))):Nat→(List UInt8)→Int→Option ((List UInt8))
 | 0,_,_=>none
 | m2+1,s22,z23 =>
  cond (decide (z23<(r17.length:Int)))
   (cond (decide (z23 > 0))
    (q19 (s22.length+([38]).length≤9223372036854775807) (
    q9g r17 z23 (q51 r17 m2) (s22++[38])))
    (q9g r17 z23 (q51 r17 m2) s22))
   (qdh s22)
def q9h (z12:Int) (rc1:Int→(List (List UInt8))→Option ((List UInt8))) (l43:List (List UInt8)):Option ((List UInt8)) :=
 rc1 (IntKind.i64.wrap (z12+1)) l43
def qdg (p1:List q05) (n:Nat) (l15:List (List UInt8)):Option ((List UInt8)) :=
 q04 (q9b n p1 l15) fun r17 =>
 q51 r17 n [] 0
def q50 (p1:List q05) (p2:List (List UInt8)) (p3:List (List Int)) (p4:List Int) (n:Nat):Nat→Int→(List (List UInt8))→Option ((List UInt8))
 | 0,_,_=>none
 | m1+1,z12,l13 =>
  cond (decide (z12<(p2.length:Int)))
   (q04 (q0u p3 z12) fun x33 =>
   q04 (qgc n x33 p4) fun r35 =>
   cond r35
    (q04 (q0u p2 z12) fun x38 =>
    some x38)
    (q04 (qht n p4 z12) fun r40 =>
    cond r40
     (q04 (q0u p2 z12) fun x45 =>
     q19 ((l13.length+1)*16≤140737488355328∧l13.length+1≤140737488355328) (
     q9h z12 (q50 p1 p2 p3 p4 n m1) (l13++[x45])))
     (q9h z12 (q50 p1 p2 p3 p4 n m1) l13)))
   (qdg p1 n l13)
def qj4 (n:Nat) (p1:List q05) (p2:List (List UInt8)) (p3:List (List Int)) (p4:List Int):Option ((List UInt8)) :=
 q50 p1 p2 p3 p4 n n 0 ([]:List (List UInt8))
theorem qqm (n:Nat) (p1:List q05) (p2:List (List UInt8)) (p3:List (List Int)) (p4:List Int) (r:(List UInt8)) (hF:qj4 n p1 p2 p3 p4=some r):EvU Tryz.prog 98 [.isl false (List.map q02 p1),.isl false (List.map cS p2),.isl false (List.map (cL (cI .u64)) p3),.isl false (List.map (cI .u64) p4)] ⟨[],0⟩ (fun u _=>u = .str r∧Bel 0 u):=by
 unfold qj4 at hF
 refine bg4 59 fn98 ?_
 refine gr ?_
 refine gr ?_
 refine gr ?_
 refine WPU.ghost (tm':=fr 59 [(0,.iM q02 p1),(1,.iM cS p2),(2,.iM (cL (cI .u64)) p3),(3,.iM (cI .u64) p4),(9,.vl 0 0 0 (([]:List (List UInt8)).length)),(10,.i6 0)]) (σ':=⟨[(0,.vec (List.map cS ([]:List (List UInt8))).flatten 9 1 0)],1⟩) (Gh.trans (z3k 9 9 1 (by decide) NZ rfl rfl) (z3j ⟨rfl,rfl,rfl,rfl,rfl,rfl,trivial⟩ rfl)) NZ ?_
 refine gS (l':=[(0,_),(1,_),(2,_),(3,_),(9,_),(10,_)]) ?_
 refine z3e (fun m tm σ=>∃ z12:Int,∃ l13:List (List UInt8),∃ t14:Nat,q50 p1 p2 p3 p4 n m z12 l13=some r∧tm=fr 59 [(0,.iM q02 p1),(1,.iM cS p2),(2,.iM (cL (cI .u64)) p3),(3,.iM (cI .u64) p4),(9,.vl 0 t14 0 l13.length),(10,.i6 z12)]∧σ=⟨[(0,.vec (List.map cS l13).flatten 9 1 t14)],1⟩) (fun tm σ=>∃ l15:List (List UInt8),∃ t16:Nat,qdg p1 n l15=some r∧tm=fr 59 [(0,.iM q02 p1),(9,.vl 0 t16 0 l15.length)]∧σ=⟨[(0,.vec (List.map cS l15).flatten 9 1 t16)],1⟩) n ⟨0,([]:List (List UInt8)),0,hF,rfl,rfl⟩ ?_ ?_
 rintro _ _ ⟨l15,t16,hF,rfl,rfl⟩
 unfold qdg at hF
 refine gn ?_
 refine WPU.ghost (tm':=fr 59 [(0,.iM q02 p1),(9,.iM cS l15)]) (σ':=⟨[],1⟩) (Gh.trans (Gh.sub (l':=[(0,.iM q02 p1),(9,.vl 0 t16 0 l15.length)]) ⟨rfl,rfl,trivial⟩) (z3s 0 1)) NZ ?_
 obtain ⟨r17,h18,hF⟩:=q00 hF
 refine go ?_
 refine RS.cl rfl (pC (qek n p1 l15 r17 h18) _) fn131 ?_
 refine go ?_
 refine gS (l':=[(9,_),(11,_),(12,_)]) ?_
 refine z3e (fun m tm σ=>∃ s22:List UInt8,∃ z23:Int,q51 r17 m s22 z23=some r∧tm=fr 59 [(9,.iM cS r17),(11,.str s22),(12,.i6 z23)]∧σ=⟨[],1⟩) (fun tm σ=>∃ s24:List UInt8,qdh s24=some r∧tm=fr 59 [(11,.str s24)]∧σ=⟨[],1⟩) n ⟨[],0,hF,rfl,rfl⟩ ?_ ?_
 rintro _ _ ⟨s24,hF,rfl,rfl⟩
 unfold qdh at hF
 exact gx hF
 rintro (_|m2) _ _ ⟨s22,z23,hF,rfl,rfl⟩
 cases hF
 unfold q51 at hF
 refine go ?_
 refine RS.q rfl (q0a rfl rfl rfl (q07 cS und80)) ?_
 refine go ?_
 refine cF hF (fun h25 hF=>?_) (fun h25 hF=>?_)
 refine go ?_
 refine WPU.block ?_
 refine gr ?_
 refine z3f (fun tm σ=>∃ s27:List UInt8,q9g r17 z23 (q51 r17 m2) s27=some r∧tm=fr 59 [(9,.iM cS r17),(11,.str s27),(12,.i6 z23)]∧σ=⟨[],1⟩) ?_ ?_
 rintro _ _ ⟨s27,hF,rfl,rfl⟩
 unfold q9g at hF
 obtain ⟨x28,h29,hF⟩:=q00 hF
 obtain ⟨h30,hF⟩:=q0b hF
 refine go ?_
 refine RS.q rfl (q0i rfl rfl (q09 cS und80 (q03 inf9) q1i h29 rfl)) (RS.q rfl (q0c und9 rfl rfl rfl) (RS.q (u:=.str (s27++x28)) rfl (q8v rfl rfl (z1p h30) rfl) ?_))
 refine go ?_
 exact lC ⟨(s27++x28),(IntKind.i64.wrap (z23+1)),hF,rfl,rfl⟩
 refine cF hF (fun h26 hF=>?_) (fun h26 hF=>?_)
 obtain ⟨h31,hF⟩:=q0b hF
 refine go ?_
 refine RS.q (u:=.str (s22++[38])) rfl (q8v rfl rfl (z1p h31) rfl) ?_
 refine go ?_
 exact xC ⟨(s22++[38]),hF,rfl,rfl⟩
 refine go ?_
 exact xC ⟨s22,hF,rfl,rfl⟩
 refine go ?_
 exact xC ⟨s22,hF,rfl,rfl⟩
 rintro (_|m1) _ _ ⟨z12,l13,t14,hF,rfl,rfl⟩
 cases hF
 unfold q50 at hF
 refine go ?_
 refine RS.q rfl (q0a rfl rfl rfl (q07 cS und80)) ?_
 refine go ?_
 refine cF hF (fun h32 hF=>?_) (fun h32 hF=>?_)
 refine go ?_
 refine WPU.block ?_
 obtain ⟨x33,h34,hF⟩:=q00 hF
 obtain ⟨r35,h36,hF⟩:=q00 hF
 refine go ?_
 refine RS.q rfl (q0i rfl rfl (q09 (cL (cI .u64)) und148 (q03 inf103) (q41 (cI .u64)) h34 rfl)) (RS.q rfl (q0c und103 rfl rfl rfl) ?_)
 refine go ?_
 refine RS.cl rfl (pC (qoi n x33 p4 r35 h36) _) fn129 ?_
 refine go ?_
 refine cF hF (fun h37 hF=>?_) (fun h37 hF=>?_)
 obtain ⟨x38,h39,hF⟩:=q00 hF
 refine go ?_
 refine RS.q rfl (q0i rfl rfl (q09 cS und80 (q03 inf9) q1i h39 rfl)) (RS.q rfl (q0c und9 rfl rfl rfl) ?_)
 exact gx hF
 obtain ⟨r40,h41,hF⟩:=q00 hF
 refine go ?_
 refine RS.cl rfl (pC (qly n p4 z12 r40 h41) _) fn130 ?_
 refine gn ?_
 refine z3f (fun tm σ=>∃ l43:List (List UInt8),∃ t44:Nat,q9h z12 (q50 p1 p2 p3 p4 n m1) l43=some r∧tm=fr 59 [(0,.iM q02 p1),(1,.iM cS p2),(2,.iM (cL (cI .u64)) p3),(3,.iM (cI .u64) p4),(9,.vl 0 t44 0 l43.length),(10,.i6 z12)]∧σ=⟨[(0,.vec (List.map cS l43).flatten 9 1 t44)],1⟩) ?_ ?_
 rintro _ _ ⟨l43,t44,hF,rfl,rfl⟩
 unfold q9h at hF
 refine go ?_
 exact lC ⟨_,l43,t44,hF,rfl,rfl⟩
 refine cF hF (fun h42 hF=>?_) (fun h42 hF=>?_)
 obtain ⟨x45,h46,hF⟩:=q00 hF
 obtain ⟨h47,hF⟩:=q0b hF
 refine go ?_
 refine RS.q rfl (q0i rfl rfl (q09 cS und80 (q03 inf9) q1i h46 rfl)) (RS.q rfl (q0c und9 rfl rfl rfl) (RS.q (u:=.sl 1 0 1 1) (σ':=⟨[(1,.row [.str x45] 9),(0,.vec (List.map cS l13).flatten 9 1 t14)],2⟩) rfl (q0j und80 inf9 rfl rfl rfl rfl rfl rfl rfl) (RS.q (u:=.vl 0 (t14+1) 0 ((l13++[x45]).length)) (σ':=⟨[(1,.row [.str x45] 9),(0,.vec (List.map cS (l13++[x45])).flatten 9 1 (t14+1))],2⟩) rfl (q1n rfl rfl rfl rfl (q23 cS ([x45]) und80 und80 inf9 rfl q1i rfl (q1m cS [x45] rfl rfl rfl rfl) h47)) ?_)))
 refine go ?_
 exact xC ⟨(l13++[x45]),(t14+1),hF,rfl,rfl⟩
 refine go ?_
 exact xC ⟨l13,t14,hF,rfl,rfl⟩
 refine go ?_
 exact xC ⟨l13,t14,hF,rfl,rfl⟩
def q99 (z6:Int) (rc1:Int→(List Int)→Option ((List Int))) (l15:List Int):Option ((List Int)) :=
 rc1 (IntKind.i64.wrap (z6+1)) l15
def qd8  (l9:List Int):Option ((List Int)) :=
 some l9
def q4w (p1:List Int) (n:Nat):Nat→Int→(List Int)→Option ((List Int))
 | 0,_,_=>none
 | m1+1,z6,l7 =>
  cond (decide (z6<(IntKind.i64.wrap (64*(p1.length:Int)))))
   (q04 (qht n p1 z6) fun r12 =>
   cond r12
    (q19 ((l7.length+1)*8≤140737488355328∧l7.length+1≤140737488355328) (
    q99 z6 (q4w p1 n m1) (l7++[z6])))
    (q99 z6 (q4w p1 n m1) l7))
   (qd8 l7)
def qj1 (n:Nat) (p1:List Int):Option ((List Int)) :=
 q4w p1 n n 0 ([]:List Int)
theorem qqj (n:Nat) (p1:List Int) (r:(List Int)) (hF:qj1 n p1=some r):EvU Tryz.prog 152 [.isl false (List.map (cI .u64) p1)] ⟨[],0⟩ (fun u _=>u = .isl false (List.map (cI .i64) r)∧Bel 0 u):=by
 unfold qj1 at hF
 refine bg1 20 fn152 ?_
 refine gr ?_
 refine gr ?_
 refine gr ?_
 refine WPU.ghost (tm':=fr 20 [(0,.iM (cI .u64) p1),(3,.vl 0 0 0 (([]:List Int).length)),(4,.i6 0)]) (σ':=⟨[(0,.vec (List.map (cI .i64) ([]:List Int)).flatten 3 1 0)],1⟩) (Gh.trans (z3k 3 3 1 (by decide) NZ rfl rfl) (z3j ⟨rfl,rfl,rfl,trivial⟩ rfl)) NZ ?_
 refine gS (l':=[(0,_),(3,_),(4,_)]) ?_
 refine z3e (fun m tm σ=>∃ z6:Int,∃ l7:List Int,∃ t8:Nat,q4w p1 n m z6 l7=some r∧tm=fr 20 [(0,.iM (cI .u64) p1),(3,.vl 0 t8 0 l7.length),(4,.i6 z6)]∧σ=⟨[(0,.vec (List.map (cI .i64) l7).flatten 3 1 t8)],1⟩) (fun tm σ=>∃ l9:List Int,∃ t10:Nat,qd8 l9=some r∧tm=fr 20 [(3,.vl 0 t10 0 l9.length)]∧σ=⟨[(0,.vec (List.map (cI .i64) l9).flatten 3 1 t10)],1⟩) n ⟨0,([]:List Int),0,hF,rfl,rfl⟩ ?_ ?_
 rintro _ _ ⟨l9,t10,hF,rfl,rfl⟩
 unfold qd8 at hF
 refine go ?_
 obtain rfl:=sI hF
 exact rT (us:=[.vl 0 t10 0 l9.length]) (u:=.iM (cI .i64) l9) (q2o rfl (q3b)) (fR 0 1)
 rintro (_|m1) _ _ ⟨z6,l7,t8,hF,rfl,rfl⟩
 cases hF
 unfold q4w at hF
 refine go ?_
 refine RS.q rfl (q0a rfl rfl rfl (q07 (cI .u64) und103)) ?_
 refine go ?_
 refine cF hF (fun h11 hF=>?_) (fun h11 hF=>?_)
 refine go ?_
 refine WPU.block ?_
 obtain ⟨r12,h13,hF⟩:=q00 hF
 refine go ?_
 refine RS.cl rfl (pC (qly n p1 z6 r12 h13) _) fn130 ?_
 refine gn ?_
 refine z3f (fun tm σ=>∃ l15:List Int,∃ t16:Nat,q99 z6 (q4w p1 n m1) l15=some r∧tm=fr 20 [(0,.iM (cI .u64) p1),(3,.vl 0 t16 0 l15.length),(4,.i6 z6)]∧σ=⟨[(0,.vec (List.map (cI .i64) l15).flatten 3 1 t16)],1⟩) ?_ ?_
 rintro _ _ ⟨l15,t16,hF,rfl,rfl⟩
 unfold q99 at hF
 refine go ?_
 exact lC ⟨_,l15,t16,hF,rfl,rfl⟩
 refine cF hF (fun h14 hF=>?_) (fun h14 hF=>?_)
 obtain ⟨h17,hF⟩:=q0b hF
 refine go ?_
 refine RS.q (u:=.sl 1 0 1 1) (σ':=⟨[(1,.row [.i6 z6] 3),(0,.vec (List.map (cI .i64) l7).flatten 3 1 t8)],2⟩) rfl (q0j und33 inf3 rfl rfl rfl rfl rfl rfl rfl) (RS.q (u:=.vl 0 (t8+1) 0 ((l7++[z6]).length)) (σ':=⟨[(1,.row [.i6 z6] 3),(0,.vec (List.map (cI .i64) (l7++[z6])).flatten 3 1 (t8+1))],2⟩) rfl (q1n rfl rfl rfl rfl (q23 (cI .i64) ([z6]) und33 und33 inf3 rfl (q18 .i64) rfl (q1m (cI .i64) [z6] rfl rfl rfl rfl) h17)) ?_)
 refine go ?_
 exact xC ⟨(l7++[z6]),(t8+1),hF,rfl,rfl⟩
 refine go ?_
 exact xC ⟨l7,t8,hF,rfl,rfl⟩
 refine go ?_
 exact xC ⟨l7,t8,hF,rfl,rfl⟩
def qd7 (n:Nat) (p1:List Int):Option (Int) :=
 q04 (qj1 n p1) fun r2 =>
 some (r2.length:Int)
theorem qhs (n:Nat) (p1:List Int) (r:Int) (hF:qd7 n p1=some r):EvU Tryz.prog 132 [.isl false (List.map (cI .u64) p1)] ⟨[],0⟩ (fun u _=>u = .int .i64 r∧Bel 0 u):=by
 unfold qd7 at hF
 refine bg1 6 fn132 ?_
 obtain ⟨r2,h3,hF⟩:=q00 hF
 refine go ?_
 refine RS.cl rfl (pC (qqj n p1 r2 h3) _) fn152 (RS.q rfl (q0a rfl rfl rfl (q07 (cI .i64) und33)) ?_)
 exact gx hF
def qep (n:Nat) (p1:q0z) (p2:q0z):Option (Bool) :=
 q04 (qd7 n p1.Code) fun r3 =>
 q04 (qd7 n p2.Code) fun r5 =>
 q04 (cond (decide (r3 > r5))
  (some true)
  (cond (r3 == r5)
   (some (q5r p1.Name p2.Name))
   (some false))) fun b9 =>
 some b9
theorem qmu (n:Nat) (p1:q0z) (p2:q0z) (r:Bool) (hF:qep n p1 p2=some r):EvU Tryz.prog 99 [.agg (q0h p1),.agg (q0h p2)] ⟨[],0⟩ (fun u _=>u = .bool r∧Bel 0 u):=by
 unfold qep at hF
 refine bg2 28 fn99 ?_
 refine go ?_
 refine RS.q (u:=.ptr 0 0 0) (σ':=⟨[(0,.row (q0h p1) 105)],1⟩) rfl (q3u rfl rfl rfl) (RS.q (u:=.ptr 1 0 0) (σ':=⟨[(1,.row (q0h p2) 105),(0,.row (q0h p1) 105)],2⟩) rfl (q3u rfl rfl rfl) ?_)
 obtain ⟨r3,h4,hF⟩:=q00 hF
 refine go ?_
 refine RS.q rfl (q0y und105 rfl (q03 inf103) rfl rfl rfl) (RS.q rfl (q0m und103 rfl rfl rfl rfl) (RS.cl rfl (pC (qhs n p1.Code r3 h4) _) fn132 ?_))
 obtain ⟨r5,h6,hF⟩:=q00 hF
 refine go ?_
 refine RS.q rfl (q0y und105 rfl (q03 inf103) rfl rfl rfl) (RS.q rfl (q0m und103 rfl rfl rfl rfl) (RS.cl rfl (pC (qhs n p2.Code r5 h6) _) fn132 ?_))
 obtain ⟨b9,h10,hF⟩:=q00 hF
 refine gn ?_
 refine z3f (fun tm σ=>tm=fr 28 [(4,.bool b9)]∧σ=⟨[(1,.row (q0h p2) 105),(0,.row (q0h p1) 105)],2⟩) ?_ ?_
 rintro _ _ ⟨rfl,rfl⟩
 exact gx hF
 rcases gB h10 with ⟨h7,h10⟩ | ⟨h7,h10⟩
 obtain rfl:=sI h10
 refine go ?_
 repeat refine RS.no (qmc rfl rfl rfl) rfl rfl ?_
 refine go ?_
 exact xC ⟨rfl,rfl⟩
 rcases gB h10 with ⟨h8,h10⟩ | ⟨h8,h10⟩
 obtain rfl:=sI h10
 refine go ?_
 refine RS.w rfl (q0y und105 rfl (q03 inf9) rfl rfl rfl) (RS.w rfl (q0m und9 rfl rfl rfl rfl) (RS.w rfl (q0y und105 rfl (q03 inf9) rfl rfl rfl) (RS.w rfl (q0m und9 rfl rfl rfl rfl) (RS.w (u:=.bool (q5r p1.Name p2.Name)) rfl (q8v rfl rfl rfl rfl) ?_))))
 refine go ?_
 exact xC ⟨rfl,rfl⟩
 exact gy h10
def qbm (z27:Int) (l28:List q0z) (rc2:Int→(List q0z)→Option ((List q0z)×Int)) (r35:(List UInt8)) (x37:List Int) (z50:Int):Option ((List q0z)×Int) :=
 q19 ((0:Int)≤z50∧z50≤((l28.length:Nat):Int)) (
 q19 (0+z50.toNat≤l28.length) (
 q19 (((l28.drop 0).take z50.toNat).length*40≤140737488355328∧((l28.drop 0).take z50.toNat).length≤140737488355328) (
 q19 ((((l28.drop 0).take z50.toNat).length+1)*40≤140737488355328∧((l28.drop 0).take z50.toNat).length+1≤140737488355328) (
 q19 ((0:Int)≤z50∧z50≤((l28.length:Nat):Int)) (
 q19 ((0+z50.toNat)+(l28.length - z50.toNat)≤l28.length) (
 q19 (((((l28.drop 0).take z50.toNat)++[(q0z.mk r35 x37)]).length+((l28.drop (0+z50.toNat)).take (l28.length - z50.toNat)).length)*40≤140737488355328∧(((l28.drop 0).take z50.toNat)++[(q0z.mk r35 x37)]).length+((l28.drop (0+z50.toNat)).take (l28.length - z50.toNat)).length≤140737488355328) (
 rc2 (IntKind.i64.wrap (z27+1)) ((((l28.drop 0).take z50.toNat)++[(q0z.mk r35 x37)])++((l28.drop (0+z50.toNat)).take (l28.length - z50.toNat))))))))))
def q81 (n:Nat) (z27:Int) (l28:List q0z) (rc2:Int→(List q0z)→Option ((List q0z)×Int)) (r35:(List UInt8)) (x37:List Int):Nat→Int→Option ((List q0z)×Int)
 | 0,_=>none
 | m3+1,z49 =>
  q04 (cond (decide (z49 > 0))
   (q04 (q0u l28 (IntKind.i64.wrap (z49 - 1))) fun x59 =>
   q04 (qep n (q0z.mk r35 x37) x59) fun r61 =>
   some r61)
   (some false)) fun b63 =>
  cond b63
   ((q81 n z27 l28 rc2 r35 x37 m3) (IntKind.i64.wrap (z49 - 1)))
   (qbm z27 l28 rc2 r35 x37 z49)
def qbl  (l30:List q0z):Option ((List q0z)×Int) :=
 some (l30,0)
def q4a (p1:List q05) (n:Nat) (r5:(List (List UInt8))) (l15:List (List Int)) (r17:(List (List Int))):Nat→Int→(List q0z)→Option ((List q0z)×Int)
 | 0,_,_=>none
 | m2+1,z27,l28 =>
  cond (decide (z27<(r17.length:Int)))
   (q04 (q0u r17 z27) fun x33 =>
   q04 (qj4 n p1 r5 l15 x33) fun r35 =>
   q04 (q0u r17 z27) fun x37 =>
   q81 n z27 l28 (q4a p1 n r5 l15 r17 m2) r35 x37 n (l28.length:Int))
   (qbl l28)
def qbk (p1:List q05) (n:Nat) (r5:(List (List UInt8))) (l15:List (List Int)):Option ((List q0z)×Int) :=
 q04 (qeq n l15) fun r17 =>
 cond (decide ((r17.length:Int) > 256))
  (some ([],7))
  (q4a p1 n r5 l15 r17 n 0 ([]:List q0z))
def q80 (p1:List q05) (n:Nat) (r5:(List (List UInt8))):Nat→Int→(List (List Int))→Option ((List q0z)×Int)
 | 0,_,_=>none
 | m1+1,z12,l13 =>
  cond (decide (z12<(r5.length:Int)))
   (q04 (q0u r5 z12) fun x67 =>
   q04 (qj3 n p1 r5 x67) fun r69 =>
   q19 ((l13.length+1)*24≤140737488355328∧l13.length+1≤140737488355328) (
   (q80 p1 n r5 m1) (IntKind.i64.wrap (z12+1)) (l13++[r69])))
   (qbk p1 n r5 l13)
def q7b (n:Nat) (p1:List q05):Option ((List q0z)×Int) :=
 q04 (qgh n p1) fun r2 =>
 cond (r2 != 0)
  (some ([],r2))
  (q04 (qdb n p1) fun r5 =>
  q80 p1 n r5 n 0 ([]:List (List Int)))
theorem q9d (n:Nat) (p1:List q05) (r:(List q0z)×Int) (hF:q7b n p1=some r):EvU Tryz.prog 72 [.isl false (List.map q02 p1)] ⟨[],0⟩ (fun u _=>u = .tup [.isl false (List.map q0h r.1),.int .i64 r.2]∧Bel 0 u):=by
 unfold q7b at hF
 refine bg1 92 fn72 ?_
 obtain ⟨r2,h3,hF⟩:=q00 hF
 refine go ?_
 refine RS.cl rfl (pC (qon n p1 r2 h3) _) fn94 ?_
 refine go ?_
 refine cF hF (fun h4 hF=>?_) (fun h4 hF=>?_)
 refine go ?_
 obtain rfl:=sI hF
 exact rT (us:=[.nils,.i6 r2]) (u:=.tup [.isl false [],.i6 r2]) (q2o rfl (q2o rfl (q3b))) wR
 obtain ⟨r5,h6,hF⟩:=q00 hF
 refine go ?_
 refine RS.cl rfl (pC (qhu n p1 r5 h6) _) fn95 ?_
 refine gr ?_
 refine gr ?_
 refine WPU.ghost (tm':=fr 92 [(0,.iM q02 p1),(5,.iM cS r5),(6,.vl 0 0 0 (([]:List (List Int)).length)),(7,.i6 0)]) (σ':=⟨[(0,.vec (List.map (cL (cI .u64)) ([]:List (List Int))).flatten 103 1 0)],1⟩) (Gh.trans (z3k 6 103 1 (by decide) NZ rfl rfl) (z3j ⟨rfl,rfl,rfl,rfl,trivial⟩ rfl)) NZ ?_
 refine gS (l':=[(0,_),(5,_),(6,_),(7,_)]) ?_
 refine z3e (fun m tm σ=>∃ z12:Int,∃ l13:List (List Int),∃ t14:Nat,q80 p1 n r5 m z12 l13=some r∧tm=fr 92 [(0,.iM q02 p1),(5,.iM cS r5),(6,.vl 0 t14 0 l13.length),(7,.i6 z12)]∧σ=⟨[(0,.vec (List.map (cL (cI .u64)) l13).flatten 103 1 t14)],1⟩) (fun tm σ=>∃ l15:List (List Int),∃ t16:Nat,qbk p1 n r5 l15=some r∧tm=fr 92 [(0,.iM q02 p1),(5,.iM cS r5),(6,.vl 0 t16 0 l15.length)]∧σ=⟨[(0,.vec (List.map (cL (cI .u64)) l15).flatten 103 1 t16)],1⟩) n ⟨0,([]:List (List Int)),0,hF,rfl,rfl⟩ ?_ ?_
 rintro _ _ ⟨l15,t16,hF,rfl,rfl⟩
 unfold qbk at hF
 refine gn ?_
 refine WPU.ghost (tm':=fr 92 [(0,.iM q02 p1),(5,.iM cS r5),(6,.iM (cL (cI .u64)) l15)]) (σ':=⟨[],1⟩) (Gh.trans (Gh.sub (l':=[(0,.iM q02 p1),(5,.iM cS r5),(6,.vl 0 t16 0 l15.length)]) ⟨rfl,rfl,rfl,trivial⟩) (z3s 0 1)) NZ ?_
 obtain ⟨r17,h18,hF⟩:=q00 hF
 refine go ?_
 refine RS.cl rfl (pC (qmv n l15 r17 h18) _) fn97 ?_
 refine go ?_
 refine RS.q rfl (q0a rfl rfl rfl (q07 (cL (cI .u64)) und148)) ?_
 refine go ?_
 refine cF hF (fun h19 hF=>?_) (fun h19 hF=>?_)
 refine go ?_
 obtain rfl:=sI hF
 exact rT (us:=[.nils,.i6 7]) (u:=.tup [.isl false [],.i6 7]) (q2o rfl (q2o rfl (q3b))) wR
 refine gr ?_
 refine gr ?_
 refine WPU.ghost (tm':=fr 92 [(0,.iM q02 p1),(5,.iM cS r5),(6,.iM (cL (cI .u64)) l15),(8,.iM (cL (cI .u64)) r17),(9,.vl 1 0 0 (([]:List q0z).length)),(10,.i6 0)]) (σ':=⟨[(1,.vec (List.map q0h ([]:List q0z)).flatten 105 2 0)],2⟩) (Gh.trans (z3k 9 105 2 (by decide) NZ rfl rfl) (z3j ⟨rfl,rfl,rfl,rfl,rfl,rfl,trivial⟩ rfl)) NZ ?_
 refine gS (l':=[(0,_),(5,_),(6,_),(8,_),(9,_),(10,_)]) ?_
 refine z3e (fun m tm σ=>∃ z27:Int,∃ l28:List q0z,∃ t29:Nat,q4a p1 n r5 l15 r17 m z27 l28=some r∧tm=fr 92 [(0,.iM q02 p1),(5,.iM cS r5),(6,.iM (cL (cI .u64)) l15),(8,.iM (cL (cI .u64)) r17),(9,.vl 1 t29 0 l28.length),(10,.i6 z27)]∧σ=⟨[(1,.vec (List.map q0h l28).flatten 105 2 t29)],2⟩) (fun tm σ=>∃ l30:List q0z,∃ t31:Nat,qbl l30=some r∧tm=fr 92 [(9,.vl 1 t31 0 l30.length)]∧σ=⟨[(1,.vec (List.map q0h l30).flatten 105 2 t31)],2⟩) n ⟨0,([]:List q0z),0,hF,rfl,rfl⟩ ?_ ?_
 rintro _ _ ⟨l30,t31,hF,rfl,rfl⟩
 unfold qbl at hF
 refine go ?_
 obtain rfl:=sI hF
 exact rT (us:=[.vl 1 t31 0 l30.length,.i6 0]) (u:=.tup [.iM q0h l30,.i6 0]) (q2o rfl (q2o rfl (q3b))) (fR 1 2)
 rintro (_|m2) _ _ ⟨z27,l28,t29,hF,rfl,rfl⟩
 cases hF
 unfold q4a at hF
 refine go ?_
 refine RS.q rfl (q0a rfl rfl rfl (q07 (cL (cI .u64)) und148)) ?_
 refine go ?_
 refine cF hF (fun h32 hF=>?_) (fun h32 hF=>?_)
 refine go ?_
 refine WPU.block ?_
 obtain ⟨x33,h34,hF⟩:=q00 hF
 obtain ⟨r35,h36,hF⟩:=q00 hF
 obtain ⟨x37,h38,hF⟩:=q00 hF
 refine go ?_
 refine z3g Tryz.tb_ok [(0,13),(1,13),(2,13),(3,13),(4,13),(5,13),(6,13),(8,13),(9,13),(10,13),(11,13),(12,13)] (by kernel_rfl) ?_
 repeat refine RD.mv rfl rfl rfl rfl ?_
 refine RD.q rfl (q0i rfl rfl (q09 (cL (cI .u64)) und148 (q03 inf103) (q41 (cI .u64)) h34 rfl)) (RD.q rfl (q0c und103 rfl rfl rfl) (RD.fl rfl (pC (qqm n p1 r5 l15 x33 r35 h36)) fn98 ?_))
 repeat refine RD.mv rfl rfl rfl rfl ?_
 refine RD.q rfl (q0i rfl rfl (q09 (cL (cI .u64)) und148 (q03 inf103) (q41 (cI .u64)) h38 rfl)) (RD.q rfl (q0c und103 rfl rfl rfl) (RD.q (u:=.agg [.str r35,.iM (cI .u64) x37]) rfl (q3t bd105 rfl rfl rfl) (RD.act (u:=.ptr 2 0 0) (σ':=⟨[(2,.row [.str [],.nils] 105),(1,.vec (List.map q0h l28).flatten 105 2 t29)],3⟩) rfl (q1e inf105 rfl rfl) rfl rfl ?_)))
 refine z3o (u:=.junk) (σ':=⟨[(2,.row [.str r35,.iM (cI .u64) x37] 105),(1,.vec (List.map q0h l28).flatten 105 2 t29)],3⟩) rfl (q0r (q03 inf105) rfl rfl rfl rfl rfl rfl rfl rfl) rfl ?_
 refine RD.done ⟨by kernel_rfl,⟨q1w rfl,⟨q1w rfl,⟨q1w rfl,⟨q1w rfl,⟨q1w rfl,⟨q0i rfl rfl (q09 (cL (cI .u64)) und148 (q03 inf103) (q41 (cI .u64)) h34 rfl),⟨q0c und103 rfl rfl rfl,⟨q1w rfl,⟨q1w rfl,⟨q0i rfl rfl (q09 (cL (cI .u64)) und148 (q03 inf103) (q41 (cI .u64)) h38 rfl),⟨q0c und103 rfl rfl rfl,⟨q3t bd105 rfl rfl rfl,trivial⟩⟩⟩⟩⟩⟩⟩⟩⟩⟩⟩⟩,?_⟩
 refine go ?_
 refine RS.q rfl (q0a rfl rfl rfl (q9y und99 rfl)) ?_
 refine go ?_
 refine gS (l':=[(0,_),(5,_),(6,_),(8,_),(9,_),(10,_),(11,_),(12,_)]) ?_
 refine z3e (fun m tm σ=>∃ z49:Int,q81 n z27 l28 (q4a p1 n r5 l15 r17 m2) r35 x37 m z49=some r∧tm=fr 92 [(0,.iM q02 p1),(5,.iM cS r5),(6,.iM (cL (cI .u64)) l15),(8,.iM (cL (cI .u64)) r17),(9,.vl 1 t29 0 l28.length),(10,.i6 z27),(11,.ptr 2 0 0),(12,.i6 z49)]∧σ=⟨[(2,.row [.str r35,.iM (cI .u64) x37] 105),(1,.vec (List.map q0h l28).flatten 105 2 t29)],3⟩) (fun tm σ=>∃ z50:Int,qbm z27 l28 (q4a p1 n r5 l15 r17 m2) r35 x37 z50=some r∧tm=fr 92 [(0,.iM q02 p1),(5,.iM cS r5),(6,.iM (cL (cI .u64)) l15),(8,.iM (cL (cI .u64)) r17),(9,.vl 1 t29 0 l28.length),(10,.i6 z27),(11,.ptr 2 0 0),(12,.i6 z50)]∧σ=⟨[(2,.row [.str r35,.iM (cI .u64) x37] 105),(1,.vec (List.map q0h l28).flatten 105 2 t29)],3⟩) n ⟨(l28.length:Int),hF,rfl,rfl⟩ ?_ ?_
 rintro _ _ ⟨z50,hF,rfl,rfl⟩
 unfold qbm at hF
 obtain ⟨h51,hF⟩:=q0b hF
 obtain ⟨h52,hF⟩:=q0b hF
 obtain ⟨h53,hF⟩:=q0b hF
 refine go ?_
 refine RS.q (u:=.vl 1 t29 0 z50.toNat) rfl (qau rfl qr3 (z0l rfl) qr3 (z02 q0h und99 (q03 inf105) q1l (vo rfl) (Nat.le_of_eq (Nat.zero_add _)) (qvi h51.1 h51.2))) (RS.q (u:=.vl 3 0 0 (((l28.drop 0).take z50.toNat).length)) (σ':=⟨[(3,.vec (List.map q0h ((l28.drop 0).take z50.toNat)).flatten 105 2 0),(2,.row [.str r35,.iM (cI .u64) x37] 105),(1,.vec (List.map q0h l28).flatten 105 2 t29)],4⟩) rfl (q1n rfl rfl rfl rfl (qrb q0h ((l28.drop 0).take z50.toNat) und99 und99 inf105 rfl (qtv q0h q1l (vo rfl) h52) h53)) ?_)
 obtain ⟨h54,hF⟩:=q0b hF
 refine go ?_
 refine RS.q (u:=.agg [.str r35,.iM (cI .u64) x37]) rfl (q1b und105 rfl (q03 inf105) rfl rfl rfl) (RS.q (u:=.sl 4 0 1 1) (σ':=⟨[(4,.row [.str r35,.iM (cI .u64) x37] 105),(3,.vec (List.map q0h ((l28.drop 0).take z50.toNat)).flatten 105 2 0),(2,.row [.str r35,.iM (cI .u64) x37] 105),(1,.vec (List.map q0h l28).flatten 105 2 t29)],5⟩) rfl (q0j und99 inf105 rfl rfl rfl rfl rfl rfl rfl) (RS.q (u:=.vl 3 1 0 ((((l28.drop 0).take z50.toNat)++[(q0z.mk r35 x37)]).length)) (σ':=⟨[(4,.row [.str r35,.iM (cI .u64) x37] 105),(3,.vec (List.map q0h (((l28.drop 0).take z50.toNat)++[(q0z.mk r35 x37)])).flatten 105 2 1),(2,.row [.str r35,.iM (cI .u64) x37] 105),(1,.vec (List.map q0h l28).flatten 105 2 t29)],5⟩) rfl (q1n rfl rfl rfl rfl (q23 q0h ([(q0z.mk r35 x37)]) und99 und99 inf105 rfl q1l rfl (q1m q0h [(q0z.mk r35 x37)] rfl rfl rfl rfl) h54)) ?_))
 obtain ⟨h55,hF⟩:=q0b hF
 obtain ⟨h56,hF⟩:=q0b hF
 obtain ⟨h57,hF⟩:=q0b hF
 refine go ?_
 refine RS.q (u:=.vl 1 t29 (0+z50.toNat) (l28.length - z50.toNat)) rfl (qau rfl (z0l rfl) qr3 qr3 (z02 q0h und99 (q03 inf105) q1l (vo rfl) (Nat.le_of_eq (Nat.zero_add _)) (qvj h55.1 h55.2))) (RS.q (u:=.vl 3 2 0 (((((l28.drop 0).take z50.toNat)++[(q0z.mk r35 x37)])++((l28.drop (0+z50.toNat)).take (l28.length - z50.toNat))).length)) (σ':=⟨[(4,.row [.str r35,.iM (cI .u64) x37] 105),(3,.vec (List.map q0h ((((l28.drop 0).take z50.toNat)++[(q0z.mk r35 x37)])++((l28.drop (0+z50.toNat)).take (l28.length - z50.toNat)))).flatten 105 2 2),(2,.row [.str r35,.iM (cI .u64) x37] 105),(1,.vec (List.map q0h l28).flatten 105 2 t29)],5⟩) rfl (q1n rfl rfl rfl rfl (q23 q0h ((l28.drop (0+z50.toNat)).take (l28.length - z50.toNat)) und99 und99 inf105 rfl q1l rfl (qtv q0h q1l (vo rfl) h56) h57)) ?_)
 refine go ?_
 exact ⟨m2,_,_,Nat.lt_succ_self _,⟨(IntKind.i64.wrap (z27+1)),((((l28.drop 0).take z50.toNat)++[(q0z.mk r35 x37)])++((l28.drop (0+z50.toNat)).take (l28.length - z50.toNat))),2,hF,rfl,rfl⟩,NZ,Gh.trans (Gh.sub (l':=[(0,.iM q02 p1),(5,.iM cS r5),(6,.iM (cL (cI .u64)) l15),(8,.iM (cL (cI .u64)) r17),(9,.vl 3 2 0 (((((l28.drop 0).take z50.toNat)++[(q0z.mk r35 x37)])++((l28.drop (0+z50.toNat)).take (l28.length - z50.toNat))).length)),(10,.i6 (IntKind.i64.wrap (z27+1)))]) ⟨rfl,rfl,rfl,rfl,rfl,rfl,trivial⟩) (Gh.trans (Gh.mv (l':=[(0,.iM q02 p1),(5,.iM cS r5),(6,.iM (cL (cI .u64)) l15),(8,.iM (cL (cI .u64)) r17),(9,.vl 1 2 0 (((((l28.drop 0).take z50.toNat)++[(q0z.mk r35 x37)])++((l28.drop (0+z50.toNat)).take (l28.length - z50.toNat))).length)),(10,.i6 (IntKind.i64.wrap (z27+1)))]) (h':=[(4,.row [.str r35,.iM (cI .u64) x37] 105),(1,.vec (List.map q0h ((((l28.drop 0).take z50.toNat)++[(q0z.mk r35 x37)])++((l28.drop (0+z50.toNat)).take (l28.length - z50.toNat)))).flatten 105 2 2),(2,.row [.str r35,.iM (cI .u64) x37] 105)]) 1 3 NZ rfl rfl (by simp only [rS,rU,rUL,qei,mvN,Nat.beq,cond_true,cond_false]) rfl (by simp only [avH,rB,qnq,rUL,rU,qei,qtf,mvN,Nat.beq,cond_true,cond_false,and_self])) (Gh.toC (n1:=2) ⟨rfl,rfl,rfl,rfl,rfl,rfl,trivial⟩ rfl NZ (by simp)))⟩
 rintro (_|m3) _ _ ⟨z49,hF,rfl,rfl⟩
 cases hF
 unfold q81 at hF
 obtain ⟨b63,h64,hF⟩:=q00 hF
 refine gn ?_
 refine z3f (fun tm σ=>tm=fr 92 [(0,.iM q02 p1),(5,.iM cS r5),(6,.iM (cL (cI .u64)) l15),(8,.iM (cL (cI .u64)) r17),(9,.vl 1 t29 0 l28.length),(10,.i6 z27),(11,.ptr 2 0 0),(12,.i6 z49),(73,.bool b63)]∧σ=⟨[(2,.row [.str r35,.iM (cI .u64) x37] 105),(1,.vec (List.map q0h l28).flatten 105 2 t29)],3⟩) ?_ ?_
 rintro _ _ ⟨rfl,rfl⟩
 refine go ?_
 refine cF hF (fun h65 hF=>?_) (fun h65 hF=>?_)
 refine go ?_
 refine WPU.block ?_
 refine go ?_
 exact lC ⟨_,hF,rfl,rfl⟩
 refine go ?_
 exact xC ⟨z49,hF,rfl,rfl⟩
 rcases gB h64 with ⟨h58,h64⟩ | ⟨h58,h64⟩
 obtain ⟨x59,h60,h64⟩:=q00 h64
 obtain ⟨r61,h62,h64⟩:=q00 h64
 obtain rfl:=sI h64
 refine z3g Tryz.tb_ok [] (by kernel_rfl) ?_
 refine RD.mv rfl rfl rfl rfl (RD.q rfl (q2y rfl rfl (qli _ _ _) rfl) (RD.mv rfl rfl rfl rfl (RD.w (u:=.agg [.str r35,.iM (cI .u64) x37]) rfl (q1b und105 rfl (q03 inf105) rfl rfl rfl) (RD.w rfl (q1w rfl) (RD.w rfl (q1w rfl) (RD.w rfl (q2y rfl rfl (qwm _ _ _) rfl) ?_))))))
 refine RD.w rfl (q0i rfl rfl (qai q0h und99 (q03 inf105) (by decide) q1l (vo rfl) h60)) ?_
 refine RD.w (u:=.agg (q0h x59)) rfl (ld_vec q0h und105 rfl (q03 inf105) q1l rfl rfl h60 rfl) (RD.fl rfl (pC (qmu n (q0z.mk r35 x37) x59 r61 h62)) fn99 (RD.q rfl (qhm rfl h58 rfl) ?_))
 refine RD.done ⟨by kernel_rfl,trivial,?_⟩
 refine go ?_
 exact xC ⟨rfl,rfl⟩
 obtain rfl:=sI h64
 refine z3g Tryz.tb_ok [] (by kernel_rfl) ?_
 refine RD.mv rfl rfl rfl rfl (RD.q rfl (q2y rfl rfl (qli _ _ _) rfl) (RD.mv rfl rfl rfl rfl ?_))
 repeat refine RD.no (qv2 rfl rfl rfl h58) rfl rfl ?_
 refine RD.q rfl (qhl rfl h58 rfl) ?_
 refine RD.done ⟨by kernel_rfl,trivial,?_⟩
 refine go ?_
 exact xC ⟨rfl,rfl⟩
 refine go ?_
 exact xC ⟨l28,t29,hF,rfl,rfl⟩
 rintro (_|m1) _ _ ⟨z12,l13,t14,hF,rfl,rfl⟩
 cases hF
 unfold q80 at hF
 refine go ?_
 refine RS.q rfl (q0a rfl rfl rfl (q07 cS und80)) ?_
 refine go ?_
 refine cF hF (fun h66 hF=>?_) (fun h66 hF=>?_)
 refine go ?_
 refine WPU.block ?_
 obtain ⟨x67,h68,hF⟩:=q00 hF
 obtain ⟨r69,h70,hF⟩:=q00 hF
 obtain ⟨h71,hF⟩:=q0b hF
 refine go ?_
 refine RS.q rfl (q0i rfl rfl (q09 cS und80 (q03 inf9) q1i h68 rfl)) (RS.q rfl (q0c und9 rfl rfl rfl) (RS.cl rfl (pC (qql n p1 r5 x67 r69 h70) _) fn96 (RS.q (u:=.sl 1 0 1 1) (σ':=⟨[(1,.row [.iM (cI .u64) r69] 103),(0,.vec (List.map (cL (cI .u64)) l13).flatten 103 1 t14)],2⟩) rfl (q0j und148 inf103 rfl rfl rfl rfl rfl rfl rfl) (RS.q (u:=.vl 0 (t14+1) 0 ((l13++[r69]).length)) (σ':=⟨[(1,.row [.iM (cI .u64) r69] 103),(0,.vec (List.map (cL (cI .u64)) (l13++[r69])).flatten 103 1 (t14+1))],2⟩) rfl (q1n rfl rfl rfl rfl (q23 (cL (cI .u64)) ([r69]) und148 und148 inf103 rfl (q41 (cI .u64)) rfl (q1m (cL (cI .u64)) [r69] rfl rfl rfl rfl) h71)) ?_))))
 refine go ?_
 exact lC ⟨_,(l13++[r69]),(t14+1),hF,rfl,rfl⟩
 refine go ?_
 exact xC ⟨l13,t14,hF,rfl,rfl⟩
def qbv   : Option ((List UInt8)×Bool) :=
 some ([],false)
def q86 (p1:q05) (p2:List UInt8):Nat→Int→Option ((List UInt8)×Bool)
 | 0,_=>none
 | m1+1,z8 =>
  cond (decide (z8<(p1.Feats.length:Int)))
   (q04 (q0u p1.Feats z8) fun x10 =>
   cond (q1k x10.Feat p2)
    (q04 (q0u p1.Feats z8) fun x13 =>
    some (x13.Value,true))
    ((q86 p1 p2 m1) (IntKind.i64.wrap (z8+1))))
   (qbv)
def qdl (n:Nat) (p1:q05) (p2:List UInt8):Option ((List UInt8)×Bool) :=
 q86 p1 p2 n 0
theorem qhx (n:Nat) (p1:q05) (p2:List UInt8) (r:(List UInt8)×Bool) (hF:qdl n p1 p2=some r):EvU Tryz.prog 117 [.agg (q02 p1),.str p2] ⟨[],0⟩ (fun u _=>u = .tup [.str r.1,.bool r.2]∧Bel 0 u):=by
 unfold qdl at hF
 refine bg2 28 fn117 ?_
 refine go ?_
 refine RS.q (u:=.ptr 0 0 0) (σ':=⟨[(0,.row (q02 p1) 127)],1⟩) rfl (q3u rfl rfl rfl) ?_
 refine go ?_
 refine gS (l':=[(1,_),(2,_),(6,_)]) ?_
 refine z3e (fun m tm σ=>∃ z8:Int,q86 p1 p2 m z8=some r∧tm=fr 28 [(1,.str p2),(2,.ptr 0 0 0),(6,.i6 z8)]∧σ=⟨[(0,.row (q02 p1) 127)],1⟩) (fun tm σ=>qbv=some r∧tm=fr 28 []∧σ=⟨[(0,.row (q02 p1) 127)],1⟩) n ⟨0,hF,rfl,rfl⟩ ?_ ?_
 rintro _ _ ⟨hF,rfl,rfl⟩
 unfold qbv at hF
 refine go ?_
 obtain rfl:=sI hF
 exact rt2 rfl rfl rfl rfl rfl
 rintro (_|m1) _ _ ⟨z8,hF,rfl,rfl⟩
 cases hF
 unfold q86 at hF
 refine go ?_
 refine RS.q rfl (q0y und127 rfl (q03 inf125) rfl rfl rfl) (RS.q rfl (q0m und125 rfl rfl rfl rfl) (RS.q rfl (q0a rfl rfl rfl (q07 q0f und125)) ?_))
 refine go ?_
 refine cF hF (fun h9 hF=>?_) (fun h9 hF=>?_)
 refine go ?_
 refine WPU.block ?_
 obtain ⟨x10,h11,hF⟩:=q00 hF
 refine go ?_
 refine RS.q rfl (q0y und127 rfl (q03 inf125) rfl rfl rfl) (RS.q rfl (q0m und125 rfl rfl rfl rfl) ?_)
 refine go ?_
 refine RS.q rfl (q0i rfl rfl (q09 q0f und125 (q03 inf162) q25 h11 rfl)) (RS.q rfl (q1q und162 rfl (q03 inf9) rfl rfl) (RS.q rfl (q0c und9 rfl rfl rfl) ?_))
 refine go ?_
 refine RS.q (u:=.bool (q1k x10.Feat p2)) rfl (q8v rfl rfl rfl rfl) ?_
 refine go ?_
 refine cF hF (fun h12 hF=>?_) (fun h12 hF=>?_)
 obtain ⟨x13,h14,hF⟩:=q00 hF
 refine go ?_
 refine RS.q rfl (q0y und127 rfl (q03 inf125) rfl rfl rfl) (RS.q rfl (q0m und125 rfl rfl rfl rfl) ?_)
 refine go ?_
 refine RS.q rfl (q0i rfl rfl (q09 q0f und125 (q03 inf162) q25 h14 rfl)) (RS.q rfl (q1q und162 rfl (q03 inf9) rfl rfl) (RS.q rfl (q0c und9 rfl rfl rfl) ?_))
 refine go ?_
 obtain rfl:=sI hF
 exact rt2 rfl rfl rfl rfl rfl
 refine go ?_
 exact lC ⟨_,hF,rfl,rfl⟩
 refine go ?_
 exact xC ⟨hF,rfl,rfl⟩
def q85 (z8:Int) (rc1:(List (List UInt8))→Int→Option ((List UInt8)×Bool)) (l21:List (List UInt8)):Option ((List UInt8)×Bool) :=
 rc1 l21 (IntKind.i64.wrap (z8+1))
def qbt (p1:List q05) (n:Nat) (l9:List (List UInt8)):Option ((List UInt8)×Bool) :=
 q04 (q9b n p1 l9) fun r10 =>
 cond ((r10.length:Int) != 1)
  (some ([],false))
  (q04 (q0u r10 0) fun x13 =>
  some (x13,true))
def q4e (p1:List q05) (p2:List UInt8) (n:Nat):Nat→(List (List UInt8))→Int→Option ((List UInt8)×Bool)
 | 0,_,_=>none
 | m1+1,l7,z8 =>
  cond (decide (z8<(p1.length:Int)))
   (q04 (q0u p1 z8) fun x16 =>
   q04 (qdl n x16 p2) fun r18 =>
   cond r18.2
    (q04 (q0u p1 z8) fun x22 =>
    q04 (q8f n l7 x22.Name) fun r24 =>
    q85 z8 (q4e p1 p2 n m1) r24)
    (q85 z8 (q4e p1 p2 n m1) l7))
   (qbt p1 n l7)
def qdk (n:Nat) (p1:List q05) (p2:List UInt8):Option ((List UInt8)×Bool) :=
 q4e p1 p2 n n [] 0
theorem qhw (n:Nat) (p1:List q05) (p2:List UInt8) (r:(List UInt8)×Bool) (hF:qdk n p1 p2=some r):EvU Tryz.prog 101 [.isl false (List.map q02 p1),.str p2] ⟨[],0⟩ (fun u _=>u = .tup [.str r.1,.bool r.2]∧Bel 0 u):=by
 unfold qdk at hF
 refine bg2 43 fn101 ?_
 refine gr ?_
 refine gr ?_
 refine gr ?_
 refine WPU.ghost (tm':=fr 43 [(0,.iM q02 p1),(1,.str p2),(6,.iM cS []),(7,.i6 0)]) (Gh.trans (Gh.sub (l':=[(0,.iM q02 p1),(1,.str p2),(6,.nils),(7,.i6 0)]) ⟨rfl,rfl,rfl,rfl,trivial⟩) (Gh.wkS (l':=[(0,.iM q02 p1),(1,.str p2),(6,.iM cS []),(7,.i6 0)]) (.cons (.refl _) (.cons (.refl _) (.cons (.nil false) (.cons (.refl _) .nil)))))) NZ ?_
 refine gS (l':=[(0,_),(1,_),(6,_),(7,_)]) ?_
 refine z3e (fun m tm σ=>∃ l7:List (List UInt8),∃ z8:Int,q4e p1 p2 n m l7 z8=some r∧tm=fr 43 [(0,.iM q02 p1),(1,.str p2),(6,.iM cS l7),(7,.i6 z8)]∧σ=⟨[],0⟩) (fun tm σ=>∃ l9:List (List UInt8),qbt p1 n l9=some r∧tm=fr 43 [(0,.iM q02 p1),(6,.iM cS l9)]∧σ=⟨[],0⟩) n ⟨[],0,hF,rfl,rfl⟩ ?_ ?_
 rintro _ _ ⟨l9,hF,rfl,rfl⟩
 unfold qbt at hF
 obtain ⟨r10,h11,hF⟩:=q00 hF
 refine go ?_
 refine RS.cl rfl (pC (qek n p1 l9 r10 h11) _) fn131 ?_
 refine go ?_
 refine RS.q rfl (q0a rfl rfl rfl (q07 cS und80)) ?_
 refine go ?_
 refine cF hF (fun h12 hF=>?_) (fun h12 hF=>?_)
 refine go ?_
 obtain rfl:=sI hF
 exact rt2 rfl rfl rfl rfl rfl
 obtain ⟨x13,h14,hF⟩:=q00 hF
 refine go ?_
 refine RS.q rfl (q0i rfl rfl (q09 cS und80 (q03 inf9) q1i h14 rfl)) (RS.q rfl (q0c und9 rfl rfl rfl) ?_)
 refine go ?_
 obtain rfl:=sI hF
 exact rt2 rfl rfl rfl rfl rfl
 rintro (_|m1) _ _ ⟨l7,z8,hF,rfl,rfl⟩
 cases hF
 unfold q4e at hF
 refine go ?_
 refine RS.q rfl (q0a rfl rfl rfl (q07 q02 und38)) ?_
 refine go ?_
 refine cF hF (fun h15 hF=>?_) (fun h15 hF=>?_)
 refine go ?_
 refine WPU.block ?_
 obtain ⟨x16,h17,hF⟩:=q00 hF
 obtain ⟨r18,h19,hF⟩:=q00 hF
 refine go ?_
 refine RS.q rfl (q0i rfl rfl (q09 q02 und38 (q03 inf127) q0k h17 rfl)) (RS.q (u:=.agg (q02 x16)) rfl (q8u und127 rfl (q03 inf127) rfl rfl) ?_)
 refine go ?_
 refine RS.cl rfl (pC (qhx n x16 p2 r18 h19) _) fn117 ?_
 refine gr ?_
 refine z3f (fun tm σ=>∃ l21:List (List UInt8),q85 z8 (q4e p1 p2 n m1) l21=some r∧tm=fr 43 [(0,.iM q02 p1),(1,.str p2),(6,.iM cS l21),(7,.i6 z8)]∧σ=⟨[],0⟩) ?_ ?_
 rintro _ _ ⟨l21,hF,rfl,rfl⟩
 unfold q85 at hF
 refine go ?_
 exact lC ⟨l21,(IntKind.i64.wrap (z8+1)),hF,rfl,rfl⟩
 refine cF hF (fun h20 hF=>?_) (fun h20 hF=>?_)
 obtain ⟨x22,h23,hF⟩:=q00 hF
 obtain ⟨r24,h25,hF⟩:=q00 hF
 refine go ?_
 refine RS.q rfl (q0i rfl rfl (q09 q02 und38 (q03 inf127) q0k h23 rfl)) (RS.q rfl (q1q und127 rfl (q03 inf9) rfl rfl) (RS.q rfl (q0c und9 rfl rfl rfl) (RS.cl rfl (pC (q79 n l7 x22.Name r24 h25) _) fn116 ?_)))
 refine go ?_
 exact xC ⟨r24,hF,rfl,rfl⟩
 refine go ?_
 exact xC ⟨l7,hF,rfl,rfl⟩
 refine go ?_
 exact xC ⟨l7,hF,rfl,rfl⟩
def q4q (n:Nat) (r2:(List (List UInt8))) (x9:q05) (z16:Int) (rc2:Int→Option (Int))  : Option (Int) :=
 q04 (q0u x9.Feats z16) fun x30 =>
 q04 (q30 n r2 x30.Value) fun r32 =>
 cond (!r32)
  (some 5)
  (rc2 (IntKind.i64.wrap (z16+1)))
def q3g (n:Nat) (r2:(List (List UInt8))) (x9:q05) (z16:Int) (rc2:Int→Option (Int)):Nat→Int→Option (Int)
 | 0,_=>none
 | m3+1,z29 =>
  cond (decide (z29<z16))
   (q04 (q0u x9.Feats z29) fun x36 =>
   q04 (q0u x9.Feats z16) fun x38 =>
   cond (q1k x36.Feat x38.Feat)
    (some 4)
    ((q3g n r2 x9 z16 rc2 m3) (IntKind.i64.wrap (z29+1))))
   (q4q n r2 x9 z16 rc2)
def q4p (z7:Int) (rc1:Int→Option (Int))  : Option (Int) :=
 rc1 (IntKind.i64.wrap (z7+1))
def q21 (n:Nat) (r2:(List (List UInt8))) (z7:Int) (rc1:Int→Option (Int)) (x9:q05):Nat→Int→Option (Int)
 | 0,_=>none
 | m2+1,z16 =>
  cond (decide (z16<(x9.Feats.length:Int)))
   (q04 (q0u x9.Feats z16) fun x18 =>
   q04 (qd2 n x18.Feat) fun r20 =>
   cond (!r20)
    (some 1)
    (q3g n r2 x9 z16 (q21 n r2 z7 rc1 x9 m2) n 0))
   (q4p z7 rc1)
def q4o   : Option (Int) :=
 some 0
def q1f (p1:List q05) (n:Nat) (r2:(List (List UInt8))):Nat→Int→Option (Int)
 | 0,_=>none
 | m1+1,z7 =>
  cond (decide (z7<(p1.length:Int)))
   (q04 (q0u p1 z7) fun x9 =>
   q21 n r2 z7 (q1f p1 n r2 m1) x9 n 0)
   (q4o)
def q6p (n:Nat) (p1:List q05):Option (Int) :=
 q04 (qdb n p1) fun r2 =>
 q1f p1 n r2 n 0
theorem qfi (n:Nat) (p1:List q05) (r:Int) (hF:q6p n p1=some r):EvU Tryz.prog 115 [.isl false (List.map q02 p1)] ⟨[],0⟩ (fun u _=>u = .int .i64 r∧Bel 0 u):=by
 unfold q6p at hF
 refine bg1 58 fn115 ?_
 obtain ⟨r2,h3,hF⟩:=q00 hF
 refine go ?_
 refine RS.cl rfl (pC (qhu n p1 r2 h3) _) fn95 ?_
 refine go ?_
 refine gS (l':=[(0,_),(3,_),(4,_)]) ?_
 refine z3e (fun m tm σ=>∃ z7:Int,q1f p1 n r2 m z7=some r∧tm=fr 58 [(0,.iM q02 p1),(3,.iM cS r2),(4,.i6 z7)]∧σ=⟨[],0⟩) (fun tm σ=>q4o=some r∧tm=fr 58 []∧σ=⟨[],0⟩) n ⟨0,hF,rfl,rfl⟩ ?_ ?_
 rintro _ _ ⟨hF,rfl,rfl⟩
 unfold q4o at hF
 exact gx hF
 rintro (_|m1) _ _ ⟨z7,hF,rfl,rfl⟩
 cases hF
 unfold q1f at hF
 refine go ?_
 refine RS.q rfl (q0a rfl rfl rfl (q07 q02 und38)) ?_
 refine go ?_
 refine cF hF (fun h8 hF=>?_) (fun h8 hF=>?_)
 refine go ?_
 refine WPU.block ?_
 obtain ⟨x9,h10,hF⟩:=q00 hF
 refine go ?_
 refine RS.q rfl (q0i rfl rfl (q09 q02 und38 (q03 inf127) q0k h10 rfl)) (RS.q rfl (q1q und127 rfl (q03 inf125) rfl rfl) (RS.q rfl (q0c und125 rfl rfl rfl) ?_))
 refine go ?_
 refine gS (l':=[(0,_),(3,_),(4,_),(5,_),(6,_)]) ?_
 refine z3e (fun m tm σ=>∃ z16:Int,q21 n r2 z7 (q1f p1 n r2 m1) x9 m z16=some r∧tm=fr 58 [(0,.iM q02 p1),(3,.iM cS r2),(4,.i6 z7),(5,.iM q0f x9.Feats),(6,.i6 z16)]∧σ=⟨[],0⟩) (fun tm σ=>q4p z7 (q1f p1 n r2 m1)=some r∧tm=fr 58 [(0,.iM q02 p1),(3,.iM cS r2),(4,.i6 z7)]∧σ=⟨[],0⟩) n ⟨0,hF,rfl,rfl⟩ ?_ ?_
 rintro _ _ ⟨hF,rfl,rfl⟩
 unfold q4p at hF
 refine go ?_
 exact lC ⟨_,hF,rfl,rfl⟩
 rintro (_|m2) _ _ ⟨z16,hF,rfl,rfl⟩
 cases hF
 unfold q21 at hF
 refine go ?_
 refine RS.q rfl (q0a rfl rfl rfl (q07 q0f und125)) ?_
 refine go ?_
 refine cF hF (fun h17 hF=>?_) (fun h17 hF=>?_)
 refine go ?_
 refine WPU.block ?_
 obtain ⟨x18,h19,hF⟩:=q00 hF
 obtain ⟨r20,h21,hF⟩:=q00 hF
 refine go ?_
 refine RS.q rfl (q0i rfl rfl (q09 q0f und125 (q03 inf162) q25 h19 rfl)) (RS.q rfl (q1q und162 rfl (q03 inf9) rfl rfl) (RS.q rfl (q0c und9 rfl rfl rfl) (RS.cl rfl (pC (qlw n x18.Feat r20 h21) _) fn57 ?_)))
 refine go ?_
 refine cF hF (fun h22 hF=>?_) (fun h22 hF=>?_)
 exact gx hF
 refine go ?_
 refine gS (l':=[(0,_),(3,_),(4,_),(5,_),(6,_),(7,_)]) ?_
 refine z3e (fun m tm σ=>∃ z29:Int,q3g n r2 x9 z16 (q21 n r2 z7 (q1f p1 n r2 m1) x9 m2) m z29=some r∧tm=fr 58 [(0,.iM q02 p1),(3,.iM cS r2),(4,.i6 z7),(5,.iM q0f x9.Feats),(6,.i6 z16),(7,.i6 z29)]∧σ=⟨[],0⟩) (fun tm σ=>q4q n r2 x9 z16 (q21 n r2 z7 (q1f p1 n r2 m1) x9 m2)=some r∧tm=fr 58 [(0,.iM q02 p1),(3,.iM cS r2),(4,.i6 z7),(5,.iM q0f x9.Feats),(6,.i6 z16)]∧σ=⟨[],0⟩) n ⟨0,hF,rfl,rfl⟩ ?_ ?_
 rintro _ _ ⟨hF,rfl,rfl⟩
 unfold q4q at hF
 obtain ⟨x30,h31,hF⟩:=q00 hF
 obtain ⟨r32,h33,hF⟩:=q00 hF
 refine go ?_
 refine RS.q rfl (q0i rfl rfl (q09 q0f und125 (q03 inf162) q25 h31 rfl)) (RS.q rfl (q1q und162 rfl (q03 inf9) rfl rfl) (RS.q rfl (q0c und9 rfl rfl rfl) (RS.cl rfl (pC (q29 n r2 x30.Value r32 h33) _) fn126 ?_)))
 refine go ?_
 refine cF hF (fun h34 hF=>?_) (fun h34 hF=>?_)
 exact gx hF
 refine go ?_
 exact lC ⟨_,hF,rfl,rfl⟩
 rintro (_|m3) _ _ ⟨z29,hF,rfl,rfl⟩
 cases hF
 unfold q3g at hF
 refine go ?_
 refine cF hF (fun h35 hF=>?_) (fun h35 hF=>?_)
 refine go ?_
 refine WPU.block ?_
 obtain ⟨x36,h37,hF⟩:=q00 hF
 obtain ⟨x38,h39,hF⟩:=q00 hF
 refine go ?_
 refine z3g Tryz.tb_ok [] (by kernel_rfl) ?_
 repeat refine RD.mv rfl rfl rfl rfl ?_
 refine RD.q rfl (q0i rfl rfl (q09 q0f und125 (q03 inf162) q25 h37 rfl)) (RD.q rfl (q1q und162 rfl (q03 inf9) rfl rfl) (RD.q rfl (q0c und9 rfl rfl rfl) ?_))
 repeat refine RD.mv rfl rfl rfl rfl ?_
 refine RD.q rfl (q0i rfl rfl (q09 q0f und125 (q03 inf162) q25 h39 rfl)) (RD.q rfl (q1q und162 rfl (q03 inf9) rfl rfl) (RD.q rfl (q0c und9 rfl rfl rfl) (RD.q (u:=.bool (q1k x36.Feat x38.Feat)) rfl (q8v rfl rfl rfl rfl) ?_)))
 refine RD.done ⟨by kernel_rfl,trivial,?_⟩
 refine go ?_
 refine cF hF (fun h40 hF=>?_) (fun h40 hF=>?_)
 exact gx hF
 refine go ?_
 exact lC ⟨_,hF,rfl,rfl⟩
 refine go ?_
 exact xC ⟨hF,rfl,rfl⟩
 refine go ?_
 exact xC ⟨hF,rfl,rfl⟩
 refine go ?_
 exact xC ⟨hF,rfl,rfl⟩
def qbs (z6:Int) (rc1:(List (List UInt8))→Int→Option ((List (List UInt8)))) (l15:List (List UInt8)):Option ((List (List UInt8))) :=
 rc1 l15 (IntKind.i64.wrap (z6+1))
def q84 (p1:List q05) (n:Nat) (z6:Int) (rc1:(List (List UInt8))→Int→Option ((List (List UInt8)))):Nat→(List (List UInt8))→Int→Option ((List (List UInt8)))
 | 0,_,_=>none
 | m2+1,l13,z14 =>
  q04 (q0u p1 z6) fun x16 =>
  cond (decide (z14<(x16.Feats.length:Int)))
   (q04 (q0u p1 z6) fun x19 =>
   q04 (q0u x19.Feats z14) fun x21 =>
   q04 (q8f n l13 x21.Feat) fun r23 =>
   (q84 p1 n z6 rc1 m2) r23 (IntKind.i64.wrap (z14+1)))
   (qbs z6 rc1 l13)
def qbr  (l7:List (List UInt8)):Option ((List (List UInt8))) :=
 some l7
def q4d (p1:List q05) (n:Nat):Nat→(List (List UInt8))→Int→Option ((List (List UInt8)))
 | 0,_,_=>none
 | m1+1,l5,z6 =>
  cond (decide (z6<(p1.length:Int)))
   (q84 p1 n z6 (q4d p1 n m1) n l5 0)
   (qbr l5)
def qac (n:Nat) (p1:List q05):Option ((List (List UInt8))) :=
 q4d p1 n n [] 0
theorem qdj (n:Nat) (p1:List q05) (r:(List (List UInt8))) (hF:qac n p1=some r):EvU Tryz.prog 91 [.isl false (List.map q02 p1)] ⟨[],0⟩ (fun u _=>u = .isl false (List.map cS r)∧Bel 0 u):=by
 unfold qac at hF
 refine bg1 34 fn91 ?_
 refine gr ?_
 refine gr ?_
 refine gr ?_
 refine WPU.ghost (tm':=fr 34 [(0,.iM q02 p1),(3,.iM cS []),(4,.i6 0)]) (Gh.trans (Gh.sub (l':=[(0,.iM q02 p1),(3,.nils),(4,.i6 0)]) ⟨rfl,rfl,rfl,trivial⟩) (Gh.wkS (l':=[(0,.iM q02 p1),(3,.iM cS []),(4,.i6 0)]) (.cons (.refl _) (.cons (.nil false) (.cons (.refl _) .nil))))) NZ ?_
 refine gS (l':=[(0,_),(3,_),(4,_)]) ?_
 refine z3e (fun m tm σ=>∃ l5:List (List UInt8),∃ z6:Int,q4d p1 n m l5 z6=some r∧tm=fr 34 [(0,.iM q02 p1),(3,.iM cS l5),(4,.i6 z6)]∧σ=⟨[],0⟩) (fun tm σ=>∃ l7:List (List UInt8),qbr l7=some r∧tm=fr 34 [(3,.iM cS l7)]∧σ=⟨[],0⟩) n ⟨[],0,hF,rfl,rfl⟩ ?_ ?_
 rintro _ _ ⟨l7,hF,rfl,rfl⟩
 unfold qbr at hF
 exact gx hF
 rintro (_|m1) _ _ ⟨l5,z6,hF,rfl,rfl⟩
 cases hF
 unfold q4d at hF
 refine go ?_
 refine RS.q rfl (q0a rfl rfl rfl (q07 q02 und38)) ?_
 refine go ?_
 refine cF hF (fun h8 hF=>?_) (fun h8 hF=>?_)
 refine go ?_
 refine WPU.block ?_
 refine go ?_
 refine gS (l':=[(0,_),(3,_),(4,_),(5,_)]) ?_
 refine z3e (fun m tm σ=>∃ l13:List (List UInt8),∃ z14:Int,q84 p1 n z6 (q4d p1 n m1) m l13 z14=some r∧tm=fr 34 [(0,.iM q02 p1),(3,.iM cS l13),(4,.i6 z6),(5,.i6 z14)]∧σ=⟨[],0⟩) (fun tm σ=>∃ l15:List (List UInt8),qbs z6 (q4d p1 n m1) l15=some r∧tm=fr 34 [(0,.iM q02 p1),(3,.iM cS l15),(4,.i6 z6)]∧σ=⟨[],0⟩) n ⟨l5,0,hF,rfl,rfl⟩ ?_ ?_
 rintro _ _ ⟨l15,hF,rfl,rfl⟩
 unfold qbs at hF
 refine go ?_
 exact lC ⟨l15,(IntKind.i64.wrap (z6+1)),hF,rfl,rfl⟩
 rintro (_|m2) _ _ ⟨l13,z14,hF,rfl,rfl⟩
 cases hF
 unfold q84 at hF
 obtain ⟨x16,h17,hF⟩:=q00 hF
 refine go ?_
 refine RS.q rfl (q0i rfl rfl (q09 q02 und38 (q03 inf127) q0k h17 rfl)) (RS.q rfl (q1q und127 rfl (q03 inf125) rfl rfl) (RS.q rfl (q0c und125 rfl rfl rfl) (RS.q rfl (q0a rfl rfl rfl (q07 q0f und125)) ?_)))
 refine go ?_
 refine cF hF (fun h18 hF=>?_) (fun h18 hF=>?_)
 refine go ?_
 refine WPU.block ?_
 obtain ⟨x19,h20,hF⟩:=q00 hF
 obtain ⟨x21,h22,hF⟩:=q00 hF
 obtain ⟨r23,h24,hF⟩:=q00 hF
 refine go ?_
 refine RS.q rfl (q0i rfl rfl (q09 q02 und38 (q03 inf127) q0k h20 rfl)) (RS.q rfl (q1q und127 rfl (q03 inf125) rfl rfl) (RS.q rfl (q0c und125 rfl rfl rfl) ?_))
 refine go ?_
 refine RS.q rfl (q0i rfl rfl (q09 q0f und125 (q03 inf162) q25 h22 rfl)) (RS.q rfl (q1q und162 rfl (q03 inf9) rfl rfl) (RS.q rfl (q0c und9 rfl rfl rfl) (RS.cl rfl (pC (q79 n l13 x21.Feat r23 h24) _) fn116 ?_)))
 refine go ?_
 exact lC ⟨r23,(IntKind.i64.wrap (z14+1)),hF,rfl,rfl⟩
 refine go ?_
 exact xC ⟨l13,hF,rfl,rfl⟩
 refine go ?_
 exact xC ⟨l5,hF,rfl,rfl⟩
def q4b (n:Nat) (p1:List q0z) (p2:Int) (p3:Int):Option (Bool) :=
 q04 (q0u p1 p3) fun x4 =>
 q04 (q0u p1 p2) fun x6 =>
 q04 (q8e n x4.Code x6.Code) fun r8 =>
 some r8
theorem q43 (n:Nat) (p1:List q0z) (p2:Int) (p3:Int) (r:Bool) (hF:q4b n p1 p2 p3=some r):EvU Tryz.prog 100 [.isl false (List.map q0h p1),.int .i64 p2,.int .i64 p3] ⟨[],0⟩ (fun u _=>u = .bool r∧Bel 0 u):=by
 unfold q4b at hF
 refine bg3 18 fn100 ?_
 obtain ⟨x4,h5,hF⟩:=q00 hF
 obtain ⟨x6,h7,hF⟩:=q00 hF
 obtain ⟨r8,h9,hF⟩:=q00 hF
 refine go ?_
 refine z3g Tryz.tb_ok [] (by kernel_rfl) ?_
 repeat refine RD.mv rfl rfl rfl rfl ?_
 refine RD.q rfl (q0i rfl rfl (q09 q0h und99 (q03 inf105) q1l h5 rfl)) (RD.q rfl (q1q und105 rfl (q03 inf103) rfl rfl) (RD.q rfl (q0c und103 rfl rfl rfl) ?_))
 repeat refine RD.mv rfl rfl rfl rfl ?_
 refine RD.q rfl (q0i rfl rfl (q09 q0h und99 (q03 inf105) q1l h7 rfl)) (RD.q rfl (q1q und105 rfl (q03 inf103) rfl rfl) (RD.q rfl (q0c und103 rfl rfl rfl) (RD.fl rfl (pC (q7p n x4.Code x6.Code r8 h9)) fn133 (RD.as rfl rfl rfl rfl ?_))))
 refine RD.done ⟨by kernel_rfl,trivial,?_⟩
 exact gx hF
def qad   : Option (Int) :=
 some (-1)
def q6s (p1:List q0z) (p2:List UInt8):Nat→Int→Option (Int)
 | 0,_=>none
 | m1+1,z6 =>
  cond (decide (z6<(p1.length:Int)))
   (q04 (q0u p1 z6) fun x8 =>
   cond (q1k x8.Name p2)
    (some z6)
    ((q6s p1 p2 m1) (IntKind.i64.wrap (z6+1))))
   (qad)
def q8g (n:Nat) (p1:List q0z) (p2:List UInt8):Option (Int) :=
 q6s p1 p2 n 0
theorem qbu (n:Nat) (p1:List q0z) (p2:List UInt8) (r:Int) (hF:q8g n p1 p2=some r):EvU Tryz.prog 102 [.isl false (List.map q0h p1),.str p2] ⟨[],0⟩ (fun u _=>u = .int .i64 r∧Bel 0 u):=by
 unfold q8g at hF
 refine bg2 20 fn102 ?_
 refine go ?_
 refine gS (l':=[(0,_),(1,_),(5,_)]) ?_
 refine z3e (fun m tm σ=>∃ z6:Int,q6s p1 p2 m z6=some r∧tm=fr 20 [(0,.iM q0h p1),(1,.str p2),(5,.i6 z6)]∧σ=⟨[],0⟩) (fun tm σ=>qad=some r∧tm=fr 20 []∧σ=⟨[],0⟩) n ⟨0,hF,rfl,rfl⟩ ?_ ?_
 rintro _ _ ⟨hF,rfl,rfl⟩
 unfold qad at hF
 exact gx hF
 rintro (_|m1) _ _ ⟨z6,hF,rfl,rfl⟩
 cases hF
 unfold q6s at hF
 refine go ?_
 refine RS.q rfl (q0a rfl rfl rfl (q07 q0h und99)) ?_
 refine go ?_
 refine cF hF (fun h7 hF=>?_) (fun h7 hF=>?_)
 refine go ?_
 refine WPU.block ?_
 obtain ⟨x8,h9,hF⟩:=q00 hF
 refine go ?_
 refine RS.q rfl (q0i rfl rfl (q09 q0h und99 (q03 inf105) q1l h9 rfl)) (RS.q rfl (q1q und105 rfl (q03 inf9) rfl rfl) (RS.q rfl (q0c und9 rfl rfl rfl) ?_))
 refine go ?_
 refine RS.q (u:=.bool (q1k x8.Name p2)) rfl (q8v rfl rfl rfl rfl) ?_
 refine go ?_
 refine cF hF (fun h10 hF=>?_) (fun h10 hF=>?_)
 exact gx hF
 refine go ?_
 exact lC ⟨_,hF,rfl,rfl⟩
 refine go ?_
 exact xC ⟨hF,rfl,rfl⟩
def q6r  (b17:Bool) (l18:List Int):Option ((List Int)×Bool) :=
 some (l18,b17)
def q3h (p1:List q05) (p2:List q0z) (p3:Int) (p4:List UInt8) (n:Nat):Nat→Bool→(List Int)→Int→Option ((List Int)×Bool)
 | 0,_,_,_=>none
 | m1+1,b14,l15,z16 =>
  cond (decide (z16<(p1.length:Int)))
   (q04 (q0u p1 z16) fun x20 =>
   q04 (qdl n x20 p4) fun r22 =>
   q04 (cond (!r22.2)
    (some true)
    (q04 (q0u p1 z16) fun x25 =>
    q04 (q8g n p2 x25.Name) fun r27 =>
    q04 (q4b n p2 r27 p3) fun r29 =>
    some (!r29))) fun b31 =>
   cond b31
    ((q3h p1 p2 p3 p4 n m1) b14 l15 (IntKind.i64.wrap (z16+1)))
    (q04 (q8g n p2 r22.1) fun r34 =>
    q04 (q0u p2 r34) fun x36 =>
    q04 (qhr n l15 x36.Code) fun r38 =>
    (q3h p1 p2 p3 p4 n m1) true r38 (IntKind.i64.wrap (z16+1))))
   (q6r b14 l15)
def q6q (n:Nat) (p1:List q05) (p2:List q0z) (p3:Int) (p4:List UInt8):Option ((List Int)×Bool) :=
 q04 (q0u p2 0) fun x5 =>
 q3h p1 p2 p3 p4 n n false x5.Code 0
theorem qc8 (n:Nat) (p1:List q05) (p2:List q0z) (p3:Int) (p4:List UInt8) (r:(List Int)×Bool) (hF:q6q n p1 p2 p3 p4=some r):EvU Tryz.prog 92 [.isl false (List.map q02 p1),.isl false (List.map q0h p2),.int .i64 p3,.str p4] ⟨[],0⟩ (fun u _=>u = .tup [.isl false (List.map (cI .u64) r.1),.bool r.2]∧Bel 0 u):=by
 unfold q6q at hF
 refine bg4 60 fn92 ?_
 obtain ⟨x5,h6,hF⟩:=q00 hF
 refine go ?_
 refine RS.q rfl (q0i rfl rfl (q09 q0h und99 (q03 inf105) q1l h6 rfl)) (RS.q rfl (q1q und105 rfl (q03 inf103) rfl rfl) (RS.q rfl (q0c und103 rfl rfl rfl) ?_))
 refine go ?_
 refine gS (l':=[(0,_),(1,_),(2,_),(3,_),(10,_),(11,_),(12,_)]) ?_
 refine z3e (fun m tm σ=>∃ b14:Bool,∃ l15:List Int,∃ z16:Int,q3h p1 p2 p3 p4 n m b14 l15 z16=some r∧tm=fr 60 [(0,.iM q02 p1),(1,.iM q0h p2),(2,.i6 p3),(3,.str p4),(10,.bool b14),(11,.iM (cI .u64) l15),(12,.i6 z16)]∧σ=⟨[],0⟩) (fun tm σ=>∃ b17:Bool,∃ l18:List Int,q6r b17 l18=some r∧tm=fr 60 [(10,.bool b17),(11,.iM (cI .u64) l18)]∧σ=⟨[],0⟩) n ⟨false,x5.Code,0,hF,rfl,rfl⟩ ?_ ?_
 rintro _ _ ⟨b17,l18,hF,rfl,rfl⟩
 unfold q6r at hF
 refine go ?_
 obtain rfl:=sI hF
 exact rt2 rfl rfl rfl rfl rfl
 rintro (_|m1) _ _ ⟨b14,l15,z16,hF,rfl,rfl⟩
 cases hF
 unfold q3h at hF
 refine go ?_
 refine RS.q rfl (q0a rfl rfl rfl (q07 q02 und38)) ?_
 refine go ?_
 refine cF hF (fun h19 hF=>?_) (fun h19 hF=>?_)
 refine go ?_
 refine WPU.block ?_
 obtain ⟨x20,h21,hF⟩:=q00 hF
 obtain ⟨r22,h23,hF⟩:=q00 hF
 refine go ?_
 refine RS.q rfl (q0i rfl rfl (q09 q02 und38 (q03 inf127) q0k h21 rfl)) (RS.q (u:=.agg (q02 x20)) rfl (q8u und127 rfl (q03 inf127) rfl rfl) ?_)
 refine go ?_
 refine RS.cl rfl (pC (qhx n x20 p4 r22 h23) _) fn117 ?_
 obtain ⟨b31,h32,hF⟩:=q00 hF
 refine gn ?_
 refine z3f (fun tm σ=>tm=fr 60 [(0,.iM q02 p1),(1,.iM q0h p2),(2,.i6 p3),(3,.str p4),(10,.bool b14),(11,.iM (cI .u64) l15),(12,.i6 z16),(13,.str r22.1),(48,.bool b31)]∧σ=⟨[],0⟩) ?_ ?_
 rintro _ _ ⟨rfl,rfl⟩
 refine go ?_
 refine cF hF (fun h33 hF=>?_) (fun h33 hF=>?_)
 refine go ?_
 exact lC ⟨b14,l15,(IntKind.i64.wrap (z16+1)),hF,rfl,rfl⟩
 obtain ⟨r34,h35,hF⟩:=q00 hF
 obtain ⟨x36,h37,hF⟩:=q00 hF
 obtain ⟨r38,h39,hF⟩:=q00 hF
 refine go ?_
 refine RS.cl rfl (pC (qbu n p2 r22.1 r34 h35) _) fn102 (RS.q rfl (q0i rfl rfl (q09 q0h und99 (q03 inf105) q1l h37 rfl)) (RS.q rfl (q1q und105 rfl (q03 inf103) rfl rfl) (RS.q rfl (q0c und103 rfl rfl rfl) (RS.cl rfl (pC (qlx n l15 x36.Code r38 h39) _) fn118 ?_))))
 refine go ?_
 exact lC ⟨true,r38,(IntKind.i64.wrap (z16+1)),hF,rfl,rfl⟩
 rcases gB h32 with ⟨h24,h32⟩ | ⟨h24,h32⟩
 exact gy h32
 obtain ⟨x25,h26,h32⟩:=q00 h32
 obtain ⟨r27,h28,h32⟩:=q00 h32
 obtain ⟨r29,h30,h32⟩:=q00 h32
 obtain rfl:=sI h32
 refine go ?_
 refine RS.w rfl (q0i rfl rfl (q09 q02 und38 (q03 inf127) q0k h26 rfl)) (RS.w rfl (q1q und127 rfl (q03 inf9) rfl rfl) (RS.w rfl (q0c und9 rfl rfl rfl) (RS.cl rfl (pC (qbu n p2 x25.Name r27 h28) _) fn102 ?_)))
 refine go ?_
 refine RS.cl rfl (pC (q43 n p2 r27 p3 r29 h30) _) fn100 ?_
 refine go ?_
 exact xC ⟨rfl,rfl⟩
 refine go ?_
 exact xC ⟨b14,l15,hF,rfl,rfl⟩
def qbp (z20:Int) (rc2:Int→Option (Int))  : Option (Int) :=
 rc2 (IntKind.i64.wrap (z20+1))
def q83 (p1:List q05) (n:Nat) (r2:(List q0z)×Int) (r5:(List (List UInt8))) (z20:Int) (rc2:Int→Option (Int)):Nat→Int→Option (Int)
 | 0,_=>none
 | m3+1,z27 =>
  cond (decide (z27<(r5.length:Int)))
   (q04 (q0u r5 z27) fun x29 =>
   q04 (q6q n p1 r2.1 z20 x29) fun r31 =>
   q04 (cond r31.2
    (some ((r31.1.length:Int) == 0))
    (some false)) fun b34 =>
   cond b34
    (some 11)
    ((q83 p1 n r2 r5 z20 rc2 m3) (IntKind.i64.wrap (z27+1))))
   (qbp z20 rc2)
def qbo   : Option (Int) :=
 some 0
def q4c (p1:List q05) (n:Nat) (r2:(List q0z)×Int) (r5:(List (List UInt8))):Nat→Int→Option (Int)
 | 0,_=>none
 | m2+1,z20 =>
  cond (decide (z20<(r2.1.length:Int)))
   (q83 p1 n r2 r5 z20 (q4c p1 n r2 r5 m2) n 0)
   (qbo)
def qbn (p1:List q05) (n:Nat) (r2:(List q0z)×Int) (r5:(List (List UInt8)))  : Option (Int) :=
 q4c p1 n r2 r5 n 0
def q82 (p1:List q05) (n:Nat) (r2:(List q0z)×Int) (r5:(List (List UInt8))):Nat→Int→Option (Int)
 | 0,_=>none
 | m1+1,z15 =>
  cond (decide (z15<(r5.length:Int)))
   (q04 (q0u r5 z15) fun x38 =>
   q04 (qdk n p1 x38) fun r40 =>
   cond (!r40.2)
    (some 10)
    ((q82 p1 n r2 r5 m1) (IntKind.i64.wrap (z15+1))))
   (qbn p1 n r2 r5)
def qdi (n:Nat) (p1:List q05):Option (Int) :=
 q04 (q7b n p1) fun r2 =>
 cond (r2.2 != 0)
  (some r2.2)
  (q04 (qac n p1) fun r5 =>
  cond (decide ((r5.length:Int) > 64))
   (some 7)
   (q04 (q6p n p1) fun r8 =>
   cond (r8 != 0)
    (some r8)
    (q82 p1 n r2 r5 n 0)))
theorem qhv (n:Nat) (p1:List q05) (r:Int) (hF:qdi n p1=some r):EvU Tryz.prog 90 [.isl false (List.map q02 p1)] ⟨[],0⟩ (fun u _=>u = .int .i64 r∧Bel 0 u):=by
 unfold qdi at hF
 refine bg1 78 fn90 ?_
 obtain ⟨r2,h3,hF⟩:=q00 hF
 refine go ?_
 refine RS.cl rfl (pC (q9d n p1 r2 h3) _) fn72 ?_
 refine go ?_
 refine cF hF (fun h4 hF=>?_) (fun h4 hF=>?_)
 exact gx hF
 obtain ⟨r5,h6,hF⟩:=q00 hF
 refine go ?_
 refine RS.cl rfl (pC (qdj n p1 r5 h6) _) fn91 ?_
 refine go ?_
 refine RS.q rfl (q0a rfl rfl rfl (q07 cS und80)) ?_
 refine go ?_
 refine cF hF (fun h7 hF=>?_) (fun h7 hF=>?_)
 exact gx hF
 obtain ⟨r8,h9,hF⟩:=q00 hF
 refine go ?_
 refine RS.cl rfl (pC (qfi n p1 r8 h9) _) fn115 ?_
 refine go ?_
 refine cF hF (fun h10 hF=>?_) (fun h10 hF=>?_)
 exact gx hF
 refine go ?_
 refine gS (l':=[(0,_),(3,_),(5,_),(7,_)]) ?_
 refine z3e (fun m tm σ=>∃ z15:Int,q82 p1 n r2 r5 m z15=some r∧tm=fr 78 [(0,.iM q02 p1),(3,.iM q0h r2.1),(5,.iM cS r5),(7,.i6 z15)]∧σ=⟨[],0⟩) (fun tm σ=>qbn p1 n r2 r5=some r∧tm=fr 78 [(0,.iM q02 p1),(3,.iM q0h r2.1),(5,.iM cS r5)]∧σ=⟨[],0⟩) n ⟨0,hF,rfl,rfl⟩ ?_ ?_
 rintro _ _ ⟨hF,rfl,rfl⟩
 unfold qbn at hF
 refine go ?_
 refine gS (l':=[(0,_),(3,_),(5,_),(10,_)]) ?_
 refine z3e (fun m tm σ=>∃ z20:Int,q4c p1 n r2 r5 m z20=some r∧tm=fr 78 [(0,.iM q02 p1),(3,.iM q0h r2.1),(5,.iM cS r5),(10,.i6 z20)]∧σ=⟨[],0⟩) (fun tm σ=>qbo=some r∧tm=fr 78 []∧σ=⟨[],0⟩) n ⟨0,hF,rfl,rfl⟩ ?_ ?_
 rintro _ _ ⟨hF,rfl,rfl⟩
 unfold qbo at hF
 exact gx hF
 rintro (_|m2) _ _ ⟨z20,hF,rfl,rfl⟩
 cases hF
 unfold q4c at hF
 refine go ?_
 refine RS.q rfl (q0a rfl rfl rfl (q07 q0h und99)) ?_
 refine go ?_
 refine cF hF (fun h21 hF=>?_) (fun h21 hF=>?_)
 refine go ?_
 refine WPU.block ?_
 refine go ?_
 refine gS (l':=[(0,_),(3,_),(5,_),(10,_),(11,_)]) ?_
 refine z3e (fun m tm σ=>∃ z27:Int,q83 p1 n r2 r5 z20 (q4c p1 n r2 r5 m2) m z27=some r∧tm=fr 78 [(0,.iM q02 p1),(3,.iM q0h r2.1),(5,.iM cS r5),(10,.i6 z20),(11,.i6 z27)]∧σ=⟨[],0⟩) (fun tm σ=>qbp z20 (q4c p1 n r2 r5 m2)=some r∧tm=fr 78 [(0,.iM q02 p1),(3,.iM q0h r2.1),(5,.iM cS r5),(10,.i6 z20)]∧σ=⟨[],0⟩) n ⟨0,hF,rfl,rfl⟩ ?_ ?_
 rintro _ _ ⟨hF,rfl,rfl⟩
 unfold qbp at hF
 refine go ?_
 exact lC ⟨_,hF,rfl,rfl⟩
 rintro (_|m3) _ _ ⟨z27,hF,rfl,rfl⟩
 cases hF
 unfold q83 at hF
 refine go ?_
 refine RS.q rfl (q0a rfl rfl rfl (q07 cS und80)) ?_
 refine go ?_
 refine cF hF (fun h28 hF=>?_) (fun h28 hF=>?_)
 refine go ?_
 refine WPU.block ?_
 obtain ⟨x29,h30,hF⟩:=q00 hF
 obtain ⟨r31,h32,hF⟩:=q00 hF
 refine go ?_
 refine RS.q rfl (q0i rfl rfl (q09 cS und80 (q03 inf9) q1i h30 rfl)) (RS.q rfl (q0c und9 rfl rfl rfl) (RS.cl rfl (pC (qc8 n p1 r2.1 z20 x29 r31 h32) _) fn92 ?_))
 obtain ⟨b34,h35,hF⟩:=q00 hF
 refine gn ?_
 refine z3f (fun tm σ=>tm=fr 78 [(0,.iM q02 p1),(3,.iM q0h r2.1),(5,.iM cS r5),(10,.i6 z20),(11,.i6 z27),(77,.bool b34)]∧σ=⟨[],0⟩) ?_ ?_
 rintro _ _ ⟨rfl,rfl⟩
 refine go ?_
 refine cF hF (fun h36 hF=>?_) (fun h36 hF=>?_)
 exact gx hF
 refine go ?_
 exact lC ⟨_,hF,rfl,rfl⟩
 rcases gB h35 with ⟨h33,h35⟩ | ⟨h33,h35⟩
 obtain rfl:=sI h35
 refine go ?_
 refine RS.w rfl (q0a rfl rfl rfl (q07 (cI .u64) und103)) ?_
 refine go ?_
 exact xC ⟨rfl,rfl⟩
 exact gy h35
 refine go ?_
 exact xC ⟨hF,rfl,rfl⟩
 refine go ?_
 exact xC ⟨hF,rfl,rfl⟩
 rintro (_|m1) _ _ ⟨z15,hF,rfl,rfl⟩
 cases hF
 unfold q82 at hF
 refine go ?_
 refine RS.q rfl (q0a rfl rfl rfl (q07 cS und80)) ?_
 refine go ?_
 refine cF hF (fun h37 hF=>?_) (fun h37 hF=>?_)
 refine go ?_
 refine WPU.block ?_
 obtain ⟨x38,h39,hF⟩:=q00 hF
 obtain ⟨r40,h41,hF⟩:=q00 hF
 refine go ?_
 refine RS.q rfl (q0i rfl rfl (q09 cS und80 (q03 inf9) q1i h39 rfl)) (RS.q rfl (q0c und9 rfl rfl rfl) (RS.cl rfl (pC (qhw n p1 x38 r40 h41) _) fn101 ?_))
 refine go ?_
 refine cF hF (fun h42 hF=>?_) (fun h42 hF=>?_)
 exact gx hF
 refine go ?_
 exact lC ⟨_,hF,rfl,rfl⟩
 refine go ?_
 exact xC ⟨hF,rfl,rfl⟩
def qdd   : Option (Int) :=
 some (-1)
def q9e (p1:List q0z) (n:Nat) (r3:(List Int)):Nat→Int→Option (Int)
 | 0,_=>none
 | m1+1,z8 =>
  cond (decide (z8<(p1.length:Int)))
   (q04 (q0u p1 z8) fun x10 =>
   q04 (qf8 n x10.Code r3) fun r12 =>
   cond r12
    (some z8)
    ((q9e p1 n r3 m1) (IntKind.i64.wrap (z8+1))))
   (qdd)
def qj2 (n:Nat) (p1:List q0z) (p2:List Int):Option (Int) :=
 q04 (q61 n p2) fun r3 =>
 q9e p1 n r3 n 0
theorem qqk (n:Nat) (p1:List q0z) (p2:List Int) (r:Int) (hF:qj2 n p1 p2=some r):EvU Tryz.prog 93 [.isl false (List.map q0h p1),.isl false (List.map (cI .u64) p2)] ⟨[],0⟩ (fun u _=>u = .int .i64 r∧Bel 0 u):=by
 unfold qj2 at hF
 refine bg2 23 fn93 ?_
 obtain ⟨r3,h4,hF⟩:=q00 hF
 refine go ?_
 refine RS.cl rfl (pC (q7n n p2 r3 h4) _) fn119 ?_
 refine go ?_
 refine gS (l':=[(0,_),(5,_),(6,_)]) ?_
 refine z3e (fun m tm σ=>∃ z8:Int,q9e p1 n r3 m z8=some r∧tm=fr 23 [(0,.iM q0h p1),(5,.iM (cI .u64) r3),(6,.i6 z8)]∧σ=⟨[],0⟩) (fun tm σ=>qdd=some r∧tm=fr 23 []∧σ=⟨[],0⟩) n ⟨0,hF,rfl,rfl⟩ ?_ ?_
 rintro _ _ ⟨hF,rfl,rfl⟩
 unfold qdd at hF
 exact gx hF
 rintro (_|m1) _ _ ⟨z8,hF,rfl,rfl⟩
 cases hF
 unfold q9e at hF
 refine go ?_
 refine RS.q rfl (q0a rfl rfl rfl (q07 q0h und99)) ?_
 refine go ?_
 refine cF hF (fun h9 hF=>?_) (fun h9 hF=>?_)
 refine go ?_
 refine WPU.block ?_
 obtain ⟨x10,h11,hF⟩:=q00 hF
 obtain ⟨r12,h13,hF⟩:=q00 hF
 refine go ?_
 refine RS.q rfl (q0i rfl rfl (q09 q0h und99 (q03 inf105) q1l h11 rfl)) (RS.q rfl (q1q und105 rfl (q03 inf103) rfl rfl) (RS.q rfl (q0c und103 rfl rfl rfl) ?_))
 refine go ?_
 refine RS.cl rfl (pC (qjm n x10.Code r3 r12 h13) _) fn120 ?_
 refine go ?_
 refine cF hF (fun h14 hF=>?_) (fun h14 hF=>?_)
 exact gx hF
 refine go ?_
 exact lC ⟨_,hF,rfl,rfl⟩
 refine go ?_
 exact xC ⟨hF,rfl,rfl⟩
def q6o (z30:Int) (rc2:Int→(List q16)→Option ((List (List q16))×Int)) (l42:List q16):Option ((List (List q16))×Int) :=
 rc2 (IntKind.i64.wrap (z30+1)) l42
def qab (z15:Int) (l16:List (List q16)) (rc1:Int→(List (List q16))→Option ((List (List q16))×Int)) (l33:List q16):Option ((List (List q16))×Int) :=
 q19 ((l16.length+1)*24≤140737488355328∧l16.length+1≤140737488355328) (
 rc1 (IntKind.i64.wrap (z15+1)) (l16++[l33]))
def q3q (p1:List q05) (n:Nat) (r5:(List q0z)×Int) (r7:(List (List UInt8))) (z15:Int) (l16:List (List q16)) (rc1:Int→(List (List q16))→Option ((List (List q16))×Int)):Nat→Int→(List q16)→Option ((List (List q16))×Int)
 | 0,_,_=>none
 | m2+1,z30,l31 =>
  cond (decide (z30<(r7.length:Int)))
   (q04 (q0u r7 z30) fun x37 =>
   q04 (q6q n p1 r5.1 z15 x37) fun r39 =>
   cond r39.2
    (q04 (qj2 n r5.1 r39.1) fun r44 =>
    q19 ((l31.length+1)*16≤140737488355328∧l31.length+1≤140737488355328) (
    q6o z30 (q3q p1 n r5 r7 z15 l16 rc1 m2) (l31++[(q16.mk z30 r44)])))
    (q6o z30 (q3q p1 n r5 r7 z15 l16 rc1 m2) l31))
   (qab z15 l16 rc1 l31)
def qaa  (l18:List (List q16)):Option ((List (List q16))×Int) :=
 some (l18,0)
def q33 (p1:List q05) (n:Nat) (r5:(List q0z)×Int) (r7:(List (List UInt8))):Nat→Int→(List (List q16))→Option ((List (List q16))×Int)
 | 0,_,_=>none
 | m1+1,z15,l16 =>
  cond (decide (z15<(r5.1.length:Int)))
   (q3q p1 n r5 r7 z15 l16 (q33 p1 n r5 r7 m1) n 0 ([]:List q16))
   (qaa l16)
def qer (n:Nat) (p1:List q05):Option ((List (List q16))×Int) :=
 q04 (qdi n p1) fun r2 =>
 cond (r2 != 0)
  (some ([],r2))
  (q04 (q7b n p1) fun r5 =>
  q04 (qac n p1) fun r7 =>
  q33 p1 n r5 r7 n 0 ([]:List (List q16)))
theorem qmw (n:Nat) (p1:List q05) (r:(List (List q16))×Int) (hF:qer n p1=some r):EvU Tryz.prog 71 [.isl false (List.map q02 p1)] ⟨[],0⟩ (fun u _=>u = .tup [.isl false (List.map (cL q0v) r.1),.int .i64 r.2]∧Bel 0 u):=by
 unfold qer at hF
 refine bg1 63 fn71 ?_
 obtain ⟨r2,h3,hF⟩:=q00 hF
 refine go ?_
 refine RS.cl rfl (pC (qhv n p1 r2 h3) _) fn90 ?_
 refine go ?_
 refine cF hF (fun h4 hF=>?_) (fun h4 hF=>?_)
 refine go ?_
 obtain rfl:=sI hF
 exact rT (us:=[.nils,.i6 r2]) (u:=.tup [.isl false [],.i6 r2]) (q2o rfl (q2o rfl (q3b))) wR
 obtain ⟨r5,h6,hF⟩:=q00 hF
 refine go ?_
 refine RS.cl rfl (pC (q9d n p1 r5 h6) _) fn72 ?_
 obtain ⟨r7,h8,hF⟩:=q00 hF
 refine go ?_
 refine RS.cl rfl (pC (qdj n p1 r7 h8) _) fn91 ?_
 refine gr ?_
 refine gr ?_
 refine WPU.ghost (tm':=fr 63 [(0,.iM q02 p1),(5,.iM q0h r5.1),(7,.iM cS r7),(8,.vl 0 0 0 (([]:List (List q16)).length)),(9,.i6 0)]) (σ':=⟨[(0,.vec (List.map (cL q0v) ([]:List (List q16))).flatten 107 1 0)],1⟩) (Gh.trans (z3k 8 107 1 (by decide) NZ rfl rfl) (z3j ⟨rfl,rfl,rfl,rfl,rfl,trivial⟩ rfl)) NZ ?_
 refine gS (l':=[(0,_),(5,_),(7,_),(8,_),(9,_)]) ?_
 refine z3e (fun m tm σ=>∃ z15:Int,∃ l16:List (List q16),∃ t17:Nat,q33 p1 n r5 r7 m z15 l16=some r∧tm=fr 63 [(0,.iM q02 p1),(5,.iM q0h r5.1),(7,.iM cS r7),(8,.vl 0 t17 0 l16.length),(9,.i6 z15)]∧σ=⟨[(0,.vec (List.map (cL q0v) l16).flatten 107 1 t17)],1⟩) (fun tm σ=>∃ l18:List (List q16),∃ t19:Nat,qaa l18=some r∧tm=fr 63 [(8,.vl 0 t19 0 l18.length)]∧σ=⟨[(0,.vec (List.map (cL q0v) l18).flatten 107 1 t19)],1⟩) n ⟨0,([]:List (List q16)),0,hF,rfl,rfl⟩ ?_ ?_
 rintro _ _ ⟨l18,t19,hF,rfl,rfl⟩
 unfold qaa at hF
 refine go ?_
 obtain rfl:=sI hF
 exact rT (us:=[.vl 0 t19 0 l18.length,.i6 0]) (u:=.tup [.iM (cL q0v) l18,.i6 0]) (q2o rfl (q2o rfl (q3b))) (fR 0 1)
 rintro (_|m1) _ _ ⟨z15,l16,t17,hF,rfl,rfl⟩
 cases hF
 unfold q33 at hF
 refine go ?_
 refine RS.q rfl (q0a rfl rfl rfl (q07 q0h und99)) ?_
 refine go ?_
 refine cF hF (fun h20 hF=>?_) (fun h20 hF=>?_)
 refine go ?_
 refine WPU.block ?_
 refine gr ?_
 refine gr ?_
 refine WPU.ghost (tm':=fr 63 [(0,.iM q02 p1),(5,.iM q0h r5.1),(7,.iM cS r7),(8,.vl 0 t17 0 l16.length),(9,.i6 z15),(10,.vl 1 0 0 (([]:List q16).length)),(11,.i6 0)]) (σ':=⟨[(1,.vec (List.map q0v ([]:List q16)).flatten 147 2 0),(0,.vec (List.map (cL q0v) l16).flatten 107 1 t17)],2⟩) (Gh.trans (z3k 10 147 2 (by decide) NZ rfl rfl) (z3j ⟨rfl,rfl,rfl,rfl,rfl,rfl,rfl,trivial⟩ rfl)) NZ ?_
 refine gS (l':=[(0,_),(5,_),(7,_),(8,_),(9,_),(10,_),(11,_)]) ?_
 refine z3e (fun m tm σ=>∃ z30:Int,∃ l31:List q16,∃ t32:Nat,q3q p1 n r5 r7 z15 l16 (q33 p1 n r5 r7 m1) m z30 l31=some r∧tm=fr 63 [(0,.iM q02 p1),(5,.iM q0h r5.1),(7,.iM cS r7),(8,.vl 0 t17 0 l16.length),(9,.i6 z15),(10,.vl 1 t32 0 l31.length),(11,.i6 z30)]∧σ=⟨[(1,.vec (List.map q0v l31).flatten 147 2 t32),(0,.vec (List.map (cL q0v) l16).flatten 107 1 t17)],2⟩) (fun tm σ=>∃ l33:List q16,∃ t34:Nat,qab z15 l16 (q33 p1 n r5 r7 m1) l33=some r∧tm=fr 63 [(0,.iM q02 p1),(5,.iM q0h r5.1),(7,.iM cS r7),(8,.vl 0 t17 0 l16.length),(9,.i6 z15),(10,.vl 1 t34 0 l33.length)]∧σ=⟨[(1,.vec (List.map q0v l33).flatten 147 2 t34),(0,.vec (List.map (cL q0v) l16).flatten 107 1 t17)],2⟩) n ⟨0,([]:List q16),0,hF,rfl,rfl⟩ ?_ ?_
 rintro _ _ ⟨l33,t34,hF,rfl,rfl⟩
 unfold qab at hF
 refine gn ?_
 refine WPU.ghost (tm':=fr 63 [(0,.iM q02 p1),(5,.iM q0h r5.1),(7,.iM cS r7),(8,.vl 0 t17 0 l16.length),(9,.i6 z15),(10,.iM q0v l33)]) (σ':=⟨[(0,.vec (List.map (cL q0v) l16).flatten 107 1 t17)],2⟩) (Gh.trans (Gh.sub (l':=[(0,.iM q02 p1),(5,.iM q0h r5.1),(7,.iM cS r7),(8,.vl 0 t17 0 l16.length),(9,.i6 z15),(10,.vl 1 t34 0 l33.length)]) ⟨rfl,rfl,rfl,rfl,rfl,rfl,trivial⟩) (z3s 1 2)) NZ ?_
 obtain ⟨h35,hF⟩:=q0b hF
 refine go ?_
 refine RS.q (u:=.sl 2 0 1 1) (σ':=⟨[(2,.row [.iM q0v l33] 107),(0,.vec (List.map (cL q0v) l16).flatten 107 1 t17)],3⟩) rfl (q0j und96 inf107 rfl rfl rfl rfl rfl rfl rfl) (RS.q (u:=.vl 0 (t17+1) 0 ((l16++[l33]).length)) (σ':=⟨[(2,.row [.iM q0v l33] 107),(0,.vec (List.map (cL q0v) (l16++[l33])).flatten 107 1 (t17+1))],3⟩) rfl (q1n rfl rfl rfl rfl (q23 (cL q0v) ([l33]) und96 und96 inf107 rfl (q41 q0v) rfl (q1m (cL q0v) [l33] rfl rfl rfl rfl) h35)) ?_)
 refine go ?_
 exact lC ⟨_,(l16++[l33]),(t17+1),hF,rfl,rfl⟩
 rintro (_|m2) _ _ ⟨z30,l31,t32,hF,rfl,rfl⟩
 cases hF
 unfold q3q at hF
 refine go ?_
 refine RS.q rfl (q0a rfl rfl rfl (q07 cS und80)) ?_
 refine go ?_
 refine cF hF (fun h36 hF=>?_) (fun h36 hF=>?_)
 refine go ?_
 refine WPU.block ?_
 obtain ⟨x37,h38,hF⟩:=q00 hF
 obtain ⟨r39,h40,hF⟩:=q00 hF
 refine go ?_
 refine RS.q rfl (q0i rfl rfl (q09 cS und80 (q03 inf9) q1i h38 rfl)) (RS.q rfl (q0c und9 rfl rfl rfl) (RS.cl rfl (pC (qc8 n p1 r5.1 z15 x37 r39 h40) _) fn92 ?_))
 refine gr ?_
 refine z3f (fun tm σ=>∃ l42:List q16,∃ t43:Nat,q6o z30 (q3q p1 n r5 r7 z15 l16 (q33 p1 n r5 r7 m1) m2) l42=some r∧tm=fr 63 [(0,.iM q02 p1),(5,.iM q0h r5.1),(7,.iM cS r7),(8,.vl 0 t17 0 l16.length),(9,.i6 z15),(10,.vl 1 t43 0 l42.length),(11,.i6 z30)]∧σ=⟨[(1,.vec (List.map q0v l42).flatten 147 2 t43),(0,.vec (List.map (cL q0v) l16).flatten 107 1 t17)],2⟩) ?_ ?_
 rintro _ _ ⟨l42,t43,hF,rfl,rfl⟩
 unfold q6o at hF
 refine go ?_
 exact lC ⟨_,l42,t43,hF,rfl,rfl⟩
 refine cF hF (fun h41 hF=>?_) (fun h41 hF=>?_)
 obtain ⟨r44,h45,hF⟩:=q00 hF
 obtain ⟨h46,hF⟩:=q0b hF
 refine go ?_
 refine RS.cl rfl (pC (qqk n r5.1 r39.1 r44 h45) _) fn93 (RS.q (u:=.agg [.i6 z30,.i6 r44]) rfl (q3t bd147 rfl rfl rfl) (RS.q (u:=.sl 2 0 1 1) (σ':=⟨[(2,.row [.i6 z30,.i6 r44] 147),(1,.vec (List.map q0v l31).flatten 147 2 t32),(0,.vec (List.map (cL q0v) l16).flatten 107 1 t17)],3⟩) rfl (q0j und107 inf147 rfl rfl rfl rfl rfl rfl rfl) (RS.q (u:=.vl 1 (t32+1) 0 ((l31++[(q16.mk z30 r44)]).length)) (σ':=⟨[(2,.row [.i6 z30,.i6 r44] 147),(1,.vec (List.map q0v (l31++[(q16.mk z30 r44)])).flatten 147 2 (t32+1)),(0,.vec (List.map (cL q0v) l16).flatten 107 1 t17)],3⟩) rfl (q1n rfl rfl rfl rfl (q23 q0v ([(q16.mk z30 r44)]) und107 und107 inf147 rfl qjk rfl (q1m q0v [(q16.mk z30 r44)] rfl rfl rfl rfl) h46)) ?_)))
 refine go ?_
 exact xC ⟨(l31++[(q16.mk z30 r44)]),(t32+1),hF,rfl,rfl⟩
 refine go ?_
 exact xC ⟨l31,t32,hF,rfl,rfl⟩
 refine go ?_
 exact xC ⟨l31,t32,hF,rfl,rfl⟩
 refine go ?_
 exact xC ⟨l16,t17,hF,rfl,rfl⟩
def q6l (z8:Int) (rc1:Int→(List Int)→Option ((List Int))) (l31:List Int):Option ((List Int)) :=
 rc1 (IntKind.i64.wrap (z8+1)) l31
def qa7 (z8:Int) (l9:List Int) (rc1:Int→(List Int)→Option ((List Int))) (b29:Bool):Option ((List Int)) :=
 cond b29
  (q19 ((l9.length+1)*8≤140737488355328∧l9.length+1≤140737488355328) (
  q6l z8 rc1 (l9++[z8])))
  (q6l z8 rc1 l9)
def q6m (p1:List q0z) (p2:Int) (n:Nat) (z8:Int) (l9:List Int) (rc1:Int→(List Int)→Option ((List Int))):Nat→Bool→Int→Option ((List Int))
 | 0,_,_=>none
 | m2+1,b27,z28 =>
  cond (decide (z28<(p1.length:Int)))
   (q04 (cond b27
    (cond (z28 == p2)
     (some true)
     (cond (z28 == z8)
      (some true)
      (q04 (q4b n p1 z8 z28) fun r38 =>
      cond (!r38)
       (some true)
       (q04 (q4b n p1 z28 p2) fun r41 =>
       some (!r41)))))
    (some false)) fun b43 =>
   (q6m p1 p2 n z8 l9 rc1 m2) b43 (IntKind.i64.wrap (z28+1)))
   (qa7 z8 l9 rc1 b27)
def qa6  (l11:List Int):Option ((List Int)) :=
 some l11
def q2j (p1:List q0z) (p2:Int) (n:Nat):Nat→Int→(List Int)→Option ((List Int))
 | 0,_,_=>none
 | m1+1,z8,l9 =>
  cond (decide (z8<(p1.length:Int)))
   (q04 (cond (z8 == p2)
    (some true)
    (q04 (q4b n p1 z8 p2) fun r15 =>
    some (!r15))) fun b17 =>
   cond b17
    ((q2j p1 p2 n m1) (IntKind.i64.wrap (z8+1)) l9)
    (q6m p1 p2 n z8 l9 (q2j p1 p2 n m1) n true 0))
   (qa6 l9)
def qeo (n:Nat) (p1:List q0z) (p2:Int):Option ((List Int)) :=
 q2j p1 p2 n n 0 ([]:List Int)
theorem qmt (n:Nat) (p1:List q0z) (p2:Int) (r:(List Int)) (hF:qeo n p1 p2=some r):EvU Tryz.prog 73 [.isl false (List.map q0h p1),.int .i64 p2] ⟨[],0⟩ (fun u _=>u = .isl false (List.map (cI .i64) r)∧Bel 0 u):=by
 unfold qeo at hF
 refine bg2 62 fn73 ?_
 refine gr ?_
 refine gr ?_
 refine gr ?_
 refine WPU.ghost (tm':=fr 62 [(0,.iM q0h p1),(1,.i6 p2),(5,.vl 0 0 0 (([]:List Int).length)),(6,.i6 0)]) (σ':=⟨[(0,.vec (List.map (cI .i64) ([]:List Int)).flatten 3 1 0)],1⟩) (Gh.trans (z3k 5 3 1 (by decide) NZ rfl rfl) (z3j ⟨rfl,rfl,rfl,rfl,trivial⟩ rfl)) NZ ?_
 refine gS (l':=[(0,_),(1,_),(5,_),(6,_)]) ?_
 refine z3e (fun m tm σ=>∃ z8:Int,∃ l9:List Int,∃ t10:Nat,q2j p1 p2 n m z8 l9=some r∧tm=fr 62 [(0,.iM q0h p1),(1,.i6 p2),(5,.vl 0 t10 0 l9.length),(6,.i6 z8)]∧σ=⟨[(0,.vec (List.map (cI .i64) l9).flatten 3 1 t10)],1⟩) (fun tm σ=>∃ l11:List Int,∃ t12:Nat,qa6 l11=some r∧tm=fr 62 [(5,.vl 0 t12 0 l11.length)]∧σ=⟨[(0,.vec (List.map (cI .i64) l11).flatten 3 1 t12)],1⟩) n ⟨0,([]:List Int),0,hF,rfl,rfl⟩ ?_ ?_
 rintro _ _ ⟨l11,t12,hF,rfl,rfl⟩
 unfold qa6 at hF
 refine go ?_
 obtain rfl:=sI hF
 exact rT (us:=[.vl 0 t12 0 l11.length]) (u:=.iM (cI .i64) l11) (q2o rfl (q3b)) (fR 0 1)
 rintro (_|m1) _ _ ⟨z8,l9,t10,hF,rfl,rfl⟩
 cases hF
 unfold q2j at hF
 refine go ?_
 refine RS.q rfl (q0a rfl rfl rfl (q07 q0h und99)) ?_
 refine go ?_
 refine cF hF (fun h13 hF=>?_) (fun h13 hF=>?_)
 refine go ?_
 refine WPU.block ?_
 obtain ⟨b17,h18,hF⟩:=q00 hF
 refine gn ?_
 refine z3f (fun tm σ=>tm=fr 62 [(0,.iM q0h p1),(1,.i6 p2),(5,.vl 0 t10 0 l9.length),(6,.i6 z8),(24,.bool b17)]∧σ=⟨[(0,.vec (List.map (cI .i64) l9).flatten 3 1 t10)],1⟩) ?_ ?_
 rintro _ _ ⟨rfl,rfl⟩
 refine go ?_
 refine cF hF (fun h19 hF=>?_) (fun h19 hF=>?_)
 refine go ?_
 exact lC ⟨_,l9,t10,hF,rfl,rfl⟩
 refine go ?_
 refine gS (l':=[(0,_),(1,_),(5,_),(6,_),(7,_),(8,_)]) ?_
 refine z3e (fun m tm σ=>∃ b27:Bool,∃ z28:Int,q6m p1 p2 n z8 l9 (q2j p1 p2 n m1) m b27 z28=some r∧tm=fr 62 [(0,.iM q0h p1),(1,.i6 p2),(5,.vl 0 t10 0 l9.length),(6,.i6 z8),(7,.bool b27),(8,.i6 z28)]∧σ=⟨[(0,.vec (List.map (cI .i64) l9).flatten 3 1 t10)],1⟩) (fun tm σ=>∃ b29:Bool,qa7 z8 l9 (q2j p1 p2 n m1) b29=some r∧tm=fr 62 [(0,.iM q0h p1),(1,.i6 p2),(5,.vl 0 t10 0 l9.length),(6,.i6 z8),(7,.bool b29)]∧σ=⟨[(0,.vec (List.map (cI .i64) l9).flatten 3 1 t10)],1⟩) n ⟨true,0,hF,rfl,rfl⟩ ?_ ?_
 rintro _ _ ⟨b29,hF,rfl,rfl⟩
 unfold qa7 at hF
 refine gr ?_
 refine z3f (fun tm σ=>∃ l31:List Int,∃ t32:Nat,q6l z8 (q2j p1 p2 n m1) l31=some r∧tm=fr 62 [(0,.iM q0h p1),(1,.i6 p2),(5,.vl 0 t32 0 l31.length),(6,.i6 z8)]∧σ=⟨[(0,.vec (List.map (cI .i64) l31).flatten 3 1 t32)],1⟩) ?_ ?_
 rintro _ _ ⟨l31,t32,hF,rfl,rfl⟩
 unfold q6l at hF
 refine go ?_
 exact lC ⟨_,l31,t32,hF,rfl,rfl⟩
 refine cF hF (fun h30 hF=>?_) (fun h30 hF=>?_)
 obtain ⟨h33,hF⟩:=q0b hF
 refine go ?_
 refine RS.q (u:=.sl 1 0 1 1) (σ':=⟨[(1,.row [.i6 z8] 3),(0,.vec (List.map (cI .i64) l9).flatten 3 1 t10)],2⟩) rfl (q0j und33 inf3 rfl rfl rfl rfl rfl rfl rfl) (RS.q (u:=.vl 0 (t10+1) 0 ((l9++[z8]).length)) (σ':=⟨[(1,.row [.i6 z8] 3),(0,.vec (List.map (cI .i64) (l9++[z8])).flatten 3 1 (t10+1))],2⟩) rfl (q1n rfl rfl rfl rfl (q23 (cI .i64) ([z8]) und33 und33 inf3 rfl (q18 .i64) rfl (q1m (cI .i64) [z8] rfl rfl rfl rfl) h33)) ?_)
 refine go ?_
 exact xC ⟨(l9++[z8]),(t10+1),hF,rfl,rfl⟩
 refine go ?_
 exact xC ⟨l9,t10,hF,rfl,rfl⟩
 rintro (_|m2) _ _ ⟨b27,z28,hF,rfl,rfl⟩
 cases hF
 unfold q6m at hF
 refine go ?_
 refine RS.q rfl (q0a rfl rfl rfl (q07 q0h und99)) ?_
 refine go ?_
 refine cF hF (fun h34 hF=>?_) (fun h34 hF=>?_)
 refine go ?_
 refine WPU.block ?_
 obtain ⟨b43,h44,hF⟩:=q00 hF
 refine gn ?_
 refine z3f (fun tm σ=>tm=fr 62 [(0,.iM q0h p1),(1,.i6 p2),(5,.vl 0 t10 0 l9.length),(6,.i6 z8),(7,.bool b43),(8,.i6 z28)]∧σ=⟨[(0,.vec (List.map (cI .i64) l9).flatten 3 1 t10)],1⟩) ?_ ?_
 rintro _ _ ⟨rfl,rfl⟩
 refine go ?_
 exact lC ⟨b43,(IntKind.i64.wrap (z28+1)),hF,rfl,rfl⟩
 rcases gB h44 with ⟨h35,h44⟩ | ⟨h35,h44⟩
 rcases gB h44 with ⟨h36,h44⟩ | ⟨h36,h44⟩
 exact gy h44
 rcases gB h44 with ⟨h37,h44⟩ | ⟨h37,h44⟩
 exact gy h44
 obtain ⟨r38,h39,h44⟩:=q00 h44
 rcases gB h44 with ⟨h40,h44⟩ | ⟨h40,h44⟩
 obtain rfl:=sI h44
 refine go ?_
 refine RS.cl rfl (pC (q43 n p1 z8 z28 r38 h39) _) fn100 ?_
 refine go ?_
 exact xC ⟨rfl,rfl⟩
 obtain ⟨r41,h42,h44⟩:=q00 h44
 obtain rfl:=sI h44
 refine go ?_
 refine RS.cl rfl (pC (q43 n p1 z8 z28 r38 h39) _) fn100 ?_
 refine go ?_
 refine RS.cl rfl (pC (q43 n p1 z28 p2 r41 h42) _) fn100 ?_
 refine go ?_
 exact xC ⟨rfl,rfl⟩
 obtain rfl:=sI h44
 refine go ?_
 repeat refine RS.no (qmc rfl rfl rfl) rfl rfl ?_
 refine go ?_
 repeat refine RS.no (qmc rfl rfl rfl) rfl rfl ?_
 refine go ?_
 repeat refine RS.no (qmc rfl rfl rfl) rfl rfl ?_
 refine go ?_
 exact xC ⟨rfl,rfl⟩
 refine go ?_
 exact xC ⟨b27,hF,rfl,rfl⟩
 rcases gB h18 with ⟨h14,h18⟩ | ⟨h14,h18⟩
 exact gy h18
 obtain ⟨r15,h16,h18⟩:=q00 h18
 obtain rfl:=sI h18
 refine go ?_
 refine RS.cl rfl (pC (q43 n p1 z8 p2 r15 h16) _) fn100 ?_
 refine go ?_
 exact xC ⟨rfl,rfl⟩
 refine go ?_
 exact xC ⟨l9,t10,hF,rfl,rfl⟩
def q7c  (l18:List q1j):Option ((List q1j)×Int) :=
 some (l18,0)
def q52 (p1:List q05) (n:Nat) (r5:(List q0z)×Int) (r7:(List (List UInt8))):Nat→Int→(List q1j)→Option ((List q1j)×Int)
 | 0,_,_=>none
 | m1+1,z15,l16 =>
  cond (decide (z15<(r7.length:Int)))
   (q04 (q0u r7 z15) fun x21 =>
   q04 (qdk n p1 x21) fun r23 =>
   q04 (q0u r7 z15) fun x25 =>
   q04 (q8g n r5.1 r23.1) fun r27 =>
   q19 ((l16.length+1)*24≤140737488355328∧l16.length+1≤140737488355328) (
   (q52 p1 n r5 r7 m1) (IntKind.i64.wrap (z15+1)) (l16++[(q1j.mk x25 r27)])))
   (q7c l16)
def qbq (n:Nat) (p1:List q05):Option ((List q1j)×Int) :=
 q04 (qdi n p1) fun r2 =>
 cond (r2 != 0)
  (some ([],r2))
  (q04 (q7b n p1) fun r5 =>
  q04 (qac n p1) fun r7 =>
  q52 p1 n r5 r7 n 0 ([]:List q1j))
theorem qk3 (n:Nat) (p1:List q05) (r:(List q1j)×Int) (hF:qbq n p1=some r):EvU Tryz.prog 74 [.isl false (List.map q02 p1)] ⟨[],0⟩ (fun u _=>u = .tup [.isl false (List.map q1a r.1),.int .i64 r.2]∧Bel 0 u):=by
 unfold qbq at hF
 refine bg1 51 fn74 ?_
 obtain ⟨r2,h3,hF⟩:=q00 hF
 refine go ?_
 refine RS.cl rfl (pC (qhv n p1 r2 h3) _) fn90 ?_
 refine go ?_
 refine cF hF (fun h4 hF=>?_) (fun h4 hF=>?_)
 refine go ?_
 obtain rfl:=sI hF
 exact rT (us:=[.nils,.i6 r2]) (u:=.tup [.isl false [],.i6 r2]) (q2o rfl (q2o rfl (q3b))) wR
 obtain ⟨r5,h6,hF⟩:=q00 hF
 refine go ?_
 refine RS.cl rfl (pC (q9d n p1 r5 h6) _) fn72 ?_
 obtain ⟨r7,h8,hF⟩:=q00 hF
 refine go ?_
 refine RS.cl rfl (pC (qdj n p1 r7 h8) _) fn91 ?_
 refine gr ?_
 refine gr ?_
 refine WPU.ghost (tm':=fr 51 [(0,.iM q02 p1),(5,.iM q0h r5.1),(7,.iM cS r7),(8,.vl 0 0 0 (([]:List q1j).length)),(9,.i6 0)]) (σ':=⟨[(0,.vec (List.map q1a ([]:List q1j)).flatten 82 2 0)],1⟩) (Gh.trans (z3k 8 82 2 (by decide) NZ rfl rfl) (z3j ⟨rfl,rfl,rfl,rfl,rfl,trivial⟩ rfl)) NZ ?_
 refine gS (l':=[(0,_),(5,_),(7,_),(8,_),(9,_)]) ?_
 refine z3e (fun m tm σ=>∃ z15:Int,∃ l16:List q1j,∃ t17:Nat,q52 p1 n r5 r7 m z15 l16=some r∧tm=fr 51 [(0,.iM q02 p1),(5,.iM q0h r5.1),(7,.iM cS r7),(8,.vl 0 t17 0 l16.length),(9,.i6 z15)]∧σ=⟨[(0,.vec (List.map q1a l16).flatten 82 2 t17)],1⟩) (fun tm σ=>∃ l18:List q1j,∃ t19:Nat,q7c l18=some r∧tm=fr 51 [(8,.vl 0 t19 0 l18.length)]∧σ=⟨[(0,.vec (List.map q1a l18).flatten 82 2 t19)],1⟩) n ⟨0,([]:List q1j),0,hF,rfl,rfl⟩ ?_ ?_
 rintro _ _ ⟨l18,t19,hF,rfl,rfl⟩
 unfold q7c at hF
 refine go ?_
 obtain rfl:=sI hF
 exact rT (us:=[.vl 0 t19 0 l18.length,.i6 0]) (u:=.tup [.iM q1a l18,.i6 0]) (q2o rfl (q2o rfl (q3b))) (fR 0 2)
 rintro (_|m1) _ _ ⟨z15,l16,t17,hF,rfl,rfl⟩
 cases hF
 unfold q52 at hF
 refine go ?_
 refine RS.q rfl (q0a rfl rfl rfl (q07 cS und80)) ?_
 refine go ?_
 refine cF hF (fun h20 hF=>?_) (fun h20 hF=>?_)
 refine go ?_
 refine WPU.block ?_
 obtain ⟨x21,h22,hF⟩:=q00 hF
 obtain ⟨r23,h24,hF⟩:=q00 hF
 refine go ?_
 refine RS.q rfl (q0i rfl rfl (q09 cS und80 (q03 inf9) q1i h22 rfl)) (RS.q rfl (q0c und9 rfl rfl rfl) (RS.cl rfl (pC (qhw n p1 x21 r23 h24) _) fn101 ?_))
 obtain ⟨x25,h26,hF⟩:=q00 hF
 obtain ⟨r27,h28,hF⟩:=q00 hF
 obtain ⟨h29,hF⟩:=q0b hF
 refine go ?_
 refine z3g Tryz.tb_ok [(0,9)] (by kernel_rfl) ?_
 repeat refine RD.mv rfl rfl rfl rfl ?_
 refine RD.q rfl (q0i rfl rfl (q09 cS und80 (q03 inf9) q1i h26 rfl)) (RD.q rfl (q0c und9 rfl rfl rfl) ?_)
 repeat refine RD.mv rfl rfl rfl rfl ?_
 refine RD.fl rfl (pC (qbu n r5.1 r23.1 r27 h28)) fn102 (RD.q (u:=.agg [.str x25,.i6 r27]) rfl (q3t bd82 rfl rfl rfl) (RD.act (u:=.sl 1 0 1 1) (σ':=⟨[(1,.row [.str x25,.i6 r27] 82),(0,.vec (List.map q1a l16).flatten 82 2 t17)],2⟩) rfl (q0j und41 inf82 rfl rfl rfl rfl rfl rfl rfl) rfl rfl (RD.act (u:=.vl 0 (t17+1) 0 ((l16++[(q1j.mk x25 r27)]).length)) (σ':=⟨[(1,.row [.str x25,.i6 r27] 82),(0,.vec (List.map q1a (l16++[(q1j.mk x25 r27)])).flatten 82 2 (t17+1))],2⟩) rfl (q1n rfl rfl rfl rfl (q23 q1a ([(q1j.mk x25 r27)]) und41 und41 inf82 rfl q90 rfl (q1m q1a [(q1j.mk x25 r27)] rfl rfl rfl rfl) h29)) rfl rfl (RD.as rfl rfl rfl rfl ?_))))
 refine RD.done ⟨by kernel_rfl,⟨q1w rfl,trivial⟩,?_⟩
 refine go ?_
 exact lC ⟨_,(l16++[(q1j.mk x25 r27)]),(t17+1),hF,rfl,rfl⟩
 refine go ?_
 exact xC ⟨l16,t17,hF,rfl,rfl⟩
def q8o (p1:List q05) (n:Nat) (l16:List qby):Option (q15×Int) :=
 q04 (qbq n p1) fun r18 =>
 some ((q15.mk l16 r18.1),0)
def q5m (p1:List q05) (n:Nat) (r2:(List (List q16))×Int) (r5:(List q0z)×Int):Nat→Int→(List qby)→Option (q15×Int)
 | 0,_,_=>none
 | m1+1,z13,l14 =>
  cond (decide (z13<(r5.1.length:Int)))
   (q04 (q0u r5.1 z13) fun x21 =>
   q04 (q0u r5.1 z13) fun x23 =>
   q04 (qeo n r5.1 z13) fun r25 =>
   q04 (q0u r2.1 z13) fun x27 =>
   q19 ((l14.length+1)*88≤140737488355328∧l14.length+1≤140737488355328) (
   (q5m p1 n r2 r5 m1) (IntKind.i64.wrap (z13+1)) (l14++[(qby.mk x21.Name x23.Code r25 x27)])))
   (q8o p1 n l14)
def qdm (n:Nat) (p1:List q05):Option (q15×Int) :=
 q04 (qer n p1) fun r2 =>
 cond (r2.2 != 0)
  (some ((q15.mk [] []),r2.2))
  (q04 (q7b n p1) fun r5 =>
  q5m p1 n r2 r5 n 0 ([]:List qby))
theorem qlz (n:Nat) (p1:List q05) (r:q15×Int) (hF:qdm n p1=some r):EvU Tryz.prog 51 [.isl false (List.map q02 p1)] ⟨[],0⟩ (fun u _=>u = .tup [.agg (q06 r.1),.int .i64 r.2]∧Bel 0 u):=by
 unfold qdm at hF
 refine bg1 63 fn51 ?_
 refine go ?_
 refine RS.q (u:=.ptr 0 0 0) (σ':=⟨[(0,.row [.nils,.nils] 43)],1⟩) rfl (q1e inf43 rfl rfl) ?_
 obtain ⟨r2,h3,hF⟩:=q00 hF
 refine go ?_
 refine RS.cl rfl (pC (qmw n p1 r2 h3) _) fn71 ?_
 refine go ?_
 refine cF hF (fun h4 hF=>?_) (fun h4 hF=>?_)
 refine go ?_
 refine RS.q (u:=.agg [.nils,.nils]) rfl (q3t bd43 rfl rfl rfl) ?_
 refine go ?_
 refine z3i (u:=.junk) (σ':=⟨[(0,.row [.nils,.nils] 43)],1⟩) rfl (q0r (q03 inf43) rfl rfl rfl rfl rfl rfl rfl rfl) rfl ?_
 refine go ?_
 obtain rfl:=sI hF
 exact rT (us:=[.agg [.nils,.nils],.i6 r2.2]) (u:=.tup [.agg [.isl false [],.isl false []],.i6 r2.2]) (qk4 (q1b und43 rfl (q03 inf43) rfl rfl rfl) (q2o rfl (q3b))) wR
 obtain ⟨r5,h6,hF⟩:=q00 hF
 refine go ?_
 refine RS.cl rfl (pC (q9d n p1 r5 h6) _) fn72 ?_
 refine go ?_
 refine RS.q (u:=.ptr 1 0 0) (σ':=⟨[(1,.row [.nils,.nils] 43),(0,.row [.nils,.nils] 43)],2⟩) rfl (q1e inf43 rfl rfl) ?_
 refine gr ?_
 refine WPU.ghost (tm':=fr 63 [(0,.iM q02 p1),(2,.ptr 0 0 0),(4,.iM (cL q0v) r2.1),(6,.iM q0h r5.1),(8,.ptr 1 0 0),(9,.i6 0)]) (σ':=⟨[(2,.vec (List.map q8b ([]:List qby)).flatten 109 4 0),(1,.row [.vl 2 0 0 (([]:List qby).length),.nils] 43),(0,.row [.nils,.nils] 43)],3⟩) (Gh.trans (z3p 1 0 109 4 (by decide) NZ rfl rfl) (z3j ⟨rfl,rfl,rfl,rfl,rfl,rfl,trivial⟩ rfl)) NZ ?_
 refine gS (l':=[(0,_),(2,_),(4,_),(6,_),(8,_),(9,_)]) ?_
 refine z3e (fun m tm σ=>∃ z13:Int,∃ l14:List qby,∃ t15:Nat,q5m p1 n r2 r5 m z13 l14=some r∧tm=fr 63 [(0,.iM q02 p1),(2,.ptr 0 0 0),(4,.iM (cL q0v) r2.1),(6,.iM q0h r5.1),(8,.ptr 1 0 0),(9,.i6 z13)]∧σ=⟨[(2,.vec (List.map q8b l14).flatten 109 4 t15),(1,.row [.vl 2 t15 0 l14.length,.nils] 43),(0,.row [.nils,.nils] 43)],3⟩) (fun tm σ=>∃ l16:List qby,∃ t17:Nat,q8o p1 n l16=some r∧tm=fr 63 [(0,.iM q02 p1),(2,.ptr 0 0 0),(8,.ptr 1 0 0)]∧σ=⟨[(2,.vec (List.map q8b l16).flatten 109 4 t17),(1,.row [.vl 2 t17 0 l16.length,.nils] 43),(0,.row [.nils,.nils] 43)],3⟩) n ⟨0,([]:List qby),0,hF,rfl,rfl⟩ ?_ ?_
 rintro _ _ ⟨l16,t17,hF,rfl,rfl⟩
 unfold q8o at hF
 obtain ⟨r18,h19,hF⟩:=q00 hF
 refine go ?_
 refine RS.cl rfl (pC (qk3 n p1 r18 h19) _) fn74 ?_
 refine go ?_
 refine RS.q rfl (q0y und43 rfl (q03 inf41) rfl rfl rfl) ?_
 refine z3i (u:=.junk) (σ':=⟨[(2,.vec (List.map q8b l16).flatten 109 4 t17),(1,.row [.vl 2 t17 0 l16.length,.iM q1a r18.1] 43),(0,.row [.nils,.nils] 43)],3⟩) rfl (q0r (q03 inf41) rfl rfl rfl rfl rfl rfl rfl rfl) rfl ?_
 refine go ?_
 refine RS.q (u:=.agg [.vl 2 t17 0 l16.length,.iM q1a r18.1]) rfl (q1b und43 rfl (q03 inf43) rfl rfl rfl) ?_
 refine z3i (u:=.junk) (σ':=⟨[(2,.vec (List.map q8b l16).flatten 109 4 t17),(1,.row [.vl 2 t17 0 l16.length,.iM q1a r18.1] 43),(0,.row [.vl 2 t17 0 l16.length,.iM q1a r18.1] 43)],3⟩) rfl (q0r (q03 inf43) rfl rfl rfl rfl rfl rfl rfl rfl) rfl ?_
 refine go ?_
 obtain rfl:=sI hF
 exact rT (us:=[.agg [.vl 2 t17 0 l16.length,.iM q1a r18.1],.i6 0]) (u:=.tup [.agg [.iM q8b l16,.iM q1a r18.1],.i6 0]) (qk4 (q1b und43 rfl (q03 inf43) rfl rfl rfl) (q2o rfl (q3b))) (fR 2 4)
 rintro (_|m1) _ _ ⟨z13,l14,t15,hF,rfl,rfl⟩
 cases hF
 unfold q5m at hF
 refine go ?_
 refine RS.q rfl (q0a rfl rfl rfl (q07 q0h und99)) ?_
 refine go ?_
 refine cF hF (fun h20 hF=>?_) (fun h20 hF=>?_)
 refine go ?_
 refine WPU.block ?_
 obtain ⟨x21,h22,hF⟩:=q00 hF
 obtain ⟨x23,h24,hF⟩:=q00 hF
 obtain ⟨r25,h26,hF⟩:=q00 hF
 obtain ⟨x27,h28,hF⟩:=q00 hF
 obtain ⟨h29,hF⟩:=q0b hF
 refine go ?_
 refine z3g Tryz.tb_ok [(0,20),(1,20)] (by kernel_rfl) ?_
 refine RD.q rfl (q0y und43 rfl (q03 inf40) rfl rfl rfl) (RD.q rfl (q0m und40 rfl rfl rfl rfl) ?_)
 repeat refine RD.mv rfl rfl rfl rfl ?_
 refine RD.q rfl (q0i rfl rfl (q09 q0h und99 (q03 inf105) q1l h22 rfl)) (RD.q rfl (q1q und105 rfl (q03 inf9) rfl rfl) (RD.q rfl (q0c und9 rfl rfl rfl) ?_))
 repeat refine RD.mv rfl rfl rfl rfl ?_
 refine RD.q rfl (q0i rfl rfl (q09 q0h und99 (q03 inf105) q1l h24 rfl)) (RD.q rfl (q1q und105 rfl (q03 inf103) rfl rfl) (RD.q rfl (q0c und103 rfl rfl rfl) ?_))
 repeat refine RD.mv rfl rfl rfl rfl ?_
 refine RD.fl rfl (pC (qmt n r5.1 z13 r25 h26)) fn73 ?_
 repeat refine RD.mv rfl rfl rfl rfl ?_
 refine RD.q rfl (q0i rfl rfl (q09 (cL q0v) und96 (q03 inf107) (q41 q0v) h28 rfl)) (RD.q rfl (q0c und107 rfl rfl rfl) (RD.q (u:=.agg [.str x21.Name,.iM (cI .u64) x23.Code,.iM (cI .i64) r25,.iM q0v x27]) rfl (q3t bd109 rfl rfl rfl) (RD.act (u:=.sl 3 0 1 1) (σ':=⟨[(3,.row [.str x21.Name,.iM (cI .u64) x23.Code,.iM (cI .i64) r25,.iM q0v x27] 109),(2,.vec (List.map q8b l14).flatten 109 4 t15),(1,.row [.vl 2 t15 0 l14.length,.nils] 43),(0,.row [.nils,.nils] 43)],4⟩) rfl (q0j und40 inf109 rfl rfl rfl rfl rfl rfl rfl) rfl rfl (RD.act (u:=.vl 2 (t15+1) 0 ((l14++[(qby.mk x21.Name x23.Code r25 x27)]).length)) (σ':=⟨[(3,.row [.str x21.Name,.iM (cI .u64) x23.Code,.iM (cI .i64) r25,.iM q0v x27] 109),(2,.vec (List.map q8b (l14++[(qby.mk x21.Name x23.Code r25 x27)])).flatten 109 4 (t15+1)),(1,.row [.vl 2 t15 0 l14.length,.nils] 43),(0,.row [.nils,.nils] 43)],4⟩) rfl (q1n rfl rfl rfl rfl (q23 q8b ([(qby.mk x21.Name x23.Code r25 x27)]) und40 und40 inf109 rfl qnj rfl (q1m q8b [(qby.mk x21.Name x23.Code r25 x27)] rfl rfl rfl rfl) h29)) rfl rfl (RD.q rfl (q0y und43 rfl (q03 inf40) rfl rfl rfl) ?_)))))
 refine z3o (u:=.junk) (σ':=⟨[(3,.row [.str x21.Name,.iM (cI .u64) x23.Code,.iM (cI .i64) r25,.iM q0v x27] 109),(2,.vec (List.map q8b (l14++[(qby.mk x21.Name x23.Code r25 x27)])).flatten 109 4 (t15+1)),(1,.row [.vl 2 (t15+1) 0 ((l14++[(qby.mk x21.Name x23.Code r25 x27)]).length),.nils] 43),(0,.row [.nils,.nils] 43)],4⟩) rfl (q0r (q03 inf40) rfl rfl rfl rfl rfl rfl rfl rfl) rfl ?_
 refine RD.done ⟨by kernel_rfl,⟨q0y und43 rfl (q03 inf40) rfl rfl rfl,⟨q0m und40 rfl rfl rfl rfl,trivial⟩⟩,?_⟩
 refine go ?_
 exact lC ⟨_,(l14++[(qby.mk x21.Name x23.Code r25 x27)]),(t15+1),hF,rfl,rfl⟩
 refine go ?_
 exact xC ⟨l14,t15,hF,rfl,rfl⟩
def qdo (p1:List UInt8) (p2:List UInt8) (l15:List q0s):Option (q05) :=
 some (q05.mk p1 ([p2]) l15)
def q9i (p1:List UInt8) (p2:List UInt8) (p3:List (List UInt8)):Nat→Int→(List q0s)→Option (q05)
 | 0,_,_=>none
 | m1+1,z12,l13 =>
  cond (decide ((IntKind.i64.wrap (z12+1))<(p3.length:Int)))
   (q04 (q0u p3 z12) fun x18 =>
   q04 (q0u p3 (IntKind.i64.wrap (z12+1))) fun x20 =>
   q19 ((l13.length+1)*32≤140737488355328∧l13.length+1≤140737488355328) (
   (q9i p1 p2 p3 m1) (IntKind.i64.wrap (z12+2)) (l13++[(q0s.mk x18 x20)])))
   (qdo p1 p2 l13)
def qdp (p1:List UInt8) (l32:List q0s):Option (q05) :=
 some (q05.mk p1 [] l32)
def q9j (p1:List UInt8) (p3:List (List UInt8)):Nat→Int→(List q0s)→Option (q05)
 | 0,_,_=>none
 | m2+1,z29,l30 =>
  cond (decide ((IntKind.i64.wrap (z29+1))<(p3.length:Int)))
   (q04 (q0u p3 z29) fun x35 =>
   q04 (q0u p3 (IntKind.i64.wrap (z29+1))) fun x37 =>
   q19 ((l30.length+1)*32≤140737488355328∧l30.length+1≤140737488355328) (
   (q9j p1 p3 m2) (IntKind.i64.wrap (z29+2)) (l30++[(q0s.mk x35 x37)])))
   (qdp p1 l30)
def q2g (n:Nat) (p1:List UInt8) (p2:List UInt8) (p3:List (List UInt8)):Option (q05) :=
 cond (!q1k p2 [])
  (q9i p1 p2 p3 n 0 ([]:List q0s))
  (q9j p1 p3 n 0 ([]:List q0s))
end Go.Proofs
end
