/-
  Texts of the walk: H4.
-/
import Derived.Test.YtkgbipeaeamohaaGreatDoorP17
set_option linter.unusedSimpArgs false
set_option linter.unusedVariables false
section
namespace Go.Proofs
open Go Go.Rx Go.Vx Tryz
set_option maxRecDepth 20000
set_option maxHeartbeats 4000000
set_option synthInstance.maxSize 4000
set_option synthInstance.maxHeartbeats 200000
def qd6 (n:Nat) (p1:Int):Option (Bool) :=
 q04 (cond (decide (p1 ≥ 97))
  (some (decide (p1≤122)))
  (some false)) fun b3 =>
 some b3
theorem qhs (n:Nat) (p1:Int) (r:Bool) (hF:qd6 n p1=some r):EvU Tryz.prog 141 [.int .u8 p1] ⟨[],0⟩ (fun u _=>u = .bool r∧Bel 0 u):=by
 unfold qd6 at hF
 refine bg1 9 fn141 ?_
 obtain ⟨b3,h4,hF⟩:=q00 hF
 refine gr ?_
 refine z2y (fun tm σ=>tm=fr 9 [(2,.bool b3)]∧σ=⟨[],0⟩) ?_ ?_
 rintro _ _ ⟨rfl,rfl⟩
 exact gx hF
 rcases gB h4 with ⟨h2,h4⟩ | ⟨h2,h4⟩
 exact gy h4
 exact gy h4
def qiz (n:Nat) (p1:Int) (p2:Bool):Option (Bool) :=
 q04 (q04 (qd5 n p1) fun r3 =>
 cond r3
  (some true)
  (cond (p1 == 45)
   (some true)
   (cond p2
    (q04 (qgi n p1) fun r8 =>
    cond r8
     (some true)
     (cond (!p2)
      (q04 (qd6 n p1) fun r12 =>
      some r12)
      (some false)))
    (cond (!p2)
     (q04 (qd6 n p1) fun r15 =>
     some r15)
     (some false))))) fun b17 =>
 some b17
theorem qqj (n:Nat) (p1:Int) (p2:Bool) (r:Bool) (hF:qiz n p1 p2=some r):EvU Tryz.prog 110 [.int .u8 p1,.bool p2] ⟨[],0⟩ (fun u _=>u = .bool r∧Bel 0 u):=by
 unfold qiz at hF
 refine bg2 26 fn110 ?_
 obtain ⟨b17,h18,hF⟩:=q00 hF
 refine gr ?_
 refine z2y (fun tm σ=>tm=fr 26 [(4,.bool b17)]∧σ=⟨[],0⟩) ?_ ?_
 rintro _ _ ⟨rfl,rfl⟩
 exact gx hF
 obtain ⟨r3,h4,h18⟩:=q00 h18
 rcases gB h18 with ⟨h5,h18⟩ | ⟨h5,h18⟩
 obtain rfl:=sI h18
 refine go ?_
 refine RS.cl rfl (pC (q2t n p1 r3 h4) _) fn109 ?_
 refine go ?_
 repeat refine RS.no (qmi rfl rfl rfl) rfl rfl ?_
 refine go ?_
 repeat refine RS.no (qmi rfl rfl rfl) rfl rfl ?_
 refine go ?_
 exact xC ⟨rfl,rfl⟩
 rcases gB h18 with ⟨h6,h18⟩ | ⟨h6,h18⟩
 obtain rfl:=sI h18
 refine go ?_
 refine RS.cl rfl (pC (q2t n p1 r3 h4) _) fn109 ?_
 refine go ?_
 repeat refine RS.no (qmi rfl rfl rfl) rfl rfl ?_
 refine go ?_
 repeat refine RS.no (qmi rfl rfl rfl) rfl rfl ?_
 refine go ?_
 exact xC ⟨rfl,rfl⟩
 rcases gB h18 with ⟨h7,h18⟩ | ⟨h7,h18⟩
 obtain ⟨r8,h9,h18⟩:=q00 h18
 rcases gB h18 with ⟨h10,h18⟩ | ⟨h10,h18⟩
 obtain rfl:=sI h18
 refine go ?_
 refine RS.cl rfl (pC (q2t n p1 r3 h4) _) fn109 ?_
 refine go ?_
 refine RS.cl rfl (pC (qd8 n p1 r8 h9) _) fn140 ?_
 refine go ?_
 repeat refine RS.no (qmi rfl rfl rfl) rfl rfl ?_
 refine go ?_
 exact xC ⟨rfl,rfl⟩
 rcases gB h18 with ⟨h11,h18⟩ | ⟨h11,h18⟩
 obtain ⟨r12,h13,h18⟩:=q00 h18
 obtain rfl:=sI h18
 refine go ?_
 refine RS.cl rfl (pC (q2t n p1 r3 h4) _) fn109 ?_
 refine go ?_
 refine RS.cl rfl (pC (qd8 n p1 r8 h9) _) fn140 ?_
 refine go ?_
 refine RS.cl rfl (pC (qhs n p1 r12 h13) _) fn141 ?_
 refine go ?_
 exact xC ⟨rfl,rfl⟩
 obtain rfl:=sI h18
 refine go ?_
 refine RS.cl rfl (pC (q2t n p1 r3 h4) _) fn109 ?_
 refine go ?_
 refine RS.cl rfl (pC (qd8 n p1 r8 h9) _) fn140 ?_
 refine go ?_
 exact xC ⟨rfl,rfl⟩
 rcases gB h18 with ⟨h14,h18⟩ | ⟨h14,h18⟩
 obtain ⟨r15,h16,h18⟩:=q00 h18
 obtain rfl:=sI h18
 refine go ?_
 refine RS.cl rfl (pC (q2t n p1 r3 h4) _) fn109 ?_
 refine go ?_
 refine RS.cl rfl (pC (qhs n p1 r15 h16) _) fn141 ?_
 refine go ?_
 exact xC ⟨rfl,rfl⟩
 obtain rfl:=sI h18
 refine go ?_
 refine RS.cl rfl (pC (q2t n p1 r3 h4) _) fn109 ?_
 refine go ?_
 exact xC ⟨rfl,rfl⟩
def qbc   : Option (Bool) :=
 some true
def q7s (p1:List UInt8) (p2:Bool) (n:Nat):Nat→Int→Option (Bool)
 | 0,_=>none
 | m1+1,z18 =>
  cond (decide (z18<(p1.length:Int)))
   (q04 (qy0 p1 z18) fun x20 =>
   q04 (qiz n x20 p2) fun r22 =>
   cond (!r22)
    (some false)
    ((q7s p1 p2 n m1) (IntKind.i64.wrap (z18+1))))
   (qbc)
def qd7 (n:Nat) (p1:List UInt8) (p2:Bool):Option (Bool) :=
 q04 (cond (decide ((p1.length:Int)<1))
  (some true)
  (cond (decide ((p1.length:Int) > 32))
   (some true)
   (q04 (qy0 p1 0) fun x5 =>
   q04 (qd5 n x5) fun r7 =>
   cond r7
    (some true)
    (q04 (qy0 p1 0) fun x10 =>
    some (x10 == 45))))) fun b12 =>
 cond b12
  (some false)
  (q7s p1 p2 n n 0)
theorem qht (n:Nat) (p1:List UInt8) (p2:Bool) (r:Bool) (hF:qd7 n p1 p2=some r):EvU Tryz.prog 81 [.str p1,.bool p2] ⟨[],0⟩ (fun u _=>u = .bool r∧Bel 0 u):=by
 unfold qd7 at hF
 refine bg2 36 fn81 ?_
 obtain ⟨b12,h13,hF⟩:=q00 hF
 refine gr ?_
 refine z2y (fun tm σ=>tm=fr 36 [(0,.str p1),(1,.bool p2),(23,.bool b12)]∧σ=⟨[],0⟩) ?_ ?_
 rintro _ _ ⟨rfl,rfl⟩
 refine go ?_
 refine cF hF (fun h14 hF=>?_) (fun h14 hF=>?_)
 exact gx hF
 refine go ?_
 refine gS (l':=[(0,_),(1,_),(5,_)]) ?_
 refine z2x (fun m tm σ=>∃ z18:Int,q7s p1 p2 n m z18=some r∧tm=fr 36 [(0,.str p1),(1,.bool p2),(5,.i6 z18)]∧σ=⟨[],0⟩) (fun tm σ=>qbc=some r∧tm=fr 36 []∧σ=⟨[],0⟩) n ⟨0,hF,rfl,rfl⟩ ?_ ?_
 rintro _ _ ⟨hF,rfl,rfl⟩
 unfold qbc at hF
 exact gx hF
 rintro (_|m1) _ _ ⟨z18,hF,rfl,rfl⟩
 cases hF
 unfold q7s at hF
 refine go ?_
 refine RS.q (u:=.i6 (p1.length:Int)) rfl (q0c rfl rfl rfl (by simp only [qr5,und9])) ?_
 refine go ?_
 refine cF hF (fun h19 hF=>?_) (fun h19 hF=>?_)
 refine go ?_
 refine WPU.block ?_
 obtain ⟨x20,h21,hF⟩:=q00 hF
 obtain ⟨r22,h23,hF⟩:=q00 hF
 refine go ?_
 refine RS.q (u:=.int .u8 x20) rfl (qob und9 rfl rfl h21) ?_
 refine go ?_
 refine RS.cl rfl (pC (qqj n x20 p2 r22 h23) _) fn110 ?_
 refine go ?_
 refine cF hF (fun h24 hF=>?_) (fun h24 hF=>?_)
 exact gx hF
 refine go ?_
 exact lC ⟨_,hF,rfl,rfl⟩
 refine go ?_
 exact xC ⟨hF,rfl,rfl⟩
 rcases gB h13 with ⟨h3,h13⟩ | ⟨h3,h13⟩
 obtain rfl:=sI h13
 refine go ?_
 refine RS.q (u:=.i6 (p1.length:Int)) rfl (q0c rfl rfl rfl (by simp only [qr5,und9])) ?_
 refine go ?_
 exact xC ⟨rfl,rfl⟩
 rcases gB h13 with ⟨h4,h13⟩ | ⟨h4,h13⟩
 obtain rfl:=sI h13
 refine go ?_
 refine RS.q (u:=.i6 (p1.length:Int)) rfl (q0c rfl rfl rfl (by simp only [qr5,und9])) ?_
 refine go ?_
 refine RS.w (u:=.i6 (p1.length:Int)) rfl (q0c rfl rfl rfl (by simp only [qr5,und9])) ?_
 refine go ?_
 exact xC ⟨rfl,rfl⟩
 obtain ⟨x5,h6,h13⟩:=q00 h13
 obtain ⟨r7,h8,h13⟩:=q00 h13
 rcases gB h13 with ⟨h9,h13⟩ | ⟨h9,h13⟩
 obtain rfl:=sI h13
 refine go ?_
 refine RS.q (u:=.i6 (p1.length:Int)) rfl (q0c rfl rfl rfl (by simp only [qr5,und9])) ?_
 refine go ?_
 refine RS.w (u:=.i6 (p1.length:Int)) rfl (q0c rfl rfl rfl (by simp only [qr5,und9])) ?_
 refine go ?_
 refine RS.w (u:=.int .u8 x5) rfl (qob und9 rfl rfl h6) (RS.cl rfl (pC (q2t n x5 r7 h8) _) fn109 ?_)
 refine go ?_
 exact xC ⟨rfl,rfl⟩
 obtain ⟨x10,h11,h13⟩:=q00 h13
 obtain rfl:=sI h13
 refine go ?_
 refine RS.q (u:=.i6 (p1.length:Int)) rfl (q0c rfl rfl rfl (by simp only [qr5,und9])) ?_
 refine go ?_
 refine RS.w (u:=.i6 (p1.length:Int)) rfl (q0c rfl rfl rfl (by simp only [qr5,und9])) ?_
 refine go ?_
 refine RS.w (u:=.int .u8 x5) rfl (qob und9 rfl rfl h6) (RS.cl rfl (pC (q2t n x5 r7 h8) _) fn109 ?_)
 refine go ?_
 refine RS.w (u:=.int .u8 x10) rfl (qob und9 rfl rfl h11) ?_
 refine go ?_
 exact xC ⟨rfl,rfl⟩
def qd4 (n:Nat) (p1:List UInt8):Option (Bool) :=
 q04 (qd7 n p1 true) fun r2 =>
 some r2
theorem qm0 (n:Nat) (p1:List UInt8) (r:Bool) (hF:qd4 n p1=some r):EvU Tryz.prog 57 [.str p1] ⟨[],0⟩ (fun u _=>u = .bool r∧Bel 0 u):=by
 unfold qd4 at hF
 refine bg1 5 fn57 ?_
 obtain ⟨r2,h3,hF⟩:=q00 hF
 refine go ?_
 refine RS.cl rfl (pC (qht n p1 true r2 h3) _) fn81 ?_
 exact gx hF
def q47   : Option (Bool) :=
 some true
def q2g (p1:List q0e) (p2:List q0e) (n:Nat):Nat→Int→Option (Bool)
 | 0,_=>none
 | m1+1,z7 =>
  cond (decide (z7<(p1.length:Int)))
   (q04 (q04 (q0w p1 z7) fun x9 =>
   q04 (q0w p2 z7) fun x11 =>
   q04 (q9z n x9.A x11.A) fun r13 =>
   cond (!r13)
    (some true)
    (q04 (q0w p1 z7) fun x16 =>
    q04 (q0w p2 z7) fun x18 =>
    q04 (q9z n x16.B x18.B) fun r20 =>
    some (!r20))) fun b22 =>
   cond b22
    (some false)
    ((q2g p1 p2 n m1) (IntKind.i64.wrap (z7+1))))
   (q47)
def q2p (n:Nat) (p1:List q0e) (p2:List q0e):Option (Bool) :=
 cond ((p1.length:Int) != (p2.length:Int))
  (some false)
  (q2g p1 p2 n n 0)
theorem q3o (n:Nat) (p1:List q0e) (p2:List q0e) (r:Bool) (hF:q2p n p1 p2=some r):EvU Tryz.prog 17 [.isl false (List.map q0j p1),.isl false (List.map q0j p2)] ⟨[],0⟩ (fun u _=>u = .bool r∧Bel 0 u):=by
 unfold q2p at hF
 refine bg2 43 fn17 ?_
 refine go ?_
 refine RS.q rfl (q0c rfl rfl rfl (q08 q0j und31)) ?_
 refine go ?_
 refine RS.q rfl (q0c rfl rfl rfl (q08 q0j und31)) ?_
 refine go ?_
 refine cF hF (fun h3 hF=>?_) (fun h3 hF=>?_)
 exact gx hF
 refine go ?_
 refine gS (l':=[(0,_),(1,_),(5,_)]) ?_
 refine z2x (fun m tm σ=>∃ z7:Int,q2g p1 p2 n m z7=some r∧tm=fr 43 [(0,.iM q0j p1),(1,.iM q0j p2),(5,.i6 z7)]∧σ=⟨[],0⟩) (fun tm σ=>q47=some r∧tm=fr 43 []∧σ=⟨[],0⟩) n ⟨0,hF,rfl,rfl⟩ ?_ ?_
 rintro _ _ ⟨hF,rfl,rfl⟩
 unfold q47 at hF
 exact gx hF
 rintro (_|m1) _ _ ⟨z7,hF,rfl,rfl⟩
 cases hF
 unfold q2g at hF
 refine go ?_
 refine RS.q rfl (q0c rfl rfl rfl (q08 q0j und31)) ?_
 refine go ?_
 refine cF hF (fun h8 hF=>?_) (fun h8 hF=>?_)
 refine go ?_
 refine WPU.block ?_
 obtain ⟨b22,h23,hF⟩:=q00 hF
 refine gn ?_
 refine z2y (fun tm σ=>tm=fr 43 [(0,.iM q0j p1),(1,.iM q0j p2),(5,.i6 z7),(42,.bool b22)]∧σ=⟨[],0⟩) ?_ ?_
 rintro _ _ ⟨rfl,rfl⟩
 refine go ?_
 refine cF hF (fun h24 hF=>?_) (fun h24 hF=>?_)
 exact gx hF
 refine go ?_
 exact lC ⟨_,hF,rfl,rfl⟩
 obtain ⟨x9,h10,h23⟩:=q00 h23
 obtain ⟨x11,h12,h23⟩:=q00 h23
 obtain ⟨r13,h14,h23⟩:=q00 h23
 rcases gB h23 with ⟨h15,h23⟩ | ⟨h15,h23⟩
 obtain rfl:=sI h23
 refine z2z Tryz.tb_ok [] (by kernel_rfl) ?_
 repeat refine RD.mv rfl rfl rfl rfl ?_
 refine RD.q rfl (q0f rfl rfl (q07 q0j und31 (q03 inf56) q2s h10 rfl)) (RD.q rfl (q1d und56 rfl (q03 inf33) rfl rfl) (RD.q rfl (q0b und33 rfl rfl rfl) ?_))
 repeat refine RD.mv rfl rfl rfl rfl ?_
 refine RD.q rfl (q0f rfl rfl (q07 q0j und31 (q03 inf56) q2s h12 rfl)) (RD.q rfl (q1d und56 rfl (q03 inf33) rfl rfl) (RD.q rfl (q0b und33 rfl rfl rfl) (RD.fl rfl (pC (qb5 n x9.A x11.A r13 h14)) fn47 (RD.q rfl (quq rfl rfl rfl rfl) (RD.mv rfl rfl rfl rfl ?_)))))
 repeat refine RD.no (qp4 rfl rfl rfl h15) rfl rfl ?_
 refine RD.q rfl (qaz rfl h15 rfl) ?_
 refine RD.done ⟨by kernel_rfl,trivial,?_⟩
 refine go ?_
 exact xC ⟨rfl,rfl⟩
 obtain ⟨x16,h17,h23⟩:=q00 h23
 obtain ⟨x18,h19,h23⟩:=q00 h23
 obtain ⟨r20,h21,h23⟩:=q00 h23
 obtain rfl:=sI h23
 refine z2z Tryz.tb_ok [] (by kernel_rfl) ?_
 repeat refine RD.mv rfl rfl rfl rfl ?_
 refine RD.q rfl (q0f rfl rfl (q07 q0j und31 (q03 inf56) q2s h10 rfl)) (RD.q rfl (q1d und56 rfl (q03 inf33) rfl rfl) (RD.q rfl (q0b und33 rfl rfl rfl) ?_))
 repeat refine RD.mv rfl rfl rfl rfl ?_
 refine RD.q rfl (q0f rfl rfl (q07 q0j und31 (q03 inf56) q2s h12 rfl)) (RD.q rfl (q1d und56 rfl (q03 inf33) rfl rfl) (RD.q rfl (q0b und33 rfl rfl rfl) (RD.fl rfl (pC (qb5 n x9.A x11.A r13 h14)) fn47 (RD.q rfl (quq rfl rfl rfl rfl) (RD.mv rfl rfl rfl rfl (RD.w rfl (q0s rfl) (RD.w rfl (q0s rfl) ?_)))))))
 refine RD.w rfl (q0f rfl rfl (q07 q0j und31 (q03 inf56) q2s h17 rfl)) (RD.w rfl (q1d und56 rfl (q03 inf33) rfl rfl) (RD.w rfl (q0b und33 rfl rfl rfl) (RD.w rfl (q0s rfl) (RD.w rfl (q0s rfl) (RD.w rfl (q0f rfl rfl (q07 q0j und31 (q03 inf56) q2s h19 rfl)) (RD.w rfl (q1d und56 rfl (q03 inf33) rfl rfl) (RD.w rfl (q0b und33 rfl rfl rfl) ?_)))))))
 refine RD.fl rfl (pC (qb5 n x16.B x18.B r20 h21)) fn47 (RD.w rfl (quq rfl rfl rfl rfl) (RD.q rfl (qay rfl h15 rfl) ?_))
 refine RD.done ⟨by kernel_rfl,trivial,?_⟩
 refine go ?_
 exact xC ⟨rfl,rfl⟩
 refine go ?_
 exact xC ⟨hF,rfl,rfl⟩
def q7o   : Option (Bool) :=
 some true
def q4d (p1:GFS):Nat→Int→Option (Bool)
 | 0,_=>none
 | m1+1,z18 =>
  cond (decide (z18<(p1.Nodes.length:Int)))
   (q04 (q0w p1.Nodes z18) fun x20 =>
   q04 (cond (decide (x20.Typex ≥ 256))
    (some true)
    (cond (decide ((x20.Arcs.length:Int) > 0))
     (q04 (q0w x20.Arcs (IntKind.i64.wrap ((x20.Arcs.length:Int) - 1))) fun x24 =>
     some (decide (x24.Feat ≥ 64)))
     (some false))) fun b26 =>
   cond b26
    (some false)
    ((q4d p1 m1) (IntKind.i64.wrap (z18+1))))
   (q7o)
def qa4 (n:Nat) (p1:GFS):Option (Bool) :=
 q04 (qaj n p1) fun r2 =>
 cond (!r2)
  (some false)
  (q04 (qai n p1) fun r5 =>
  q04 (cond (r5.2 != 0)
   (some true)
   (q04 (q7j n p1 (GFS.mk r5.1.Nodes)) fun r8 =>
   some (!r8))) fun b10 =>
  cond b10
   (some false)
   (q4d p1 n 0))
theorem qo7 (n:Nat) (p1:GFS) (r:Bool) (hF:qa4 n p1=some r):EvU Tryz.prog 12 [.agg [.isl false (List.map q01 p1.Nodes)]] ⟨[],0⟩ (fun u _=>u = .bool r∧Bel 0 u):=by
 unfold qa4 at hF
 refine bg1 52 fn12 ?_
 refine go ?_
 refine RS.q (u:=.ptr 0 0 0) (σ':=⟨[(0,.row [.iM q01 p1.Nodes] 24)],1⟩) rfl (q3r rfl rfl rfl) ?_
 obtain ⟨r2,h3,hF⟩:=q00 hF
 refine go ?_
 refine RS.q (u:=.agg [.iM q01 p1.Nodes]) rfl (q17 und24 rfl (q03 inf24) rfl rfl rfl) (RS.cl rfl (pC (qos n p1 r2 h3) _) fn41 ?_)
 refine go ?_
 refine cF hF (fun h4 hF=>?_) (fun h4 hF=>?_)
 exact gx hF
 obtain ⟨r5,h6,hF⟩:=q00 hF
 refine go ?_
 refine RS.q (u:=.agg [.iM q01 p1.Nodes]) rfl (q17 und24 rfl (q03 inf24) rfl rfl rfl) (RS.cl rfl (pC (qor n p1 r5 h6) _) fn42 ?_)
 refine go ?_
 refine RS.q (u:=.ptr 1 0 0) (σ':=⟨[(1,.row [.nils] 24),(0,.row [.iM q01 p1.Nodes] 24)],2⟩) rfl (q1j inf24 rfl rfl) ?_
 refine z36 (u:=.junk) (σ':=⟨[(1,.row [.iM q01 r5.1.Nodes] 24),(0,.row [.iM q01 p1.Nodes] 24)],2⟩) rfl (q0v (q03 inf24) rfl rfl rfl rfl rfl rfl rfl rfl) rfl ?_
 obtain ⟨b10,h11,hF⟩:=q00 hF
 refine gn ?_
 refine z2y (fun tm σ=>tm=fr 52 [(1,.ptr 0 0 0),(22,.bool b10)]∧σ=⟨[(1,.row [.iM q01 r5.1.Nodes] 24),(0,.row [.iM q01 p1.Nodes] 24)],2⟩) ?_ ?_
 rintro _ _ ⟨rfl,rfl⟩
 refine go ?_
 refine cF hF (fun h12 hF=>?_) (fun h12 hF=>?_)
 exact gx hF
 refine go ?_
 refine RS.q rfl (q0z und24 rfl (q03 inf22) rfl rfl rfl) (RS.q rfl (q0n und22 rfl rfl rfl rfl) (RS.q rfl (q0c rfl rfl rfl (q08 q01 und22)) ?_))
 refine go ?_
 refine gS (l':=[(24,_),(25,_),(26,_)]) ?_
 refine z2x (fun m tm σ=>∃ z18:Int,q4d p1 m z18=some r∧tm=fr 52 [(24,.iM q01 p1.Nodes),(25,.i6 (p1.Nodes.length:Int)),(26,.i6 z18)]∧σ=⟨[(1,.row [.iM q01 r5.1.Nodes] 24),(0,.row [.iM q01 p1.Nodes] 24)],2⟩) (fun tm σ=>q7o=some r∧tm=fr 52 []∧σ=⟨[(1,.row [.iM q01 r5.1.Nodes] 24),(0,.row [.iM q01 p1.Nodes] 24)],2⟩) n ⟨0,hF,rfl,rfl⟩ ?_ ?_
 rintro _ _ ⟨hF,rfl,rfl⟩
 unfold q7o at hF
 exact gx hF
 rintro (_|m1) _ _ ⟨z18,hF,rfl,rfl⟩
 cases hF
 unfold q4d at hF
 refine go ?_
 refine cF hF (fun h19 hF=>?_) (fun h19 hF=>?_)
 refine go ?_
 refine WPU.block ?_
 obtain ⟨x20,h21,hF⟩:=q00 hF
 refine go ?_
 refine RS.q rfl (q0f rfl rfl (q07 q01 und22 (q03 inf54) q1n h21 rfl)) (RS.q (u:=.agg (q01 x20)) rfl (qav und54 rfl (q03 inf54) rfl rfl) (RS.q (u:=.ptr 2 0 0) (σ':=⟨[(2,.row [.i6 0,.nils] 54),(1,.row [.iM q01 r5.1.Nodes] 24),(0,.row [.iM q01 p1.Nodes] 24)],3⟩) rfl (q1j inf54 rfl rfl) ?_))
 refine z36 (u:=.junk) (σ':=⟨[(2,.row (q01 x20) 54),(1,.row [.iM q01 r5.1.Nodes] 24),(0,.row [.iM q01 p1.Nodes] 24)],3⟩) rfl (q0v (q03 inf54) rfl rfl rfl rfl rfl rfl rfl rfl) rfl ?_
 obtain ⟨b26,h27,hF⟩:=q00 hF
 refine gn ?_
 refine z2y (fun tm σ=>tm=fr 52 [(24,.iM q01 p1.Nodes),(25,.i6 (p1.Nodes.length:Int)),(26,.i6 z18),(50,.bool b26)]∧σ=⟨[(2,.row (q01 x20) 54),(1,.row [.iM q01 r5.1.Nodes] 24),(0,.row [.iM q01 p1.Nodes] 24)],3⟩) ?_ ?_
 rintro _ _ ⟨rfl,rfl⟩
 refine go ?_
 refine cF hF (fun h28 hF=>?_) (fun h28 hF=>?_)
 exact gx hF
 refine go ?_
 exact lC ⟨_,hF,rfl,rfl⟩
 rcases gB h27 with ⟨h22,h27⟩ | ⟨h22,h27⟩
 obtain rfl:=sI h27
 refine go ?_
 refine RS.q rfl (q0z und54 rfl (q03 inf3) rfl rfl rfl) (RS.q rfl (q0n und3 rfl rfl rfl rfl) ?_)
 refine go ?_
 repeat refine RS.no (qmi rfl rfl rfl) rfl rfl ?_
 refine go ?_
 exact xC ⟨rfl,rfl⟩
 rcases gB h27 with ⟨h23,h27⟩ | ⟨h23,h27⟩
 obtain ⟨x24,h25,h27⟩:=q00 h27
 obtain rfl:=sI h27
 refine go ?_
 refine RS.q rfl (q0z und54 rfl (q03 inf3) rfl rfl rfl) (RS.q rfl (q0n und3 rfl rfl rfl rfl) ?_)
 refine go ?_
 refine RS.w rfl (q0z und54 rfl (q03 inf52) rfl rfl rfl) (RS.w rfl (q0n und52 rfl rfl rfl rfl) (RS.w rfl (q0c rfl rfl rfl (q08 q0d und52)) ?_))
 refine go ?_
 refine RS.w rfl (q0z und54 rfl (q03 inf52) rfl rfl rfl) (RS.w rfl (q0n und52 rfl rfl rfl rfl) (RS.w rfl (q0z und54 rfl (q03 inf52) rfl rfl rfl) (RS.w rfl (q0n und52 rfl rfl rfl rfl) (RS.w rfl (q0c rfl rfl rfl (q08 q0d und52)) ?_))))
 refine go ?_
 refine RS.w rfl (q0f rfl rfl (q07 q0d und52 (q03 inf66) q0l h25 rfl)) (RS.w rfl (q1d und66 rfl (q03 inf3) rfl rfl) (RS.w rfl (q0b und3 rfl rfl rfl) ?_))
 refine go ?_
 exact xC ⟨rfl,rfl⟩
 obtain rfl:=sI h27
 refine go ?_
 refine RS.q rfl (q0z und54 rfl (q03 inf3) rfl rfl rfl) (RS.q rfl (q0n und3 rfl rfl rfl rfl) ?_)
 refine go ?_
 refine RS.w rfl (q0z und54 rfl (q03 inf52) rfl rfl rfl) (RS.w rfl (q0n und52 rfl rfl rfl rfl) (RS.w rfl (q0c rfl rfl rfl (q08 q0d und52)) ?_))
 refine go ?_
 exact xC ⟨rfl,rfl⟩
 refine go ?_
 exact xC ⟨hF,rfl,rfl⟩
 rcases gB h11 with ⟨h7,h11⟩ | ⟨h7,h11⟩
 exact gy h11
 obtain ⟨r8,h9,h11⟩:=q00 h11
 obtain rfl:=sI h11
 refine go ?_
 refine RS.w (u:=.agg [.iM q01 p1.Nodes]) rfl (q17 und24 rfl (q03 inf24) rfl rfl rfl) (RS.w (u:=.agg [.iM q01 r5.1.Nodes]) rfl (q17 und24 rfl (q03 inf24) rfl rfl rfl) (RS.cl rfl (pC (q45 n p1 (GFS.mk r5.1.Nodes) r8 h9) _) fn21 ?_))
 refine go ?_
 exact xC ⟨rfl,rfl⟩
def q7e   : Option (Bool) :=
 some true
def q3x (p1:List Int) (p2:List Int):Nat→Int→Option (Bool)
 | 0,_=>none
 | m1+1,z7 =>
  cond (decide (z7<(p1.length:Int)))
   (q04 (q0w p1 z7) fun x9 =>
   q04 (q0w p2 z7) fun x11 =>
   cond (x9 != x11)
    (some false)
    ((q3x p1 p2 m1) (IntKind.i64.wrap (z7+1))))
   (q7e)
def q5o (n:Nat) (p1:List Int) (p2:List Int):Option (Bool) :=
 cond ((p1.length:Int) != (p2.length:Int))
  (some false)
  (q3x p1 p2 n 0)
theorem q49 (n:Nat) (p1:List Int) (p2:List Int) (r:Bool) (hF:q5o n p1 p2=some r):EvU Tryz.prog 28 [.isl false (List.map (cI .i64) p1),.isl false (List.map (cI .i64) p2)] ⟨[],0⟩ (fun u _=>u = .bool r∧Bel 0 u):=by
 unfold q5o at hF
 refine bg2 26 fn28 ?_
 refine go ?_
 refine RS.q rfl (q0c rfl rfl rfl (q08 (cI .i64) und33)) ?_
 refine go ?_
 refine RS.q rfl (q0c rfl rfl rfl (q08 (cI .i64) und33)) ?_
 refine go ?_
 refine cF hF (fun h3 hF=>?_) (fun h3 hF=>?_)
 exact gx hF
 refine go ?_
 refine gS (l':=[(0,_),(1,_),(5,_)]) ?_
 refine z2x (fun m tm σ=>∃ z7:Int,q3x p1 p2 m z7=some r∧tm=fr 26 [(0,.iM (cI .i64) p1),(1,.iM (cI .i64) p2),(5,.i6 z7)]∧σ=⟨[],0⟩) (fun tm σ=>q7e=some r∧tm=fr 26 []∧σ=⟨[],0⟩) n ⟨0,hF,rfl,rfl⟩ ?_ ?_
 rintro _ _ ⟨hF,rfl,rfl⟩
 unfold q7e at hF
 exact gx hF
 rintro (_|m1) _ _ ⟨z7,hF,rfl,rfl⟩
 cases hF
 unfold q3x at hF
 refine go ?_
 refine RS.q rfl (q0c rfl rfl rfl (q08 (cI .i64) und33)) ?_
 refine go ?_
 refine cF hF (fun h8 hF=>?_) (fun h8 hF=>?_)
 refine go ?_
 refine WPU.block ?_
 obtain ⟨x9,h10,hF⟩:=q00 hF
 obtain ⟨x11,h12,hF⟩:=q00 hF
 refine go ?_
 refine z2z Tryz.tb_ok [] (by kernel_rfl) ?_
 repeat refine RD.mv rfl rfl rfl rfl ?_
 refine RD.q rfl (q0f rfl rfl (q07 (cI .i64) und33 (q03 inf3) (q13 .i64) h10 rfl)) (RD.q rfl (q0b und3 rfl rfl rfl) ?_)
 repeat refine RD.mv rfl rfl rfl rfl ?_
 refine RD.q rfl (q0f rfl rfl (q07 (cI .i64) und33 (q03 inf3) (q13 .i64) h12 rfl)) (RD.q rfl (q0b und3 rfl rfl rfl) (RD.q rfl (q34 rfl rfl (qpy _ _ _) rfl) ?_))
 refine RD.done ⟨by kernel_rfl,trivial,?_⟩
 refine go ?_
 refine cF hF (fun h13 hF=>?_) (fun h13 hF=>?_)
 exact gx hF
 refine go ?_
 exact lC ⟨_,hF,rfl,rfl⟩
 refine go ?_
 exact xC ⟨hF,rfl,rfl⟩
def q4s   : Option (Bool) :=
 some true
def q2n (p1:List (List Int)) (p2:List (List Int)) (n:Nat):Nat→Int→Option (Bool)
 | 0,_=>none
 | m1+1,z7 =>
  cond (decide (z7<(p1.length:Int)))
   (q04 (q0w p1 z7) fun x9 =>
   q04 (q0w p2 z7) fun x11 =>
   q04 (q5o n x9 x11) fun r13 =>
   cond (!r13)
    (some false)
    ((q2n p1 p2 n m1) (IntKind.i64.wrap (z7+1))))
   (q4s)
def q3y (n:Nat) (p1:List (List Int)) (p2:List (List Int)):Option (Bool) :=
 cond ((p1.length:Int) != (p2.length:Int))
  (some false)
  (q2n p1 p2 n n 0)
theorem q30 (n:Nat) (p1:List (List Int)) (p2:List (List Int)) (r:Bool) (hF:q3y n p1 p2=some r):EvU Tryz.prog 14 [.isl false (List.map (cL (cI .i64)) p1),.isl false (List.map (cL (cI .i64)) p2)] ⟨[],0⟩ (fun u _=>u = .bool r∧Bel 0 u):=by
 unfold q3y at hF
 refine bg2 27 fn14 ?_
 refine go ?_
 refine RS.q rfl (q0c rfl rfl rfl (q08 (cL (cI .i64)) und28)) ?_
 refine go ?_
 refine RS.q rfl (q0c rfl rfl rfl (q08 (cL (cI .i64)) und28)) ?_
 refine go ?_
 refine cF hF (fun h3 hF=>?_) (fun h3 hF=>?_)
 exact gx hF
 refine go ?_
 refine gS (l':=[(0,_),(1,_),(5,_)]) ?_
 refine z2x (fun m tm σ=>∃ z7:Int,q2n p1 p2 n m z7=some r∧tm=fr 27 [(0,.iM (cL (cI .i64)) p1),(1,.iM (cL (cI .i64)) p2),(5,.i6 z7)]∧σ=⟨[],0⟩) (fun tm σ=>q4s=some r∧tm=fr 27 []∧σ=⟨[],0⟩) n ⟨0,hF,rfl,rfl⟩ ?_ ?_
 rintro _ _ ⟨hF,rfl,rfl⟩
 unfold q4s at hF
 exact gx hF
 rintro (_|m1) _ _ ⟨z7,hF,rfl,rfl⟩
 cases hF
 unfold q2n at hF
 refine go ?_
 refine RS.q rfl (q0c rfl rfl rfl (q08 (cL (cI .i64)) und28)) ?_
 refine go ?_
 refine cF hF (fun h8 hF=>?_) (fun h8 hF=>?_)
 refine go ?_
 refine WPU.block ?_
 obtain ⟨x9,h10,hF⟩:=q00 hF
 obtain ⟨x11,h12,hF⟩:=q00 hF
 obtain ⟨r13,h14,hF⟩:=q00 hF
 refine go ?_
 refine z2z Tryz.tb_ok [] (by kernel_rfl) ?_
 repeat refine RD.mv rfl rfl rfl rfl ?_
 refine RD.q rfl (q0f rfl rfl (q07 (cL (cI .i64)) und28 (q03 inf33) (q2x (cI .i64)) h10 rfl)) (RD.q rfl (q0b und33 rfl rfl rfl) ?_)
 repeat refine RD.mv rfl rfl rfl rfl ?_
 refine RD.q rfl (q0f rfl rfl (q07 (cL (cI .i64)) und28 (q03 inf33) (q2x (cI .i64)) h12 rfl)) (RD.q rfl (q0b und33 rfl rfl rfl) (RD.fl rfl (pC (q49 n x9 x11 r13 h14)) fn28 (RD.q rfl (quq rfl rfl rfl rfl) ?_)))
 refine RD.done ⟨by kernel_rfl,trivial,?_⟩
 refine go ?_
 refine cF hF (fun h15 hF=>?_) (fun h15 hF=>?_)
 exact gx hF
 refine go ?_
 exact lC ⟨_,hF,rfl,rfl⟩
 refine go ?_
 exact xC ⟨hF,rfl,rfl⟩
def qbq   : Option (Int) :=
 some 0
def q85 (p1:List q05):Nat→Int→Option (Int)
 | 0,_=>none
 | m1+1,z5 =>
  cond (decide (z5<(p1.length:Int)))
   (q04 (q04 (q0w p1 z5) fun x7 =>
   cond (decide ((x7.Supers.length:Int) > 256))
    (some true)
    (q04 (q0w p1 z5) fun x10 =>
    some (decide ((x10.Feats.length:Int) > 256)))) fun b12 =>
   cond b12
    (some 7)
    ((q85 p1 m1) (IntKind.i64.wrap (z5+1))))
   (qbq)
def qgr (n:Nat) (p1:List q05):Option (Int) :=
 cond (decide ((p1.length:Int) > 256))
  (some 7)
  (q85 p1 n 0)
theorem qop (n:Nat) (p1:List q05) (r:Int) (hF:qgr n p1=some r):EvU Tryz.prog 121 [.isl false (List.map q02 p1)] ⟨[],0⟩ (fun u _=>u = .int .i64 r∧Bel 0 u):=by
 unfold qgr at hF
 refine bg1 29 fn121 ?_
 refine go ?_
 refine RS.q rfl (q0c rfl rfl rfl (q08 q02 und38)) ?_
 refine go ?_
 refine cF hF (fun h2 hF=>?_) (fun h2 hF=>?_)
 exact gx hF
 refine go ?_
 refine gS (l':=[(0,_),(3,_)]) ?_
 refine z2x (fun m tm σ=>∃ z5:Int,q85 p1 m z5=some r∧tm=fr 29 [(0,.iM q02 p1),(3,.i6 z5)]∧σ=⟨[],0⟩) (fun tm σ=>qbq=some r∧tm=fr 29 []∧σ=⟨[],0⟩) n ⟨0,hF,rfl,rfl⟩ ?_ ?_
 rintro _ _ ⟨hF,rfl,rfl⟩
 unfold qbq at hF
 exact gx hF
 rintro (_|m1) _ _ ⟨z5,hF,rfl,rfl⟩
 cases hF
 unfold q85 at hF
 refine go ?_
 refine RS.q rfl (q0c rfl rfl rfl (q08 q02 und38)) ?_
 refine go ?_
 refine cF hF (fun h6 hF=>?_) (fun h6 hF=>?_)
 refine go ?_
 refine WPU.block ?_
 obtain ⟨b12,h13,hF⟩:=q00 hF
 refine gn ?_
 refine z2y (fun tm σ=>tm=fr 29 [(0,.iM q02 p1),(3,.i6 z5),(28,.bool b12)]∧σ=⟨[],0⟩) ?_ ?_
 rintro _ _ ⟨rfl,rfl⟩
 refine go ?_
 refine cF hF (fun h14 hF=>?_) (fun h14 hF=>?_)
 exact gx hF
 refine go ?_
 exact lC ⟨_,hF,rfl,rfl⟩
 obtain ⟨x7,h8,h13⟩:=q00 h13
 rcases gB h13 with ⟨h9,h13⟩ | ⟨h9,h13⟩
 obtain rfl:=sI h13
 refine go ?_
 refine RS.q rfl (q0f rfl rfl (q07 q02 und38 (q03 inf127) q0m h8 rfl)) (RS.q rfl (q1d und127 rfl (q03 inf80) rfl rfl) (RS.q rfl (q0b und80 rfl rfl rfl) (RS.q rfl (q0c rfl rfl rfl (q08 cS und80)) ?_)))
 refine go ?_
 exact xC ⟨rfl,rfl⟩
 obtain ⟨x10,h11,h13⟩:=q00 h13
 obtain rfl:=sI h13
 refine go ?_
 refine RS.q rfl (q0f rfl rfl (q07 q02 und38 (q03 inf127) q0m h8 rfl)) (RS.q rfl (q1d und127 rfl (q03 inf80) rfl rfl) (RS.q rfl (q0b und80 rfl rfl rfl) (RS.q rfl (q0c rfl rfl rfl (q08 cS und80)) ?_)))
 refine go ?_
 refine RS.w rfl (q0f rfl rfl (q07 q02 und38 (q03 inf127) q0m h11 rfl)) (RS.w rfl (q1d und127 rfl (q03 inf125) rfl rfl) (RS.w rfl (q0b und125 rfl rfl rfl) (RS.w rfl (q0c rfl rfl rfl (q08 q0h und125)) ?_)))
 refine go ?_
 exact xC ⟨rfl,rfl⟩
 refine go ?_
 exact xC ⟨hF,rfl,rfl⟩
def qiy (n:Nat) (p1:List UInt8):Option (Bool) :=
 q04 (qd7 n p1 false) fun r2 =>
 some r2
theorem qqi (n:Nat) (p1:List UInt8) (r:Bool) (hF:qiy n p1=some r):EvU Tryz.prog 147 [.str p1] ⟨[],0⟩ (fun u _=>u = .bool r∧Bel 0 u):=by
 unfold qiy at hF
 refine bg1 5 fn147 ?_
 obtain ⟨r2,h3,hF⟩:=q00 hF
 refine go ?_
 refine RS.cl rfl (pC (qht n p1 false r2 h3) _) fn81 ?_
 exact gx hF
def qde   : Option (Int) :=
 some (-1)
def q9j (p1:List q05) (p2:List UInt8):Nat→Int→Option (Int)
 | 0,_=>none
 | m1+1,z6 =>
  cond (decide (z6<(p1.length:Int)))
   (q04 (q0w p1 z6) fun x8 =>
   cond (q1p x8.Name p2)
    (some z6)
    ((q9j p1 p2 m1) (IntKind.i64.wrap (z6+1))))
   (qde)
def q69 (n:Nat) (p1:List q05) (p2:List UInt8):Option (Int) :=
 q9j p1 p2 n 0
theorem q6a (n:Nat) (p1:List q05) (p2:List UInt8) (r:Int) (hF:q69 n p1 p2=some r):EvU Tryz.prog 148 [.isl false (List.map q02 p1),.str p2] ⟨[],0⟩ (fun u _=>u = .int .i64 r∧Bel 0 u):=by
 unfold q69 at hF
 refine bg2 20 fn148 ?_
 refine go ?_
 refine gS (l':=[(0,_),(1,_),(5,_)]) ?_
 refine z2x (fun m tm σ=>∃ z6:Int,q9j p1 p2 m z6=some r∧tm=fr 20 [(0,.iM q02 p1),(1,.str p2),(5,.i6 z6)]∧σ=⟨[],0⟩) (fun tm σ=>qde=some r∧tm=fr 20 []∧σ=⟨[],0⟩) n ⟨0,hF,rfl,rfl⟩ ?_ ?_
 rintro _ _ ⟨hF,rfl,rfl⟩
 unfold qde at hF
 exact gx hF
 rintro (_|m1) _ _ ⟨z6,hF,rfl,rfl⟩
 cases hF
 unfold q9j at hF
 refine go ?_
 refine RS.q rfl (q0c rfl rfl rfl (q08 q02 und38)) ?_
 refine go ?_
 refine cF hF (fun h7 hF=>?_) (fun h7 hF=>?_)
 refine go ?_
 refine WPU.block ?_
 obtain ⟨x8,h9,hF⟩:=q00 hF
 refine go ?_
 refine RS.q rfl (q0f rfl rfl (q07 q02 und38 (q03 inf127) q0m h9 rfl)) (RS.q rfl (q1d und127 rfl (q03 inf9) rfl rfl) (RS.q rfl (q0b und9 rfl rfl rfl) ?_))
 refine go ?_
 refine RS.q (u:=.bool (q1p x8.Name p2)) rfl (q93 rfl rfl rfl rfl) ?_
 refine go ?_
 refine cF hF (fun h10 hF=>?_) (fun h10 hF=>?_)
 exact gx hF
 refine go ?_
 exact lC ⟨_,hF,rfl,rfl⟩
 refine go ?_
 exact xC ⟨hF,rfl,rfl⟩
def qbo   : Option (Int) :=
 some 0
def q83 (p1:List q05) (n:Nat):Nat→Int→Option (Int)
 | 0,_=>none
 | m1+1,z4 =>
  cond (decide (z4<(p1.length:Int)))
   (q04 (q0w p1 z4) fun x6 =>
   q04 (qiy n x6.Name) fun r8 =>
   cond (!r8)
    (some 1)
    (q04 (q0w p1 z4) fun x11 =>
    q04 (q69 n p1 x11.Name) fun r13 =>
    cond (decide (r13<z4))
     (some 4)
     ((q83 p1 n m1) (IntKind.i64.wrap (z4+1)))))
   (qbo)
def qgp (n:Nat) (p1:List q05):Option (Int) :=
 q83 p1 n n 0
theorem qon (n:Nat) (p1:List q05) (r:Int) (hF:qgp n p1=some r):EvU Tryz.prog 122 [.isl false (List.map q02 p1)] ⟨[],0⟩ (fun u _=>u = .int .i64 r∧Bel 0 u):=by
 unfold qgp at hF
 refine bg1 26 fn122 ?_
 refine go ?_
 refine gS (l':=[(0,_),(3,_)]) ?_
 refine z2x (fun m tm σ=>∃ z4:Int,q83 p1 n m z4=some r∧tm=fr 26 [(0,.iM q02 p1),(3,.i6 z4)]∧σ=⟨[],0⟩) (fun tm σ=>qbo=some r∧tm=fr 26 []∧σ=⟨[],0⟩) n ⟨0,hF,rfl,rfl⟩ ?_ ?_
 rintro _ _ ⟨hF,rfl,rfl⟩
 unfold qbo at hF
 exact gx hF
 rintro (_|m1) _ _ ⟨z4,hF,rfl,rfl⟩
 cases hF
 unfold q83 at hF
 refine go ?_
 refine RS.q rfl (q0c rfl rfl rfl (q08 q02 und38)) ?_
 refine go ?_
 refine cF hF (fun h5 hF=>?_) (fun h5 hF=>?_)
 refine go ?_
 refine WPU.block ?_
 obtain ⟨x6,h7,hF⟩:=q00 hF
 obtain ⟨r8,h9,hF⟩:=q00 hF
 refine go ?_
 refine RS.q rfl (q0f rfl rfl (q07 q02 und38 (q03 inf127) q0m h7 rfl)) (RS.q rfl (q1d und127 rfl (q03 inf9) rfl rfl) (RS.q rfl (q0b und9 rfl rfl rfl) (RS.cl rfl (pC (qqi n x6.Name r8 h9) _) fn147 ?_)))
 refine go ?_
 refine cF hF (fun h10 hF=>?_) (fun h10 hF=>?_)
 exact gx hF
 obtain ⟨x11,h12,hF⟩:=q00 hF
 obtain ⟨r13,h14,hF⟩:=q00 hF
 refine go ?_
 refine RS.q rfl (q0f rfl rfl (q07 q02 und38 (q03 inf127) q0m h12 rfl)) (RS.q rfl (q1d und127 rfl (q03 inf9) rfl rfl) (RS.q rfl (q0b und9 rfl rfl rfl) (RS.cl rfl (pC (q6a n p1 x11.Name r13 h14) _) fn148 ?_)))
 refine go ?_
 refine cF hF (fun h15 hF=>?_) (fun h15 hF=>?_)
 exact gx hF
 refine go ?_
 exact lC ⟨_,hF,rfl,rfl⟩
 refine go ?_
 exact xC ⟨hF,rfl,rfl⟩
def qbh   : Option (Bool) :=
 some false
def q7y (p1:List (List UInt8)) (p2:List UInt8):Nat→Int→Option (Bool)
 | 0,_=>none
 | m1+1,z6 =>
  cond (decide (z6<(p1.length:Int)))
   (q04 (q0w p1 z6) fun x8 =>
   cond (q1p x8 p2)
    (some true)
    ((q7y p1 p2 m1) (IntKind.i64.wrap (z6+1))))
   (qbh)
def q36 (n:Nat) (p1:List (List UInt8)) (p2:List UInt8):Option (Bool) :=
 q7y p1 p2 n 0
theorem q29 (n:Nat) (p1:List (List UInt8)) (p2:List UInt8) (r:Bool) (hF:q36 n p1 p2=some r):EvU Tryz.prog 126 [.isl false (List.map cS p1),.str p2] ⟨[],0⟩ (fun u _=>u = .bool r∧Bel 0 u):=by
 unfold q36 at hF
 refine bg2 18 fn126 ?_
 refine go ?_
 refine gS (l':=[(0,_),(1,_),(5,_)]) ?_
 refine z2x (fun m tm σ=>∃ z6:Int,q7y p1 p2 m z6=some r∧tm=fr 18 [(0,.iM cS p1),(1,.str p2),(5,.i6 z6)]∧σ=⟨[],0⟩) (fun tm σ=>qbh=some r∧tm=fr 18 []∧σ=⟨[],0⟩) n ⟨0,hF,rfl,rfl⟩ ?_ ?_
 rintro _ _ ⟨hF,rfl,rfl⟩
 unfold qbh at hF
 exact gx hF
 rintro (_|m1) _ _ ⟨z6,hF,rfl,rfl⟩
 cases hF
 unfold q7y at hF
 refine go ?_
 refine RS.q rfl (q0c rfl rfl rfl (q08 cS und80)) ?_
 refine go ?_
 refine cF hF (fun h7 hF=>?_) (fun h7 hF=>?_)
 refine go ?_
 refine WPU.block ?_
 obtain ⟨x8,h9,hF⟩:=q00 hF
 refine go ?_
 refine RS.q rfl (q0f rfl rfl (q07 cS und80 (q03 inf9) q1m h9 rfl)) (RS.q rfl (q0b und9 rfl rfl rfl) ?_)
 refine go ?_
 refine RS.q (u:=.bool (q1p x8 p2)) rfl (q93 rfl rfl rfl rfl) ?_
 refine go ?_
 refine cF hF (fun h10 hF=>?_) (fun h10 hF=>?_)
 exact gx hF
 refine go ?_
 exact lC ⟨_,hF,rfl,rfl⟩
 refine go ?_
 exact xC ⟨hF,rfl,rfl⟩
def qa9 (z4:Int) (rc1:Int→Option (Int))  : Option (Int) :=
 rc1 (IntKind.i64.wrap (z4+1))
def q6q (p1:List q05) (n:Nat) (z4:Int) (rc1:Int→Option (Int)) (x6:q05):Nat→Int→Option (Int)
 | 0,_=>none
 | m2+1,z12 =>
  cond (decide (z12<(x6.Supers.length:Int)))
   (q04 (q0w x6.Supers z12) fun x14 =>
   q04 (q69 n p1 x14) fun r16 =>
   cond (decide (r16<0))
    (some 5)
    (q04 (z0b x6.Supers 0 z12) fun l19 =>
    q04 (q0w x6.Supers z12) fun x23 =>
    q04 (q36 n l19 x23) fun r25 =>
    cond r25
     (some 4)
     ((q6q p1 n z4 rc1 x6 m2) (IntKind.i64.wrap (z12+1)))))
   (qa9 z4 rc1)
def qa8   : Option (Int) :=
 some 0
def q3z (p1:List q05) (n:Nat):Nat→Int→Option (Int)
 | 0,_=>none
 | m1+1,z4 =>
  cond (decide (z4<(p1.length:Int)))
   (q04 (q0w p1 z4) fun x6 =>
   q6q p1 n z4 (q3z p1 n m1) x6 n 0)
   (qa8)
def qes (n:Nat) (p1:List q05):Option (Int) :=
 q3z p1 n n 0
theorem qmx (n:Nat) (p1:List q05) (r:Int) (hF:qes n p1=some r):EvU Tryz.prog 123 [.isl false (List.map q02 p1)] ⟨[],0⟩ (fun u _=>u = .int .i64 r∧Bel 0 u):=by
 unfold qes at hF
 refine bg1 38 fn123 ?_
 refine go ?_
 refine gS (l':=[(0,_),(3,_)]) ?_
 refine z2x (fun m tm σ=>∃ z4:Int,q3z p1 n m z4=some r∧tm=fr 38 [(0,.iM q02 p1),(3,.i6 z4)]∧σ=⟨[],0⟩) (fun tm σ=>qa8=some r∧tm=fr 38 []∧σ=⟨[],0⟩) n ⟨0,hF,rfl,rfl⟩ ?_ ?_
 rintro _ _ ⟨hF,rfl,rfl⟩
 unfold qa8 at hF
 exact gx hF
 rintro (_|m1) _ _ ⟨z4,hF,rfl,rfl⟩
 cases hF
 unfold q3z at hF
 refine go ?_
 refine RS.q rfl (q0c rfl rfl rfl (q08 q02 und38)) ?_
 refine go ?_
 refine cF hF (fun h5 hF=>?_) (fun h5 hF=>?_)
 refine go ?_
 refine WPU.block ?_
 obtain ⟨x6,h7,hF⟩:=q00 hF
 refine go ?_
 refine RS.q rfl (q0f rfl rfl (q07 q02 und38 (q03 inf127) q0m h7 rfl)) (RS.q rfl (q1d und127 rfl (q03 inf80) rfl rfl) (RS.q rfl (q0b und80 rfl rfl rfl) ?_))
 refine go ?_
 refine gS (l':=[(0,_),(3,_),(4,_),(5,_)]) ?_
 refine z2x (fun m tm σ=>∃ z12:Int,q6q p1 n z4 (q3z p1 n m1) x6 m z12=some r∧tm=fr 38 [(0,.iM q02 p1),(3,.i6 z4),(4,.iM cS x6.Supers),(5,.i6 z12)]∧σ=⟨[],0⟩) (fun tm σ=>qa9 z4 (q3z p1 n m1)=some r∧tm=fr 38 [(0,.iM q02 p1),(3,.i6 z4)]∧σ=⟨[],0⟩) n ⟨0,hF,rfl,rfl⟩ ?_ ?_
 rintro _ _ ⟨hF,rfl,rfl⟩
 unfold qa9 at hF
 refine go ?_
 exact lC ⟨_,hF,rfl,rfl⟩
 rintro (_|m2) _ _ ⟨z12,hF,rfl,rfl⟩
 cases hF
 unfold q6q at hF
 refine go ?_
 refine RS.q rfl (q0c rfl rfl rfl (q08 cS und80)) ?_
 refine go ?_
 refine cF hF (fun h13 hF=>?_) (fun h13 hF=>?_)
 refine go ?_
 refine WPU.block ?_
 obtain ⟨x14,h15,hF⟩:=q00 hF
 obtain ⟨r16,h17,hF⟩:=q00 hF
 refine go ?_
 refine RS.q rfl (q0f rfl rfl (q07 cS und80 (q03 inf9) q1m h15 rfl)) (RS.q rfl (q0b und9 rfl rfl rfl) (RS.cl rfl (pC (q6a n p1 x14 r16 h17) _) fn148 ?_))
 refine go ?_
 refine cF hF (fun h18 hF=>?_) (fun h18 hF=>?_)
 exact gx hF
 obtain ⟨l19,h20,hF⟩:=q00 hF
 obtain ⟨h21,h22⟩:=qvp cS .i64 h20
 obtain ⟨x23,h24,hF⟩:=q00 hF
 obtain ⟨r25,h26,hF⟩:=q00 hF
 refine go ?_
 refine z2z Tryz.tb_ok [] (by kernel_rfl) ?_
 repeat refine RD.mv rfl rfl rfl rfl ?_
 refine RD.q (u:=.iM cS l19) rfl (qb0 rfl qr4 (z0e rfl) qr4 (qtu cS und80 (q03 inf9) q1m h21 h22)) ?_
 repeat refine RD.mv rfl rfl rfl rfl ?_
 refine RD.q rfl (q0f rfl rfl (q07 cS und80 (q03 inf9) q1m h24 rfl)) (RD.q rfl (q0b und9 rfl rfl rfl) (RD.fl rfl (pC (q29 n l19 x23 r25 h26)) fn126 ?_))
 refine RD.done ⟨by kernel_rfl,trivial,?_⟩
 refine go ?_
 refine cF hF (fun h27 hF=>?_) (fun h27 hF=>?_)
 exact gx hF
 refine go ?_
 exact lC ⟨_,hF,rfl,rfl⟩
 refine go ?_
 exact xC ⟨hF,rfl,rfl⟩
 refine go ?_
 exact xC ⟨hF,rfl,rfl⟩
def qbp   : Option (Bool) :=
 some true
def q84 (p1:q05) (p2:List (List UInt8)) (n:Nat):Nat→Int→Option (Bool)
 | 0,_=>none
 | m1+1,z8 =>
  cond (decide (z8<(p1.Supers.length:Int)))
   (q04 (q0w p1.Supers z8) fun x10 =>
   q04 (q36 n p2 x10) fun r12 =>
   cond (!r12)
    (some false)
    ((q84 p1 p2 n m1) (IntKind.i64.wrap (z8+1))))
   (qbp)
def qgq (n:Nat) (p1:q05) (p2:List (List UInt8)):Option (Bool) :=
 q84 p1 p2 n n 0
theorem qoo (n:Nat) (p1:q05) (p2:List (List UInt8)) (r:Bool) (hF:qgq n p1 p2=some r):EvU Tryz.prog 149 [.agg (q02 p1),.isl false (List.map cS p2)] ⟨[],0⟩ (fun u _=>u = .bool r∧Bel 0 u):=by
 unfold qgq at hF
 refine bg2 21 fn149 ?_
 refine go ?_
 refine RS.q (u:=.ptr 0 0 0) (σ':=⟨[(0,.row (q02 p1) 127)],1⟩) rfl (q3r rfl rfl rfl) ?_
 refine go ?_
 refine gS (l':=[(1,_),(2,_),(5,_)]) ?_
 refine z2x (fun m tm σ=>∃ z8:Int,q84 p1 p2 n m z8=some r∧tm=fr 21 [(1,.iM cS p2),(2,.ptr 0 0 0),(5,.i6 z8)]∧σ=⟨[(0,.row (q02 p1) 127)],1⟩) (fun tm σ=>qbp=some r∧tm=fr 21 []∧σ=⟨[(0,.row (q02 p1) 127)],1⟩) n ⟨0,hF,rfl,rfl⟩ ?_ ?_
 rintro _ _ ⟨hF,rfl,rfl⟩
 unfold qbp at hF
 exact gx hF
 rintro (_|m1) _ _ ⟨z8,hF,rfl,rfl⟩
 cases hF
 unfold q84 at hF
 refine go ?_
 refine RS.q rfl (q0z und127 rfl (q03 inf80) rfl rfl rfl) (RS.q rfl (q0n und80 rfl rfl rfl rfl) (RS.q rfl (q0c rfl rfl rfl (q08 cS und80)) ?_))
 refine go ?_
 refine cF hF (fun h9 hF=>?_) (fun h9 hF=>?_)
 refine go ?_
 refine WPU.block ?_
 obtain ⟨x10,h11,hF⟩:=q00 hF
 obtain ⟨r12,h13,hF⟩:=q00 hF
 refine go ?_
 refine RS.q rfl (q0z und127 rfl (q03 inf80) rfl rfl rfl) (RS.q rfl (q0n und80 rfl rfl rfl rfl) ?_)
 refine go ?_
 refine RS.q rfl (q0f rfl rfl (q07 cS und80 (q03 inf9) q1m h11 rfl)) (RS.q rfl (q0b und9 rfl rfl rfl) (RS.cl rfl (pC (q29 n p2 x10 r12 h13) _) fn126 ?_))
 refine go ?_
 refine cF hF (fun h14 hF=>?_) (fun h14 hF=>?_)
 exact gx hF
 refine go ?_
 exact lC ⟨_,hF,rfl,rfl⟩
 refine go ?_
 exact xC ⟨hF,rfl,rfl⟩
def q6o (rc1:Bool→(List (List UInt8))→Option ((List (List UInt8)))) (b21:Bool) (l24:List (List UInt8)):Option ((List (List UInt8))) :=
 rc1 b21 l24
def q6p (z20:Int) (rc2:Bool→(List UInt8)→Int→Option ((List (List UInt8)))) (s46:List UInt8):Option ((List (List UInt8))) :=
 rc2 true s46 (IntKind.i64.wrap (z20+1))
def qa7 (l7:List (List UInt8)) (rc1:Bool→(List (List UInt8))→Option ((List (List UInt8)))) (b21:Bool) (s22:List UInt8):Option ((List (List UInt8))) :=
 cond b21
  (q1b ((l7.length+1)*16≤140737488355328∧l7.length+1≤140737488355328) (
  q6o rc1 b21 (l7++[s22])))
  (q6o rc1 b21 l7)
def q37 (p1:List q05) (n:Nat) (l7:List (List UInt8)) (rc1:Bool→(List (List UInt8))→Option ((List (List UInt8)))):Nat→Bool→(List UInt8)→Int→Option ((List (List UInt8)))
 | 0,_,_,_=>none
 | m2+1,b18,s19,z20 =>
  cond (decide (z20<(p1.length:Int)))
   (q04 (q04 (q0w p1 z20) fun x28 =>
   q04 (q36 n l7 x28.Name) fun r30 =>
   cond r30
    (some true)
    (q04 (q0w p1 z20) fun x33 =>
    q04 (qgq n x33 l7) fun r35 =>
    some (!r35))) fun b37 =>
   cond b37
    ((q37 p1 n l7 rc1 m2) b18 s19 (IntKind.i64.wrap (z20+1)))
    (q04 (cond (!b18)
     (some true)
     (q04 (q0w p1 z20) fun x41 =>
     some (q60 x41.Name s19))) fun b43 =>
    cond b43
     (q04 (q0w p1 z20) fun x47 =>
     q6p z20 (q37 p1 n l7 rc1 m2) x47.Name)
     (q6p z20 (q37 p1 n l7 rc1 m2) s19)))
   (qa7 l7 rc1 b18 s19)
def qa6  (l9:List (List UInt8)):Option ((List (List UInt8))) :=
 some l9
def q2i (p1:List q05) (n:Nat):Nat→Bool→(List (List UInt8))→Option ((List (List UInt8)))
 | 0,_,_=>none
 | m1+1,b6,l7 =>
  cond b6
   (q37 p1 n l7 (q2i p1 n m1) n false [] 0)
   (qa6 l7)
def qer (n:Nat) (p1:List q05):Option ((List (List UInt8))) :=
 q2i p1 n n true ([]:List (List UInt8))
theorem qmw (n:Nat) (p1:List q05) (r:(List (List UInt8))) (hF:qer n p1=some r):EvU Tryz.prog 124 [.isl false (List.map q02 p1)] ⟨[],0⟩ (fun u _=>u = .isl false (List.map cS r)∧Bel 0 u):=by
 unfold qer at hF
 refine bg1 52 fn124 ?_
 refine gr ?_
 refine gr ?_
 refine gr ?_
 refine WPU.ghost (tm':=fr 52 [(0,.iM q02 p1),(3,.vl 0 0 0 (([]:List (List UInt8)).length)),(4,.bool true)]) (σ':=⟨[(0,.vec (List.map cS ([]:List (List UInt8))).flatten 9 1 0)],1⟩) (Gh.trans (z39 3 9 1 (by decide) NZ rfl rfl) (z38 ⟨rfl,rfl,rfl,trivial⟩ rfl)) NZ ?_
 refine gS (l':=[(0,_),(3,_),(4,_)]) ?_
 refine z2x (fun m tm σ=>∃ b6:Bool,∃ l7:List (List UInt8),∃ t8:Nat,q2i p1 n m b6 l7=some r∧tm=fr 52 [(0,.iM q02 p1),(3,.vl 0 t8 0 l7.length),(4,.bool b6)]∧σ=⟨[(0,.vec (List.map cS l7).flatten 9 1 t8)],1⟩) (fun tm σ=>∃ l9:List (List UInt8),∃ t10:Nat,qa6 l9=some r∧tm=fr 52 [(3,.vl 0 t10 0 l9.length)]∧σ=⟨[(0,.vec (List.map cS l9).flatten 9 1 t10)],1⟩) n ⟨true,([]:List (List UInt8)),0,hF,rfl,rfl⟩ ?_ ?_
 rintro _ _ ⟨l9,t10,hF,rfl,rfl⟩
 unfold qa6 at hF
 refine go ?_
 obtain rfl:=sI hF
 exact rT (us:=[.vl 0 t10 0 l9.length]) (u:=.iM cS l9) (q2l rfl (q3b)) (fR 0 1)
 rintro (_|m1) _ _ ⟨b6,l7,t8,hF,rfl,rfl⟩
 cases hF
 unfold q2i at hF
 refine go ?_
 refine cF hF (fun h11 hF=>?_) (fun h11 hF=>?_)
 refine go ?_
 refine WPU.block ?_
 refine go ?_
 refine gS (l':=[(0,_),(3,_),(4,_),(5,_),(6,_)]) ?_
 refine z2x (fun m tm σ=>∃ b18:Bool,∃ s19:List UInt8,∃ z20:Int,q37 p1 n l7 (q2i p1 n m1) m b18 s19 z20=some r∧tm=fr 52 [(0,.iM q02 p1),(3,.vl 0 t8 0 l7.length),(4,.bool b18),(5,.str s19),(6,.i6 z20)]∧σ=⟨[(0,.vec (List.map cS l7).flatten 9 1 t8)],1⟩) (fun tm σ=>∃ b21:Bool,∃ s22:List UInt8,qa7 l7 (q2i p1 n m1) b21 s22=some r∧tm=fr 52 [(0,.iM q02 p1),(3,.vl 0 t8 0 l7.length),(4,.bool b21),(5,.str s22)]∧σ=⟨[(0,.vec (List.map cS l7).flatten 9 1 t8)],1⟩) n ⟨false,[],0,hF,rfl,rfl⟩ ?_ ?_
 rintro _ _ ⟨b21,s22,hF,rfl,rfl⟩
 unfold qa7 at hF
 refine gr ?_
 refine z2y (fun tm σ=>∃ l24:List (List UInt8),∃ t25:Nat,q6o (q2i p1 n m1) b21 l24=some r∧tm=fr 52 [(0,.iM q02 p1),(3,.vl 0 t25 0 l24.length),(4,.bool b21)]∧σ=⟨[(0,.vec (List.map cS l24).flatten 9 1 t25)],1⟩) ?_ ?_
 rintro _ _ ⟨l24,t25,hF,rfl,rfl⟩
 unfold q6o at hF
 refine go ?_
 exact lC ⟨b21,l24,t25,hF,rfl,rfl⟩
 refine cF hF (fun h23 hF=>?_) (fun h23 hF=>?_)
 obtain ⟨h26,hF⟩:=q09 hF
 refine go ?_
 refine RS.q (u:=.sl 1 0 1 1) (σ':=⟨[(1,.row [.str s22] 9),(0,.vec (List.map cS l7).flatten 9 1 t8)],2⟩) rfl (q0k und80 inf9 rfl rfl rfl rfl rfl rfl rfl) (RS.q (u:=.vl 0 (t8+1) 0 ((l7++[s22]).length)) (σ':=⟨[(1,.row [.str s22] 9),(0,.vec (List.map cS (l7++[s22])).flatten 9 1 (t8+1))],2⟩) rfl (q1i rfl rfl rfl rfl (q1s cS ([s22]) und80 und80 inf9 rfl q1m rfl (q1l cS [s22] rfl rfl rfl rfl) h26)) ?_)
 refine go ?_
 exact xC ⟨(l7++[s22]),(t8+1),hF,rfl,rfl⟩
 refine go ?_
 exact xC ⟨l7,t8,hF,rfl,rfl⟩
 rintro (_|m2) _ _ ⟨b18,s19,z20,hF,rfl,rfl⟩
 cases hF
 unfold q37 at hF
 refine go ?_
 refine RS.q rfl (q0c rfl rfl rfl (q08 q02 und38)) ?_
 refine go ?_
 refine cF hF (fun h27 hF=>?_) (fun h27 hF=>?_)
 refine go ?_
 refine WPU.block ?_
 obtain ⟨b37,h38,hF⟩:=q00 hF
 refine gn ?_
 refine z2y (fun tm σ=>tm=fr 52 [(0,.iM q02 p1),(3,.vl 0 t8 0 l7.length),(4,.bool b18),(5,.str s19),(6,.i6 z20),(29,.bool b37)]∧σ=⟨[(0,.vec (List.map cS l7).flatten 9 1 t8)],1⟩) ?_ ?_
 rintro _ _ ⟨rfl,rfl⟩
 refine go ?_
 refine cF hF (fun h39 hF=>?_) (fun h39 hF=>?_)
 refine go ?_
 exact lC ⟨b18,s19,(IntKind.i64.wrap (z20+1)),hF,rfl,rfl⟩
 obtain ⟨b43,h44,hF⟩:=q00 hF
 refine gn ?_
 refine z2y (fun tm σ=>tm=fr 52 [(0,.iM q02 p1),(3,.vl 0 t8 0 l7.length),(5,.str s19),(6,.i6 z20),(40,.bool b43)]∧σ=⟨[(0,.vec (List.map cS l7).flatten 9 1 t8)],1⟩) ?_ ?_
 rintro _ _ ⟨rfl,rfl⟩
 refine gn ?_
 refine z2y (fun tm σ=>∃ s46:List UInt8,q6p z20 (q37 p1 n l7 (q2i p1 n m1) m2) s46=some r∧tm=fr 52 [(0,.iM q02 p1),(3,.vl 0 t8 0 l7.length),(5,.str s46),(6,.i6 z20)]∧σ=⟨[(0,.vec (List.map cS l7).flatten 9 1 t8)],1⟩) ?_ ?_
 rintro _ _ ⟨s46,hF,rfl,rfl⟩
 unfold q6p at hF
 refine go ?_
 exact lC ⟨true,s46,(IntKind.i64.wrap (z20+1)),hF,rfl,rfl⟩
 refine cF hF (fun h45 hF=>?_) (fun h45 hF=>?_)
 obtain ⟨x47,h48,hF⟩:=q00 hF
 refine go ?_
 refine RS.q rfl (q0f rfl rfl (q07 q02 und38 (q03 inf127) q0m h48 rfl)) (RS.q rfl (q1d und127 rfl (q03 inf9) rfl rfl) (RS.q rfl (q0b und9 rfl rfl rfl) ?_))
 refine go ?_
 exact xC ⟨x47.Name,hF,rfl,rfl⟩
 refine go ?_
 exact xC ⟨s19,hF,rfl,rfl⟩
 rcases gB h44 with ⟨h40,h44⟩ | ⟨h40,h44⟩
 exact gy h44
 obtain ⟨x41,h42,h44⟩:=q00 h44
 obtain rfl:=sI h44
 refine go ?_
 refine RS.w rfl (q0f rfl rfl (q07 q02 und38 (q03 inf127) q0m h42 rfl)) (RS.w rfl (q1d und127 rfl (q03 inf9) rfl rfl) (RS.w rfl (q0b und9 rfl rfl rfl) ?_))
 refine go ?_
 refine RS.w (u:=.bool (q60 x41.Name s19)) rfl (q93 rfl rfl rfl rfl) ?_
 refine go ?_
 exact xC ⟨rfl,rfl⟩
 obtain ⟨x28,h29,h38⟩:=q00 h38
 obtain ⟨r30,h31,h38⟩:=q00 h38
 rcases gB h38 with ⟨h32,h38⟩ | ⟨h32,h38⟩
 obtain rfl:=sI h38
 refine go ?_
 refine RS.q rfl (q0f rfl rfl (q07 q02 und38 (q03 inf127) q0m h29 rfl)) (RS.q rfl (q1d und127 rfl (q03 inf9) rfl rfl) (RS.q rfl (q0b und9 rfl rfl rfl) (RS.cl rfl (vw (q29 n l7 x28.Name r30 h31) (z34 0 1)) fn126 ?_)))
 refine go ?_
 exact xC ⟨rfl,rfl⟩
 obtain ⟨x33,h34,h38⟩:=q00 h38
 obtain ⟨r35,h36,h38⟩:=q00 h38
 obtain rfl:=sI h38
 refine go ?_
 refine RS.q rfl (q0f rfl rfl (q07 q02 und38 (q03 inf127) q0m h29 rfl)) (RS.q rfl (q1d und127 rfl (q03 inf9) rfl rfl) (RS.q rfl (q0b und9 rfl rfl rfl) (RS.cl rfl (vw (q29 n l7 x28.Name r30 h31) (z34 0 1)) fn126 ?_)))
 refine go ?_
 refine RS.w rfl (q0f rfl rfl (q07 q02 und38 (q03 inf127) q0m h34 rfl)) (RS.w (u:=.agg (q02 x33)) rfl (qav und127 rfl (q03 inf127) rfl rfl) ?_)
 refine go ?_
 refine RS.cl rfl (vw (qoo n x33 l7 r35 h36) (z34 0 1)) fn149 ?_
 refine go ?_
 exact xC ⟨rfl,rfl⟩
 refine go ?_
 exact xC ⟨b18,s19,hF,rfl,rfl⟩
 refine go ?_
 exact xC ⟨l7,t8,hF,rfl,rfl⟩
def q81 (z15:Int) (rc1:Int→Int→Option (Int)) (z25:Int):Option (Int) :=
 rc1 z25 (IntKind.i64.wrap (z15+1))
def qbl (p1:List q05) (n:Nat) (z16:Int):Option (Int) :=
 cond (z16 != 1)
  (some 1)
  (q04 (qer n p1) fun r18 =>
  cond (decide ((r18.length:Int)<(p1.length:Int)))
   (some 6)
   (some 0))
def q4g (p1:List q05) (n:Nat):Nat→Int→Int→Option (Int)
 | 0,_,_=>none
 | m1+1,z14,z15 =>
  cond (decide (z15<(p1.length:Int)))
   (q04 (q0w p1 z15) fun x22 =>
   cond ((x22.Supers.length:Int) == 0)
    (q81 z15 (q4g p1 n m1) (IntKind.i64.wrap (z14+1)))
    (q81 z15 (q4g p1 n m1) z14))
   (qbl p1 n z14)
def qgo (n:Nat) (p1:List q05):Option (Int) :=
 q04 (qgr n p1) fun r2 =>
 cond (r2 != 0)
  (some r2)
  (q04 (qgp n p1) fun r5 =>
  cond (r5 != 0)
   (some r5)
   (q04 (qes n p1) fun r8 =>
   cond (r8 != 0)
    (some r8)
    (q4g p1 n n 0 0)))
theorem qom (n:Nat) (p1:List q05) (r:Int) (hF:qgo n p1=some r):EvU Tryz.prog 94 [.isl false (List.map q02 p1)] ⟨[],0⟩ (fun u _=>u = .int .i64 r∧Bel 0 u):=by
 unfold qgo at hF
 refine bg1 46 fn94 ?_
 obtain ⟨r2,h3,hF⟩:=q00 hF
 refine go ?_
 refine RS.cl rfl (pC (qop n p1 r2 h3) _) fn121 ?_
 refine go ?_
 refine cF hF (fun h4 hF=>?_) (fun h4 hF=>?_)
 exact gx hF
 obtain ⟨r5,h6,hF⟩:=q00 hF
 refine go ?_
 refine RS.cl rfl (pC (qon n p1 r5 h6) _) fn122 ?_
 refine go ?_
 refine cF hF (fun h7 hF=>?_) (fun h7 hF=>?_)
 exact gx hF
 obtain ⟨r8,h9,hF⟩:=q00 hF
 refine go ?_
 refine RS.cl rfl (pC (qmx n p1 r8 h9) _) fn123 ?_
 refine go ?_
 refine cF hF (fun h10 hF=>?_) (fun h10 hF=>?_)
 exact gx hF
 refine go ?_
 refine gS (l':=[(0,_),(6,_),(7,_)]) ?_
 refine z2x (fun m tm σ=>∃ z14:Int,∃ z15:Int,q4g p1 n m z14 z15=some r∧tm=fr 46 [(0,.iM q02 p1),(6,.i6 z14),(7,.i6 z15)]∧σ=⟨[],0⟩) (fun tm σ=>∃ z16:Int,qbl p1 n z16=some r∧tm=fr 46 [(0,.iM q02 p1),(6,.i6 z16)]∧σ=⟨[],0⟩) n ⟨0,0,hF,rfl,rfl⟩ ?_ ?_
 rintro _ _ ⟨z16,hF,rfl,rfl⟩
 unfold qbl at hF
 refine go ?_
 refine cF hF (fun h17 hF=>?_) (fun h17 hF=>?_)
 exact gx hF
 obtain ⟨r18,h19,hF⟩:=q00 hF
 refine go ?_
 refine RS.cl rfl (pC (qmw n p1 r18 h19) _) fn124 (RS.q rfl (q0c rfl rfl rfl (q08 cS und80)) ?_)
 refine go ?_
 refine RS.q rfl (q0c rfl rfl rfl (q08 q02 und38)) ?_
 refine go ?_
 refine cF hF (fun h20 hF=>?_) (fun h20 hF=>?_)
 exact gx hF
 exact gx hF
 rintro (_|m1) _ _ ⟨z14,z15,hF,rfl,rfl⟩
 cases hF
 unfold q4g at hF
 refine go ?_
 refine RS.q rfl (q0c rfl rfl rfl (q08 q02 und38)) ?_
 refine go ?_
 refine cF hF (fun h21 hF=>?_) (fun h21 hF=>?_)
 refine go ?_
 refine WPU.block ?_
 obtain ⟨x22,h23,hF⟩:=q00 hF
 refine go ?_
 refine RS.q rfl (q0f rfl rfl (q07 q02 und38 (q03 inf127) q0m h23 rfl)) (RS.q rfl (q1d und127 rfl (q03 inf80) rfl rfl) (RS.q rfl (q0b und80 rfl rfl rfl) (RS.q rfl (q0c rfl rfl rfl (q08 cS und80)) ?_)))
 refine gn ?_
 refine z2y (fun tm σ=>∃ z25:Int,q81 z15 (q4g p1 n m1) z25=some r∧tm=fr 46 [(0,.iM q02 p1),(6,.i6 z25),(7,.i6 z15)]∧σ=⟨[],0⟩) ?_ ?_
 rintro _ _ ⟨z25,hF,rfl,rfl⟩
 unfold q81 at hF
 refine go ?_
 exact lC ⟨z25,(IntKind.i64.wrap (z15+1)),hF,rfl,rfl⟩
 refine cF hF (fun h24 hF=>?_) (fun h24 hF=>?_)
 refine go ?_
 exact xC ⟨(IntKind.i64.wrap (z14+1)),hF,rfl,rfl⟩
 refine go ?_
 exact xC ⟨z14,hF,rfl,rfl⟩
 refine go ?_
 exact xC ⟨z14,hF,rfl,rfl⟩
def qeq (p1:List (List UInt8)) (p2:List UInt8) (z7:Int):Option ((List (List UInt8))) :=
 q04 (cond (decide (z7<(p1.length:Int)))
  (q04 (q0w p1 z7) fun x9 =>
  some (q1p x9 p2))
  (some false)) fun b11 =>
 cond b11
  (some p1)
  (q04 (z0b p1 0 z7) fun l14 =>
  q1b (l14.length*16≤140737488355328∧l14.length≤140737488355328) (
  q1b ((l14.length+1)*16≤140737488355328∧l14.length+1≤140737488355328) (
  q04 (z0b p1 z7 (p1.length:Int)) fun l20 =>
  q1b (((l14++[p2]).length+l20.length)*16≤140737488355328∧(l14++[p2]).length+l20.length≤140737488355328) (
  some ((l14++[p2])++l20)))))
def qb4 (p1:List (List UInt8)) (p2:List UInt8):Nat→Int→Option ((List (List UInt8)))
 | 0,_=>none
 | m1+1,z6 =>
  q04 (cond (decide (z6<(p1.length:Int)))
   (q04 (q0w p1 z6) fun x26 =>
   some (q60 x26 p2))
   (some false)) fun b28 =>
  cond b28
   ((qb4 p1 p2 m1) (IntKind.i64.wrap (z6+1)))
   (qeq p1 p2 z6)
def q8l (n:Nat) (p1:List (List UInt8)) (p2:List UInt8):Option ((List (List UInt8))) :=
 qb4 p1 p2 n 0
theorem q7f (n:Nat) (p1:List (List UInt8)) (p2:List UInt8) (r:(List (List UInt8))) (hF:q8l n p1 p2=some r):EvU Tryz.prog 116 [.isl false (List.map cS p1),.str p2] ⟨[],0⟩ (fun u _=>u = .isl false (List.map cS r)∧Bel 0 u):=by
 unfold q8l at hF
 refine bg2 48 fn116 ?_
 refine go ?_
 refine gS (l':=[(0,_),(1,_),(5,_),(6,_)]) ?_
 refine z2x (fun m tm σ=>∃ z6:Int,qb4 p1 p2 m z6=some r∧tm=fr 48 [(0,.iM cS p1),(1,.str p2),(5,.nils),(6,.i6 z6)]∧σ=⟨[],0⟩) (fun tm σ=>∃ z7:Int,qeq p1 p2 z7=some r∧tm=fr 48 [(0,.iM cS p1),(1,.str p2),(5,.nils),(6,.i6 z7)]∧σ=⟨[],0⟩) n ⟨0,hF,rfl,rfl⟩ ?_ ?_
 rintro _ _ ⟨z7,hF,rfl,rfl⟩
 unfold qeq at hF
 obtain ⟨b11,h12,hF⟩:=q00 hF
 refine gn ?_
 refine z2y (fun tm σ=>tm=fr 48 [(0,.iM cS p1),(1,.str p2),(5,.nils),(6,.i6 z7),(32,.bool b11)]∧σ=⟨[],0⟩) ?_ ?_
 rintro _ _ ⟨rfl,rfl⟩
 refine go ?_
 refine cF hF (fun h13 hF=>?_) (fun h13 hF=>?_)
 exact gx hF
 obtain ⟨l14,h15,hF⟩:=q00 hF
 obtain ⟨h16,h17⟩:=qvp cS .i64 h15
 obtain ⟨h18,hF⟩:=q09 hF
 refine go ?_
 refine RS.q (u:=.iM cS l14) rfl (qb0 rfl qr4 (z0e rfl) qr4 (qtu cS und80 (q03 inf9) q1m h16 h17)) (RS.q (u:=.vl 0 0 0 l14.length) (σ':=⟨[(0,.vec (List.map cS l14).flatten 9 1 0)],1⟩) rfl (q1i rfl rfl rfl rfl (qrb cS l14 und80 und80 inf9 rfl (qak cS q1m) h18)) ?_)
 obtain ⟨h19,hF⟩:=q09 hF
 refine go ?_
 refine RS.q (u:=.sl 1 0 1 1) (σ':=⟨[(1,.row [.str p2] 9),(0,.vec (List.map cS l14).flatten 9 1 0)],2⟩) rfl (q0k und80 inf9 rfl rfl rfl rfl rfl rfl rfl) (RS.q (u:=.vl 0 1 0 ((l14++[p2]).length)) (σ':=⟨[(1,.row [.str p2] 9),(0,.vec (List.map cS (l14++[p2])).flatten 9 1 1)],2⟩) rfl (q1i rfl rfl rfl rfl (q1s cS ([p2]) und80 und80 inf9 rfl q1m rfl (q1l cS [p2] rfl rfl rfl rfl) h19)) ?_)
 obtain ⟨l20,h21,hF⟩:=q00 hF
 obtain ⟨h22,h23⟩:=cut_lo cS .i64 h21
 obtain ⟨h24,hF⟩:=q09 hF
 refine go ?_
 refine RS.q (u:=.iM cS l20) rfl (qb0 rfl (z0e rfl) qr4 qr4 (qtu cS und80 (q03 inf9) q1m h22 h23)) (RS.q (u:=.vl 0 2 0 (((l14++[p2])++l20).length)) (σ':=⟨[(1,.row [.str p2] 9),(0,.vec (List.map cS ((l14++[p2])++l20)).flatten 9 1 2)],2⟩) rfl (q1i rfl rfl rfl rfl (q1s cS l20 und80 und80 inf9 rfl q1m rfl (qak cS q1m) h24)) ?_)
 refine go ?_
 obtain rfl:=sI hF
 exact rT (us:=[.vl 0 2 0 (((l14++[p2])++l20).length)]) (u:=.iM cS ((l14++[p2])++l20)) (q2l rfl (q3b)) (fR 0 1)
 rcases gB h12 with ⟨h8,h12⟩ | ⟨h8,h12⟩
 obtain ⟨x9,h10,h12⟩:=q00 h12
 obtain rfl:=sI h12
 refine go ?_
 refine RS.q rfl (q0c rfl rfl rfl (q08 cS und80)) ?_
 refine go ?_
 refine RS.w rfl (q0f rfl rfl (q07 cS und80 (q03 inf9) q1m h10 rfl)) (RS.w rfl (q0b und9 rfl rfl rfl) ?_)
 refine go ?_
 refine RS.w (u:=.bool (q1p x9 p2)) rfl (q93 rfl rfl rfl rfl) ?_
 refine go ?_
 exact xC ⟨rfl,rfl⟩
 obtain rfl:=sI h12
 refine go ?_
 refine RS.q rfl (q0c rfl rfl rfl (q08 cS und80)) ?_
 refine go ?_
 exact xC ⟨rfl,rfl⟩
 rintro (_|m1) _ _ ⟨z6,hF,rfl,rfl⟩
 cases hF
 unfold qb4 at hF
 obtain ⟨b28,h29,hF⟩:=q00 hF
 refine gn ?_
 refine z2y (fun tm σ=>tm=fr 48 [(0,.iM cS p1),(1,.str p2),(5,.nils),(6,.i6 z6),(18,.bool b28)]∧σ=⟨[],0⟩) ?_ ?_
 rintro _ _ ⟨rfl,rfl⟩
 refine go ?_
 refine cF hF (fun h30 hF=>?_) (fun h30 hF=>?_)
 refine go ?_
 refine WPU.block ?_
 refine go ?_
 exact lC ⟨_,hF,rfl,rfl⟩
 refine go ?_
 exact xC ⟨z6,hF,rfl,rfl⟩
 rcases gB h29 with ⟨h25,h29⟩ | ⟨h25,h29⟩
 obtain ⟨x26,h27,h29⟩:=q00 h29
 obtain rfl:=sI h29
 refine go ?_
 refine RS.q rfl (q0c rfl rfl rfl (q08 cS und80)) ?_
 refine go ?_
 refine RS.w rfl (q0f rfl rfl (q07 cS und80 (q03 inf9) q1m h27 rfl)) (RS.w rfl (q0b und9 rfl rfl rfl) ?_)
 refine go ?_
 refine RS.w (u:=.bool (q60 x26 p2)) rfl (q93 rfl rfl rfl rfl) ?_
 refine go ?_
 exact xC ⟨rfl,rfl⟩
 obtain rfl:=sI h29
 refine go ?_
 refine RS.q rfl (q0c rfl rfl rfl (q08 cS und80)) ?_
 refine go ?_
 exact xC ⟨rfl,rfl⟩
def qbm  (l7:List (List UInt8)):Option ((List (List UInt8))) :=
 some l7
def q82 (p1:List q05) (n:Nat):Nat→(List (List UInt8))→Int→Option ((List (List UInt8)))
 | 0,_,_=>none
 | m1+1,l5,z6 =>
  cond (decide (z6<(p1.length:Int)))
   (q04 (q0w p1 z6) fun x9 =>
   q04 (q8l n l5 x9.Name) fun r11 =>
   (q82 p1 n m1) r11 (IntKind.i64.wrap (z6+1)))
   (qbm l5)
def qdd (n:Nat) (p1:List q05):Option ((List (List UInt8))) :=
 q82 p1 n n [] 0
theorem qhx (n:Nat) (p1:List q05) (r:(List (List UInt8))) (hF:qdd n p1=some r):EvU Tryz.prog 95 [.isl false (List.map q02 p1)] ⟨[],0⟩ (fun u _=>u = .isl false (List.map cS r)∧Bel 0 u):=by
 unfold qdd at hF
 refine bg1 19 fn95 ?_
 refine gr ?_
 refine gr ?_
 refine gr ?_
 refine WPU.ghost (tm':=fr 19 [(0,.iM q02 p1),(3,.iM cS []),(4,.i6 0)]) (Gh.trans (Gh.sub (l':=[(0,.iM q02 p1),(3,.nils),(4,.i6 0)]) ⟨rfl,rfl,rfl,trivial⟩) (Gh.wkS (l':=[(0,.iM q02 p1),(3,.iM cS []),(4,.i6 0)]) (.cons (.refl _) (.cons (.nil false) (.cons (.refl _) .nil))))) NZ ?_
 refine gS (l':=[(0,_),(3,_),(4,_)]) ?_
 refine z2x (fun m tm σ=>∃ l5:List (List UInt8),∃ z6:Int,q82 p1 n m l5 z6=some r∧tm=fr 19 [(0,.iM q02 p1),(3,.iM cS l5),(4,.i6 z6)]∧σ=⟨[],0⟩) (fun tm σ=>∃ l7:List (List UInt8),qbm l7=some r∧tm=fr 19 [(3,.iM cS l7)]∧σ=⟨[],0⟩) n ⟨[],0,hF,rfl,rfl⟩ ?_ ?_
 rintro _ _ ⟨l7,hF,rfl,rfl⟩
 unfold qbm at hF
 exact gx hF
 rintro (_|m1) _ _ ⟨l5,z6,hF,rfl,rfl⟩
 cases hF
 unfold q82 at hF
 refine go ?_
 refine RS.q rfl (q0c rfl rfl rfl (q08 q02 und38)) ?_
 refine go ?_
 refine cF hF (fun h8 hF=>?_) (fun h8 hF=>?_)
 refine go ?_
 refine WPU.block ?_
 obtain ⟨x9,h10,hF⟩:=q00 hF
 obtain ⟨r11,h12,hF⟩:=q00 hF
 refine go ?_
 refine RS.q rfl (q0f rfl rfl (q07 q02 und38 (q03 inf127) q0m h10 rfl)) (RS.q rfl (q1d und127 rfl (q03 inf9) rfl rfl) (RS.q rfl (q0b und9 rfl rfl rfl) (RS.cl rfl (pC (q7f n l5 x9.Name r11 h12) _) fn116 ?_)))
 refine go ?_
 exact lC ⟨r11,(IntKind.i64.wrap (z6+1)),hF,rfl,rfl⟩
 refine go ?_
 exact xC ⟨l5,hF,rfl,rfl⟩
def qbj  (l21:List (List UInt8)):Option ((List (List UInt8))) :=
 some l21
def q80 (n:Nat) (l13:List (List UInt8)):Nat→(List (List UInt8))→Int→Option ((List (List UInt8)))
 | 0,_,_=>none
 | m2+1,l19,z20 =>
  cond (decide (z20<(l13.length:Int)))
   (q04 (q0w l13 z20) fun x23 =>
   q04 (q8l n l19 x23) fun r25 =>
   (q80 n l13 m2) r25 (IntKind.i64.wrap (z20+1)))
   (qbj l19)
def q7z (z33:Int) (rc3:Int→(List (List UInt8))→Option ((List (List UInt8)))) (l53:List (List UInt8)):Option ((List (List UInt8))) :=
 rc3 (IntKind.i64.wrap (z33+1)) l53
def qbk (z10:Int) (rc1:Int→(List (List UInt8))→Option ((List (List UInt8)))) (l36:List (List UInt8)):Option ((List (List UInt8))) :=
 rc1 (IntKind.i64.wrap (z10+1)) l36
def q4f (p1:List q05) (n:Nat) (z10:Int) (rc1:Int→(List (List UInt8))→Option ((List (List UInt8)))):Nat→Int→(List (List UInt8))→Option ((List (List UInt8)))
 | 0,_,_=>none
 | m3+1,z33,l34 =>
  cond (decide (z33<(p1.length:Int)))
   (q04 (q04 (q0w p1 z33) fun x39 =>
   q04 (q0w l34 z10) fun x41 =>
   q04 (q36 n x39.Supers x41) fun r43 =>
   cond r43
    (q04 (q0w p1 z33) fun x46 =>
    q04 (q36 n l34 x46.Name) fun r48 =>
    some (!r48))
    (some false)) fun b50 =>
   cond b50
    (q04 (q0w p1 z33) fun x55 =>
    q1b ((l34.length+1)*16≤140737488355328∧l34.length+1≤140737488355328) (
    q7z z33 (q4f p1 n z10 rc1 m3) (l34++[x55.Name])))
    (q7z z33 (q4f p1 n z10 rc1 m3) l34))
   (qbk z10 rc1 l34)
def qbi (n:Nat) (l13:List (List UInt8)):Option ((List (List UInt8))) :=
 q80 n l13 n [] 0
def q3q (p1:List q05) (n:Nat):Nat→Int→(List (List UInt8))→Option ((List (List UInt8)))
 | 0,_,_=>none
 | m1+1,z10,l11 =>
  cond (decide (z10<(l11.length:Int)))
   (q4f p1 n z10 (q3q p1 n m1) n 0 l11)
   (qbi n l11)
def qgn (n:Nat) (p1:List q05) (p2:List UInt8):Option ((List (List UInt8))) :=
 q04 (q69 n p1 p2) fun r3 =>
 cond (decide (r3<0))
  (some [])
  (q3q p1 n n 0 ([p2]))
theorem qol (n:Nat) (p1:List q05) (p2:List UInt8) (r:(List (List UInt8))) (hF:qgn n p1 p2=some r):EvU Tryz.prog 125 [.isl false (List.map q02 p1),.str p2] ⟨[],0⟩ (fun u _=>u = .isl false (List.map cS r)∧Bel 0 u):=by
 unfold qgn at hF
 refine bg2 69 fn125 ?_
 obtain ⟨r3,h4,hF⟩:=q00 hF
 refine go ?_
 refine RS.cl rfl (pC (q6a n p1 p2 r3 h4) _) fn148 ?_
 refine go ?_
 refine cF hF (fun h5 hF=>?_) (fun h5 hF=>?_)
 refine go ?_
 obtain rfl:=sI hF
 exact rT (us:=[.nils]) (u:=.isl false []) (q2l rfl (q3b)) wR
 refine go ?_
 refine RS.step (u:=.vl 0 0 0 ([p2].length)) (σ':=⟨[(0,.vec (List.map cS ([p2])).flatten 9 1 0)],1⟩) rfl (qch.bslv (cs:=(List.map cS [p2]).flatten) Tryz.tb_ok rfl und80 inf9 rfl rfl rfl rfl rfl rfl rfl rfl) rfl rfl ?_
 refine go ?_
 refine gS (l':=[(0,_),(5,_),(6,_)]) ?_
 refine z2x (fun m tm σ=>∃ z10:Int,∃ l11:List (List UInt8),∃ t12:Nat,q3q p1 n m z10 l11=some r∧tm=fr 69 [(0,.iM q02 p1),(5,.vl 0 t12 0 l11.length),(6,.i6 z10)]∧σ=⟨[(0,.vec (List.map cS l11).flatten 9 1 t12)],1⟩) (fun tm σ=>∃ l13:List (List UInt8),∃ t14:Nat,qbi n l13=some r∧tm=fr 69 [(5,.vl 0 t14 0 l13.length)]∧σ=⟨[(0,.vec (List.map cS l13).flatten 9 1 t14)],1⟩) n ⟨0,[p2],0,hF,rfl,rfl⟩ ?_ ?_
 rintro _ _ ⟨l13,t14,hF,rfl,rfl⟩
 unfold qbi at hF
 refine gr ?_
 refine gr ?_
 refine WPU.ghost (tm':=fr 69 [(5,.vl 0 t14 0 l13.length),(8,.iM cS []),(9,.i6 0)]) (Gh.trans (Gh.sub (l':=[(5,.vl 0 t14 0 l13.length),(8,.nils),(9,.i6 0)]) ⟨rfl,rfl,rfl,trivial⟩) (Gh.wkS (l':=[(5,.vl 0 t14 0 l13.length),(8,.iM cS []),(9,.i6 0)]) (.cons (.refl _) (.cons (.nil false) (.cons (.refl _) .nil))))) NZ ?_
 refine gS (l':=[(5,_),(8,_),(9,_)]) ?_
 refine z2x (fun m tm σ=>∃ l19:List (List UInt8),∃ z20:Int,q80 n l13 m l19 z20=some r∧tm=fr 69 [(5,.vl 0 t14 0 l13.length),(8,.iM cS l19),(9,.i6 z20)]∧σ=⟨[(0,.vec (List.map cS l13).flatten 9 1 t14)],1⟩) (fun tm σ=>∃ l21:List (List UInt8),qbj l21=some r∧tm=fr 69 [(8,.iM cS l21)]∧σ=⟨[(0,.vec (List.map cS l13).flatten 9 1 t14)],1⟩) n ⟨[],0,hF,rfl,rfl⟩ ?_ ?_
 rintro _ _ ⟨l21,hF,rfl,rfl⟩
 unfold qbj at hF
 exact gx hF
 rintro (_|m2) _ _ ⟨l19,z20,hF,rfl,rfl⟩
 cases hF
 unfold q80 at hF
 refine go ?_
 refine RS.q rfl (q0c rfl rfl rfl (q92 und80 rfl)) ?_
 refine go ?_
 refine cF hF (fun h22 hF=>?_) (fun h22 hF=>?_)
 refine go ?_
 refine WPU.block ?_
 obtain ⟨x23,h24,hF⟩:=q00 hF
 obtain ⟨r25,h26,hF⟩:=q00 hF
 refine go ?_
 refine RS.q rfl (q0f rfl rfl (q8t cS und80 (q03 inf9) (by decide) q1m (vo rfl) h24)) ?_
 refine RS.q rfl (q4o cS (fun x=>.str x) und9 rfl (fun _=>rfl) rfl rfl h24) (RS.cl rfl (pC (q7f n l19 x23 r25 h26) _) fn116 ?_)
 refine go ?_
 exact lC ⟨r25,(IntKind.i64.wrap (z20+1)),hF,rfl,rfl⟩
 refine go ?_
 exact xC ⟨l19,hF,rfl,rfl⟩
 rintro (_|m1) _ _ ⟨z10,l11,t12,hF,rfl,rfl⟩
 cases hF
 unfold q3q at hF
 refine go ?_
 refine RS.q rfl (q0c rfl rfl rfl (q92 und80 rfl)) ?_
 refine go ?_
 refine cF hF (fun h27 hF=>?_) (fun h27 hF=>?_)
 refine go ?_
 refine WPU.block ?_
 refine go ?_
 refine gS (l':=[(0,_),(5,_),(6,_),(7,_)]) ?_
 refine z2x (fun m tm σ=>∃ z33:Int,∃ l34:List (List UInt8),∃ t35:Nat,q4f p1 n z10 (q3q p1 n m1) m z33 l34=some r∧tm=fr 69 [(0,.iM q02 p1),(5,.vl 0 t35 0 l34.length),(6,.i6 z10),(7,.i6 z33)]∧σ=⟨[(0,.vec (List.map cS l34).flatten 9 1 t35)],1⟩) (fun tm σ=>∃ l36:List (List UInt8),∃ t37:Nat,qbk z10 (q3q p1 n m1) l36=some r∧tm=fr 69 [(0,.iM q02 p1),(5,.vl 0 t37 0 l36.length),(6,.i6 z10)]∧σ=⟨[(0,.vec (List.map cS l36).flatten 9 1 t37)],1⟩) n ⟨0,l11,t12,hF,rfl,rfl⟩ ?_ ?_
 rintro _ _ ⟨l36,t37,hF,rfl,rfl⟩
 unfold qbk at hF
 refine go ?_
 exact lC ⟨_,l36,t37,hF,rfl,rfl⟩
 rintro (_|m3) _ _ ⟨z33,l34,t35,hF,rfl,rfl⟩
 cases hF
 unfold q4f at hF
 refine go ?_
 refine RS.q rfl (q0c rfl rfl rfl (q08 q02 und38)) ?_
 refine go ?_
 refine cF hF (fun h38 hF=>?_) (fun h38 hF=>?_)
 refine go ?_
 refine WPU.block ?_
 obtain ⟨b50,h51,hF⟩:=q00 hF
 refine gn ?_
 refine z2y (fun tm σ=>tm=fr 69 [(0,.iM q02 p1),(5,.vl 0 t35 0 l34.length),(6,.i6 z10),(7,.i6 z33),(47,.bool b50)]∧σ=⟨[(0,.vec (List.map cS l34).flatten 9 1 t35)],1⟩) ?_ ?_
 rintro _ _ ⟨rfl,rfl⟩
 refine gn ?_
 refine z2y (fun tm σ=>∃ l53:List (List UInt8),∃ t54:Nat,q7z z33 (q4f p1 n z10 (q3q p1 n m1) m3) l53=some r∧tm=fr 69 [(0,.iM q02 p1),(5,.vl 0 t54 0 l53.length),(6,.i6 z10),(7,.i6 z33)]∧σ=⟨[(0,.vec (List.map cS l53).flatten 9 1 t54)],1⟩) ?_ ?_
 rintro _ _ ⟨l53,t54,hF,rfl,rfl⟩
 unfold q7z at hF
 refine go ?_
 exact lC ⟨_,l53,t54,hF,rfl,rfl⟩
 refine cF hF (fun h52 hF=>?_) (fun h52 hF=>?_)
 obtain ⟨x55,h56,hF⟩:=q00 hF
 obtain ⟨h57,hF⟩:=q09 hF
 refine go ?_
 refine RS.q rfl (q0f rfl rfl (q07 q02 und38 (q03 inf127) q0m h56 rfl)) (RS.q rfl (q1d und127 rfl (q03 inf9) rfl rfl) (RS.q rfl (q0b und9 rfl rfl rfl) (RS.q (u:=.sl 1 0 1 1) (σ':=⟨[(1,.row [.str x55.Name] 9),(0,.vec (List.map cS l34).flatten 9 1 t35)],2⟩) rfl (q0k und80 inf9 rfl rfl rfl rfl rfl rfl rfl) (RS.q (u:=.vl 0 (t35+1) 0 ((l34++[x55.Name]).length)) (σ':=⟨[(1,.row [.str x55.Name] 9),(0,.vec (List.map cS (l34++[x55.Name])).flatten 9 1 (t35+1))],2⟩) rfl (q1i rfl rfl rfl rfl (q1s cS ([x55.Name]) und80 und80 inf9 rfl q1m rfl (q1l cS [x55.Name] rfl rfl rfl rfl) h57)) ?_))))
 refine go ?_
 exact xC ⟨(l34++[x55.Name]),(t35+1),hF,rfl,rfl⟩
 refine go ?_
 exact xC ⟨l34,t35,hF,rfl,rfl⟩
 obtain ⟨x39,h40,h51⟩:=q00 h51
 obtain ⟨x41,h42,h51⟩:=q00 h51
 obtain ⟨r43,h44,h51⟩:=q00 h51
 rcases gB h51 with ⟨h45,h51⟩ | ⟨h45,h51⟩
 obtain ⟨x46,h47,h51⟩:=q00 h51
 obtain ⟨r48,h49,h51⟩:=q00 h51
 obtain rfl:=sI h51
 refine z2z Tryz.tb_ok [] (by kernel_rfl) ?_
 repeat refine RD.mv rfl rfl rfl rfl ?_
 refine RD.q rfl (q0f rfl rfl (q07 q02 und38 (q03 inf127) q0m h40 rfl)) (RD.q rfl (q1d und127 rfl (q03 inf80) rfl rfl) (RD.q rfl (q0b und80 rfl rfl rfl) ?_))
 repeat refine RD.mv rfl rfl rfl rfl ?_
 refine RD.q rfl (q0f rfl rfl (q8t cS und80 (q03 inf9) (by decide) q1m (vo rfl) h42)) ?_
 refine RD.q rfl (q4o cS (fun x=>.str x) und9 rfl (fun _=>rfl) rfl rfl h42) (RD.fl rfl (pC (q29 n x39.Supers x41 r43 h44)) fn126 (RD.mv rfl rfl rfl rfl (RD.w rfl (q0s rfl) (RD.w rfl (q0s rfl) (RD.w rfl (q0s rfl) (RD.w rfl (q0f rfl rfl (q07 q02 und38 (q03 inf127) q0m h47 rfl)) (RD.w rfl (q1d und127 rfl (q03 inf9) rfl rfl) ?_)))))))
 refine RD.w rfl (q0b und9 rfl rfl rfl) (RD.call (u:=.bool r48) (args:=[.vl 0 t35 0 l34.length,.str x46.Name]) (z2u rfl rfl rfl h45) (qcv rfl rfl fn126 hb126 rfl rfl) (vw (q29 n l34 x46.Name r48 h49) (z34 0 1)) rfl rfl (RD.w rfl (quq rfl rfl rfl rfl) (RD.q rfl (qaz rfl h45 rfl) ?_)))
 refine RD.done ⟨by kernel_rfl,trivial,?_⟩
 refine go ?_
 exact xC ⟨rfl,rfl⟩
 obtain rfl:=sI h51
 refine z2z Tryz.tb_ok [] (by kernel_rfl) ?_
 repeat refine RD.mv rfl rfl rfl rfl ?_
 refine RD.q rfl (q0f rfl rfl (q07 q02 und38 (q03 inf127) q0m h40 rfl)) (RD.q rfl (q1d und127 rfl (q03 inf80) rfl rfl) (RD.q rfl (q0b und80 rfl rfl rfl) ?_))
 repeat refine RD.mv rfl rfl rfl rfl ?_
 refine RD.q rfl (q0f rfl rfl (q8t cS und80 (q03 inf9) (by decide) q1m (vo rfl) h42)) ?_
 refine RD.q rfl (q4o cS (fun x=>.str x) und9 rfl (fun _=>rfl) rfl rfl h42) (RD.fl rfl (pC (q29 n x39.Supers x41 r43 h44)) fn126 (RD.mv rfl rfl rfl rfl ?_))
 repeat refine RD.no (qp4 rfl rfl rfl h45) rfl rfl ?_
 refine RD.q rfl (qay rfl h45 rfl) ?_
 refine RD.done ⟨by kernel_rfl,trivial,?_⟩
 refine go ?_
 exact xC ⟨rfl,rfl⟩
 refine go ?_
 exact xC ⟨l34,t35,hF,rfl,rfl⟩
 refine go ?_
 exact xC ⟨l11,t12,hF,rfl,rfl⟩
def qa5 (p1:List Int) (z5:Int):Option ((List Int)) :=
 q04 (z0b p1 0 z5) fun l6 =>
 q1b (l6.length*8≤140737488355328∧l6.length≤140737488355328) (
 some l6)
def q6n (p1:List Int):Nat→Int→Option ((List Int))
 | 0,_=>none
 | m1+1,z4 =>
  q04 (cond (decide (z4 > 0))
   (q04 (q0w p1 (IntKind.i64.wrap (z4 - 1))) fun x12 =>
   some (x12 == 0))
   (some false)) fun b14 =>
  cond b14
   ((q6n p1 m1) (IntKind.i64.wrap (z4 - 1)))
   (qa5 p1 z4)
def q68 (n:Nat) (p1:List Int):Option ((List Int)) :=
 q6n p1 n (p1.length:Int)
theorem q7u (n:Nat) (p1:List Int) (r:(List Int)) (hF:q68 n p1=some r):EvU Tryz.prog 119 [.isl false (List.map (cI .u64) p1)] ⟨[],0⟩ (fun u _=>u = .isl false (List.map (cI .u64) r)∧Bel 0 u):=by
 unfold q68 at hF
 refine bg1 23 fn119 ?_
 refine go ?_
 refine RS.q rfl (q0c rfl rfl rfl (q08 (cI .u64) und103)) ?_
 refine go ?_
 refine gS (l':=[(0,_),(3,_)]) ?_
 refine z2x (fun m tm σ=>∃ z4:Int,q6n p1 m z4=some r∧tm=fr 23 [(0,.iM (cI .u64) p1),(3,.i6 z4)]∧σ=⟨[],0⟩) (fun tm σ=>∃ z5:Int,qa5 p1 z5=some r∧tm=fr 23 [(0,.iM (cI .u64) p1),(3,.i6 z5)]∧σ=⟨[],0⟩) n ⟨(p1.length:Int),hF,rfl,rfl⟩ ?_ ?_
 rintro _ _ ⟨z5,hF,rfl,rfl⟩
 unfold qa5 at hF
 obtain ⟨l6,h7,hF⟩:=q00 hF
 obtain ⟨h8,h9⟩:=qvp (cI .u64) .i64 h7
 obtain ⟨h10,hF⟩:=q09 hF
 refine go ?_
 refine RS.q (u:=.sl 0 0 0 0) (σ':=⟨[(0,.row [] 191)],1⟩) rfl (q0k und103 inf191 rfl rfl rfl rfl rfl rfl rfl) ?_
 refine go ?_
 refine RS.q (u:=.iM (cI .u64) l6) rfl (qb0 rfl qr4 (z0e rfl) qr4 (qtu (cI .u64) und103 (q03 inf191) (q13 .u64) h8 h9)) (RS.q (u:=.vl 1 0 0 l6.length) (σ':=⟨[(1,.vec (List.map (cI .u64) l6).flatten 191 1 0),(0,.row [] 191)],2⟩) rfl (q1i rfl rfl rfl rfl (qku (cI .u64) l6 und103 und103 inf191 rfl rfl rfl (qak (cI .u64) (q13 .u64)) h10)) ?_)
 refine go ?_
 obtain rfl:=sI hF
 exact rT (us:=[.vl 1 0 0 l6.length]) (u:=.iM (cI .u64) l6) (q2l rfl (q3b)) (fR 1 1)
 rintro (_|m1) _ _ ⟨z4,hF,rfl,rfl⟩
 cases hF
 unfold q6n at hF
 obtain ⟨b14,h15,hF⟩:=q00 hF
 refine gn ?_
 refine z2y (fun tm σ=>tm=fr 23 [(0,.iM (cI .u64) p1),(3,.i6 z4),(15,.bool b14)]∧σ=⟨[],0⟩) ?_ ?_
 rintro _ _ ⟨rfl,rfl⟩
 refine go ?_
 refine cF hF (fun h16 hF=>?_) (fun h16 hF=>?_)
 refine go ?_
 refine WPU.block ?_
 refine go ?_
 exact lC ⟨_,hF,rfl,rfl⟩
 refine go ?_
 exact xC ⟨z4,hF,rfl,rfl⟩
 rcases gB h15 with ⟨h11,h15⟩ | ⟨h11,h15⟩
 obtain ⟨x12,h13,h15⟩:=q00 h15
 obtain rfl:=sI h15
 refine go ?_
 refine RS.w rfl (q0f rfl rfl (q07 (cI .u64) und103 (q03 inf191) (q13 .u64) h13 rfl)) (RS.w rfl (q0b und191 rfl rfl rfl) ?_)
 refine go ?_
 exact xC ⟨rfl,rfl⟩
 exact gy h15
def qgl (n:Nat) (l8:List Int):Option ((List Int)×Int) :=
 q1b ((64:Int).toNat=l8.length) (
 q04 (q68 n l8) fun r10 =>
 some (r10,0))
def qdb (p1:List Int) (n:Nat):Nat→Int→(List Int)→Option ((List Int)×Int)
 | 0,_,_=>none
 | m1+1,z6,l7 =>
  cond (decide (z6<(p1.length:Int)))
   (q04 (q04 (q0w p1 z6) fun x13 =>
   cond (decide (x13<0))
    (some true)
    (q04 (q0w p1 z6) fun x16 =>
    some (decide (x16 > 4095)))) fun b18 =>
   cond b18
    (some ([],2))
    (q04 (q0w p1 z6) fun x21 =>
    q04 (q0w p1 z6) fun x24 =>
    q04 (qgx l7 0 ((64:Int).toNat) (IntKind.i64.wrap (x24.tdiv 64))) fun x27 =>
    q04 (q0w p1 z6) fun x29 =>
    q1b (¬ (IntKind.u64.wrap (x29.tmod 64))<0) (
    q04 (qgx l7 0 ((64:Int).toNat) (IntKind.i64.wrap (x21.tdiv 64))) fun x33 =>
    (qdb p1 n m1) (IntKind.i64.wrap (z6+1)) (l7.set (IntKind.i64.wrap (x21.tdiv 64)).toNat (orI .u64 x27 (IntKind.u64.wrap (1*(2 ^ (min (IntKind.u64.wrap (x29.tmod 64)).toNat IntKind.u64.bits)))))))))
   (qgl n l7)
def qoj (n:Nat) (p1:List Int):Option ((List Int)×Int) :=
 q1b (0≤(64:Int)∧8*(64:Int).toNat≤281474976710656∧(64:Int)≤281474976710656) (
 qdb p1 n n 0 (List.replicate (64:Int).toNat 0))
theorem qut (n:Nat) (p1:List Int) (r:(List Int)×Int) (hF:qoj n p1=some r):EvU Tryz.prog 127 [.isl false (List.map (cI .i64) p1)] ⟨[],0⟩ (fun u _=>u = .tup [.isl false (List.map (cI .u64) r.1),.int .i64 r.2]∧Bel 0 u):=by
 unfold qoj at hF
 refine bg1 50 fn127 ?_
 obtain ⟨h2,hF⟩:=q09 hF
 refine go ?_
 refine RS.q (u:=.sl 0 0 ((64:Int).toNat) ((64:Int).toNat)) (σ':=⟨[(0,.row (List.map (cI .u64) (List.replicate (64:Int).toNat 0)).flatten 191)],1⟩) rfl (qqd (cI .u64) 0 rfl rfl und103 inf191 rfl rfl rfl rfl h2) ?_
 refine go ?_
 refine gS (l':=[(0,_),(4,_),(5,_)]) ?_
 refine z2x (fun m tm σ=>∃ z6:Int,∃ l7:List Int,qdb p1 n m z6 l7=some r∧tm=fr 50 [(0,.iM (cI .i64) p1),(4,.sl 0 0 ((64:Int).toNat) ((64:Int).toNat)),(5,.i6 z6)]∧σ=⟨[(0,.row (List.map (cI .u64) l7).flatten 191)],1⟩) (fun tm σ=>∃ l8:List Int,qgl n l8=some r∧tm=fr 50 [(4,.sl 0 0 ((64:Int).toNat) ((64:Int).toNat))]∧σ=⟨[(0,.row (List.map (cI .u64) l8).flatten 191)],1⟩) n ⟨0,(List.replicate (64:Int).toNat 0),hF,rfl,rfl⟩ ?_ ?_
 rintro _ _ ⟨l8,hF,rfl,rfl⟩
 unfold qgl at hF
 obtain ⟨h9,hF⟩:=q09 hF
 refine gn ?_
 refine WPU.ghost (tm':=fr 50 [(4,.iM (cI .u64) l8)]) (σ':=⟨[],1⟩) (Gh.trans (Gh.sub (l':=[(4,.sl 0 0 ((64:Int).toNat) ((64:Int).toNat))]) ⟨rfl,trivial⟩) (Gh.fzS (l':=[(4,.iM (cI .u64) l8)]) (h':=[]) 0 (.row (List.map (cI .u64) l8).flatten 191) 1 rfl (by simp) (by simp only [fzS,qki,qe7,q7m,qji,qg9,qjk,qe9,qgc,qgb,qga,qe8,qjj,qle,qjh,qjl,qpu,qlm,qui (q13 .u64) h9]) (by simp only [fzH,fzB,ug,Nat.beq,cond_true,cond_false,qki,qe7,q7m,qji,qg9,qjk,qe9,qgc,qgb,qga,qe8,qjj,qle,qjh,qjl,qpu,qlm,qui (q13 .u64) h9]))) NZ ?_
 obtain ⟨r10,h11,hF⟩:=q00 hF
 refine go ?_
 refine RS.cl rfl (pC (q7u n l8 r10 h11) _) fn119 ?_
 refine go ?_
 obtain rfl:=sI hF
 exact rt2 rfl rfl rfl rfl rfl
 rintro (_|m1) _ _ ⟨z6,l7,hF,rfl,rfl⟩
 cases hF
 unfold qdb at hF
 refine go ?_
 refine RS.q rfl (q0c rfl rfl rfl (q08 (cI .i64) und33)) ?_
 refine go ?_
 refine cF hF (fun h12 hF=>?_) (fun h12 hF=>?_)
 refine go ?_
 refine WPU.block ?_
 obtain ⟨b18,h19,hF⟩:=q00 hF
 refine gn ?_
 refine z2y (fun tm σ=>tm=fr 50 [(0,.iM (cI .i64) p1),(4,.sl 0 0 ((64:Int).toNat) ((64:Int).toNat)),(5,.i6 z6),(24,.bool b18)]∧σ=⟨[(0,.row (List.map (cI .u64) l7).flatten 191)],1⟩) ?_ ?_
 rintro _ _ ⟨rfl,rfl⟩
 refine go ?_
 refine cF hF (fun h20 hF=>?_) (fun h20 hF=>?_)
 refine go ?_
 obtain rfl:=sI hF
 exact rT (us:=[.nils,.i6 2]) (u:=.tup [.isl false [],.i6 2]) (q2l rfl (q2l rfl (q3b))) wR
 obtain ⟨x21,h22,hF⟩:=q00 hF
 obtain ⟨x24,h25,hF⟩:=q00 hF
 obtain ⟨x27,h28,hF⟩:=q00 hF
 obtain ⟨x29,h30,hF⟩:=q00 hF
 obtain ⟨h32,hF⟩:=q09 hF
 obtain ⟨x33,h34,hF⟩:=q00 hF
 refine go ?_
 refine z2z Tryz.tb_ok [] (by kernel_rfl) ?_
 repeat refine RD.mv rfl rfl rfl rfl ?_
 refine RD.q rfl (q0f rfl rfl (q07 (cI .i64) und33 (q03 inf3) (q13 .i64) h22 rfl)) (RD.q rfl (q0b und3 rfl rfl rfl) ?_)
 refine RD.q rfl (q34 rfl rfl (qsw _ (by decide)) rfl) ?_
 repeat refine RD.mv rfl rfl rfl rfl ?_
 refine RD.q rfl (q0f rfl rfl (q07 (cI .i64) und33 (q03 inf3) (q13 .i64) h25 rfl)) (RD.q rfl (q0b und3 rfl rfl rfl) ?_)
 refine RD.q rfl (q34 rfl rfl (qsw _ (by decide)) rfl) ?_
 refine RD.q rfl (q0f rfl rfl (qk0 und103 (q03 inf191) rfl h28)) (RD.q (u:=.int .u64 x27) rfl (qq0 (cI .u64) (fun x=>.int .u64 x) und191 rfl (fun _=>rfl) rfl rfl h28) ?_)
 repeat refine RD.mv rfl rfl rfl rfl ?_
 refine RD.q rfl (q0f rfl rfl (q07 (cI .i64) und33 (q03 inf3) (q13 .i64) h30 rfl)) (RD.q rfl (q0b und3 rfl rfl rfl) ?_)
 refine RD.q rfl (q34 rfl rfl (z0t _ (by decide)) rfl) ?_
 refine RD.q (u:=.int .u64 (IntKind.u64.wrap (x29.tmod 64))) rfl (qx3 rfl rfl (by simp only [qrf,und3,und190]<;>rfl) rfl) ?_
 refine RD.q rfl (q34 rfl rfl (ix_shl _ h32) rfl) (RD.q rfl (q34 rfl rfl (ix_or _ _ _) rfl) (RD.q rfl (q0f rfl rfl (qk0 und103 (q03 inf191) rfl h34)) ?_))
 refine z3d (u:=.junk) (σ':=⟨[(0,.row (List.map (cI .u64) (l7.set (IntKind.i64.wrap (x21.tdiv 64)).toNat (orI .u64 x27 (IntKind.u64.wrap (1*(2 ^ (min (IntKind.u64.wrap (x29.tmod 64)).toNat IntKind.u64.bits))))))).flatten 191)],1⟩) rfl (qsc (cI .u64) (q03 inf191) (q13 .u64) rfl rfl rfl rfl rfl rfl h34 rfl) rfl ?_
 refine RD.done ⟨by kernel_rfl,trivial,?_⟩
 refine go ?_
 exact lC ⟨_,(l7.set (IntKind.i64.wrap (x21.tdiv 64)).toNat (orI .u64 x27 (IntKind.u64.wrap (1*(2 ^ (min (IntKind.u64.wrap (x29.tmod 64)).toNat IntKind.u64.bits)))))),hF,rfl,rfl⟩
 obtain ⟨x13,h14,h19⟩:=q00 h19
 rcases gB h19 with ⟨h15,h19⟩ | ⟨h15,h19⟩
 obtain rfl:=sI h19
 refine go ?_
 refine RS.q rfl (q0f rfl rfl (q07 (cI .i64) und33 (q03 inf3) (q13 .i64) h14 rfl)) (RS.q rfl (q0b und3 rfl rfl rfl) ?_)
 refine go ?_
 exact xC ⟨rfl,rfl⟩
 obtain ⟨x16,h17,h19⟩:=q00 h19
 obtain rfl:=sI h19
 refine go ?_
 refine RS.q rfl (q0f rfl rfl (q07 (cI .i64) und33 (q03 inf3) (q13 .i64) h14 rfl)) (RS.q rfl (q0b und3 rfl rfl rfl) ?_)
 refine go ?_
 refine RS.w rfl (q0f rfl rfl (q07 (cI .i64) und33 (q03 inf3) (q13 .i64) h17 rfl)) (RS.w rfl (q0b und3 rfl rfl rfl) ?_)
 refine go ?_
 exact xC ⟨rfl,rfl⟩
 refine go ?_
 exact xC ⟨l7,hF,rfl,rfl⟩
def q9m (z11:Int) (rc1:Int→(List Int)→Option ((List Int))) (l24:List Int):Option ((List Int)) :=
 rc1 (IntKind.i64.wrap (z11+1)) l24
def qdg (n:Nat) (l14:List Int):Option ((List Int)) :=
 q04 (qoj n l14) fun r16 =>
 some r16.1
def q58 (p2:List (List UInt8)) (n:Nat) (r4:(List (List UInt8))):Nat→Int→(List Int)→Option ((List Int))
 | 0,_,_=>none
 | m1+1,z11,l12 =>
  cond (decide (z11<(p2.length:Int)))
   (q04 (q0w p2 z11) fun x19 =>
   q04 (q36 n r4 x19) fun r21 =>
   cond r21
    (q1b ((l12.length+1)*8≤140737488355328∧l12.length+1≤140737488355328) (
    q9m z11 (q58 p2 n r4 m1) (l12++[z11])))
    (q9m z11 (q58 p2 n r4 m1) l12))
   (qdg n l12)
def qj2 (n:Nat) (p1:List q05) (p2:List (List UInt8)) (p3:List UInt8):Option ((List Int)) :=
 q04 (qgn n p1 p3) fun r4 =>
 q58 p2 n r4 n 0 ([]:List Int)
theorem qqm (n:Nat) (p1:List q05) (p2:List (List UInt8)) (p3:List UInt8) (r:(List Int)) (hF:qj2 n p1 p2 p3=some r):EvU Tryz.prog 96 [.isl false (List.map q02 p1),.isl false (List.map cS p2),.str p3] ⟨[],0⟩ (fun u _=>u = .isl false (List.map (cI .u64) r)∧Bel 0 u):=by
 unfold qj2 at hF
 refine bg3 37 fn96 ?_
 obtain ⟨r4,h5,hF⟩:=q00 hF
 refine go ?_
 refine RS.cl rfl (pC (qol n p1 p3 r4 h5) _) fn125 ?_
 refine gr ?_
 refine gr ?_
 refine WPU.ghost (tm':=fr 37 [(1,.iM cS p2),(7,.iM cS r4),(8,.vl 0 0 0 (([]:List Int).length)),(9,.i6 0)]) (σ':=⟨[(0,.vec (List.map (cI .i64) ([]:List Int)).flatten 3 1 0)],1⟩) (Gh.trans (z39 8 3 1 (by decide) NZ rfl rfl) (z38 ⟨rfl,rfl,rfl,rfl,trivial⟩ rfl)) NZ ?_
 refine gS (l':=[(1,_),(7,_),(8,_),(9,_)]) ?_
 refine z2x (fun m tm σ=>∃ z11:Int,∃ l12:List Int,∃ t13:Nat,q58 p2 n r4 m z11 l12=some r∧tm=fr 37 [(1,.iM cS p2),(7,.iM cS r4),(8,.vl 0 t13 0 l12.length),(9,.i6 z11)]∧σ=⟨[(0,.vec (List.map (cI .i64) l12).flatten 3 1 t13)],1⟩) (fun tm σ=>∃ l14:List Int,∃ t15:Nat,qdg n l14=some r∧tm=fr 37 [(8,.vl 0 t15 0 l14.length)]∧σ=⟨[(0,.vec (List.map (cI .i64) l14).flatten 3 1 t15)],1⟩) n ⟨0,([]:List Int),0,hF,rfl,rfl⟩ ?_ ?_
 rintro _ _ ⟨l14,t15,hF,rfl,rfl⟩
 unfold qdg at hF
 refine gn ?_
 refine WPU.ghost (tm':=fr 37 [(8,.iM (cI .i64) l14)]) (σ':=⟨[],1⟩) (Gh.trans (Gh.sub (l':=[(8,.vl 0 t15 0 l14.length)]) ⟨rfl,trivial⟩) (z3g 0 1)) NZ ?_
 obtain ⟨r16,h17,hF⟩:=q00 hF
 refine go ?_
 refine RS.cl rfl (pC (qut n l14 r16 h17) _) fn127 ?_
 exact gx hF
 rintro (_|m1) _ _ ⟨z11,l12,t13,hF,rfl,rfl⟩
 cases hF
 unfold q58 at hF
 refine go ?_
 refine RS.q rfl (q0c rfl rfl rfl (q08 cS und80)) ?_
 refine go ?_
 refine cF hF (fun h18 hF=>?_) (fun h18 hF=>?_)
 refine go ?_
 refine WPU.block ?_
 obtain ⟨x19,h20,hF⟩:=q00 hF
 obtain ⟨r21,h22,hF⟩:=q00 hF
 refine go ?_
 refine RS.q rfl (q0f rfl rfl (q07 cS und80 (q03 inf9) q1m h20 rfl)) (RS.q rfl (q0b und9 rfl rfl rfl) (RS.cl rfl (pC (q29 n r4 x19 r21 h22) _) fn126 ?_))
 refine gn ?_
 refine z2y (fun tm σ=>∃ l24:List Int,∃ t25:Nat,q9m z11 (q58 p2 n r4 m1) l24=some r∧tm=fr 37 [(1,.iM cS p2),(7,.iM cS r4),(8,.vl 0 t25 0 l24.length),(9,.i6 z11)]∧σ=⟨[(0,.vec (List.map (cI .i64) l24).flatten 3 1 t25)],1⟩) ?_ ?_
 rintro _ _ ⟨l24,t25,hF,rfl,rfl⟩
 unfold q9m at hF
 refine go ?_
 exact lC ⟨_,l24,t25,hF,rfl,rfl⟩
 refine cF hF (fun h23 hF=>?_) (fun h23 hF=>?_)
 obtain ⟨h26,hF⟩:=q09 hF
 refine go ?_
 refine RS.q (u:=.sl 1 0 1 1) (σ':=⟨[(1,.row [.i6 z11] 3),(0,.vec (List.map (cI .i64) l12).flatten 3 1 t13)],2⟩) rfl (q0k und33 inf3 rfl rfl rfl rfl rfl rfl rfl) (RS.q (u:=.vl 0 (t13+1) 0 ((l12++[z11]).length)) (σ':=⟨[(1,.row [.i6 z11] 3),(0,.vec (List.map (cI .i64) (l12++[z11])).flatten 3 1 (t13+1))],2⟩) rfl (q1i rfl rfl rfl rfl (q1s (cI .i64) ([z11]) und33 und33 inf3 rfl (q13 .i64) rfl (q1l (cI .i64) [z11] rfl rfl rfl rfl) h26)) ?_)
 refine go ?_
 exact xC ⟨(l12++[z11]),(t13+1),hF,rfl,rfl⟩
 refine go ?_
 exact xC ⟨l12,t13,hF,rfl,rfl⟩
 refine go ?_
 exact xC ⟨l12,t13,hF,rfl,rfl⟩
def qfd (n:Nat) (p1:List Int) (p2:Int):Option (Int) :=
 cond (decide (p2<(p1.length:Int)))
  (q04 (q0w p1 p2) fun x4 =>
  some x4)
  (some 0)
theorem qjr (n:Nat) (p1:List Int) (p2:Int) (r:Int) (hF:qfd n p1 p2=some r):EvU Tryz.prog 146 [.isl false (List.map (cI .u64) p1),.int .i64 p2] ⟨[],0⟩ (fun u _=>u = .int .u64 r∧Bel 0 u):=by
 unfold qfd at hF
 refine bg2 13 fn146 ?_
 refine go ?_
 refine RS.q rfl (q0c rfl rfl rfl (q08 (cI .u64) und103)) ?_
 refine go ?_
 refine cF hF (fun h3 hF=>?_) (fun h3 hF=>?_)
 obtain ⟨x4,h5,hF⟩:=q00 hF
 refine go ?_
 refine RS.q rfl (q0f rfl rfl (q07 (cI .u64) und103 (q03 inf191) (q13 .u64) h5 rfl)) (RS.q rfl (q0b und191 rfl rfl rfl) ?_)
 exact gx hF
 exact gx hF
def qeo (n:Nat) (l11:List Int):Option ((List Int)) :=
 q04 (q68 n l11) fun r13 =>
 some r13
def qb3 (p1:List Int) (p2:List Int) (n:Nat):Nat→Int→(List Int)→Option ((List Int))
 | 0,_,_=>none
 | m1+1,z8,l9 =>
  cond (decide (z8<(p1.length:Int)))
   (q04 (q0w p1 z8) fun x16 =>
   q04 (qfd n p2 z8) fun r18 =>
   q1b ((l9.length+1)*8≤140737488355328∧l9.length+1≤140737488355328) (
   (qb3 p1 p2 n m1) (IntKind.i64.wrap (z8+1)) (l9++[(qv6 .u64 x16 r18)])))
   (qeo n l9)
def qhu (n:Nat) (p1:List Int) (p2:List Int):Option ((List Int)) :=
 qb3 p1 p2 n n 0 ([]:List Int)
theorem qm1 (n:Nat) (p1:List Int) (p2:List Int) (r:(List Int)) (hF:qhu n p1 p2=some r):EvU Tryz.prog 118 [.isl false (List.map (cI .u64) p1),.isl false (List.map (cI .u64) p2)] ⟨[],0⟩ (fun u _=>u = .isl false (List.map (cI .u64) r)∧Bel 0 u):=by
 unfold qhu at hF
 refine bg2 26 fn118 ?_
 refine gr ?_
 refine gr ?_
 refine gr ?_
 refine WPU.ghost (tm':=fr 26 [(0,.iM (cI .u64) p1),(1,.iM (cI .u64) p2),(5,.vl 0 0 0 (([]:List Int).length)),(6,.i6 0)]) (σ':=⟨[(0,.vec (List.map (cI .u64) ([]:List Int)).flatten 191 1 0)],1⟩) (Gh.trans (z39 5 191 1 (by decide) NZ rfl rfl) (z38 ⟨rfl,rfl,rfl,rfl,trivial⟩ rfl)) NZ ?_
 refine gS (l':=[(0,_),(1,_),(5,_),(6,_)]) ?_
 refine z2x (fun m tm σ=>∃ z8:Int,∃ l9:List Int,∃ t10:Nat,qb3 p1 p2 n m z8 l9=some r∧tm=fr 26 [(0,.iM (cI .u64) p1),(1,.iM (cI .u64) p2),(5,.vl 0 t10 0 l9.length),(6,.i6 z8)]∧σ=⟨[(0,.vec (List.map (cI .u64) l9).flatten 191 1 t10)],1⟩) (fun tm σ=>∃ l11:List Int,∃ t12:Nat,qeo n l11=some r∧tm=fr 26 [(5,.vl 0 t12 0 l11.length)]∧σ=⟨[(0,.vec (List.map (cI .u64) l11).flatten 191 1 t12)],1⟩) n ⟨0,([]:List Int),0,hF,rfl,rfl⟩ ?_ ?_
 rintro _ _ ⟨l11,t12,hF,rfl,rfl⟩
 unfold qeo at hF
 refine gn ?_
 refine WPU.ghost (tm':=fr 26 [(5,.iM (cI .u64) l11)]) (σ':=⟨[],1⟩) (Gh.trans (Gh.sub (l':=[(5,.vl 0 t12 0 l11.length)]) ⟨rfl,trivial⟩) (z3g 0 1)) NZ ?_
 obtain ⟨r13,h14,hF⟩:=q00 hF
 refine go ?_
 refine RS.cl rfl (pC (q7u n l11 r13 h14) _) fn119 ?_
 exact gx hF
 rintro (_|m1) _ _ ⟨z8,l9,t10,hF,rfl,rfl⟩
 cases hF
 unfold qb3 at hF
 refine go ?_
 refine RS.q rfl (q0c rfl rfl rfl (q08 (cI .u64) und103)) ?_
 refine go ?_
 refine cF hF (fun h15 hF=>?_) (fun h15 hF=>?_)
 refine go ?_
 refine WPU.block ?_
 obtain ⟨x16,h17,hF⟩:=q00 hF
 obtain ⟨r18,h19,hF⟩:=q00 hF
 obtain ⟨h20,hF⟩:=q09 hF
 refine go ?_
 refine z2z Tryz.tb_ok [(0,9)] (by kernel_rfl) ?_
 repeat refine RD.mv rfl rfl rfl rfl ?_
 refine RD.q rfl (q0f rfl rfl (q07 (cI .u64) und103 (q03 inf191) (q13 .u64) h17 rfl)) (RD.q rfl (q0b und191 rfl rfl rfl) ?_)
 repeat refine RD.mv rfl rfl rfl rfl ?_
 refine RD.fl rfl (pC (qjr n p2 z8 r18 h19)) fn146 (RD.q rfl (q34 rfl rfl (z0r _ _ _) rfl) (RD.act (u:=.sl 1 0 1 1) (σ':=⟨[(1,.row [.int .u64 (qv6 .u64 x16 r18)] 191),(0,.vec (List.map (cI .u64) l9).flatten 191 1 t10)],2⟩) rfl (q0k und103 inf191 rfl rfl rfl rfl rfl rfl rfl) rfl rfl (RD.act (u:=.vl 0 (t10+1) 0 ((l9++[(qv6 .u64 x16 r18)]).length)) (σ':=⟨[(1,.row [.int .u64 (qv6 .u64 x16 r18)] 191),(0,.vec (List.map (cI .u64) (l9++[(qv6 .u64 x16 r18)])).flatten 191 1 (t10+1))],2⟩) rfl (q1i rfl rfl rfl rfl (q1s (cI .u64) ([(qv6 .u64 x16 r18)]) und103 und103 inf191 rfl (q13 .u64) rfl (q1l (cI .u64) [(qv6 .u64 x16 r18)] rfl rfl rfl rfl) h20)) rfl rfl (RD.as rfl rfl rfl rfl ?_))))
 refine RD.done ⟨by kernel_rfl,⟨q0s rfl,trivial⟩,?_⟩
 refine go ?_
 exact lC ⟨_,(l9++[(qv6 .u64 x16 r18)]),(t10+1),hF,rfl,rfl⟩
 refine go ?_
 exact xC ⟨l9,t10,hF,rfl,rfl⟩
def qdc   : Option (Bool) :=
 some true
def q9h (p1:List Int) (p2:List Int):Nat→Int→Option (Bool)
 | 0,_=>none
 | m1+1,z7 =>
  cond (decide (z7<(p1.length:Int)))
   (q04 (q0w p1 z7) fun x9 =>
   q04 (q0w p2 z7) fun x11 =>
   cond (x9 != x11)
    (some false)
    ((q9h p1 p2 m1) (IntKind.i64.wrap (z7+1))))
   (qdc)
def qfc (n:Nat) (p1:List Int) (p2:List Int):Option (Bool) :=
 cond ((p1.length:Int) != (p2.length:Int))
  (some false)
  (q9h p1 p2 n 0)
theorem qjq (n:Nat) (p1:List Int) (p2:List Int) (r:Bool) (hF:qfc n p1 p2=some r):EvU Tryz.prog 120 [.isl false (List.map (cI .u64) p1),.isl false (List.map (cI .u64) p2)] ⟨[],0⟩ (fun u _=>u = .bool r∧Bel 0 u):=by
 unfold qfc at hF
 refine bg2 26 fn120 ?_
 refine go ?_
 refine RS.q rfl (q0c rfl rfl rfl (q08 (cI .u64) und103)) ?_
 refine go ?_
 refine RS.q rfl (q0c rfl rfl rfl (q08 (cI .u64) und103)) ?_
 refine go ?_
 refine cF hF (fun h3 hF=>?_) (fun h3 hF=>?_)
 exact gx hF
 refine go ?_
 refine gS (l':=[(0,_),(1,_),(5,_)]) ?_
 refine z2x (fun m tm σ=>∃ z7:Int,q9h p1 p2 m z7=some r∧tm=fr 26 [(0,.iM (cI .u64) p1),(1,.iM (cI .u64) p2),(5,.i6 z7)]∧σ=⟨[],0⟩) (fun tm σ=>qdc=some r∧tm=fr 26 []∧σ=⟨[],0⟩) n ⟨0,hF,rfl,rfl⟩ ?_ ?_
 rintro _ _ ⟨hF,rfl,rfl⟩
 unfold qdc at hF
 exact gx hF
 rintro (_|m1) _ _ ⟨z7,hF,rfl,rfl⟩
 cases hF
 unfold q9h at hF
 refine go ?_
 refine RS.q rfl (q0c rfl rfl rfl (q08 (cI .u64) und103)) ?_
 refine go ?_
 refine cF hF (fun h8 hF=>?_) (fun h8 hF=>?_)
 refine go ?_
 refine WPU.block ?_
 obtain ⟨x9,h10,hF⟩:=q00 hF
 obtain ⟨x11,h12,hF⟩:=q00 hF
 refine go ?_
 refine z2z Tryz.tb_ok [] (by kernel_rfl) ?_
 repeat refine RD.mv rfl rfl rfl rfl ?_
 refine RD.q rfl (q0f rfl rfl (q07 (cI .u64) und103 (q03 inf191) (q13 .u64) h10 rfl)) (RD.q rfl (q0b und191 rfl rfl rfl) ?_)
 repeat refine RD.mv rfl rfl rfl rfl ?_
 refine RD.q rfl (q0f rfl rfl (q07 (cI .u64) und103 (q03 inf191) (q13 .u64) h12 rfl)) (RD.q rfl (q0b und191 rfl rfl rfl) (RD.q rfl (q34 rfl rfl (qpy _ _ _) rfl) ?_))
 refine RD.done ⟨by kernel_rfl,trivial,?_⟩
 refine go ?_
 refine cF hF (fun h13 hF=>?_) (fun h13 hF=>?_)
 exact gx hF
 refine go ?_
 exact lC ⟨_,hF,rfl,rfl⟩
 refine go ?_
 exact xC ⟨hF,rfl,rfl⟩
def qgs   : Option (Bool) :=
 some false
def qdh (p1:List (List Int)) (p2:List Int) (n:Nat):Nat→Int→Option (Bool)
 | 0,_=>none
 | m1+1,z6 =>
  cond (decide (z6<(p1.length:Int)))
   (q04 (q0w p1 z6) fun x8 =>
   q04 (qfc n x8 p2) fun r10 =>
   cond r10
    (some true)
    ((qdh p1 p2 n m1) (IntKind.i64.wrap (z6+1))))
   (qgs)
def qoq (n:Nat) (p1:List (List Int)) (p2:List Int):Option (Bool) :=
 qdh p1 p2 n n 0
theorem quu (n:Nat) (p1:List (List Int)) (p2:List Int) (r:Bool) (hF:qoq n p1 p2=some r):EvU Tryz.prog 128 [.isl false (List.map (cL (cI .u64)) p1),.isl false (List.map (cI .u64) p2)] ⟨[],0⟩ (fun u _=>u = .bool r∧Bel 0 u):=by
 unfold qoq at hF
 refine bg2 18 fn128 ?_
 refine go ?_
 refine gS (l':=[(0,_),(1,_),(5,_)]) ?_
 refine z2x (fun m tm σ=>∃ z6:Int,qdh p1 p2 n m z6=some r∧tm=fr 18 [(0,.iM (cL (cI .u64)) p1),(1,.iM (cI .u64) p2),(5,.i6 z6)]∧σ=⟨[],0⟩) (fun tm σ=>qgs=some r∧tm=fr 18 []∧σ=⟨[],0⟩) n ⟨0,hF,rfl,rfl⟩ ?_ ?_
 rintro _ _ ⟨hF,rfl,rfl⟩
 unfold qgs at hF
 exact gx hF
 rintro (_|m1) _ _ ⟨z6,hF,rfl,rfl⟩
 cases hF
 unfold qdh at hF
 refine go ?_
 refine RS.q rfl (q0c rfl rfl rfl (q08 (cL (cI .u64)) und148)) ?_
 refine go ?_
 refine cF hF (fun h7 hF=>?_) (fun h7 hF=>?_)
 refine go ?_
 refine WPU.block ?_
 obtain ⟨x8,h9,hF⟩:=q00 hF
 obtain ⟨r10,h11,hF⟩:=q00 hF
 refine go ?_
 refine RS.q rfl (q0f rfl rfl (q07 (cL (cI .u64)) und148 (q03 inf103) (q2x (cI .u64)) h9 rfl)) (RS.q rfl (q0b und103 rfl rfl rfl) ?_)
 refine go ?_
 refine RS.cl rfl (pC (qjq n x8 p2 r10 h11) _) fn120 ?_
 refine go ?_
 refine cF hF (fun h12 hF=>?_) (fun h12 hF=>?_)
 exact gx hF
 refine go ?_
 exact lC ⟨_,hF,rfl,rfl⟩
 refine go ?_
 exact xC ⟨hF,rfl,rfl⟩
def q6t (z19:Int) (rc2:Int→(List (List Int))→Option ((List (List Int)))) (l40:List (List Int)):Option ((List (List Int))) :=
 rc2 (IntKind.i64.wrap (z19+1)) l40
def qad (z6:Int) (rc1:Int→(List (List Int))→Option ((List (List Int)))) (l22:List (List Int)):Option ((List (List Int))) :=
 rc1 (IntKind.i64.wrap (z6+1)) l22
def q40 (n:Nat) (z6:Int) (rc1:Int→(List (List Int))→Option ((List (List Int)))):Nat→Int→(List (List Int))→Option ((List (List Int)))
 | 0,_,_=>none
 | m2+1,z19,l20 =>
  q04 (cond (decide (z19<z6))
   (some (decide ((l20.length:Int)≤256)))
   (some false)) fun b25 =>
  cond b25
   (q04 (q0w l20 z6) fun x28 =>
   q04 (q0w l20 z19) fun x30 =>
   q04 (qhu n x28 x30) fun r32 =>
   q04 (cond (decide ((r32.length:Int) > 0))
    (q04 (qoq n l20 r32) fun r35 =>
    some (!r35))
    (some false)) fun b37 =>
   cond b37
    (q1b ((l20.length+1)*24≤140737488355328∧l20.length+1≤140737488355328) (
    q6t z19 (q40 n z6 rc1 m2) (l20++[r32])))
    (q6t z19 (q40 n z6 rc1 m2) l20))
   (qad z6 rc1 l20)
def qac  (l9:List (List Int)):Option ((List (List Int))) :=
 some l9
def q38 (n:Nat):Nat→Int→(List (List Int))→Option ((List (List Int)))
 | 0,_,_=>none
 | m1+1,z6,l7 =>
  q04 (cond (decide (z6<(l7.length:Int)))
   (some (decide ((l7.length:Int)≤256)))
   (some false)) fun b12 =>
  cond b12
   (q40 n z6 (q38 n m1) n 0 l7)
   (qac l7)
def qev (n:Nat) (p1:List (List Int)):Option ((List (List Int))) :=
 q1b (p1.length*24≤140737488355328∧p1.length≤140737488355328) (
 q38 n n 0 p1)
theorem qn0 (n:Nat) (p1:List (List Int)) (r:(List (List Int))) (hF:qev n p1=some r):EvU Tryz.prog 97 [.isl false (List.map (cL (cI .u64)) p1)] ⟨[],0⟩ (fun u _=>u = .isl false (List.map (cL (cI .u64)) r)∧Bel 0 u):=by
 unfold qev at hF
 refine bg1 54 fn97 ?_
 obtain ⟨h2,hF⟩:=q09 hF
 refine go ?_
 refine RS.q (u:=.sl 0 0 0 0) (σ':=⟨[(0,.row [] 103)],1⟩) rfl (q0k und148 inf103 rfl rfl rfl rfl rfl rfl rfl) ?_
 refine go ?_
 refine RS.q (u:=.vl 1 0 0 p1.length) (σ':=⟨[(1,.vec (List.map (cL (cI .u64)) p1).flatten 103 1 0),(0,.row [] 103)],2⟩) rfl (q1i rfl rfl rfl rfl (qku (cL (cI .u64)) p1 und148 und148 inf103 rfl rfl rfl (qak (cL (cI .u64)) (q2x (cI .u64))) h2)) ?_
 refine go ?_
 refine gS (l':=[(3,_),(4,_)]) ?_
 refine z2x (fun m tm σ=>∃ z6:Int,∃ l7:List (List Int),∃ t8:Nat,q38 n m z6 l7=some r∧tm=fr 54 [(3,.vl 1 t8 0 l7.length),(4,.i6 z6)]∧σ=⟨[(1,.vec (List.map (cL (cI .u64)) l7).flatten 103 1 t8),(0,.row [] 103)],2⟩) (fun tm σ=>∃ l9:List (List Int),∃ t10:Nat,qac l9=some r∧tm=fr 54 [(3,.vl 1 t10 0 l9.length)]∧σ=⟨[(1,.vec (List.map (cL (cI .u64)) l9).flatten 103 1 t10),(0,.row [] 103)],2⟩) n ⟨0,p1,0,hF,rfl,rfl⟩ ?_ ?_
 rintro _ _ ⟨l9,t10,hF,rfl,rfl⟩
 unfold qac at hF
 refine go ?_
 obtain rfl:=sI hF
 exact rT (us:=[.vl 1 t10 0 l9.length]) (u:=.iM (cL (cI .u64)) l9) (q2l rfl (q3b)) (fR 1 1)
 rintro (_|m1) _ _ ⟨z6,l7,t8,hF,rfl,rfl⟩
 cases hF
 unfold q38 at hF
 obtain ⟨b12,h13,hF⟩:=q00 hF
 refine gn ?_
 refine z2y (fun tm σ=>tm=fr 54 [(3,.vl 1 t8 0 l7.length),(4,.i6 z6),(18,.bool b12)]∧σ=⟨[(1,.vec (List.map (cL (cI .u64)) l7).flatten 103 1 t8),(0,.row [] 103)],2⟩) ?_ ?_
 rintro _ _ ⟨rfl,rfl⟩
 refine go ?_
 refine cF hF (fun h14 hF=>?_) (fun h14 hF=>?_)
 refine go ?_
 refine WPU.block ?_
 refine go ?_
 refine gS (l':=[(3,_),(4,_),(5,_)]) ?_
 refine z2x (fun m tm σ=>∃ z19:Int,∃ l20:List (List Int),∃ t21:Nat,q40 n z6 (q38 n m1) m z19 l20=some r∧tm=fr 54 [(3,.vl 1 t21 0 l20.length),(4,.i6 z6),(5,.i6 z19)]∧σ=⟨[(1,.vec (List.map (cL (cI .u64)) l20).flatten 103 1 t21),(0,.row [] 103)],2⟩) (fun tm σ=>∃ l22:List (List Int),∃ t23:Nat,qad z6 (q38 n m1) l22=some r∧tm=fr 54 [(3,.vl 1 t23 0 l22.length),(4,.i6 z6)]∧σ=⟨[(1,.vec (List.map (cL (cI .u64)) l22).flatten 103 1 t23),(0,.row [] 103)],2⟩) n ⟨0,l7,t8,hF,rfl,rfl⟩ ?_ ?_
 rintro _ _ ⟨l22,t23,hF,rfl,rfl⟩
 unfold qad at hF
 refine go ?_
 exact lC ⟨_,l22,t23,hF,rfl,rfl⟩
 rintro (_|m2) _ _ ⟨z19,l20,t21,hF,rfl,rfl⟩
 cases hF
 unfold q40 at hF
 obtain ⟨b25,h26,hF⟩:=q00 hF
 refine gn ?_
 refine z2y (fun tm σ=>tm=fr 54 [(3,.vl 1 t21 0 l20.length),(4,.i6 z6),(5,.i6 z19),(28,.bool b25)]∧σ=⟨[(1,.vec (List.map (cL (cI .u64)) l20).flatten 103 1 t21),(0,.row [] 103)],2⟩) ?_ ?_
 rintro _ _ ⟨rfl,rfl⟩
 refine go ?_
 refine cF hF (fun h27 hF=>?_) (fun h27 hF=>?_)
 refine go ?_
 refine WPU.block ?_
 obtain ⟨x28,h29,hF⟩:=q00 hF
 obtain ⟨x30,h31,hF⟩:=q00 hF
 obtain ⟨r32,h33,hF⟩:=q00 hF
 refine go ?_
 refine z2z Tryz.tb_ok [] (by kernel_rfl) ?_
 repeat refine RD.mv rfl rfl rfl rfl ?_
 refine RD.q rfl (q0f rfl rfl (q8t (cL (cI .u64)) und148 (q03 inf103) (by decide) (q2x (cI .u64)) (vo rfl) h29)) ?_
 refine RD.q rfl (q4o (cL (cI .u64)) (fun x=>.iM (cI .u64) x) und103 rfl (fun _=>rfl) rfl rfl h29) ?_
 repeat refine RD.mv rfl rfl rfl rfl ?_
 refine RD.q rfl (q0f rfl rfl (q8t (cL (cI .u64)) und148 (q03 inf103) (by decide) (q2x (cI .u64)) (vo rfl) h31)) ?_
 refine RD.q rfl (q4o (cL (cI .u64)) (fun x=>.iM (cI .u64) x) und103 rfl (fun _=>rfl) rfl rfl h31) (RD.fl rfl (pC (qm1 n x28 x30 r32 h33)) fn118 (RD.as rfl rfl rfl rfl ?_))
 refine RD.done ⟨by kernel_rfl,trivial,?_⟩
 obtain ⟨b37,h38,hF⟩:=q00 hF
 refine gn ?_
 refine z2y (fun tm σ=>tm=fr 54 [(3,.vl 1 t21 0 l20.length),(4,.i6 z6),(5,.i6 z19),(6,.iM (cI .u64) r32),(48,.bool b37)]∧σ=⟨[(1,.vec (List.map (cL (cI .u64)) l20).flatten 103 1 t21),(0,.row [] 103)],2⟩) ?_ ?_
 rintro _ _ ⟨rfl,rfl⟩
 refine gn ?_
 refine z2y (fun tm σ=>∃ l40:List (List Int),∃ t41:Nat,q6t z19 (q40 n z6 (q38 n m1) m2) l40=some r∧tm=fr 54 [(3,.vl 1 t41 0 l40.length),(4,.i6 z6),(5,.i6 z19)]∧σ=⟨[(1,.vec (List.map (cL (cI .u64)) l40).flatten 103 1 t41),(0,.row [] 103)],2⟩) ?_ ?_
 rintro _ _ ⟨l40,t41,hF,rfl,rfl⟩
 unfold q6t at hF
 refine go ?_
 exact lC ⟨_,l40,t41,hF,rfl,rfl⟩
 refine cF hF (fun h39 hF=>?_) (fun h39 hF=>?_)
 obtain ⟨h42,hF⟩:=q09 hF
 refine go ?_
 refine RS.q (u:=.sl 2 0 1 1) (σ':=⟨[(2,.row [.iM (cI .u64) r32] 103),(1,.vec (List.map (cL (cI .u64)) l20).flatten 103 1 t21),(0,.row [] 103)],3⟩) rfl (q0k und148 inf103 rfl rfl rfl rfl rfl rfl rfl) (RS.q (u:=.vl 1 (t21+1) 0 ((l20++[r32]).length)) (σ':=⟨[(2,.row [.iM (cI .u64) r32] 103),(1,.vec (List.map (cL (cI .u64)) (l20++[r32])).flatten 103 1 (t21+1)),(0,.row [] 103)],3⟩) rfl (q1i rfl rfl rfl rfl (q1s (cL (cI .u64)) ([r32]) und148 und148 inf103 rfl (q2x (cI .u64)) rfl (q1l (cL (cI .u64)) [r32] rfl rfl rfl rfl) h42)) ?_)
 refine go ?_
 exact xC ⟨(l20++[r32]),(t21+1),hF,rfl,rfl⟩
 refine go ?_
 exact xC ⟨l20,t21,hF,rfl,rfl⟩
 rcases gB h38 with ⟨h34,h38⟩ | ⟨h34,h38⟩
 obtain ⟨r35,h36,h38⟩:=q00 h38
 obtain rfl:=sI h38
 refine go ?_
 refine RS.q rfl (q0c rfl rfl rfl (q08 (cI .u64) und103)) ?_
 refine go ?_
 refine RS.cl rfl (vw (quu n l20 r32 r35 h36) (z34 1 1)) fn128 ?_
 refine go ?_
 exact xC ⟨rfl,rfl⟩
 obtain rfl:=sI h38
 refine go ?_
 refine RS.q rfl (q0c rfl rfl rfl (q08 (cI .u64) und103)) ?_
 refine go ?_
 exact xC ⟨rfl,rfl⟩
 refine go ?_
 exact xC ⟨l20,t21,hF,rfl,rfl⟩
 rcases gB h26 with ⟨h24,h26⟩ | ⟨h24,h26⟩
 obtain rfl:=sI h26
 refine go ?_
 refine RS.w rfl (q0c rfl rfl rfl (q92 und148 rfl)) ?_
 refine go ?_
 exact xC ⟨rfl,rfl⟩
 exact gy h26
 refine go ?_
 exact xC ⟨l7,t8,hF,rfl,rfl⟩
 rcases gB h13 with ⟨h11,h13⟩ | ⟨h11,h13⟩
 obtain rfl:=sI h13
 refine go ?_
 refine RS.q rfl (q0c rfl rfl rfl (q92 und148 rfl)) ?_
 refine go ?_
 refine RS.w rfl (q0c rfl rfl rfl (q92 und148 rfl)) ?_
 refine go ?_
 exact xC ⟨rfl,rfl⟩
 obtain rfl:=sI h13
 refine go ?_
 refine RS.q rfl (q0c rfl rfl rfl (q92 und148 rfl)) ?_
 refine go ?_
 exact xC ⟨rfl,rfl⟩
def qbd (n:Nat) (l11:List Int):Option ((List Int)) :=
 q04 (q68 n l11) fun r13 =>
 some r13
def q7t (p1:List Int) (p2:List Int) (n:Nat):Nat→Int→(List Int)→Option ((List Int))
 | 0,_,_=>none
 | m1+1,z8,l9 =>
  cond (decide (z8<(p1.length:Int)))
   (q04 (q0w p1 z8) fun x16 =>
   q04 (qfd n p2 z8) fun r18 =>
   q1b ((l9.length+1)*8≤140737488355328∧l9.length+1≤140737488355328) (
   (q7t p1 p2 n m1) (IntKind.i64.wrap (z8+1)) (l9++[(qb8 .u64 x16 r18)])))
   (qbd n l9)
def qgk (n:Nat) (p1:List Int) (p2:List Int):Option ((List Int)) :=
 q7t p1 p2 n n 0 ([]:List Int)
theorem qoi (n:Nat) (p1:List Int) (p2:List Int) (r:(List Int)) (hF:qgk n p1 p2=some r):EvU Tryz.prog 153 [.isl false (List.map (cI .u64) p1),.isl false (List.map (cI .u64) p2)] ⟨[],0⟩ (fun u _=>u = .isl false (List.map (cI .u64) r)∧Bel 0 u):=by
 unfold qgk at hF
 refine bg2 26 fn153 ?_
 refine gr ?_
 refine gr ?_
 refine gr ?_
 refine WPU.ghost (tm':=fr 26 [(0,.iM (cI .u64) p1),(1,.iM (cI .u64) p2),(5,.vl 0 0 0 (([]:List Int).length)),(6,.i6 0)]) (σ':=⟨[(0,.vec (List.map (cI .u64) ([]:List Int)).flatten 191 1 0)],1⟩) (Gh.trans (z39 5 191 1 (by decide) NZ rfl rfl) (z38 ⟨rfl,rfl,rfl,rfl,trivial⟩ rfl)) NZ ?_
 refine gS (l':=[(0,_),(1,_),(5,_),(6,_)]) ?_
 refine z2x (fun m tm σ=>∃ z8:Int,∃ l9:List Int,∃ t10:Nat,q7t p1 p2 n m z8 l9=some r∧tm=fr 26 [(0,.iM (cI .u64) p1),(1,.iM (cI .u64) p2),(5,.vl 0 t10 0 l9.length),(6,.i6 z8)]∧σ=⟨[(0,.vec (List.map (cI .u64) l9).flatten 191 1 t10)],1⟩) (fun tm σ=>∃ l11:List Int,∃ t12:Nat,qbd n l11=some r∧tm=fr 26 [(5,.vl 0 t12 0 l11.length)]∧σ=⟨[(0,.vec (List.map (cI .u64) l11).flatten 191 1 t12)],1⟩) n ⟨0,([]:List Int),0,hF,rfl,rfl⟩ ?_ ?_
 rintro _ _ ⟨l11,t12,hF,rfl,rfl⟩
 unfold qbd at hF
 refine gn ?_
 refine WPU.ghost (tm':=fr 26 [(5,.iM (cI .u64) l11)]) (σ':=⟨[],1⟩) (Gh.trans (Gh.sub (l':=[(5,.vl 0 t12 0 l11.length)]) ⟨rfl,trivial⟩) (z3g 0 1)) NZ ?_
 obtain ⟨r13,h14,hF⟩:=q00 hF
 refine go ?_
 refine RS.cl rfl (pC (q7u n l11 r13 h14) _) fn119 ?_
 exact gx hF
 rintro (_|m1) _ _ ⟨z8,l9,t10,hF,rfl,rfl⟩
 cases hF
 unfold q7t at hF
 refine go ?_
 refine RS.q rfl (q0c rfl rfl rfl (q08 (cI .u64) und103)) ?_
 refine go ?_
 refine cF hF (fun h15 hF=>?_) (fun h15 hF=>?_)
 refine go ?_
 refine WPU.block ?_
 obtain ⟨x16,h17,hF⟩:=q00 hF
 obtain ⟨r18,h19,hF⟩:=q00 hF
 obtain ⟨h20,hF⟩:=q09 hF
 refine go ?_
 refine z2z Tryz.tb_ok [(0,9)] (by kernel_rfl) ?_
 repeat refine RD.mv rfl rfl rfl rfl ?_
 refine RD.q rfl (q0f rfl rfl (q07 (cI .u64) und103 (q03 inf191) (q13 .u64) h17 rfl)) (RD.q rfl (q0b und191 rfl rfl rfl) ?_)
 repeat refine RD.mv rfl rfl rfl rfl ?_
 refine RD.fl rfl (pC (qjr n p2 z8 r18 h19)) fn146 (RD.q rfl (q34 rfl rfl (qwi _ _ _) rfl) (RD.act (u:=.sl 1 0 1 1) (σ':=⟨[(1,.row [.int .u64 (qb8 .u64 x16 r18)] 191),(0,.vec (List.map (cI .u64) l9).flatten 191 1 t10)],2⟩) rfl (q0k und103 inf191 rfl rfl rfl rfl rfl rfl rfl) rfl rfl (RD.act (u:=.vl 0 (t10+1) 0 ((l9++[(qb8 .u64 x16 r18)]).length)) (σ':=⟨[(1,.row [.int .u64 (qb8 .u64 x16 r18)] 191),(0,.vec (List.map (cI .u64) (l9++[(qb8 .u64 x16 r18)])).flatten 191 1 (t10+1))],2⟩) rfl (q1i rfl rfl rfl rfl (q1s (cI .u64) ([(qb8 .u64 x16 r18)]) und103 und103 inf191 rfl (q13 .u64) rfl (q1l (cI .u64) [(qb8 .u64 x16 r18)] rfl rfl rfl rfl) h20)) rfl rfl (RD.as rfl rfl rfl rfl ?_))))
 refine RD.done ⟨by kernel_rfl,⟨q0s rfl,trivial⟩,?_⟩
 refine go ?_
 exact lC ⟨_,(l9++[(qb8 .u64 x16 r18)]),(t10+1),hF,rfl,rfl⟩
 refine go ?_
 exact xC ⟨l9,t10,hF,rfl,rfl⟩
def q8k (n:Nat) (p1:List Int) (p2:List Int):Option (Bool) :=
 q04 (qgk n p1 p2) fun r3 =>
 some ((r3.length:Int) == 0)
theorem q7v (n:Nat) (p1:List Int) (p2:List Int) (r:Bool) (hF:q8k n p1 p2=some r):EvU Tryz.prog 133 [.isl false (List.map (cI .u64) p1),.isl false (List.map (cI .u64) p2)] ⟨[],0⟩ (fun u _=>u = .bool r∧Bel 0 u):=by
 unfold q8k at hF
 refine bg2 10 fn133 ?_
 obtain ⟨r3,h4,hF⟩:=q00 hF
 refine go ?_
 refine RS.cl rfl (pC (qoi n p1 p2 r3 h4) _) fn153 (RS.q rfl (q0c rfl rfl rfl (q08 (cI .u64) und103)) ?_)
 exact gx hF
def qgj (n:Nat) (p1:List Int) (p2:List Int):Option (Bool) :=
 q04 (q04 (q8k n p1 p2) fun r3 =>
 cond r3
  (q04 (q8k n p2 p1) fun r6 =>
  some r6)
  (some false)) fun b8 =>
 some b8
theorem qoh (n:Nat) (p1:List Int) (p2:List Int) (r:Bool) (hF:qgj n p1 p2=some r):EvU Tryz.prog 129 [.isl false (List.map (cI .u64) p1),.isl false (List.map (cI .u64) p2)] ⟨[],0⟩ (fun u _=>u = .bool r∧Bel 0 u):=by
 unfold qgj at hF
 refine bg2 13 fn129 ?_
 obtain ⟨b8,h9,hF⟩:=q00 hF
 refine gr ?_
 refine z2y (fun tm σ=>tm=fr 13 [(4,.bool b8)]∧σ=⟨[],0⟩) ?_ ?_
 rintro _ _ ⟨rfl,rfl⟩
 exact gx hF
 obtain ⟨r3,h4,h9⟩:=q00 h9
 rcases gB h9 with ⟨h5,h9⟩ | ⟨h5,h9⟩
 obtain ⟨r6,h7,h9⟩:=q00 h9
 obtain rfl:=sI h9
 refine go ?_
 refine RS.cl rfl (pC (q7v n p1 p2 r3 h4) _) fn133 ?_
 refine go ?_
 refine RS.cl rfl (pC (q7v n p2 p1 r6 h7) _) fn133 ?_
 refine go ?_
 exact xC ⟨rfl,rfl⟩
 obtain rfl:=sI h9
 refine go ?_
 refine RS.cl rfl (pC (q7v n p1 p2 r3 h4) _) fn133 ?_
 refine go ?_
 exact xC ⟨rfl,rfl⟩
def qhw (n:Nat) (p1:List Int) (p2:Int):Option (Bool) :=
 q04 (cond (decide (p2<0))
  (some true)
  (some (decide ((IntKind.i64.wrap (p2.tdiv 64)) ≥ (p1.length:Int))))) fun b5 =>
 cond b5
  (some false)
  (q04 (q0w p1 (IntKind.i64.wrap (p2.tdiv 64))) fun x9 =>
  q1b (¬ (IntKind.u64.wrap (p2.tmod 64))<0) (
  some ((qv6 .u64 (x9.fdiv (2 ^ (min (IntKind.u64.wrap (p2.tmod 64)).toNat IntKind.u64.bits))) 1) == 1)))
theorem qm2 (n:Nat) (p1:List Int) (p2:Int) (r:Bool) (hF:qhw n p1 p2=some r):EvU Tryz.prog 130 [.isl false (List.map (cI .u64) p1),.int .i64 p2] ⟨[],0⟩ (fun u _=>u = .bool r∧Bel 0 u):=by
 unfold qhw at hF
 refine bg2 25 fn130 ?_
 obtain ⟨b5,h6,hF⟩:=q00 hF
 refine gr ?_
 refine z2y (fun tm σ=>tm=fr 25 [(0,.iM (cI .u64) p1),(1,.i6 p2),(13,.bool b5)]∧σ=⟨[],0⟩) ?_ ?_
 rintro _ _ ⟨rfl,rfl⟩
 refine go ?_
 refine cF hF (fun h7 hF=>?_) (fun h7 hF=>?_)
 exact gx hF
 obtain ⟨x9,h10,hF⟩:=q00 hF
 obtain ⟨h12,hF⟩:=q09 hF
 refine go ?_
 refine RS.q rfl (q34 rfl rfl (qsw _ (by decide)) rfl) ?_
 refine RS.q rfl (q0f rfl rfl (q07 (cI .u64) und103 (q03 inf191) (q13 .u64) h10 rfl)) (RS.q rfl (q0b und191 rfl rfl rfl) ?_)
 refine go ?_
 refine RS.q rfl (q34 rfl rfl (z0t _ (by decide)) rfl) ?_
 refine RS.q (u:=.int .u64 (IntKind.u64.wrap (p2.tmod 64))) rfl (qx3 rfl rfl (by simp only [qrf,und3,und190]<;>rfl) rfl) ?_
 refine RS.q rfl (q34 rfl rfl (ix_shr _ h12) rfl) (RS.q rfl (q34 rfl rfl (z0r _ _ _) rfl) ?_)
 exact gx hF
 rcases gB h6 with ⟨h3,h6⟩ | ⟨h3,h6⟩
 exact gy h6
 obtain rfl:=sI h6
 refine go ?_
 refine RS.w rfl (q34 rfl rfl (qsw _ (by decide)) rfl) ?_
 refine go ?_
 refine RS.w rfl (q0c rfl rfl rfl (q08 (cI .u64) und103)) ?_
 refine go ?_
 exact xC ⟨rfl,rfl⟩
def q57 (z8:Int) (rc1:(List (List UInt8))→Int→Option ((List (List UInt8)))) (l16:List (List UInt8)):Option ((List (List UInt8))) :=
 rc1 l16 (IntKind.i64.wrap (z8+1))
def q7g  (l9:List (List UInt8)):Option ((List (List UInt8))) :=
 some l9
def q31 (p1:List q05) (p2:List (List UInt8)) (n:Nat):Nat→(List (List UInt8))→Int→Option ((List (List UInt8)))
 | 0,_,_=>none
 | m1+1,l7,z8 =>
  cond (decide (z8<(p2.length:Int)))
   (q04 (q0w p2 z8) fun x11 =>
   q04 (q69 n p1 x11) fun r13 =>
   cond (decide (r13 ≥ 0))
    (q04 (q0w p2 z8) fun x17 =>
    q04 (q8l n l7 x17) fun r19 =>
    q57 z8 (q31 p1 p2 n m1) r19)
    (q57 z8 (q31 p1 p2 n m1) l7))
   (q7g l7)
def qbn (n:Nat) (p1:List q05) (p2:List (List UInt8)):Option ((List (List UInt8))) :=
 q31 p1 p2 n n [] 0
theorem qk5 (n:Nat) (p1:List q05) (p2:List (List UInt8)) (r:(List (List UInt8))) (hF:qbn n p1 p2=some r):EvU Tryz.prog 150 [.isl false (List.map q02 p1),.isl false (List.map cS p2)] ⟨[],0⟩ (fun u _=>u = .isl false (List.map cS r)∧Bel 0 u):=by
 unfold qbn at hF
 refine bg2 27 fn150 ?_
 refine gr ?_
 refine gr ?_
 refine gr ?_
 refine WPU.ghost (tm':=fr 27 [(0,.iM q02 p1),(1,.iM cS p2),(5,.iM cS []),(6,.i6 0)]) (Gh.trans (Gh.sub (l':=[(0,.iM q02 p1),(1,.iM cS p2),(5,.nils),(6,.i6 0)]) ⟨rfl,rfl,rfl,rfl,trivial⟩) (Gh.wkS (l':=[(0,.iM q02 p1),(1,.iM cS p2),(5,.iM cS []),(6,.i6 0)]) (.cons (.refl _) (.cons (.refl _) (.cons (.nil false) (.cons (.refl _) .nil)))))) NZ ?_
 refine gS (l':=[(0,_),(1,_),(5,_),(6,_)]) ?_
 refine z2x (fun m tm σ=>∃ l7:List (List UInt8),∃ z8:Int,q31 p1 p2 n m l7 z8=some r∧tm=fr 27 [(0,.iM q02 p1),(1,.iM cS p2),(5,.iM cS l7),(6,.i6 z8)]∧σ=⟨[],0⟩) (fun tm σ=>∃ l9:List (List UInt8),q7g l9=some r∧tm=fr 27 [(5,.iM cS l9)]∧σ=⟨[],0⟩) n ⟨[],0,hF,rfl,rfl⟩ ?_ ?_
 rintro _ _ ⟨l9,hF,rfl,rfl⟩
 unfold q7g at hF
 exact gx hF
 rintro (_|m1) _ _ ⟨l7,z8,hF,rfl,rfl⟩
 cases hF
 unfold q31 at hF
 refine go ?_
 refine RS.q rfl (q0c rfl rfl rfl (q08 cS und80)) ?_
 refine go ?_
 refine cF hF (fun h10 hF=>?_) (fun h10 hF=>?_)
 refine go ?_
 refine WPU.block ?_
 obtain ⟨x11,h12,hF⟩:=q00 hF
 obtain ⟨r13,h14,hF⟩:=q00 hF
 refine go ?_
 refine RS.q rfl (q0f rfl rfl (q07 cS und80 (q03 inf9) q1m h12 rfl)) (RS.q rfl (q0b und9 rfl rfl rfl) (RS.cl rfl (pC (q6a n p1 x11 r13 h14) _) fn148 ?_))
 refine gn ?_
 refine z2y (fun tm σ=>∃ l16:List (List UInt8),q57 z8 (q31 p1 p2 n m1) l16=some r∧tm=fr 27 [(0,.iM q02 p1),(1,.iM cS p2),(5,.iM cS l16),(6,.i6 z8)]∧σ=⟨[],0⟩) ?_ ?_
 rintro _ _ ⟨l16,hF,rfl,rfl⟩
 unfold q57 at hF
 refine go ?_
 exact lC ⟨l16,(IntKind.i64.wrap (z8+1)),hF,rfl,rfl⟩
 refine cF hF (fun h15 hF=>?_) (fun h15 hF=>?_)
 obtain ⟨x17,h18,hF⟩:=q00 hF
 obtain ⟨r19,h20,hF⟩:=q00 hF
 refine go ?_
 refine RS.q rfl (q0f rfl rfl (q07 cS und80 (q03 inf9) q1m h18 rfl)) (RS.q rfl (q0b und9 rfl rfl rfl) (RS.cl rfl (pC (q7f n l7 x17 r19 h20) _) fn116 ?_))
 refine go ?_
 exact xC ⟨r19,hF,rfl,rfl⟩
 refine go ?_
 exact xC ⟨l7,hF,rfl,rfl⟩
 refine go ?_
 exact xC ⟨l7,hF,rfl,rfl⟩
def qbf  (l21:List (List UInt8)):Option ((List (List UInt8))) :=
 some l21
def q7x (n:Nat) (l13:List (List UInt8)):Nat→(List (List UInt8))→Int→Option ((List (List UInt8)))
 | 0,_,_=>none
 | m2+1,l19,z20 =>
  cond (decide (z20<(l13.length:Int)))
   (q04 (q0w l13 z20) fun x23 =>
   q04 (q8l n l19 x23) fun r25 =>
   (q7x n l13 m2) r25 (IntKind.i64.wrap (z20+1)))
   (qbf l19)
def q7w (z40:Int) (rc3:Int→(List (List UInt8))→Option ((List (List UInt8)))) (l51:List (List UInt8)):Option ((List (List UInt8))) :=
 rc3 (IntKind.i64.wrap (z40+1)) l51
def qbg (z10:Int) (rc1:Int→(List (List UInt8))→Option ((List (List UInt8)))) (l43:List (List UInt8)):Option ((List (List UInt8))) :=
 rc1 (IntKind.i64.wrap (z10+1)) l43
def q4e (n:Nat) (z10:Int) (rc1:Int→(List (List UInt8))→Option ((List (List UInt8)))) (x32:q05):Nat→Int→(List (List UInt8))→Option ((List (List UInt8)))
 | 0,_,_=>none
 | m3+1,z40,l41 =>
  cond (decide (z40<(x32.Supers.length:Int)))
   (q04 (q0w x32.Supers z40) fun x46 =>
   q04 (q36 n l41 x46) fun r48 =>
   cond (!r48)
    (q04 (q0w x32.Supers z40) fun x53 =>
    q1b ((l41.length+1)*16≤140737488355328∧l41.length+1≤140737488355328) (
    q7w z40 (q4e n z10 rc1 x32 m3) (l41++[x53])))
    (q7w z40 (q4e n z10 rc1 x32 m3) l41))
   (qbg z10 rc1 l41)
def qbe (n:Nat) (l13:List (List UInt8)):Option ((List (List UInt8))) :=
 q7x n l13 n [] 0
def q3p (p1:List q05) (n:Nat):Nat→Int→(List (List UInt8))→Option ((List (List UInt8)))
 | 0,_,_=>none
 | m1+1,z10,l11 =>
  cond (decide (z10<(l11.length:Int)))
   (q04 (q0w l11 z10) fun x28 =>
   q04 (q69 n p1 x28) fun r30 =>
   q04 (q0w p1 r30) fun x32 =>
   q4e n z10 (q3p p1 n m1) x32 n 0 l11)
   (qbe n l11)
def qgm (n:Nat) (p1:List q05) (p2:List UInt8):Option ((List (List UInt8))) :=
 q04 (q69 n p1 p2) fun r3 =>
 cond (decide (r3<0))
  (some [])
  (q3p p1 n n 0 ([p2]))
theorem qok (n:Nat) (p1:List q05) (p2:List UInt8) (r:(List (List UInt8))) (hF:qgm n p1 p2=some r):EvU Tryz.prog 151 [.isl false (List.map q02 p1),.str p2] ⟨[],0⟩ (fun u _=>u = .isl false (List.map cS r)∧Bel 0 u):=by
 unfold qgm at hF
 refine bg2 66 fn151 ?_
 obtain ⟨r3,h4,hF⟩:=q00 hF
 refine go ?_
 refine RS.cl rfl (pC (q6a n p1 p2 r3 h4) _) fn148 ?_
 refine go ?_
 refine cF hF (fun h5 hF=>?_) (fun h5 hF=>?_)
 refine go ?_
 obtain rfl:=sI hF
 exact rT (us:=[.nils]) (u:=.isl false []) (q2l rfl (q3b)) wR
 refine go ?_
 refine RS.step (u:=.vl 0 0 0 ([p2].length)) (σ':=⟨[(0,.vec (List.map cS ([p2])).flatten 9 1 0)],1⟩) rfl (qch.bslv (cs:=(List.map cS [p2]).flatten) Tryz.tb_ok rfl und80 inf9 rfl rfl rfl rfl rfl rfl rfl rfl) rfl rfl ?_
 refine go ?_
 refine gS (l':=[(0,_),(5,_),(6,_)]) ?_
 refine z2x (fun m tm σ=>∃ z10:Int,∃ l11:List (List UInt8),∃ t12:Nat,q3p p1 n m z10 l11=some r∧tm=fr 66 [(0,.iM q02 p1),(5,.vl 0 t12 0 l11.length),(6,.i6 z10)]∧σ=⟨[(0,.vec (List.map cS l11).flatten 9 1 t12)],1⟩) (fun tm σ=>∃ l13:List (List UInt8),∃ t14:Nat,qbe n l13=some r∧tm=fr 66 [(5,.vl 0 t14 0 l13.length)]∧σ=⟨[(0,.vec (List.map cS l13).flatten 9 1 t14)],1⟩) n ⟨0,[p2],0,hF,rfl,rfl⟩ ?_ ?_
 rintro _ _ ⟨l13,t14,hF,rfl,rfl⟩
 unfold qbe at hF
 refine gr ?_
 refine gr ?_
 refine WPU.ghost (tm':=fr 66 [(5,.vl 0 t14 0 l13.length),(9,.iM cS []),(10,.i6 0)]) (Gh.trans (Gh.sub (l':=[(5,.vl 0 t14 0 l13.length),(9,.nils),(10,.i6 0)]) ⟨rfl,rfl,rfl,trivial⟩) (Gh.wkS (l':=[(5,.vl 0 t14 0 l13.length),(9,.iM cS []),(10,.i6 0)]) (.cons (.refl _) (.cons (.nil false) (.cons (.refl _) .nil))))) NZ ?_
 refine gS (l':=[(5,_),(9,_),(10,_)]) ?_
 refine z2x (fun m tm σ=>∃ l19:List (List UInt8),∃ z20:Int,q7x n l13 m l19 z20=some r∧tm=fr 66 [(5,.vl 0 t14 0 l13.length),(9,.iM cS l19),(10,.i6 z20)]∧σ=⟨[(0,.vec (List.map cS l13).flatten 9 1 t14)],1⟩) (fun tm σ=>∃ l21:List (List UInt8),qbf l21=some r∧tm=fr 66 [(9,.iM cS l21)]∧σ=⟨[(0,.vec (List.map cS l13).flatten 9 1 t14)],1⟩) n ⟨[],0,hF,rfl,rfl⟩ ?_ ?_
 rintro _ _ ⟨l21,hF,rfl,rfl⟩
 unfold qbf at hF
 exact gx hF
 rintro (_|m2) _ _ ⟨l19,z20,hF,rfl,rfl⟩
 cases hF
 unfold q7x at hF
 refine go ?_
 refine RS.q rfl (q0c rfl rfl rfl (q92 und80 rfl)) ?_
 refine go ?_
 refine cF hF (fun h22 hF=>?_) (fun h22 hF=>?_)
 refine go ?_
 refine WPU.block ?_
 obtain ⟨x23,h24,hF⟩:=q00 hF
 obtain ⟨r25,h26,hF⟩:=q00 hF
 refine go ?_
 refine RS.q rfl (q0f rfl rfl (q8t cS und80 (q03 inf9) (by decide) q1m (vo rfl) h24)) ?_
 refine RS.q rfl (q4o cS (fun x=>.str x) und9 rfl (fun _=>rfl) rfl rfl h24) (RS.cl rfl (pC (q7f n l19 x23 r25 h26) _) fn116 ?_)
 refine go ?_
 exact lC ⟨r25,(IntKind.i64.wrap (z20+1)),hF,rfl,rfl⟩
 refine go ?_
 exact xC ⟨l19,hF,rfl,rfl⟩
 rintro (_|m1) _ _ ⟨z10,l11,t12,hF,rfl,rfl⟩
 cases hF
 unfold q3p at hF
 refine go ?_
 refine RS.q rfl (q0c rfl rfl rfl (q92 und80 rfl)) ?_
 refine go ?_
 refine cF hF (fun h27 hF=>?_) (fun h27 hF=>?_)
 refine go ?_
 refine WPU.block ?_
 obtain ⟨x28,h29,hF⟩:=q00 hF
 obtain ⟨r30,h31,hF⟩:=q00 hF
 obtain ⟨x32,h33,hF⟩:=q00 hF
 refine go ?_
 refine RS.q rfl (q0f rfl rfl (q8t cS und80 (q03 inf9) (by decide) q1m (vo rfl) h29)) ?_
 refine RS.q rfl (q4o cS (fun x=>.str x) und9 rfl (fun _=>rfl) rfl rfl h29) (RS.cl rfl (pC (q6a n p1 x28 r30 h31) _) fn148 (RS.q rfl (q0f rfl rfl (q07 q02 und38 (q03 inf127) q0m h33 rfl)) (RS.q rfl (q1d und127 rfl (q03 inf80) rfl rfl) (RS.q rfl (q0b und80 rfl rfl rfl) ?_))))
 refine go ?_
 refine gS (l':=[(0,_),(5,_),(6,_),(7,_),(8,_)]) ?_
 refine z2x (fun m tm σ=>∃ z40:Int,∃ l41:List (List UInt8),∃ t42:Nat,q4e n z10 (q3p p1 n m1) x32 m z40 l41=some r∧tm=fr 66 [(0,.iM q02 p1),(5,.vl 0 t42 0 l41.length),(6,.i6 z10),(7,.iM cS x32.Supers),(8,.i6 z40)]∧σ=⟨[(0,.vec (List.map cS l41).flatten 9 1 t42)],1⟩) (fun tm σ=>∃ l43:List (List UInt8),∃ t44:Nat,qbg z10 (q3p p1 n m1) l43=some r∧tm=fr 66 [(0,.iM q02 p1),(5,.vl 0 t44 0 l43.length),(6,.i6 z10)]∧σ=⟨[(0,.vec (List.map cS l43).flatten 9 1 t44)],1⟩) n ⟨0,l11,t12,hF,rfl,rfl⟩ ?_ ?_
 rintro _ _ ⟨l43,t44,hF,rfl,rfl⟩
 unfold qbg at hF
 refine go ?_
 exact lC ⟨_,l43,t44,hF,rfl,rfl⟩
 rintro (_|m3) _ _ ⟨z40,l41,t42,hF,rfl,rfl⟩
 cases hF
 unfold q4e at hF
 refine go ?_
 refine RS.q rfl (q0c rfl rfl rfl (q08 cS und80)) ?_
 refine go ?_
 refine cF hF (fun h45 hF=>?_) (fun h45 hF=>?_)
 refine go ?_
 refine WPU.block ?_
 obtain ⟨x46,h47,hF⟩:=q00 hF
 obtain ⟨r48,h49,hF⟩:=q00 hF
 refine go ?_
 refine RS.q rfl (q0f rfl rfl (q07 cS und80 (q03 inf9) q1m h47 rfl)) (RS.q rfl (q0b und9 rfl rfl rfl) (RS.cl rfl (vw (q29 n l41 x46 r48 h49) (z34 0 1)) fn126 ?_))
 refine gn ?_
 refine z2y (fun tm σ=>∃ l51:List (List UInt8),∃ t52:Nat,q7w z40 (q4e n z10 (q3p p1 n m1) x32 m3) l51=some r∧tm=fr 66 [(0,.iM q02 p1),(5,.vl 0 t52 0 l51.length),(6,.i6 z10),(7,.iM cS x32.Supers),(8,.i6 z40)]∧σ=⟨[(0,.vec (List.map cS l51).flatten 9 1 t52)],1⟩) ?_ ?_
 rintro _ _ ⟨l51,t52,hF,rfl,rfl⟩
 unfold q7w at hF
 refine go ?_
 exact lC ⟨_,l51,t52,hF,rfl,rfl⟩
 refine cF hF (fun h50 hF=>?_) (fun h50 hF=>?_)
 obtain ⟨x53,h54,hF⟩:=q00 hF
 obtain ⟨h55,hF⟩:=q09 hF
 refine go ?_
 refine RS.q rfl (q0f rfl rfl (q07 cS und80 (q03 inf9) q1m h54 rfl)) (RS.q rfl (q0b und9 rfl rfl rfl) (RS.q (u:=.sl 1 0 1 1) (σ':=⟨[(1,.row [.str x53] 9),(0,.vec (List.map cS l41).flatten 9 1 t42)],2⟩) rfl (q0k und80 inf9 rfl rfl rfl rfl rfl rfl rfl) (RS.q (u:=.vl 0 (t42+1) 0 ((l41++[x53]).length)) (σ':=⟨[(1,.row [.str x53] 9),(0,.vec (List.map cS (l41++[x53])).flatten 9 1 (t42+1))],2⟩) rfl (q1i rfl rfl rfl rfl (q1s cS ([x53]) und80 und80 inf9 rfl q1m rfl (q1l cS [x53] rfl rfl rfl rfl) h55)) ?_)))
 refine go ?_
 exact xC ⟨(l41++[x53]),(t42+1),hF,rfl,rfl⟩
 refine go ?_
 exact xC ⟨l41,t42,hF,rfl,rfl⟩
 refine go ?_
 exact xC ⟨l41,t42,hF,rfl,rfl⟩
 refine go ?_
 exact xC ⟨l11,t12,hF,rfl,rfl⟩
def q5u (z10:Int) (rc1:Int→(List (List UInt8))→Option ((List (List UInt8)))) (l32:List (List UInt8)):Option ((List (List UInt8))) :=
 rc1 (IntKind.i64.wrap (z10+1)) l32
def q8v (r3:(List (List UInt8))) (z10:Int) (l11:List (List UInt8)) (rc1:Int→(List (List UInt8))→Option ((List (List UInt8)))) (b30:Bool):Option ((List (List UInt8))) :=
 cond b30
  (q04 (q0w r3 z10) fun x34 =>
  q1b ((l11.length+1)*16≤140737488355328∧l11.length+1≤140737488355328) (
  q5u z10 rc1 (l11++[x34])))
  (q5u z10 rc1 l11)
def q5v (n:Nat) (r3:(List (List UInt8))) (z10:Int) (l11:List (List UInt8)) (rc1:Int→(List (List UInt8))→Option ((List (List UInt8)))) (r18:(List (List UInt8))):Nat→Bool→Int→Option ((List (List UInt8)))
 | 0,_,_=>none
 | m2+1,b28,z29 =>
  cond (decide (z29<(r3.length:Int)))
   (q04 (cond b28
    (cond (z29 == z10)
     (some true)
     (q04 (q0w r3 z29) fun x40 =>
     q04 (q36 n r18 x40) fun r42 =>
     some (!r42)))
    (some false)) fun b44 =>
   (q5v n r3 z10 l11 rc1 r18 m2) b44 (IntKind.i64.wrap (z29+1)))
   (q8v r3 z10 l11 rc1 b28)
def q8u  (l13:List (List UInt8)):Option ((List (List UInt8))) :=
 some l13
def q2o (p1:List q05) (n:Nat) (r3:(List (List UInt8))):Nat→Int→(List (List UInt8))→Option ((List (List UInt8)))
 | 0,_,_=>none
 | m1+1,z10,l11 =>
  cond (decide (z10<(r3.length:Int)))
   (q04 (q0w r3 z10) fun x16 =>
   q04 (qgm n p1 x16) fun r18 =>
   q5v n r3 z10 l11 (q2o p1 n r3 m1) r18 n true 0)
   (q8u l11)
def q9i (n:Nat) (p1:List q05) (p2:List (List UInt8)):Option ((List (List UInt8))) :=
 q04 (qbn n p1 p2) fun r3 =>
 q2o p1 n r3 n 0 ([]:List (List UInt8))
theorem qep (n:Nat) (p1:List q05) (p2:List (List UInt8)) (r:(List (List UInt8))) (hF:q9i n p1 p2=some r):EvU Tryz.prog 131 [.isl false (List.map q02 p1),.isl false (List.map cS p2)] ⟨[],0⟩ (fun u _=>u = .isl false (List.map cS r)∧Bel 0 u):=by
 unfold q9i at hF
 refine bg2 56 fn131 ?_
 obtain ⟨r3,h4,hF⟩:=q00 hF
 refine go ?_
 refine RS.cl rfl (pC (qk5 n p1 p2 r3 h4) _) fn150 ?_
 refine gr ?_
 refine WPU.ghost (tm':=fr 56 [(0,.iM q02 p1),(5,.vl 0 0 0 (([]:List (List UInt8)).length)),(6,.iM cS r3),(7,.i6 0)]) (σ':=⟨[(0,.vec (List.map cS ([]:List (List UInt8))).flatten 9 1 0)],1⟩) (Gh.trans (z39 5 9 1 (by decide) NZ rfl rfl) (z38 ⟨rfl,rfl,rfl,rfl,trivial⟩ rfl)) NZ ?_
 refine gS (l':=[(0,_),(5,_),(6,_),(7,_)]) ?_
 refine z2x (fun m tm σ=>∃ z10:Int,∃ l11:List (List UInt8),∃ t12:Nat,q2o p1 n r3 m z10 l11=some r∧tm=fr 56 [(0,.iM q02 p1),(5,.vl 0 t12 0 l11.length),(6,.iM cS r3),(7,.i6 z10)]∧σ=⟨[(0,.vec (List.map cS l11).flatten 9 1 t12)],1⟩) (fun tm σ=>∃ l13:List (List UInt8),∃ t14:Nat,q8u l13=some r∧tm=fr 56 [(5,.vl 0 t14 0 l13.length)]∧σ=⟨[(0,.vec (List.map cS l13).flatten 9 1 t14)],1⟩) n ⟨0,([]:List (List UInt8)),0,hF,rfl,rfl⟩ ?_ ?_
 rintro _ _ ⟨l13,t14,hF,rfl,rfl⟩
 unfold q8u at hF
 refine go ?_
 obtain rfl:=sI hF
 exact rT (us:=[.vl 0 t14 0 l13.length]) (u:=.iM cS l13) (q2l rfl (q3b)) (fR 0 1)
 rintro (_|m1) _ _ ⟨z10,l11,t12,hF,rfl,rfl⟩
 cases hF
 unfold q2o at hF
 refine go ?_
 refine RS.q rfl (q0c rfl rfl rfl (q08 cS und80)) ?_
 refine go ?_
 refine cF hF (fun h15 hF=>?_) (fun h15 hF=>?_)
 refine go ?_
 refine WPU.block ?_
 obtain ⟨x16,h17,hF⟩:=q00 hF
 obtain ⟨r18,h19,hF⟩:=q00 hF
 refine go ?_
 refine RS.q rfl (q0f rfl rfl (q07 cS und80 (q03 inf9) q1m h17 rfl)) (RS.q rfl (q0b und9 rfl rfl rfl) (RS.cl rfl (pC (qok n p1 x16 r18 h19) _) fn151 ?_))
 refine go ?_
 refine gS (l':=[(0,_),(5,_),(6,_),(7,_),(8,_),(9,_),(10,_)]) ?_
 refine z2x (fun m tm σ=>∃ b28:Bool,∃ z29:Int,q5v n r3 z10 l11 (q2o p1 n r3 m1) r18 m b28 z29=some r∧tm=fr 56 [(0,.iM q02 p1),(5,.vl 0 t12 0 l11.length),(6,.iM cS r3),(7,.i6 z10),(8,.iM cS r18),(9,.bool b28),(10,.i6 z29)]∧σ=⟨[(0,.vec (List.map cS l11).flatten 9 1 t12)],1⟩) (fun tm σ=>∃ b30:Bool,q8v r3 z10 l11 (q2o p1 n r3 m1) b30=some r∧tm=fr 56 [(0,.iM q02 p1),(5,.vl 0 t12 0 l11.length),(6,.iM cS r3),(7,.i6 z10),(9,.bool b30)]∧σ=⟨[(0,.vec (List.map cS l11).flatten 9 1 t12)],1⟩) n ⟨true,0,hF,rfl,rfl⟩ ?_ ?_
 rintro _ _ ⟨b30,hF,rfl,rfl⟩
 unfold q8v at hF
 refine gr ?_
 refine z2y (fun tm σ=>∃ l32:List (List UInt8),∃ t33:Nat,q5u z10 (q2o p1 n r3 m1) l32=some r∧tm=fr 56 [(0,.iM q02 p1),(5,.vl 0 t33 0 l32.length),(6,.iM cS r3),(7,.i6 z10)]∧σ=⟨[(0,.vec (List.map cS l32).flatten 9 1 t33)],1⟩) ?_ ?_
 rintro _ _ ⟨l32,t33,hF,rfl,rfl⟩
 unfold q5u at hF
 refine go ?_
 exact lC ⟨_,l32,t33,hF,rfl,rfl⟩
 refine cF hF (fun h31 hF=>?_) (fun h31 hF=>?_)
 obtain ⟨x34,h35,hF⟩:=q00 hF
 obtain ⟨h36,hF⟩:=q09 hF
 refine go ?_
 refine RS.q rfl (q0f rfl rfl (q07 cS und80 (q03 inf9) q1m h35 rfl)) (RS.q rfl (q0b und9 rfl rfl rfl) (RS.q (u:=.sl 1 0 1 1) (σ':=⟨[(1,.row [.str x34] 9),(0,.vec (List.map cS l11).flatten 9 1 t12)],2⟩) rfl (q0k und80 inf9 rfl rfl rfl rfl rfl rfl rfl) (RS.q (u:=.vl 0 (t12+1) 0 ((l11++[x34]).length)) (σ':=⟨[(1,.row [.str x34] 9),(0,.vec (List.map cS (l11++[x34])).flatten 9 1 (t12+1))],2⟩) rfl (q1i rfl rfl rfl rfl (q1s cS ([x34]) und80 und80 inf9 rfl q1m rfl (q1l cS [x34] rfl rfl rfl rfl) h36)) ?_)))
 refine go ?_
 exact xC ⟨(l11++[x34]),(t12+1),hF,rfl,rfl⟩
 refine go ?_
 exact xC ⟨l11,t12,hF,rfl,rfl⟩
 rintro (_|m2) _ _ ⟨b28,z29,hF,rfl,rfl⟩
 cases hF
 unfold q5v at hF
 refine go ?_
 refine RS.q rfl (q0c rfl rfl rfl (q08 cS und80)) ?_
 refine go ?_
 refine cF hF (fun h37 hF=>?_) (fun h37 hF=>?_)
 refine go ?_
 refine WPU.block ?_
 obtain ⟨b44,h45,hF⟩:=q00 hF
 refine gn ?_
 refine z2y (fun tm σ=>tm=fr 56 [(0,.iM q02 p1),(5,.vl 0 t12 0 l11.length),(6,.iM cS r3),(7,.i6 z10),(8,.iM cS r18),(9,.bool b44),(10,.i6 z29)]∧σ=⟨[(0,.vec (List.map cS l11).flatten 9 1 t12)],1⟩) ?_ ?_
 rintro _ _ ⟨rfl,rfl⟩
 refine go ?_
 exact lC ⟨b44,(IntKind.i64.wrap (z29+1)),hF,rfl,rfl⟩
 rcases gB h45 with ⟨h38,h45⟩ | ⟨h38,h45⟩
 rcases gB h45 with ⟨h39,h45⟩ | ⟨h39,h45⟩
 exact gy h45
 obtain ⟨x40,h41,h45⟩:=q00 h45
 obtain ⟨r42,h43,h45⟩:=q00 h45
 obtain rfl:=sI h45
 refine go ?_
 refine RS.w rfl (q0f rfl rfl (q07 cS und80 (q03 inf9) q1m h41 rfl)) (RS.w rfl (q0b und9 rfl rfl rfl) (RS.cl rfl (pC (q29 n r18 x40 r42 h43) _) fn126 ?_))
 refine go ?_
 exact xC ⟨rfl,rfl⟩
 obtain rfl:=sI h45
 refine go ?_
 repeat refine RS.no (qmi rfl rfl rfl) rfl rfl ?_
 refine go ?_
 exact xC ⟨rfl,rfl⟩
 refine go ?_
 exact xC ⟨b28,hF,rfl,rfl⟩
 refine go ?_
 exact xC ⟨l11,t12,hF,rfl,rfl⟩
def q9n (r17:(List (List UInt8))) (z23:Int) (rc2:(List UInt8)→Int→Option ((List UInt8))) (s27:List UInt8):Option ((List UInt8)) :=
 q04 (q0w r17 z23) fun x28 =>
 q1b (s27.length+x28.length≤9223372036854775807) (
 rc2 (s27++x28) (IntKind.i64.wrap (z23+1)))
def qdj  (s24:List UInt8):Option ((List UInt8)) :=
 some s24
def q5a (r17:(List (List UInt8))):Nat→(List UInt8)→Int→Option ((List UInt8))
 | 0,_,_=>none
 | m2+1,s22,z23 =>
  cond (decide (z23<(r17.length:Int)))
   (cond (decide (z23 > 0))
    (q1b (s22.length+([38]).length≤9223372036854775807) (
    q9n r17 z23 (q5a r17 m2) (s22++[38])))
    (q9n r17 z23 (q5a r17 m2) s22))
   (qdj s22)
def q9o (z12:Int) (rc1:Int→(List (List UInt8))→Option ((List UInt8))) (l43:List (List UInt8)):Option ((List UInt8)) :=
 rc1 (IntKind.i64.wrap (z12+1)) l43
def qdi (p1:List q05) (n:Nat) (l15:List (List UInt8)):Option ((List UInt8)) :=
 q04 (q9i n p1 l15) fun r17 =>
 q5a r17 n [] 0
def q59 (p1:List q05) (p2:List (List UInt8)) (p3:List (List Int)) (p4:List Int) (n:Nat):Nat→Int→(List (List UInt8))→Option ((List UInt8))
 | 0,_,_=>none
 | m1+1,z12,l13 =>
  cond (decide (z12<(p2.length:Int)))
   (q04 (q0w p3 z12) fun x33 =>
   q04 (qgj n x33 p4) fun r35 =>
   cond r35
    (q04 (q0w p2 z12) fun x38 =>
    some x38)
    (q04 (qhw n p4 z12) fun r40 =>
    cond r40
     (q04 (q0w p2 z12) fun x45 =>
     q1b ((l13.length+1)*16≤140737488355328∧l13.length+1≤140737488355328) (
     q9o z12 (q59 p1 p2 p3 p4 n m1) (l13++[x45])))
     (q9o z12 (q59 p1 p2 p3 p4 n m1) l13)))
   (qdi p1 n l13)
def qj3 (n:Nat) (p1:List q05) (p2:List (List UInt8)) (p3:List (List Int)) (p4:List Int):Option ((List UInt8)) :=
 q59 p1 p2 p3 p4 n n 0 ([]:List (List UInt8))
theorem qqn (n:Nat) (p1:List q05) (p2:List (List UInt8)) (p3:List (List Int)) (p4:List Int) (r:(List UInt8)) (hF:qj3 n p1 p2 p3 p4=some r):EvU Tryz.prog 98 [.isl false (List.map q02 p1),.isl false (List.map cS p2),.isl false (List.map (cL (cI .u64)) p3),.isl false (List.map (cI .u64) p4)] ⟨[],0⟩ (fun u _=>u = .str r∧Bel 0 u):=by
 unfold qj3 at hF
 refine bg4 59 fn98 ?_
 refine gr ?_
 refine gr ?_
 refine gr ?_
 refine WPU.ghost (tm':=fr 59 [(0,.iM q02 p1),(1,.iM cS p2),(2,.iM (cL (cI .u64)) p3),(3,.iM (cI .u64) p4),(9,.vl 0 0 0 (([]:List (List UInt8)).length)),(10,.i6 0)]) (σ':=⟨[(0,.vec (List.map cS ([]:List (List UInt8))).flatten 9 1 0)],1⟩) (Gh.trans (z39 9 9 1 (by decide) NZ rfl rfl) (z38 ⟨rfl,rfl,rfl,rfl,rfl,rfl,trivial⟩ rfl)) NZ ?_
 refine gS (l':=[(0,_),(1,_),(2,_),(3,_),(9,_),(10,_)]) ?_
 refine z2x (fun m tm σ=>∃ z12:Int,∃ l13:List (List UInt8),∃ t14:Nat,q59 p1 p2 p3 p4 n m z12 l13=some r∧tm=fr 59 [(0,.iM q02 p1),(1,.iM cS p2),(2,.iM (cL (cI .u64)) p3),(3,.iM (cI .u64) p4),(9,.vl 0 t14 0 l13.length),(10,.i6 z12)]∧σ=⟨[(0,.vec (List.map cS l13).flatten 9 1 t14)],1⟩) (fun tm σ=>∃ l15:List (List UInt8),∃ t16:Nat,qdi p1 n l15=some r∧tm=fr 59 [(0,.iM q02 p1),(9,.vl 0 t16 0 l15.length)]∧σ=⟨[(0,.vec (List.map cS l15).flatten 9 1 t16)],1⟩) n ⟨0,([]:List (List UInt8)),0,hF,rfl,rfl⟩ ?_ ?_
 rintro _ _ ⟨l15,t16,hF,rfl,rfl⟩
 unfold qdi at hF
 refine gn ?_
 refine WPU.ghost (tm':=fr 59 [(0,.iM q02 p1),(9,.iM cS l15)]) (σ':=⟨[],1⟩) (Gh.trans (Gh.sub (l':=[(0,.iM q02 p1),(9,.vl 0 t16 0 l15.length)]) ⟨rfl,rfl,trivial⟩) (z3g 0 1)) NZ ?_
 obtain ⟨r17,h18,hF⟩:=q00 hF
 refine go ?_
 refine RS.cl rfl (pC (qep n p1 l15 r17 h18) _) fn131 ?_
 refine go ?_
 refine gS (l':=[(9,_),(11,_),(12,_)]) ?_
 refine z2x (fun m tm σ=>∃ s22:List UInt8,∃ z23:Int,q5a r17 m s22 z23=some r∧tm=fr 59 [(9,.iM cS r17),(11,.str s22),(12,.i6 z23)]∧σ=⟨[],1⟩) (fun tm σ=>∃ s24:List UInt8,qdj s24=some r∧tm=fr 59 [(11,.str s24)]∧σ=⟨[],1⟩) n ⟨[],0,hF,rfl,rfl⟩ ?_ ?_
 rintro _ _ ⟨s24,hF,rfl,rfl⟩
 unfold qdj at hF
 exact gx hF
 rintro (_|m2) _ _ ⟨s22,z23,hF,rfl,rfl⟩
 cases hF
 unfold q5a at hF
 refine go ?_
 refine RS.q rfl (q0c rfl rfl rfl (q08 cS und80)) ?_
 refine go ?_
 refine cF hF (fun h25 hF=>?_) (fun h25 hF=>?_)
 refine go ?_
 refine WPU.block ?_
 refine gr ?_
 refine z2y (fun tm σ=>∃ s27:List UInt8,q9n r17 z23 (q5a r17 m2) s27=some r∧tm=fr 59 [(9,.iM cS r17),(11,.str s27),(12,.i6 z23)]∧σ=⟨[],1⟩) ?_ ?_
 rintro _ _ ⟨s27,hF,rfl,rfl⟩
 unfold q9n at hF
 obtain ⟨x28,h29,hF⟩:=q00 hF
 obtain ⟨h30,hF⟩:=q09 hF
 refine go ?_
 refine RS.q rfl (q0f rfl rfl (q07 cS und80 (q03 inf9) q1m h29 rfl)) (RS.q rfl (q0b und9 rfl rfl rfl) (RS.q (u:=.str (s27++x28)) rfl (q93 rfl rfl (z1f h30) rfl) ?_))
 refine go ?_
 exact lC ⟨(s27++x28),(IntKind.i64.wrap (z23+1)),hF,rfl,rfl⟩
 refine cF hF (fun h26 hF=>?_) (fun h26 hF=>?_)
 obtain ⟨h31,hF⟩:=q09 hF
 refine go ?_
 refine RS.q (u:=.str (s22++[38])) rfl (q93 rfl rfl (z1f h31) rfl) ?_
 refine go ?_
 exact xC ⟨(s22++[38]),hF,rfl,rfl⟩
 refine go ?_
 exact xC ⟨s22,hF,rfl,rfl⟩
 refine go ?_
 exact xC ⟨s22,hF,rfl,rfl⟩
 rintro (_|m1) _ _ ⟨z12,l13,t14,hF,rfl,rfl⟩
 cases hF
 unfold q59 at hF
 refine go ?_
 refine RS.q rfl (q0c rfl rfl rfl (q08 cS und80)) ?_
 refine go ?_
 refine cF hF (fun h32 hF=>?_) (fun h32 hF=>?_)
 refine go ?_
 refine WPU.block ?_
 obtain ⟨x33,h34,hF⟩:=q00 hF
 obtain ⟨r35,h36,hF⟩:=q00 hF
 refine go ?_
 refine RS.q rfl (q0f rfl rfl (q07 (cL (cI .u64)) und148 (q03 inf103) (q2x (cI .u64)) h34 rfl)) (RS.q rfl (q0b und103 rfl rfl rfl) ?_)
 refine go ?_
 refine RS.cl rfl (pC (qoh n x33 p4 r35 h36) _) fn129 ?_
 refine go ?_
 refine cF hF (fun h37 hF=>?_) (fun h37 hF=>?_)
 obtain ⟨x38,h39,hF⟩:=q00 hF
 refine go ?_
 refine RS.q rfl (q0f rfl rfl (q07 cS und80 (q03 inf9) q1m h39 rfl)) (RS.q rfl (q0b und9 rfl rfl rfl) ?_)
 exact gx hF
 obtain ⟨r40,h41,hF⟩:=q00 hF
 refine go ?_
 refine RS.cl rfl (pC (qm2 n p4 z12 r40 h41) _) fn130 ?_
 refine gn ?_
 refine z2y (fun tm σ=>∃ l43:List (List UInt8),∃ t44:Nat,q9o z12 (q59 p1 p2 p3 p4 n m1) l43=some r∧tm=fr 59 [(0,.iM q02 p1),(1,.iM cS p2),(2,.iM (cL (cI .u64)) p3),(3,.iM (cI .u64) p4),(9,.vl 0 t44 0 l43.length),(10,.i6 z12)]∧σ=⟨[(0,.vec (List.map cS l43).flatten 9 1 t44)],1⟩) ?_ ?_
 rintro _ _ ⟨l43,t44,hF,rfl,rfl⟩
 unfold q9o at hF
 refine go ?_
 exact lC ⟨_,l43,t44,hF,rfl,rfl⟩
 refine cF hF (fun h42 hF=>?_) (fun h42 hF=>?_)
 obtain ⟨x45,h46,hF⟩:=q00 hF
 obtain ⟨h47,hF⟩:=q09 hF
 refine go ?_
 refine RS.q rfl (q0f rfl rfl (q07 cS und80 (q03 inf9) q1m h46 rfl)) (RS.q rfl (q0b und9 rfl rfl rfl) (RS.q (u:=.sl 1 0 1 1) (σ':=⟨[(1,.row [.str x45] 9),(0,.vec (List.map cS l13).flatten 9 1 t14)],2⟩) rfl (q0k und80 inf9 rfl rfl rfl rfl rfl rfl rfl) (RS.q (u:=.vl 0 (t14+1) 0 ((l13++[x45]).length)) (σ':=⟨[(1,.row [.str x45] 9),(0,.vec (List.map cS (l13++[x45])).flatten 9 1 (t14+1))],2⟩) rfl (q1i rfl rfl rfl rfl (q1s cS ([x45]) und80 und80 inf9 rfl q1m rfl (q1l cS [x45] rfl rfl rfl rfl) h47)) ?_)))
 refine go ?_
 exact xC ⟨(l13++[x45]),(t14+1),hF,rfl,rfl⟩
 refine go ?_
 exact xC ⟨l13,t14,hF,rfl,rfl⟩
 refine go ?_
 exact xC ⟨l13,t14,hF,rfl,rfl⟩
def q9g (z6:Int) (rc1:Int→(List Int)→Option ((List Int))) (l15:List Int):Option ((List Int)) :=
 rc1 (IntKind.i64.wrap (z6+1)) l15
def qda  (l9:List Int):Option ((List Int)) :=
 some l9
def q56 (p1:List Int) (n:Nat):Nat→Int→(List Int)→Option ((List Int))
 | 0,_,_=>none
 | m1+1,z6,l7 =>
  cond (decide (z6<(IntKind.i64.wrap (64*(p1.length:Int)))))
   (q04 (qhw n p1 z6) fun r12 =>
   cond r12
    (q1b ((l7.length+1)*8≤140737488355328∧l7.length+1≤140737488355328) (
    q9g z6 (q56 p1 n m1) (l7++[z6])))
    (q9g z6 (q56 p1 n m1) l7))
   (qda l7)
def qj0 (n:Nat) (p1:List Int):Option ((List Int)) :=
 q56 p1 n n 0 ([]:List Int)
theorem qqk (n:Nat) (p1:List Int) (r:(List Int)) (hF:qj0 n p1=some r):EvU Tryz.prog 152 [.isl false (List.map (cI .u64) p1)] ⟨[],0⟩ (fun u _=>u = .isl false (List.map (cI .i64) r)∧Bel 0 u):=by
 unfold qj0 at hF
 refine bg1 20 fn152 ?_
 refine gr ?_
 refine gr ?_
 refine gr ?_
 refine WPU.ghost (tm':=fr 20 [(0,.iM (cI .u64) p1),(3,.vl 0 0 0 (([]:List Int).length)),(4,.i6 0)]) (σ':=⟨[(0,.vec (List.map (cI .i64) ([]:List Int)).flatten 3 1 0)],1⟩) (Gh.trans (z39 3 3 1 (by decide) NZ rfl rfl) (z38 ⟨rfl,rfl,rfl,trivial⟩ rfl)) NZ ?_
 refine gS (l':=[(0,_),(3,_),(4,_)]) ?_
 refine z2x (fun m tm σ=>∃ z6:Int,∃ l7:List Int,∃ t8:Nat,q56 p1 n m z6 l7=some r∧tm=fr 20 [(0,.iM (cI .u64) p1),(3,.vl 0 t8 0 l7.length),(4,.i6 z6)]∧σ=⟨[(0,.vec (List.map (cI .i64) l7).flatten 3 1 t8)],1⟩) (fun tm σ=>∃ l9:List Int,∃ t10:Nat,qda l9=some r∧tm=fr 20 [(3,.vl 0 t10 0 l9.length)]∧σ=⟨[(0,.vec (List.map (cI .i64) l9).flatten 3 1 t10)],1⟩) n ⟨0,([]:List Int),0,hF,rfl,rfl⟩ ?_ ?_
 rintro _ _ ⟨l9,t10,hF,rfl,rfl⟩
 unfold qda at hF
 refine go ?_
 obtain rfl:=sI hF
 exact rT (us:=[.vl 0 t10 0 l9.length]) (u:=.iM (cI .i64) l9) (q2l rfl (q3b)) (fR 0 1)
 rintro (_|m1) _ _ ⟨z6,l7,t8,hF,rfl,rfl⟩
 cases hF
 unfold q56 at hF
 refine go ?_
 refine RS.q rfl (q0c rfl rfl rfl (q08 (cI .u64) und103)) ?_
 refine go ?_
 refine cF hF (fun h11 hF=>?_) (fun h11 hF=>?_)
 refine go ?_
 refine WPU.block ?_
 obtain ⟨r12,h13,hF⟩:=q00 hF
 refine go ?_
 refine RS.cl rfl (pC (qm2 n p1 z6 r12 h13) _) fn130 ?_
 refine gn ?_
 refine z2y (fun tm σ=>∃ l15:List Int,∃ t16:Nat,q9g z6 (q56 p1 n m1) l15=some r∧tm=fr 20 [(0,.iM (cI .u64) p1),(3,.vl 0 t16 0 l15.length),(4,.i6 z6)]∧σ=⟨[(0,.vec (List.map (cI .i64) l15).flatten 3 1 t16)],1⟩) ?_ ?_
 rintro _ _ ⟨l15,t16,hF,rfl,rfl⟩
 unfold q9g at hF
 refine go ?_
 exact lC ⟨_,l15,t16,hF,rfl,rfl⟩
 refine cF hF (fun h14 hF=>?_) (fun h14 hF=>?_)
 obtain ⟨h17,hF⟩:=q09 hF
 refine go ?_
 refine RS.q (u:=.sl 1 0 1 1) (σ':=⟨[(1,.row [.i6 z6] 3),(0,.vec (List.map (cI .i64) l7).flatten 3 1 t8)],2⟩) rfl (q0k und33 inf3 rfl rfl rfl rfl rfl rfl rfl) (RS.q (u:=.vl 0 (t8+1) 0 ((l7++[z6]).length)) (σ':=⟨[(1,.row [.i6 z6] 3),(0,.vec (List.map (cI .i64) (l7++[z6])).flatten 3 1 (t8+1))],2⟩) rfl (q1i rfl rfl rfl rfl (q1s (cI .i64) ([z6]) und33 und33 inf3 rfl (q13 .i64) rfl (q1l (cI .i64) [z6] rfl rfl rfl rfl) h17)) ?_)
 refine go ?_
 exact xC ⟨(l7++[z6]),(t8+1),hF,rfl,rfl⟩
 refine go ?_
 exact xC ⟨l7,t8,hF,rfl,rfl⟩
 refine go ?_
 exact xC ⟨l7,t8,hF,rfl,rfl⟩
def qd9 (n:Nat) (p1:List Int):Option (Int) :=
 q04 (qj0 n p1) fun r2 =>
 some (r2.length:Int)
theorem qhv (n:Nat) (p1:List Int) (r:Int) (hF:qd9 n p1=some r):EvU Tryz.prog 132 [.isl false (List.map (cI .u64) p1)] ⟨[],0⟩ (fun u _=>u = .int .i64 r∧Bel 0 u):=by
 unfold qd9 at hF
 refine bg1 6 fn132 ?_
 obtain ⟨r2,h3,hF⟩:=q00 hF
 refine go ?_
 refine RS.cl rfl (pC (qqk n p1 r2 h3) _) fn152 (RS.q rfl (q0c rfl rfl rfl (q08 (cI .i64) und33)) ?_)
 exact gx hF
def qeu (n:Nat) (p1:q11) (p2:q11):Option (Bool) :=
 q04 (qd9 n p1.Code) fun r3 =>
 q04 (qd9 n p2.Code) fun r5 =>
 q04 (cond (decide (r3 > r5))
  (some true)
  (cond (r3 == r5)
   (some (q60 p1.Name p2.Name))
   (some false))) fun b9 =>
 some b9
theorem qmz (n:Nat) (p1:q11) (p2:q11) (r:Bool) (hF:qeu n p1 p2=some r):EvU Tryz.prog 99 [.agg (q0i p1),.agg (q0i p2)] ⟨[],0⟩ (fun u _=>u = .bool r∧Bel 0 u):=by
 unfold qeu at hF
 refine bg2 28 fn99 ?_
 refine go ?_
 refine RS.q (u:=.ptr 0 0 0) (σ':=⟨[(0,.row (q0i p1) 105)],1⟩) rfl (q3r rfl rfl rfl) (RS.q (u:=.ptr 1 0 0) (σ':=⟨[(1,.row (q0i p2) 105),(0,.row (q0i p1) 105)],2⟩) rfl (q3r rfl rfl rfl) ?_)
 obtain ⟨r3,h4,hF⟩:=q00 hF
 refine go ?_
 refine RS.q rfl (q0z und105 rfl (q03 inf103) rfl rfl rfl) (RS.q rfl (q0n und103 rfl rfl rfl rfl) (RS.cl rfl (pC (qhv n p1.Code r3 h4) _) fn132 ?_))
 obtain ⟨r5,h6,hF⟩:=q00 hF
 refine go ?_
 refine RS.q rfl (q0z und105 rfl (q03 inf103) rfl rfl rfl) (RS.q rfl (q0n und103 rfl rfl rfl rfl) (RS.cl rfl (pC (qhv n p2.Code r5 h6) _) fn132 ?_))
 obtain ⟨b9,h10,hF⟩:=q00 hF
 refine gn ?_
 refine z2y (fun tm σ=>tm=fr 28 [(4,.bool b9)]∧σ=⟨[(1,.row (q0i p2) 105),(0,.row (q0i p1) 105)],2⟩) ?_ ?_
 rintro _ _ ⟨rfl,rfl⟩
 exact gx hF
 rcases gB h10 with ⟨h7,h10⟩ | ⟨h7,h10⟩
 obtain rfl:=sI h10
 refine go ?_
 repeat refine RS.no (qmi rfl rfl rfl) rfl rfl ?_
 refine go ?_
 exact xC ⟨rfl,rfl⟩
 rcases gB h10 with ⟨h8,h10⟩ | ⟨h8,h10⟩
 obtain rfl:=sI h10
 refine go ?_
 refine RS.w rfl (q0z und105 rfl (q03 inf9) rfl rfl rfl) (RS.w rfl (q0n und9 rfl rfl rfl rfl) (RS.w rfl (q0z und105 rfl (q03 inf9) rfl rfl rfl) (RS.w rfl (q0n und9 rfl rfl rfl rfl) (RS.w (u:=.bool (q60 p1.Name p2.Name)) rfl (q93 rfl rfl rfl rfl) ?_))))
 refine go ?_
 exact xC ⟨rfl,rfl⟩
 exact gy h10
def qbt (z27:Int) (l28:List q11) (rc2:Int→(List q11)→Option ((List q11)×Int)) (r35:(List UInt8)) (x37:List Int) (z50:Int):Option ((List q11)×Int) :=
 q1b ((0:Int)≤z50∧z50≤((l28.length:Nat):Int)) (
 q1b (0+z50.toNat≤l28.length) (
 q1b (((l28.drop 0).take z50.toNat).length*40≤140737488355328∧((l28.drop 0).take z50.toNat).length≤140737488355328) (
 q1b ((((l28.drop 0).take z50.toNat).length+1)*40≤140737488355328∧((l28.drop 0).take z50.toNat).length+1≤140737488355328) (
 q1b ((0:Int)≤z50∧z50≤((l28.length:Nat):Int)) (
 q1b ((0+z50.toNat)+(l28.length - z50.toNat)≤l28.length) (
 q1b (((((l28.drop 0).take z50.toNat)++[(q11.mk r35 x37)]).length+((l28.drop (0+z50.toNat)).take (l28.length - z50.toNat)).length)*40≤140737488355328∧(((l28.drop 0).take z50.toNat)++[(q11.mk r35 x37)]).length+((l28.drop (0+z50.toNat)).take (l28.length - z50.toNat)).length≤140737488355328) (
 rc2 (IntKind.i64.wrap (z27+1)) ((((l28.drop 0).take z50.toNat)++[(q11.mk r35 x37)])++((l28.drop (0+z50.toNat)).take (l28.length - z50.toNat))))))))))
def q87 (n:Nat) (z27:Int) (l28:List q11) (rc2:Int→(List q11)→Option ((List q11)×Int)) (r35:(List UInt8)) (x37:List Int):Nat→Int→Option ((List q11)×Int)
 | 0,_=>none
 | m3+1,z49 =>
  q04 (cond (decide (z49 > 0))
   (q04 (q0w l28 (IntKind.i64.wrap (z49 - 1))) fun x59 =>
   q04 (qeu n (q11.mk r35 x37) x59) fun r61 =>
   some r61)
   (some false)) fun b63 =>
  cond b63
   ((q87 n z27 l28 rc2 r35 x37 m3) (IntKind.i64.wrap (z49 - 1)))
   (qbt z27 l28 rc2 r35 x37 z49)
def qbs  (l30:List q11):Option ((List q11)×Int) :=
 some (l30,0)
def q4h (p1:List q05) (n:Nat) (r5:(List (List UInt8))) (l15:List (List Int)) (r17:(List (List Int))):Nat→Int→(List q11)→Option ((List q11)×Int)
 | 0,_,_=>none
 | m2+1,z27,l28 =>
  cond (decide (z27<(r17.length:Int)))
   (q04 (q0w r17 z27) fun x33 =>
   q04 (qj3 n p1 r5 l15 x33) fun r35 =>
   q04 (q0w r17 z27) fun x37 =>
   q87 n z27 l28 (q4h p1 n r5 l15 r17 m2) r35 x37 n (l28.length:Int))
   (qbs l28)
def qbr (p1:List q05) (n:Nat) (r5:(List (List UInt8))) (l15:List (List Int)):Option ((List q11)×Int) :=
 q04 (qev n l15) fun r17 =>
 cond (decide ((r17.length:Int) > 256))
  (some ([],7))
  (q4h p1 n r5 l15 r17 n 0 ([]:List q11))
def q86 (p1:List q05) (n:Nat) (r5:(List (List UInt8))):Nat→Int→(List (List Int))→Option ((List q11)×Int)
 | 0,_,_=>none
 | m1+1,z12,l13 =>
  cond (decide (z12<(r5.length:Int)))
   (q04 (q0w r5 z12) fun x67 =>
   q04 (qj2 n p1 r5 x67) fun r69 =>
   q1b ((l13.length+1)*24≤140737488355328∧l13.length+1≤140737488355328) (
   (q86 p1 n r5 m1) (IntKind.i64.wrap (z12+1)) (l13++[r69])))
   (qbr p1 n r5 l13)
def q7h (n:Nat) (p1:List q05):Option ((List q11)×Int) :=
 q04 (qgo n p1) fun r2 =>
 cond (r2 != 0)
  (some ([],r2))
  (q04 (qdd n p1) fun r5 =>
  q86 p1 n r5 n 0 ([]:List (List Int)))
theorem q9k (n:Nat) (p1:List q05) (r:(List q11)×Int) (hF:q7h n p1=some r):EvU Tryz.prog 72 [.isl false (List.map q02 p1)] ⟨[],0⟩ (fun u _=>u = .tup [.isl false (List.map q0i r.1),.int .i64 r.2]∧Bel 0 u):=by
 unfold q7h at hF
 refine bg1 92 fn72 ?_
 obtain ⟨r2,h3,hF⟩:=q00 hF
 refine go ?_
 refine RS.cl rfl (pC (qom n p1 r2 h3) _) fn94 ?_
 refine go ?_
 refine cF hF (fun h4 hF=>?_) (fun h4 hF=>?_)
 refine go ?_
 obtain rfl:=sI hF
 exact rT (us:=[.nils,.i6 r2]) (u:=.tup [.isl false [],.i6 r2]) (q2l rfl (q2l rfl (q3b))) wR
 obtain ⟨r5,h6,hF⟩:=q00 hF
 refine go ?_
 refine RS.cl rfl (pC (qhx n p1 r5 h6) _) fn95 ?_
 refine gr ?_
 refine gr ?_
 refine WPU.ghost (tm':=fr 92 [(0,.iM q02 p1),(5,.iM cS r5),(6,.vl 0 0 0 (([]:List (List Int)).length)),(7,.i6 0)]) (σ':=⟨[(0,.vec (List.map (cL (cI .u64)) ([]:List (List Int))).flatten 103 1 0)],1⟩) (Gh.trans (z39 6 103 1 (by decide) NZ rfl rfl) (z38 ⟨rfl,rfl,rfl,rfl,trivial⟩ rfl)) NZ ?_
 refine gS (l':=[(0,_),(5,_),(6,_),(7,_)]) ?_
 refine z2x (fun m tm σ=>∃ z12:Int,∃ l13:List (List Int),∃ t14:Nat,q86 p1 n r5 m z12 l13=some r∧tm=fr 92 [(0,.iM q02 p1),(5,.iM cS r5),(6,.vl 0 t14 0 l13.length),(7,.i6 z12)]∧σ=⟨[(0,.vec (List.map (cL (cI .u64)) l13).flatten 103 1 t14)],1⟩) (fun tm σ=>∃ l15:List (List Int),∃ t16:Nat,qbr p1 n r5 l15=some r∧tm=fr 92 [(0,.iM q02 p1),(5,.iM cS r5),(6,.vl 0 t16 0 l15.length)]∧σ=⟨[(0,.vec (List.map (cL (cI .u64)) l15).flatten 103 1 t16)],1⟩) n ⟨0,([]:List (List Int)),0,hF,rfl,rfl⟩ ?_ ?_
 rintro _ _ ⟨l15,t16,hF,rfl,rfl⟩
 unfold qbr at hF
 refine gn ?_
 refine WPU.ghost (tm':=fr 92 [(0,.iM q02 p1),(5,.iM cS r5),(6,.iM (cL (cI .u64)) l15)]) (σ':=⟨[],1⟩) (Gh.trans (Gh.sub (l':=[(0,.iM q02 p1),(5,.iM cS r5),(6,.vl 0 t16 0 l15.length)]) ⟨rfl,rfl,rfl,trivial⟩) (z3g 0 1)) NZ ?_
 obtain ⟨r17,h18,hF⟩:=q00 hF
 refine go ?_
 refine RS.cl rfl (pC (qn0 n l15 r17 h18) _) fn97 ?_
 refine go ?_
 refine RS.q rfl (q0c rfl rfl rfl (q08 (cL (cI .u64)) und148)) ?_
 refine go ?_
 refine cF hF (fun h19 hF=>?_) (fun h19 hF=>?_)
 refine go ?_
 obtain rfl:=sI hF
 exact rT (us:=[.nils,.i6 7]) (u:=.tup [.isl false [],.i6 7]) (q2l rfl (q2l rfl (q3b))) wR
 refine gr ?_
 refine gr ?_
 refine WPU.ghost (tm':=fr 92 [(0,.iM q02 p1),(5,.iM cS r5),(6,.iM (cL (cI .u64)) l15),(8,.iM (cL (cI .u64)) r17),(9,.vl 1 0 0 (([]:List q11).length)),(10,.i6 0)]) (σ':=⟨[(1,.vec (List.map q0i ([]:List q11)).flatten 105 2 0)],2⟩) (Gh.trans (z39 9 105 2 (by decide) NZ rfl rfl) (z38 ⟨rfl,rfl,rfl,rfl,rfl,rfl,trivial⟩ rfl)) NZ ?_
 refine gS (l':=[(0,_),(5,_),(6,_),(8,_),(9,_),(10,_)]) ?_
 refine z2x (fun m tm σ=>∃ z27:Int,∃ l28:List q11,∃ t29:Nat,q4h p1 n r5 l15 r17 m z27 l28=some r∧tm=fr 92 [(0,.iM q02 p1),(5,.iM cS r5),(6,.iM (cL (cI .u64)) l15),(8,.iM (cL (cI .u64)) r17),(9,.vl 1 t29 0 l28.length),(10,.i6 z27)]∧σ=⟨[(1,.vec (List.map q0i l28).flatten 105 2 t29)],2⟩) (fun tm σ=>∃ l30:List q11,∃ t31:Nat,qbs l30=some r∧tm=fr 92 [(9,.vl 1 t31 0 l30.length)]∧σ=⟨[(1,.vec (List.map q0i l30).flatten 105 2 t31)],2⟩) n ⟨0,([]:List q11),0,hF,rfl,rfl⟩ ?_ ?_
 rintro _ _ ⟨l30,t31,hF,rfl,rfl⟩
 unfold qbs at hF
 refine go ?_
 obtain rfl:=sI hF
 exact rT (us:=[.vl 1 t31 0 l30.length,.i6 0]) (u:=.tup [.iM q0i l30,.i6 0]) (q2l rfl (q2l rfl (q3b))) (fR 1 2)
 rintro (_|m2) _ _ ⟨z27,l28,t29,hF,rfl,rfl⟩
 cases hF
 unfold q4h at hF
 refine go ?_
 refine RS.q rfl (q0c rfl rfl rfl (q08 (cL (cI .u64)) und148)) ?_
 refine go ?_
 refine cF hF (fun h32 hF=>?_) (fun h32 hF=>?_)
 refine go ?_
 refine WPU.block ?_
 obtain ⟨x33,h34,hF⟩:=q00 hF
 obtain ⟨r35,h36,hF⟩:=q00 hF
 obtain ⟨x37,h38,hF⟩:=q00 hF
 refine go ?_
 refine z2z Tryz.tb_ok [(0,13),(1,13),(2,13),(3,13),(4,13),(5,13),(6,13),(8,13),(9,13),(10,13),(11,13),(12,13)] (by kernel_rfl) ?_
 repeat refine RD.mv rfl rfl rfl rfl ?_
 refine RD.q rfl (q0f rfl rfl (q07 (cL (cI .u64)) und148 (q03 inf103) (q2x (cI .u64)) h34 rfl)) (RD.q rfl (q0b und103 rfl rfl rfl) (RD.fl rfl (pC (qqn n p1 r5 l15 x33 r35 h36)) fn98 ?_))
 repeat refine RD.mv rfl rfl rfl rfl ?_
 refine RD.q rfl (q0f rfl rfl (q07 (cL (cI .u64)) und148 (q03 inf103) (q2x (cI .u64)) h38 rfl)) (RD.q rfl (q0b und103 rfl rfl rfl) (RD.q (u:=.agg [.str r35,.iM (cI .u64) x37]) rfl (q3v bd105 rfl rfl rfl) (RD.act (u:=.ptr 2 0 0) (σ':=⟨[(2,.row [.str [],.nils] 105),(1,.vec (List.map q0i l28).flatten 105 2 t29)],3⟩) rfl (q1j inf105 rfl rfl) rfl rfl ?_)))
 refine z3d (u:=.junk) (σ':=⟨[(2,.row [.str r35,.iM (cI .u64) x37] 105),(1,.vec (List.map q0i l28).flatten 105 2 t29)],3⟩) rfl (q0v (q03 inf105) rfl rfl rfl rfl rfl rfl rfl rfl) rfl ?_
 refine RD.done ⟨by kernel_rfl,⟨q0s rfl,⟨q0s rfl,⟨q0s rfl,⟨q0s rfl,⟨q0s rfl,⟨q0f rfl rfl (q07 (cL (cI .u64)) und148 (q03 inf103) (q2x (cI .u64)) h34 rfl),⟨q0b und103 rfl rfl rfl,⟨q0s rfl,⟨q0s rfl,⟨q0f rfl rfl (q07 (cL (cI .u64)) und148 (q03 inf103) (q2x (cI .u64)) h38 rfl),⟨q0b und103 rfl rfl rfl,⟨q3v bd105 rfl rfl rfl,trivial⟩⟩⟩⟩⟩⟩⟩⟩⟩⟩⟩⟩,?_⟩
 refine go ?_
 refine RS.q rfl (q0c rfl rfl rfl (q92 und99 rfl)) ?_
 refine go ?_
 refine gS (l':=[(0,_),(5,_),(6,_),(8,_),(9,_),(10,_),(11,_),(12,_)]) ?_
 refine z2x (fun m tm σ=>∃ z49:Int,q87 n z27 l28 (q4h p1 n r5 l15 r17 m2) r35 x37 m z49=some r∧tm=fr 92 [(0,.iM q02 p1),(5,.iM cS r5),(6,.iM (cL (cI .u64)) l15),(8,.iM (cL (cI .u64)) r17),(9,.vl 1 t29 0 l28.length),(10,.i6 z27),(11,.ptr 2 0 0),(12,.i6 z49)]∧σ=⟨[(2,.row [.str r35,.iM (cI .u64) x37] 105),(1,.vec (List.map q0i l28).flatten 105 2 t29)],3⟩) (fun tm σ=>∃ z50:Int,qbt z27 l28 (q4h p1 n r5 l15 r17 m2) r35 x37 z50=some r∧tm=fr 92 [(0,.iM q02 p1),(5,.iM cS r5),(6,.iM (cL (cI .u64)) l15),(8,.iM (cL (cI .u64)) r17),(9,.vl 1 t29 0 l28.length),(10,.i6 z27),(11,.ptr 2 0 0),(12,.i6 z50)]∧σ=⟨[(2,.row [.str r35,.iM (cI .u64) x37] 105),(1,.vec (List.map q0i l28).flatten 105 2 t29)],3⟩) n ⟨(l28.length:Int),hF,rfl,rfl⟩ ?_ ?_
 rintro _ _ ⟨z50,hF,rfl,rfl⟩
 unfold qbt at hF
 obtain ⟨h51,hF⟩:=q09 hF
 obtain ⟨h52,hF⟩:=q09 hF
 obtain ⟨h53,hF⟩:=q09 hF
 refine go ?_
 refine RS.q (u:=.vl 1 t29 0 z50.toNat) rfl (qb0 rfl qr4 (z0e rfl) qr4 (qzx q0i und99 (q03 inf105) q1q (vo rfl) (Nat.le_of_eq (Nat.zero_add _)) (qve h51.1 h51.2))) (RS.q (u:=.vl 3 0 0 (((l28.drop 0).take z50.toNat).length)) (σ':=⟨[(3,.vec (List.map q0i ((l28.drop 0).take z50.toNat)).flatten 105 2 0),(2,.row [.str r35,.iM (cI .u64) x37] 105),(1,.vec (List.map q0i l28).flatten 105 2 t29)],4⟩) rfl (q1i rfl rfl rfl rfl (qrb q0i ((l28.drop 0).take z50.toNat) und99 und99 inf105 rfl (qtv q0i q1q (vo rfl) h52) h53)) ?_)
 obtain ⟨h54,hF⟩:=q09 hF
 refine go ?_
 refine RS.q (u:=.agg [.str r35,.iM (cI .u64) x37]) rfl (q17 und105 rfl (q03 inf105) rfl rfl rfl) (RS.q (u:=.sl 4 0 1 1) (σ':=⟨[(4,.row [.str r35,.iM (cI .u64) x37] 105),(3,.vec (List.map q0i ((l28.drop 0).take z50.toNat)).flatten 105 2 0),(2,.row [.str r35,.iM (cI .u64) x37] 105),(1,.vec (List.map q0i l28).flatten 105 2 t29)],5⟩) rfl (q0k und99 inf105 rfl rfl rfl rfl rfl rfl rfl) (RS.q (u:=.vl 3 1 0 ((((l28.drop 0).take z50.toNat)++[(q11.mk r35 x37)]).length)) (σ':=⟨[(4,.row [.str r35,.iM (cI .u64) x37] 105),(3,.vec (List.map q0i (((l28.drop 0).take z50.toNat)++[(q11.mk r35 x37)])).flatten 105 2 1),(2,.row [.str r35,.iM (cI .u64) x37] 105),(1,.vec (List.map q0i l28).flatten 105 2 t29)],5⟩) rfl (q1i rfl rfl rfl rfl (q1s q0i ([(q11.mk r35 x37)]) und99 und99 inf105 rfl q1q rfl (q1l q0i [(q11.mk r35 x37)] rfl rfl rfl rfl) h54)) ?_))
 obtain ⟨h55,hF⟩:=q09 hF
 obtain ⟨h56,hF⟩:=q09 hF
 obtain ⟨h57,hF⟩:=q09 hF
 refine go ?_
 refine RS.q (u:=.vl 1 t29 (0+z50.toNat) (l28.length - z50.toNat)) rfl (qb0 rfl (z0e rfl) qr4 qr4 (qzx q0i und99 (q03 inf105) q1q (vo rfl) (Nat.le_of_eq (Nat.zero_add _)) (qvf h55.1 h55.2))) (RS.q (u:=.vl 3 2 0 (((((l28.drop 0).take z50.toNat)++[(q11.mk r35 x37)])++((l28.drop (0+z50.toNat)).take (l28.length - z50.toNat))).length)) (σ':=⟨[(4,.row [.str r35,.iM (cI .u64) x37] 105),(3,.vec (List.map q0i ((((l28.drop 0).take z50.toNat)++[(q11.mk r35 x37)])++((l28.drop (0+z50.toNat)).take (l28.length - z50.toNat)))).flatten 105 2 2),(2,.row [.str r35,.iM (cI .u64) x37] 105),(1,.vec (List.map q0i l28).flatten 105 2 t29)],5⟩) rfl (q1i rfl rfl rfl rfl (q1s q0i ((l28.drop (0+z50.toNat)).take (l28.length - z50.toNat)) und99 und99 inf105 rfl q1q rfl (qtv q0i q1q (vo rfl) h56) h57)) ?_)
 refine go ?_
 exact ⟨m2,_,_,Nat.lt_succ_self _,⟨(IntKind.i64.wrap (z27+1)),((((l28.drop 0).take z50.toNat)++[(q11.mk r35 x37)])++((l28.drop (0+z50.toNat)).take (l28.length - z50.toNat))),2,hF,rfl,rfl⟩,NZ,Gh.trans (Gh.sub (l':=[(0,.iM q02 p1),(5,.iM cS r5),(6,.iM (cL (cI .u64)) l15),(8,.iM (cL (cI .u64)) r17),(9,.vl 3 2 0 (((((l28.drop 0).take z50.toNat)++[(q11.mk r35 x37)])++((l28.drop (0+z50.toNat)).take (l28.length - z50.toNat))).length)),(10,.i6 (IntKind.i64.wrap (z27+1)))]) ⟨rfl,rfl,rfl,rfl,rfl,rfl,trivial⟩) (Gh.trans (Gh.mv (l':=[(0,.iM q02 p1),(5,.iM cS r5),(6,.iM (cL (cI .u64)) l15),(8,.iM (cL (cI .u64)) r17),(9,.vl 1 2 0 (((((l28.drop 0).take z50.toNat)++[(q11.mk r35 x37)])++((l28.drop (0+z50.toNat)).take (l28.length - z50.toNat))).length)),(10,.i6 (IntKind.i64.wrap (z27+1)))]) (h':=[(4,.row [.str r35,.iM (cI .u64) x37] 105),(1,.vec (List.map q0i ((((l28.drop 0).take z50.toNat)++[(q11.mk r35 x37)])++((l28.drop (0+z50.toNat)).take (l28.length - z50.toNat)))).flatten 105 2 2),(2,.row [.str r35,.iM (cI .u64) x37] 105)]) 1 3 NZ rfl rfl (by simp only [rS,rU,rUL,qen,mvN,Nat.beq,cond_true,cond_false]) rfl (by simp only [avH,rB,qnq,rUL,rU,qen,qtf,mvN,Nat.beq,cond_true,cond_false,and_self])) (Gh.toC (n1:=2) ⟨rfl,rfl,rfl,rfl,rfl,rfl,trivial⟩ rfl NZ (by simp)))⟩
 rintro (_|m3) _ _ ⟨z49,hF,rfl,rfl⟩
 cases hF
 unfold q87 at hF
 obtain ⟨b63,h64,hF⟩:=q00 hF
 refine gn ?_
 refine z2y (fun tm σ=>tm=fr 92 [(0,.iM q02 p1),(5,.iM cS r5),(6,.iM (cL (cI .u64)) l15),(8,.iM (cL (cI .u64)) r17),(9,.vl 1 t29 0 l28.length),(10,.i6 z27),(11,.ptr 2 0 0),(12,.i6 z49),(73,.bool b63)]∧σ=⟨[(2,.row [.str r35,.iM (cI .u64) x37] 105),(1,.vec (List.map q0i l28).flatten 105 2 t29)],3⟩) ?_ ?_
 rintro _ _ ⟨rfl,rfl⟩
 refine go ?_
 refine cF hF (fun h65 hF=>?_) (fun h65 hF=>?_)
 refine go ?_
 refine WPU.block ?_
 refine go ?_
 exact lC ⟨_,hF,rfl,rfl⟩
 refine go ?_
 exact xC ⟨z49,hF,rfl,rfl⟩
 rcases gB h64 with ⟨h58,h64⟩ | ⟨h58,h64⟩
 obtain ⟨x59,h60,h64⟩:=q00 h64
 obtain ⟨r61,h62,h64⟩:=q00 h64
 obtain rfl:=sI h64
 refine z2z Tryz.tb_ok [] (by kernel_rfl) ?_
 refine RD.mv rfl rfl rfl rfl (RD.q rfl (q34 rfl rfl (qll _ _ _) rfl) (RD.mv rfl rfl rfl rfl (RD.w (u:=.agg [.str r35,.iM (cI .u64) x37]) rfl (q17 und105 rfl (q03 inf105) rfl rfl rfl) (RD.w rfl (q0s rfl) (RD.w rfl (q0s rfl) (RD.w rfl (q34 rfl rfl (qwk _ _ _) rfl) ?_))))))
 refine RD.w rfl (q0f rfl rfl (q8t q0i und99 (q03 inf105) (by decide) q1q (vo rfl) h60)) ?_
 refine RD.w (u:=.agg (q0i x59)) rfl (ld_vec q0i und105 rfl (q03 inf105) q1q rfl rfl h60 rfl) (RD.fl rfl (pC (qmz n (q11.mk r35 x37) x59 r61 h62)) fn99 (RD.q rfl (qaz rfl h58 rfl) ?_))
 refine RD.done ⟨by kernel_rfl,trivial,?_⟩
 refine go ?_
 exact xC ⟨rfl,rfl⟩
 obtain rfl:=sI h64
 refine z2z Tryz.tb_ok [] (by kernel_rfl) ?_
 refine RD.mv rfl rfl rfl rfl (RD.q rfl (q34 rfl rfl (qll _ _ _) rfl) (RD.mv rfl rfl rfl rfl ?_))
 repeat refine RD.no (qp4 rfl rfl rfl h58) rfl rfl ?_
 refine RD.q rfl (qay rfl h58 rfl) ?_
 refine RD.done ⟨by kernel_rfl,trivial,?_⟩
 refine go ?_
 exact xC ⟨rfl,rfl⟩
 refine go ?_
 exact xC ⟨l28,t29,hF,rfl,rfl⟩
 rintro (_|m1) _ _ ⟨z12,l13,t14,hF,rfl,rfl⟩
 cases hF
 unfold q86 at hF
 refine go ?_
 refine RS.q rfl (q0c rfl rfl rfl (q08 cS und80)) ?_
 refine go ?_
 refine cF hF (fun h66 hF=>?_) (fun h66 hF=>?_)
 refine go ?_
 refine WPU.block ?_
 obtain ⟨x67,h68,hF⟩:=q00 hF
 obtain ⟨r69,h70,hF⟩:=q00 hF
 obtain ⟨h71,hF⟩:=q09 hF
 refine go ?_
 refine RS.q rfl (q0f rfl rfl (q07 cS und80 (q03 inf9) q1m h68 rfl)) (RS.q rfl (q0b und9 rfl rfl rfl) (RS.cl rfl (pC (qqm n p1 r5 x67 r69 h70) _) fn96 (RS.q (u:=.sl 1 0 1 1) (σ':=⟨[(1,.row [.iM (cI .u64) r69] 103),(0,.vec (List.map (cL (cI .u64)) l13).flatten 103 1 t14)],2⟩) rfl (q0k und148 inf103 rfl rfl rfl rfl rfl rfl rfl) (RS.q (u:=.vl 0 (t14+1) 0 ((l13++[r69]).length)) (σ':=⟨[(1,.row [.iM (cI .u64) r69] 103),(0,.vec (List.map (cL (cI .u64)) (l13++[r69])).flatten 103 1 (t14+1))],2⟩) rfl (q1i rfl rfl rfl rfl (q1s (cL (cI .u64)) ([r69]) und148 und148 inf103 rfl (q2x (cI .u64)) rfl (q1l (cL (cI .u64)) [r69] rfl rfl rfl rfl) h71)) ?_))))
 refine go ?_
 exact lC ⟨_,(l13++[r69]),(t14+1),hF,rfl,rfl⟩
 refine go ?_
 exact xC ⟨l13,t14,hF,rfl,rfl⟩
def qc2   : Option ((List UInt8)×Bool) :=
 some ([],false)
def q8c (p1:q05) (p2:List UInt8):Nat→Int→Option ((List UInt8)×Bool)
 | 0,_=>none
 | m1+1,z8 =>
  cond (decide (z8<(p1.Feats.length:Int)))
   (q04 (q0w p1.Feats z8) fun x10 =>
   cond (q1p x10.Feat p2)
    (q04 (q0w p1.Feats z8) fun x13 =>
    some (x13.Value,true))
    ((q8c p1 p2 m1) (IntKind.i64.wrap (z8+1))))
   (qc2)
def qdn (n:Nat) (p1:q05) (p2:List UInt8):Option ((List UInt8)×Bool) :=
 q8c p1 p2 n 0
theorem qi0 (n:Nat) (p1:q05) (p2:List UInt8) (r:(List UInt8)×Bool) (hF:qdn n p1 p2=some r):EvU Tryz.prog 117 [.agg (q02 p1),.str p2] ⟨[],0⟩ (fun u _=>u = .tup [.str r.1,.bool r.2]∧Bel 0 u):=by
 unfold qdn at hF
 refine bg2 28 fn117 ?_
 refine go ?_
 refine RS.q (u:=.ptr 0 0 0) (σ':=⟨[(0,.row (q02 p1) 127)],1⟩) rfl (q3r rfl rfl rfl) ?_
 refine go ?_
 refine gS (l':=[(1,_),(2,_),(6,_)]) ?_
 refine z2x (fun m tm σ=>∃ z8:Int,q8c p1 p2 m z8=some r∧tm=fr 28 [(1,.str p2),(2,.ptr 0 0 0),(6,.i6 z8)]∧σ=⟨[(0,.row (q02 p1) 127)],1⟩) (fun tm σ=>qc2=some r∧tm=fr 28 []∧σ=⟨[(0,.row (q02 p1) 127)],1⟩) n ⟨0,hF,rfl,rfl⟩ ?_ ?_
 rintro _ _ ⟨hF,rfl,rfl⟩
 unfold qc2 at hF
 refine go ?_
 obtain rfl:=sI hF
 exact rt2 rfl rfl rfl rfl rfl
 rintro (_|m1) _ _ ⟨z8,hF,rfl,rfl⟩
 cases hF
 unfold q8c at hF
 refine go ?_
 refine RS.q rfl (q0z und127 rfl (q03 inf125) rfl rfl rfl) (RS.q rfl (q0n und125 rfl rfl rfl rfl) (RS.q rfl (q0c rfl rfl rfl (q08 q0h und125)) ?_))
 refine go ?_
 refine cF hF (fun h9 hF=>?_) (fun h9 hF=>?_)
 refine go ?_
 refine WPU.block ?_
 obtain ⟨x10,h11,hF⟩:=q00 hF
 refine go ?_
 refine RS.q rfl (q0z und127 rfl (q03 inf125) rfl rfl rfl) (RS.q rfl (q0n und125 rfl rfl rfl rfl) ?_)
 refine go ?_
 refine RS.q rfl (q0f rfl rfl (q07 q0h und125 (q03 inf162) q24 h11 rfl)) (RS.q rfl (q1d und162 rfl (q03 inf9) rfl rfl) (RS.q rfl (q0b und9 rfl rfl rfl) ?_))
 refine go ?_
 refine RS.q (u:=.bool (q1p x10.Feat p2)) rfl (q93 rfl rfl rfl rfl) ?_
 refine go ?_
 refine cF hF (fun h12 hF=>?_) (fun h12 hF=>?_)
 obtain ⟨x13,h14,hF⟩:=q00 hF
 refine go ?_
 refine RS.q rfl (q0z und127 rfl (q03 inf125) rfl rfl rfl) (RS.q rfl (q0n und125 rfl rfl rfl rfl) ?_)
 refine go ?_
 refine RS.q rfl (q0f rfl rfl (q07 q0h und125 (q03 inf162) q24 h14 rfl)) (RS.q rfl (q1d und162 rfl (q03 inf9) rfl rfl) (RS.q rfl (q0b und9 rfl rfl rfl) ?_))
 refine go ?_
 obtain rfl:=sI hF
 exact rt2 rfl rfl rfl rfl rfl
 refine go ?_
 exact lC ⟨_,hF,rfl,rfl⟩
 refine go ?_
 exact xC ⟨hF,rfl,rfl⟩
def q8b (z8:Int) (rc1:(List (List UInt8))→Int→Option ((List UInt8)×Bool)) (l21:List (List UInt8)):Option ((List UInt8)×Bool) :=
 rc1 l21 (IntKind.i64.wrap (z8+1))
def qc0 (p1:List q05) (n:Nat) (l9:List (List UInt8)):Option ((List UInt8)×Bool) :=
 q04 (q9i n p1 l9) fun r10 =>
 cond ((r10.length:Int) != 1)
  (some ([],false))
  (q04 (q0w r10 0) fun x13 =>
  some (x13,true))
def q4l (p1:List q05) (p2:List UInt8) (n:Nat):Nat→(List (List UInt8))→Int→Option ((List UInt8)×Bool)
 | 0,_,_=>none
 | m1+1,l7,z8 =>
  cond (decide (z8<(p1.length:Int)))
   (q04 (q0w p1 z8) fun x16 =>
   q04 (qdn n x16 p2) fun r18 =>
   cond r18.2
    (q04 (q0w p1 z8) fun x22 =>
    q04 (q8l n l7 x22.Name) fun r24 =>
    q8b z8 (q4l p1 p2 n m1) r24)
    (q8b z8 (q4l p1 p2 n m1) l7))
   (qc0 p1 n l7)
def qdm (n:Nat) (p1:List q05) (p2:List UInt8):Option ((List UInt8)×Bool) :=
 q4l p1 p2 n n [] 0
theorem qhz (n:Nat) (p1:List q05) (p2:List UInt8) (r:(List UInt8)×Bool) (hF:qdm n p1 p2=some r):EvU Tryz.prog 101 [.isl false (List.map q02 p1),.str p2] ⟨[],0⟩ (fun u _=>u = .tup [.str r.1,.bool r.2]∧Bel 0 u):=by
 unfold qdm at hF
 refine bg2 43 fn101 ?_
 refine gr ?_
 refine gr ?_
 refine gr ?_
 refine WPU.ghost (tm':=fr 43 [(0,.iM q02 p1),(1,.str p2),(6,.iM cS []),(7,.i6 0)]) (Gh.trans (Gh.sub (l':=[(0,.iM q02 p1),(1,.str p2),(6,.nils),(7,.i6 0)]) ⟨rfl,rfl,rfl,rfl,trivial⟩) (Gh.wkS (l':=[(0,.iM q02 p1),(1,.str p2),(6,.iM cS []),(7,.i6 0)]) (.cons (.refl _) (.cons (.refl _) (.cons (.nil false) (.cons (.refl _) .nil)))))) NZ ?_
 refine gS (l':=[(0,_),(1,_),(6,_),(7,_)]) ?_
 refine z2x (fun m tm σ=>∃ l7:List (List UInt8),∃ z8:Int,q4l p1 p2 n m l7 z8=some r∧tm=fr 43 [(0,.iM q02 p1),(1,.str p2),(6,.iM cS l7),(7,.i6 z8)]∧σ=⟨[],0⟩) (fun tm σ=>∃ l9:List (List UInt8),qc0 p1 n l9=some r∧tm=fr 43 [(0,.iM q02 p1),(6,.iM cS l9)]∧σ=⟨[],0⟩) n ⟨[],0,hF,rfl,rfl⟩ ?_ ?_
 rintro _ _ ⟨l9,hF,rfl,rfl⟩
 unfold qc0 at hF
 obtain ⟨r10,h11,hF⟩:=q00 hF
 refine go ?_
 refine RS.cl rfl (pC (qep n p1 l9 r10 h11) _) fn131 ?_
 refine go ?_
 refine RS.q rfl (q0c rfl rfl rfl (q08 cS und80)) ?_
 refine go ?_
 refine cF hF (fun h12 hF=>?_) (fun h12 hF=>?_)
 refine go ?_
 obtain rfl:=sI hF
 exact rt2 rfl rfl rfl rfl rfl
 obtain ⟨x13,h14,hF⟩:=q00 hF
 refine go ?_
 refine RS.q rfl (q0f rfl rfl (q07 cS und80 (q03 inf9) q1m h14 rfl)) (RS.q rfl (q0b und9 rfl rfl rfl) ?_)
 refine go ?_
 obtain rfl:=sI hF
 exact rt2 rfl rfl rfl rfl rfl
 rintro (_|m1) _ _ ⟨l7,z8,hF,rfl,rfl⟩
 cases hF
 unfold q4l at hF
 refine go ?_
 refine RS.q rfl (q0c rfl rfl rfl (q08 q02 und38)) ?_
 refine go ?_
 refine cF hF (fun h15 hF=>?_) (fun h15 hF=>?_)
 refine go ?_
 refine WPU.block ?_
 obtain ⟨x16,h17,hF⟩:=q00 hF
 obtain ⟨r18,h19,hF⟩:=q00 hF
 refine go ?_
 refine RS.q rfl (q0f rfl rfl (q07 q02 und38 (q03 inf127) q0m h17 rfl)) (RS.q (u:=.agg (q02 x16)) rfl (qav und127 rfl (q03 inf127) rfl rfl) ?_)
 refine go ?_
 refine RS.cl rfl (pC (qi0 n x16 p2 r18 h19) _) fn117 ?_
 refine gr ?_
 refine z2y (fun tm σ=>∃ l21:List (List UInt8),q8b z8 (q4l p1 p2 n m1) l21=some r∧tm=fr 43 [(0,.iM q02 p1),(1,.str p2),(6,.iM cS l21),(7,.i6 z8)]∧σ=⟨[],0⟩) ?_ ?_
 rintro _ _ ⟨l21,hF,rfl,rfl⟩
 unfold q8b at hF
 refine go ?_
 exact lC ⟨l21,(IntKind.i64.wrap (z8+1)),hF,rfl,rfl⟩
 refine cF hF (fun h20 hF=>?_) (fun h20 hF=>?_)
 obtain ⟨x22,h23,hF⟩:=q00 hF
 obtain ⟨r24,h25,hF⟩:=q00 hF
 refine go ?_
 refine RS.q rfl (q0f rfl rfl (q07 q02 und38 (q03 inf127) q0m h23 rfl)) (RS.q rfl (q1d und127 rfl (q03 inf9) rfl rfl) (RS.q rfl (q0b und9 rfl rfl rfl) (RS.cl rfl (pC (q7f n l7 x22.Name r24 h25) _) fn116 ?_)))
 refine go ?_
 exact xC ⟨r24,hF,rfl,rfl⟩
 refine go ?_
 exact xC ⟨l7,hF,rfl,rfl⟩
 refine go ?_
 exact xC ⟨l7,hF,rfl,rfl⟩
def q50 (n:Nat) (r2:(List (List UInt8))) (x9:q05) (z16:Int) (rc2:Int→Option (Int))  : Option (Int) :=
 q04 (q0w x9.Feats z16) fun x30 =>
 q04 (q36 n r2 x30.Value) fun r32 =>
 cond (!r32)
  (some 5)
  (rc2 (IntKind.i64.wrap (z16+1)))
def q3l (n:Nat) (r2:(List (List UInt8))) (x9:q05) (z16:Int) (rc2:Int→Option (Int)):Nat→Int→Option (Int)
 | 0,_=>none
 | m3+1,z29 =>
  cond (decide (z29<z16))
   (q04 (q0w x9.Feats z29) fun x36 =>
   q04 (q0w x9.Feats z16) fun x38 =>
   cond (q1p x36.Feat x38.Feat)
    (some 4)
    ((q3l n r2 x9 z16 rc2 m3) (IntKind.i64.wrap (z29+1))))
   (q50 n r2 x9 z16 rc2)
def q4z (z7:Int) (rc1:Int→Option (Int))  : Option (Int) :=
 rc1 (IntKind.i64.wrap (z7+1))
def q20 (n:Nat) (r2:(List (List UInt8))) (z7:Int) (rc1:Int→Option (Int)) (x9:q05):Nat→Int→Option (Int)
 | 0,_=>none
 | m2+1,z16 =>
  cond (decide (z16<(x9.Feats.length:Int)))
   (q04 (q0w x9.Feats z16) fun x18 =>
   q04 (qd4 n x18.Feat) fun r20 =>
   cond (!r20)
    (some 1)
    (q3l n r2 x9 z16 (q20 n r2 z7 rc1 x9 m2) n 0))
   (q4z z7 rc1)
def q4y   : Option (Int) :=
 some 0
def q1g (p1:List q05) (n:Nat) (r2:(List (List UInt8))):Nat→Int→Option (Int)
 | 0,_=>none
 | m1+1,z7 =>
  cond (decide (z7<(p1.length:Int)))
   (q04 (q0w p1 z7) fun x9 =>
   q20 n r2 z7 (q1g p1 n r2 m1) x9 n 0)
   (q4y)
def q6v (n:Nat) (p1:List q05):Option (Int) :=
 q04 (qdd n p1) fun r2 =>
 q1g p1 n r2 n 0
theorem qfm (n:Nat) (p1:List q05) (r:Int) (hF:q6v n p1=some r):EvU Tryz.prog 115 [.isl false (List.map q02 p1)] ⟨[],0⟩ (fun u _=>u = .int .i64 r∧Bel 0 u):=by
 unfold q6v at hF
 refine bg1 58 fn115 ?_
 obtain ⟨r2,h3,hF⟩:=q00 hF
 refine go ?_
 refine RS.cl rfl (pC (qhx n p1 r2 h3) _) fn95 ?_
 refine go ?_
 refine gS (l':=[(0,_),(3,_),(4,_)]) ?_
 refine z2x (fun m tm σ=>∃ z7:Int,q1g p1 n r2 m z7=some r∧tm=fr 58 [(0,.iM q02 p1),(3,.iM cS r2),(4,.i6 z7)]∧σ=⟨[],0⟩) (fun tm σ=>q4y=some r∧tm=fr 58 []∧σ=⟨[],0⟩) n ⟨0,hF,rfl,rfl⟩ ?_ ?_
 rintro _ _ ⟨hF,rfl,rfl⟩
 unfold q4y at hF
 exact gx hF
 rintro (_|m1) _ _ ⟨z7,hF,rfl,rfl⟩
 cases hF
 unfold q1g at hF
 refine go ?_
 refine RS.q rfl (q0c rfl rfl rfl (q08 q02 und38)) ?_
 refine go ?_
 refine cF hF (fun h8 hF=>?_) (fun h8 hF=>?_)
 refine go ?_
 refine WPU.block ?_
 obtain ⟨x9,h10,hF⟩:=q00 hF
 refine go ?_
 refine RS.q rfl (q0f rfl rfl (q07 q02 und38 (q03 inf127) q0m h10 rfl)) (RS.q rfl (q1d und127 rfl (q03 inf125) rfl rfl) (RS.q rfl (q0b und125 rfl rfl rfl) ?_))
 refine go ?_
 refine gS (l':=[(0,_),(3,_),(4,_),(5,_),(6,_)]) ?_
 refine z2x (fun m tm σ=>∃ z16:Int,q20 n r2 z7 (q1g p1 n r2 m1) x9 m z16=some r∧tm=fr 58 [(0,.iM q02 p1),(3,.iM cS r2),(4,.i6 z7),(5,.iM q0h x9.Feats),(6,.i6 z16)]∧σ=⟨[],0⟩) (fun tm σ=>q4z z7 (q1g p1 n r2 m1)=some r∧tm=fr 58 [(0,.iM q02 p1),(3,.iM cS r2),(4,.i6 z7)]∧σ=⟨[],0⟩) n ⟨0,hF,rfl,rfl⟩ ?_ ?_
 rintro _ _ ⟨hF,rfl,rfl⟩
 unfold q4z at hF
 refine go ?_
 exact lC ⟨_,hF,rfl,rfl⟩
 rintro (_|m2) _ _ ⟨z16,hF,rfl,rfl⟩
 cases hF
 unfold q20 at hF
 refine go ?_
 refine RS.q rfl (q0c rfl rfl rfl (q08 q0h und125)) ?_
 refine go ?_
 refine cF hF (fun h17 hF=>?_) (fun h17 hF=>?_)
 refine go ?_
 refine WPU.block ?_
 obtain ⟨x18,h19,hF⟩:=q00 hF
 obtain ⟨r20,h21,hF⟩:=q00 hF
 refine go ?_
 refine RS.q rfl (q0f rfl rfl (q07 q0h und125 (q03 inf162) q24 h19 rfl)) (RS.q rfl (q1d und162 rfl (q03 inf9) rfl rfl) (RS.q rfl (q0b und9 rfl rfl rfl) (RS.cl rfl (pC (qm0 n x18.Feat r20 h21) _) fn57 ?_)))
 refine go ?_
 refine cF hF (fun h22 hF=>?_) (fun h22 hF=>?_)
 exact gx hF
 refine go ?_
 refine gS (l':=[(0,_),(3,_),(4,_),(5,_),(6,_),(7,_)]) ?_
 refine z2x (fun m tm σ=>∃ z29:Int,q3l n r2 x9 z16 (q20 n r2 z7 (q1g p1 n r2 m1) x9 m2) m z29=some r∧tm=fr 58 [(0,.iM q02 p1),(3,.iM cS r2),(4,.i6 z7),(5,.iM q0h x9.Feats),(6,.i6 z16),(7,.i6 z29)]∧σ=⟨[],0⟩) (fun tm σ=>q50 n r2 x9 z16 (q20 n r2 z7 (q1g p1 n r2 m1) x9 m2)=some r∧tm=fr 58 [(0,.iM q02 p1),(3,.iM cS r2),(4,.i6 z7),(5,.iM q0h x9.Feats),(6,.i6 z16)]∧σ=⟨[],0⟩) n ⟨0,hF,rfl,rfl⟩ ?_ ?_
 rintro _ _ ⟨hF,rfl,rfl⟩
 unfold q50 at hF
 obtain ⟨x30,h31,hF⟩:=q00 hF
 obtain ⟨r32,h33,hF⟩:=q00 hF
 refine go ?_
 refine RS.q rfl (q0f rfl rfl (q07 q0h und125 (q03 inf162) q24 h31 rfl)) (RS.q rfl (q1d und162 rfl (q03 inf9) rfl rfl) (RS.q rfl (q0b und9 rfl rfl rfl) (RS.cl rfl (pC (q29 n r2 x30.Value r32 h33) _) fn126 ?_)))
 refine go ?_
 refine cF hF (fun h34 hF=>?_) (fun h34 hF=>?_)
 exact gx hF
 refine go ?_
 exact lC ⟨_,hF,rfl,rfl⟩
 rintro (_|m3) _ _ ⟨z29,hF,rfl,rfl⟩
 cases hF
 unfold q3l at hF
 refine go ?_
 refine cF hF (fun h35 hF=>?_) (fun h35 hF=>?_)
 refine go ?_
 refine WPU.block ?_
 obtain ⟨x36,h37,hF⟩:=q00 hF
 obtain ⟨x38,h39,hF⟩:=q00 hF
 refine go ?_
 refine z2z Tryz.tb_ok [] (by kernel_rfl) ?_
 repeat refine RD.mv rfl rfl rfl rfl ?_
 refine RD.q rfl (q0f rfl rfl (q07 q0h und125 (q03 inf162) q24 h37 rfl)) (RD.q rfl (q1d und162 rfl (q03 inf9) rfl rfl) (RD.q rfl (q0b und9 rfl rfl rfl) ?_))
 repeat refine RD.mv rfl rfl rfl rfl ?_
 refine RD.q rfl (q0f rfl rfl (q07 q0h und125 (q03 inf162) q24 h39 rfl)) (RD.q rfl (q1d und162 rfl (q03 inf9) rfl rfl) (RD.q rfl (q0b und9 rfl rfl rfl) (RD.q (u:=.bool (q1p x36.Feat x38.Feat)) rfl (q93 rfl rfl rfl rfl) ?_)))
 refine RD.done ⟨by kernel_rfl,trivial,?_⟩
 refine go ?_
 refine cF hF (fun h40 hF=>?_) (fun h40 hF=>?_)
 exact gx hF
 refine go ?_
 exact lC ⟨_,hF,rfl,rfl⟩
 refine go ?_
 exact xC ⟨hF,rfl,rfl⟩
 refine go ?_
 exact xC ⟨hF,rfl,rfl⟩
 refine go ?_
 exact xC ⟨hF,rfl,rfl⟩
def qbz (z6:Int) (rc1:(List (List UInt8))→Int→Option ((List (List UInt8)))) (l15:List (List UInt8)):Option ((List (List UInt8))) :=
 rc1 l15 (IntKind.i64.wrap (z6+1))
def q8a (p1:List q05) (n:Nat) (z6:Int) (rc1:(List (List UInt8))→Int→Option ((List (List UInt8)))):Nat→(List (List UInt8))→Int→Option ((List (List UInt8)))
 | 0,_,_=>none
 | m2+1,l13,z14 =>
  q04 (q0w p1 z6) fun x16 =>
  cond (decide (z14<(x16.Feats.length:Int)))
   (q04 (q0w p1 z6) fun x19 =>
   q04 (q0w x19.Feats z14) fun x21 =>
   q04 (q8l n l13 x21.Feat) fun r23 =>
   (q8a p1 n z6 rc1 m2) r23 (IntKind.i64.wrap (z14+1)))
   (qbz z6 rc1 l13)
def qby  (l7:List (List UInt8)):Option ((List (List UInt8))) :=
 some l7
def q4k (p1:List q05) (n:Nat):Nat→(List (List UInt8))→Int→Option ((List (List UInt8)))
 | 0,_,_=>none
 | m1+1,l5,z6 =>
  cond (decide (z6<(p1.length:Int)))
   (q8a p1 n z6 (q4k p1 n m1) n l5 0)
   (qby l5)
def qag (n:Nat) (p1:List q05):Option ((List (List UInt8))) :=
 q4k p1 n n [] 0
theorem qdl (n:Nat) (p1:List q05) (r:(List (List UInt8))) (hF:qag n p1=some r):EvU Tryz.prog 91 [.isl false (List.map q02 p1)] ⟨[],0⟩ (fun u _=>u = .isl false (List.map cS r)∧Bel 0 u):=by
 unfold qag at hF
 refine bg1 34 fn91 ?_
 refine gr ?_
 refine gr ?_
 refine gr ?_
 refine WPU.ghost (tm':=fr 34 [(0,.iM q02 p1),(3,.iM cS []),(4,.i6 0)]) (Gh.trans (Gh.sub (l':=[(0,.iM q02 p1),(3,.nils),(4,.i6 0)]) ⟨rfl,rfl,rfl,trivial⟩) (Gh.wkS (l':=[(0,.iM q02 p1),(3,.iM cS []),(4,.i6 0)]) (.cons (.refl _) (.cons (.nil false) (.cons (.refl _) .nil))))) NZ ?_
 refine gS (l':=[(0,_),(3,_),(4,_)]) ?_
 refine z2x (fun m tm σ=>∃ l5:List (List UInt8),∃ z6:Int,q4k p1 n m l5 z6=some r∧tm=fr 34 [(0,.iM q02 p1),(3,.iM cS l5),(4,.i6 z6)]∧σ=⟨[],0⟩) (fun tm σ=>∃ l7:List (List UInt8),qby l7=some r∧tm=fr 34 [(3,.iM cS l7)]∧σ=⟨[],0⟩) n ⟨[],0,hF,rfl,rfl⟩ ?_ ?_
 rintro _ _ ⟨l7,hF,rfl,rfl⟩
 unfold qby at hF
 exact gx hF
 rintro (_|m1) _ _ ⟨l5,z6,hF,rfl,rfl⟩
 cases hF
 unfold q4k at hF
 refine go ?_
 refine RS.q rfl (q0c rfl rfl rfl (q08 q02 und38)) ?_
 refine go ?_
 refine cF hF (fun h8 hF=>?_) (fun h8 hF=>?_)
 refine go ?_
 refine WPU.block ?_
 refine go ?_
 refine gS (l':=[(0,_),(3,_),(4,_),(5,_)]) ?_
 refine z2x (fun m tm σ=>∃ l13:List (List UInt8),∃ z14:Int,q8a p1 n z6 (q4k p1 n m1) m l13 z14=some r∧tm=fr 34 [(0,.iM q02 p1),(3,.iM cS l13),(4,.i6 z6),(5,.i6 z14)]∧σ=⟨[],0⟩) (fun tm σ=>∃ l15:List (List UInt8),qbz z6 (q4k p1 n m1) l15=some r∧tm=fr 34 [(0,.iM q02 p1),(3,.iM cS l15),(4,.i6 z6)]∧σ=⟨[],0⟩) n ⟨l5,0,hF,rfl,rfl⟩ ?_ ?_
 rintro _ _ ⟨l15,hF,rfl,rfl⟩
 unfold qbz at hF
 refine go ?_
 exact lC ⟨l15,(IntKind.i64.wrap (z6+1)),hF,rfl,rfl⟩
 rintro (_|m2) _ _ ⟨l13,z14,hF,rfl,rfl⟩
 cases hF
 unfold q8a at hF
 obtain ⟨x16,h17,hF⟩:=q00 hF
 refine go ?_
 refine RS.q rfl (q0f rfl rfl (q07 q02 und38 (q03 inf127) q0m h17 rfl)) (RS.q rfl (q1d und127 rfl (q03 inf125) rfl rfl) (RS.q rfl (q0b und125 rfl rfl rfl) (RS.q rfl (q0c rfl rfl rfl (q08 q0h und125)) ?_)))
 refine go ?_
 refine cF hF (fun h18 hF=>?_) (fun h18 hF=>?_)
 refine go ?_
 refine WPU.block ?_
 obtain ⟨x19,h20,hF⟩:=q00 hF
 obtain ⟨x21,h22,hF⟩:=q00 hF
 obtain ⟨r23,h24,hF⟩:=q00 hF
 refine go ?_
 refine RS.q rfl (q0f rfl rfl (q07 q02 und38 (q03 inf127) q0m h20 rfl)) (RS.q rfl (q1d und127 rfl (q03 inf125) rfl rfl) (RS.q rfl (q0b und125 rfl rfl rfl) ?_))
 refine go ?_
 refine RS.q rfl (q0f rfl rfl (q07 q0h und125 (q03 inf162) q24 h22 rfl)) (RS.q rfl (q1d und162 rfl (q03 inf9) rfl rfl) (RS.q rfl (q0b und9 rfl rfl rfl) (RS.cl rfl (pC (q7f n l13 x21.Feat r23 h24) _) fn116 ?_)))
 refine go ?_
 exact lC ⟨r23,(IntKind.i64.wrap (z14+1)),hF,rfl,rfl⟩
 refine go ?_
 exact xC ⟨l13,hF,rfl,rfl⟩
 refine go ?_
 exact xC ⟨l5,hF,rfl,rfl⟩
def q4i (n:Nat) (p1:List q11) (p2:Int) (p3:Int):Option (Bool) :=
 q04 (q0w p1 p3) fun x4 =>
 q04 (q0w p1 p2) fun x6 =>
 q04 (q8k n x4.Code x6.Code) fun r8 =>
 some r8
theorem q4a (n:Nat) (p1:List q11) (p2:Int) (p3:Int) (r:Bool) (hF:q4i n p1 p2 p3=some r):EvU Tryz.prog 100 [.isl false (List.map q0i p1),.int .i64 p2,.int .i64 p3] ⟨[],0⟩ (fun u _=>u = .bool r∧Bel 0 u):=by
 unfold q4i at hF
 refine bg3 18 fn100 ?_
 obtain ⟨x4,h5,hF⟩:=q00 hF
 obtain ⟨x6,h7,hF⟩:=q00 hF
 obtain ⟨r8,h9,hF⟩:=q00 hF
 refine go ?_
 refine z2z Tryz.tb_ok [] (by kernel_rfl) ?_
 repeat refine RD.mv rfl rfl rfl rfl ?_
 refine RD.q rfl (q0f rfl rfl (q07 q0i und99 (q03 inf105) q1q h5 rfl)) (RD.q rfl (q1d und105 rfl (q03 inf103) rfl rfl) (RD.q rfl (q0b und103 rfl rfl rfl) ?_))
 repeat refine RD.mv rfl rfl rfl rfl ?_
 refine RD.q rfl (q0f rfl rfl (q07 q0i und99 (q03 inf105) q1q h7 rfl)) (RD.q rfl (q1d und105 rfl (q03 inf103) rfl rfl) (RD.q rfl (q0b und103 rfl rfl rfl) (RD.fl rfl (pC (q7v n x4.Code x6.Code r8 h9)) fn133 (RD.as rfl rfl rfl rfl ?_))))
 refine RD.done ⟨by kernel_rfl,trivial,?_⟩
 exact gx hF
def qah   : Option (Int) :=
 some (-1)
def q6y (p1:List q11) (p2:List UInt8):Nat→Int→Option (Int)
 | 0,_=>none
 | m1+1,z6 =>
  cond (decide (z6<(p1.length:Int)))
   (q04 (q0w p1 z6) fun x8 =>
   cond (q1p x8.Name p2)
    (some z6)
    ((q6y p1 p2 m1) (IntKind.i64.wrap (z6+1))))
   (qah)
def q8m (n:Nat) (p1:List q11) (p2:List UInt8):Option (Int) :=
 q6y p1 p2 n 0
theorem qc1 (n:Nat) (p1:List q11) (p2:List UInt8) (r:Int) (hF:q8m n p1 p2=some r):EvU Tryz.prog 102 [.isl false (List.map q0i p1),.str p2] ⟨[],0⟩ (fun u _=>u = .int .i64 r∧Bel 0 u):=by
 unfold q8m at hF
 refine bg2 20 fn102 ?_
 refine go ?_
 refine gS (l':=[(0,_),(1,_),(5,_)]) ?_
 refine z2x (fun m tm σ=>∃ z6:Int,q6y p1 p2 m z6=some r∧tm=fr 20 [(0,.iM q0i p1),(1,.str p2),(5,.i6 z6)]∧σ=⟨[],0⟩) (fun tm σ=>qah=some r∧tm=fr 20 []∧σ=⟨[],0⟩) n ⟨0,hF,rfl,rfl⟩ ?_ ?_
 rintro _ _ ⟨hF,rfl,rfl⟩
 unfold qah at hF
 exact gx hF
 rintro (_|m1) _ _ ⟨z6,hF,rfl,rfl⟩
 cases hF
 unfold q6y at hF
 refine go ?_
 refine RS.q rfl (q0c rfl rfl rfl (q08 q0i und99)) ?_
 refine go ?_
 refine cF hF (fun h7 hF=>?_) (fun h7 hF=>?_)
 refine go ?_
 refine WPU.block ?_
 obtain ⟨x8,h9,hF⟩:=q00 hF
 refine go ?_
 refine RS.q rfl (q0f rfl rfl (q07 q0i und99 (q03 inf105) q1q h9 rfl)) (RS.q rfl (q1d und105 rfl (q03 inf9) rfl rfl) (RS.q rfl (q0b und9 rfl rfl rfl) ?_))
 refine go ?_
 refine RS.q (u:=.bool (q1p x8.Name p2)) rfl (q93 rfl rfl rfl rfl) ?_
 refine go ?_
 refine cF hF (fun h10 hF=>?_) (fun h10 hF=>?_)
 exact gx hF
 refine go ?_
 exact lC ⟨_,hF,rfl,rfl⟩
 refine go ?_
 exact xC ⟨hF,rfl,rfl⟩
def q6x  (b17:Bool) (l18:List Int):Option ((List Int)×Bool) :=
 some (l18,b17)
def q3m (p1:List q05) (p2:List q11) (p3:Int) (p4:List UInt8) (n:Nat):Nat→Bool→(List Int)→Int→Option ((List Int)×Bool)
 | 0,_,_,_=>none
 | m1+1,b14,l15,z16 =>
  cond (decide (z16<(p1.length:Int)))
   (q04 (q0w p1 z16) fun x20 =>
   q04 (qdn n x20 p4) fun r22 =>
   q04 (cond (!r22.2)
    (some true)
    (q04 (q0w p1 z16) fun x25 =>
    q04 (q8m n p2 x25.Name) fun r27 =>
    q04 (q4i n p2 r27 p3) fun r29 =>
    some (!r29))) fun b31 =>
   cond b31
    ((q3m p1 p2 p3 p4 n m1) b14 l15 (IntKind.i64.wrap (z16+1)))
    (q04 (q8m n p2 r22.1) fun r34 =>
    q04 (q0w p2 r34) fun x36 =>
    q04 (qhu n l15 x36.Code) fun r38 =>
    (q3m p1 p2 p3 p4 n m1) true r38 (IntKind.i64.wrap (z16+1))))
   (q6x b14 l15)
def q6w (n:Nat) (p1:List q05) (p2:List q11) (p3:Int) (p4:List UInt8):Option ((List Int)×Bool) :=
 q04 (q0w p2 0) fun x5 =>
 q3m p1 p2 p3 p4 n n false x5.Code 0
theorem qcb (n:Nat) (p1:List q05) (p2:List q11) (p3:Int) (p4:List UInt8) (r:(List Int)×Bool) (hF:q6w n p1 p2 p3 p4=some r):EvU Tryz.prog 92 [.isl false (List.map q02 p1),.isl false (List.map q0i p2),.int .i64 p3,.str p4] ⟨[],0⟩ (fun u _=>u = .tup [.isl false (List.map (cI .u64) r.1),.bool r.2]∧Bel 0 u):=by
 unfold q6w at hF
 refine bg4 60 fn92 ?_
 obtain ⟨x5,h6,hF⟩:=q00 hF
 refine go ?_
 refine RS.q rfl (q0f rfl rfl (q07 q0i und99 (q03 inf105) q1q h6 rfl)) (RS.q rfl (q1d und105 rfl (q03 inf103) rfl rfl) (RS.q rfl (q0b und103 rfl rfl rfl) ?_))
 refine go ?_
 refine gS (l':=[(0,_),(1,_),(2,_),(3,_),(10,_),(11,_),(12,_)]) ?_
 refine z2x (fun m tm σ=>∃ b14:Bool,∃ l15:List Int,∃ z16:Int,q3m p1 p2 p3 p4 n m b14 l15 z16=some r∧tm=fr 60 [(0,.iM q02 p1),(1,.iM q0i p2),(2,.i6 p3),(3,.str p4),(10,.bool b14),(11,.iM (cI .u64) l15),(12,.i6 z16)]∧σ=⟨[],0⟩) (fun tm σ=>∃ b17:Bool,∃ l18:List Int,q6x b17 l18=some r∧tm=fr 60 [(10,.bool b17),(11,.iM (cI .u64) l18)]∧σ=⟨[],0⟩) n ⟨false,x5.Code,0,hF,rfl,rfl⟩ ?_ ?_
 rintro _ _ ⟨b17,l18,hF,rfl,rfl⟩
 unfold q6x at hF
 refine go ?_
 obtain rfl:=sI hF
 exact rt2 rfl rfl rfl rfl rfl
 rintro (_|m1) _ _ ⟨b14,l15,z16,hF,rfl,rfl⟩
 cases hF
 unfold q3m at hF
 refine go ?_
 refine RS.q rfl (q0c rfl rfl rfl (q08 q02 und38)) ?_
 refine go ?_
 refine cF hF (fun h19 hF=>?_) (fun h19 hF=>?_)
 refine go ?_
 refine WPU.block ?_
 obtain ⟨x20,h21,hF⟩:=q00 hF
 obtain ⟨r22,h23,hF⟩:=q00 hF
 refine go ?_
 refine RS.q rfl (q0f rfl rfl (q07 q02 und38 (q03 inf127) q0m h21 rfl)) (RS.q (u:=.agg (q02 x20)) rfl (qav und127 rfl (q03 inf127) rfl rfl) ?_)
 refine go ?_
 refine RS.cl rfl (pC (qi0 n x20 p4 r22 h23) _) fn117 ?_
 obtain ⟨b31,h32,hF⟩:=q00 hF
 refine gn ?_
 refine z2y (fun tm σ=>tm=fr 60 [(0,.iM q02 p1),(1,.iM q0i p2),(2,.i6 p3),(3,.str p4),(10,.bool b14),(11,.iM (cI .u64) l15),(12,.i6 z16),(13,.str r22.1),(48,.bool b31)]∧σ=⟨[],0⟩) ?_ ?_
 rintro _ _ ⟨rfl,rfl⟩
 refine go ?_
 refine cF hF (fun h33 hF=>?_) (fun h33 hF=>?_)
 refine go ?_
 exact lC ⟨b14,l15,(IntKind.i64.wrap (z16+1)),hF,rfl,rfl⟩
 obtain ⟨r34,h35,hF⟩:=q00 hF
 obtain ⟨x36,h37,hF⟩:=q00 hF
 obtain ⟨r38,h39,hF⟩:=q00 hF
 refine go ?_
 refine RS.cl rfl (pC (qc1 n p2 r22.1 r34 h35) _) fn102 (RS.q rfl (q0f rfl rfl (q07 q0i und99 (q03 inf105) q1q h37 rfl)) (RS.q rfl (q1d und105 rfl (q03 inf103) rfl rfl) (RS.q rfl (q0b und103 rfl rfl rfl) (RS.cl rfl (pC (qm1 n l15 x36.Code r38 h39) _) fn118 ?_))))
 refine go ?_
 exact lC ⟨true,r38,(IntKind.i64.wrap (z16+1)),hF,rfl,rfl⟩
 rcases gB h32 with ⟨h24,h32⟩ | ⟨h24,h32⟩
 exact gy h32
 obtain ⟨x25,h26,h32⟩:=q00 h32
 obtain ⟨r27,h28,h32⟩:=q00 h32
 obtain ⟨r29,h30,h32⟩:=q00 h32
 obtain rfl:=sI h32
 refine go ?_
 refine RS.w rfl (q0f rfl rfl (q07 q02 und38 (q03 inf127) q0m h26 rfl)) (RS.w rfl (q1d und127 rfl (q03 inf9) rfl rfl) (RS.w rfl (q0b und9 rfl rfl rfl) (RS.cl rfl (pC (qc1 n p2 x25.Name r27 h28) _) fn102 ?_)))
 refine go ?_
 refine RS.cl rfl (pC (q4a n p2 r27 p3 r29 h30) _) fn100 ?_
 refine go ?_
 exact xC ⟨rfl,rfl⟩
 refine go ?_
 exact xC ⟨b14,l15,hF,rfl,rfl⟩
def qbw (z20:Int) (rc2:Int→Option (Int))  : Option (Int) :=
 rc2 (IntKind.i64.wrap (z20+1))
def q89 (p1:List q05) (n:Nat) (r2:(List q11)×Int) (r5:(List (List UInt8))) (z20:Int) (rc2:Int→Option (Int)):Nat→Int→Option (Int)
 | 0,_=>none
 | m3+1,z27 =>
  cond (decide (z27<(r5.length:Int)))
   (q04 (q0w r5 z27) fun x29 =>
   q04 (q6w n p1 r2.1 z20 x29) fun r31 =>
   q04 (cond r31.2
    (some ((r31.1.length:Int) == 0))
    (some false)) fun b34 =>
   cond b34
    (some 11)
    ((q89 p1 n r2 r5 z20 rc2 m3) (IntKind.i64.wrap (z27+1))))
   (qbw z20 rc2)
def qbv   : Option (Int) :=
 some 0
def q4j (p1:List q05) (n:Nat) (r2:(List q11)×Int) (r5:(List (List UInt8))):Nat→Int→Option (Int)
 | 0,_=>none
 | m2+1,z20 =>
  cond (decide (z20<(r2.1.length:Int)))
   (q89 p1 n r2 r5 z20 (q4j p1 n r2 r5 m2) n 0)
   (qbv)
def qbu (p1:List q05) (n:Nat) (r2:(List q11)×Int) (r5:(List (List UInt8)))  : Option (Int) :=
 q4j p1 n r2 r5 n 0
def q88 (p1:List q05) (n:Nat) (r2:(List q11)×Int) (r5:(List (List UInt8))):Nat→Int→Option (Int)
 | 0,_=>none
 | m1+1,z15 =>
  cond (decide (z15<(r5.length:Int)))
   (q04 (q0w r5 z15) fun x38 =>
   q04 (qdm n p1 x38) fun r40 =>
   cond (!r40.2)
    (some 10)
    ((q88 p1 n r2 r5 m1) (IntKind.i64.wrap (z15+1))))
   (qbu p1 n r2 r5)
def qdk (n:Nat) (p1:List q05):Option (Int) :=
 q04 (q7h n p1) fun r2 =>
 cond (r2.2 != 0)
  (some r2.2)
  (q04 (qag n p1) fun r5 =>
  cond (decide ((r5.length:Int) > 64))
   (some 7)
   (q04 (q6v n p1) fun r8 =>
   cond (r8 != 0)
    (some r8)
    (q88 p1 n r2 r5 n 0)))
theorem qhy (n:Nat) (p1:List q05) (r:Int) (hF:qdk n p1=some r):EvU Tryz.prog 90 [.isl false (List.map q02 p1)] ⟨[],0⟩ (fun u _=>u = .int .i64 r∧Bel 0 u):=by
 unfold qdk at hF
 refine bg1 78 fn90 ?_
 obtain ⟨r2,h3,hF⟩:=q00 hF
 refine go ?_
 refine RS.cl rfl (pC (q9k n p1 r2 h3) _) fn72 ?_
 refine go ?_
 refine cF hF (fun h4 hF=>?_) (fun h4 hF=>?_)
 exact gx hF
 obtain ⟨r5,h6,hF⟩:=q00 hF
 refine go ?_
 refine RS.cl rfl (pC (qdl n p1 r5 h6) _) fn91 ?_
 refine go ?_
 refine RS.q rfl (q0c rfl rfl rfl (q08 cS und80)) ?_
 refine go ?_
 refine cF hF (fun h7 hF=>?_) (fun h7 hF=>?_)
 exact gx hF
 obtain ⟨r8,h9,hF⟩:=q00 hF
 refine go ?_
 refine RS.cl rfl (pC (qfm n p1 r8 h9) _) fn115 ?_
 refine go ?_
 refine cF hF (fun h10 hF=>?_) (fun h10 hF=>?_)
 exact gx hF
 refine go ?_
 refine gS (l':=[(0,_),(3,_),(5,_),(7,_)]) ?_
 refine z2x (fun m tm σ=>∃ z15:Int,q88 p1 n r2 r5 m z15=some r∧tm=fr 78 [(0,.iM q02 p1),(3,.iM q0i r2.1),(5,.iM cS r5),(7,.i6 z15)]∧σ=⟨[],0⟩) (fun tm σ=>qbu p1 n r2 r5=some r∧tm=fr 78 [(0,.iM q02 p1),(3,.iM q0i r2.1),(5,.iM cS r5)]∧σ=⟨[],0⟩) n ⟨0,hF,rfl,rfl⟩ ?_ ?_
 rintro _ _ ⟨hF,rfl,rfl⟩
 unfold qbu at hF
 refine go ?_
 refine gS (l':=[(0,_),(3,_),(5,_),(10,_)]) ?_
 refine z2x (fun m tm σ=>∃ z20:Int,q4j p1 n r2 r5 m z20=some r∧tm=fr 78 [(0,.iM q02 p1),(3,.iM q0i r2.1),(5,.iM cS r5),(10,.i6 z20)]∧σ=⟨[],0⟩) (fun tm σ=>qbv=some r∧tm=fr 78 []∧σ=⟨[],0⟩) n ⟨0,hF,rfl,rfl⟩ ?_ ?_
 rintro _ _ ⟨hF,rfl,rfl⟩
 unfold qbv at hF
 exact gx hF
 rintro (_|m2) _ _ ⟨z20,hF,rfl,rfl⟩
 cases hF
 unfold q4j at hF
 refine go ?_
 refine RS.q rfl (q0c rfl rfl rfl (q08 q0i und99)) ?_
 refine go ?_
 refine cF hF (fun h21 hF=>?_) (fun h21 hF=>?_)
 refine go ?_
 refine WPU.block ?_
 refine go ?_
 refine gS (l':=[(0,_),(3,_),(5,_),(10,_),(11,_)]) ?_
 refine z2x (fun m tm σ=>∃ z27:Int,q89 p1 n r2 r5 z20 (q4j p1 n r2 r5 m2) m z27=some r∧tm=fr 78 [(0,.iM q02 p1),(3,.iM q0i r2.1),(5,.iM cS r5),(10,.i6 z20),(11,.i6 z27)]∧σ=⟨[],0⟩) (fun tm σ=>qbw z20 (q4j p1 n r2 r5 m2)=some r∧tm=fr 78 [(0,.iM q02 p1),(3,.iM q0i r2.1),(5,.iM cS r5),(10,.i6 z20)]∧σ=⟨[],0⟩) n ⟨0,hF,rfl,rfl⟩ ?_ ?_
 rintro _ _ ⟨hF,rfl,rfl⟩
 unfold qbw at hF
 refine go ?_
 exact lC ⟨_,hF,rfl,rfl⟩
 rintro (_|m3) _ _ ⟨z27,hF,rfl,rfl⟩
 cases hF
 unfold q89 at hF
 refine go ?_
 refine RS.q rfl (q0c rfl rfl rfl (q08 cS und80)) ?_
 refine go ?_
 refine cF hF (fun h28 hF=>?_) (fun h28 hF=>?_)
 refine go ?_
 refine WPU.block ?_
 obtain ⟨x29,h30,hF⟩:=q00 hF
 obtain ⟨r31,h32,hF⟩:=q00 hF
 refine go ?_
 refine RS.q rfl (q0f rfl rfl (q07 cS und80 (q03 inf9) q1m h30 rfl)) (RS.q rfl (q0b und9 rfl rfl rfl) (RS.cl rfl (pC (qcb n p1 r2.1 z20 x29 r31 h32) _) fn92 ?_))
 obtain ⟨b34,h35,hF⟩:=q00 hF
 refine gn ?_
 refine z2y (fun tm σ=>tm=fr 78 [(0,.iM q02 p1),(3,.iM q0i r2.1),(5,.iM cS r5),(10,.i6 z20),(11,.i6 z27),(77,.bool b34)]∧σ=⟨[],0⟩) ?_ ?_
 rintro _ _ ⟨rfl,rfl⟩
 refine go ?_
 refine cF hF (fun h36 hF=>?_) (fun h36 hF=>?_)
 exact gx hF
 refine go ?_
 exact lC ⟨_,hF,rfl,rfl⟩
 rcases gB h35 with ⟨h33,h35⟩ | ⟨h33,h35⟩
 obtain rfl:=sI h35
 refine go ?_
 refine RS.w rfl (q0c rfl rfl rfl (q08 (cI .u64) und103)) ?_
 refine go ?_
 exact xC ⟨rfl,rfl⟩
 exact gy h35
 refine go ?_
 exact xC ⟨hF,rfl,rfl⟩
 refine go ?_
 exact xC ⟨hF,rfl,rfl⟩
 rintro (_|m1) _ _ ⟨z15,hF,rfl,rfl⟩
 cases hF
 unfold q88 at hF
 refine go ?_
 refine RS.q rfl (q0c rfl rfl rfl (q08 cS und80)) ?_
 refine go ?_
 refine cF hF (fun h37 hF=>?_) (fun h37 hF=>?_)
 refine go ?_
 refine WPU.block ?_
 obtain ⟨x38,h39,hF⟩:=q00 hF
 obtain ⟨r40,h41,hF⟩:=q00 hF
 refine go ?_
 refine RS.q rfl (q0f rfl rfl (q07 cS und80 (q03 inf9) q1m h39 rfl)) (RS.q rfl (q0b und9 rfl rfl rfl) (RS.cl rfl (pC (qhz n p1 x38 r40 h41) _) fn101 ?_))
 refine go ?_
 refine cF hF (fun h42 hF=>?_) (fun h42 hF=>?_)
 exact gx hF
 refine go ?_
 exact lC ⟨_,hF,rfl,rfl⟩
 refine go ?_
 exact xC ⟨hF,rfl,rfl⟩
def qdf   : Option (Int) :=
 some (-1)
def q9l (p1:List q11) (n:Nat) (r3:(List Int)):Nat→Int→Option (Int)
 | 0,_=>none
 | m1+1,z8 =>
  cond (decide (z8<(p1.length:Int)))
   (q04 (q0w p1 z8) fun x10 =>
   q04 (qfc n x10.Code r3) fun r12 =>
   cond r12
    (some z8)
    ((q9l p1 n r3 m1) (IntKind.i64.wrap (z8+1))))
   (qdf)
def qj1 (n:Nat) (p1:List q11) (p2:List Int):Option (Int) :=
 q04 (q68 n p2) fun r3 =>
 q9l p1 n r3 n 0
theorem qql (n:Nat) (p1:List q11) (p2:List Int) (r:Int) (hF:qj1 n p1 p2=some r):EvU Tryz.prog 93 [.isl false (List.map q0i p1),.isl false (List.map (cI .u64) p2)] ⟨[],0⟩ (fun u _=>u = .int .i64 r∧Bel 0 u):=by
 unfold qj1 at hF
 refine bg2 23 fn93 ?_
 obtain ⟨r3,h4,hF⟩:=q00 hF
 refine go ?_
 refine RS.cl rfl (pC (q7u n p2 r3 h4) _) fn119 ?_
 refine go ?_
 refine gS (l':=[(0,_),(5,_),(6,_)]) ?_
 refine z2x (fun m tm σ=>∃ z8:Int,q9l p1 n r3 m z8=some r∧tm=fr 23 [(0,.iM q0i p1),(5,.iM (cI .u64) r3),(6,.i6 z8)]∧σ=⟨[],0⟩) (fun tm σ=>qdf=some r∧tm=fr 23 []∧σ=⟨[],0⟩) n ⟨0,hF,rfl,rfl⟩ ?_ ?_
 rintro _ _ ⟨hF,rfl,rfl⟩
 unfold qdf at hF
 exact gx hF
 rintro (_|m1) _ _ ⟨z8,hF,rfl,rfl⟩
 cases hF
 unfold q9l at hF
 refine go ?_
 refine RS.q rfl (q0c rfl rfl rfl (q08 q0i und99)) ?_
 refine go ?_
 refine cF hF (fun h9 hF=>?_) (fun h9 hF=>?_)
 refine go ?_
 refine WPU.block ?_
 obtain ⟨x10,h11,hF⟩:=q00 hF
 obtain ⟨r12,h13,hF⟩:=q00 hF
 refine go ?_
 refine RS.q rfl (q0f rfl rfl (q07 q0i und99 (q03 inf105) q1q h11 rfl)) (RS.q rfl (q1d und105 rfl (q03 inf103) rfl rfl) (RS.q rfl (q0b und103 rfl rfl rfl) ?_))
 refine go ?_
 refine RS.cl rfl (pC (qjq n x10.Code r3 r12 h13) _) fn120 ?_
 refine go ?_
 refine cF hF (fun h14 hF=>?_) (fun h14 hF=>?_)
 exact gx hF
 refine go ?_
 exact lC ⟨_,hF,rfl,rfl⟩
 refine go ?_
 exact xC ⟨hF,rfl,rfl⟩
def q6u (z30:Int) (rc2:Int→(List q19)→Option ((List (List q19))×Int)) (l42:List q19):Option ((List (List q19))×Int) :=
 rc2 (IntKind.i64.wrap (z30+1)) l42
def qaf (z15:Int) (l16:List (List q19)) (rc1:Int→(List (List q19))→Option ((List (List q19))×Int)) (l33:List q19):Option ((List (List q19))×Int) :=
 q1b ((l16.length+1)*24≤140737488355328∧l16.length+1≤140737488355328) (
 rc1 (IntKind.i64.wrap (z15+1)) (l16++[l33]))
def q41 (p1:List q05) (n:Nat) (r5:(List q11)×Int) (r7:(List (List UInt8))) (z15:Int) (l16:List (List q19)) (rc1:Int→(List (List q19))→Option ((List (List q19))×Int)):Nat→Int→(List q19)→Option ((List (List q19))×Int)
 | 0,_,_=>none
 | m2+1,z30,l31 =>
  cond (decide (z30<(r7.length:Int)))
   (q04 (q0w r7 z30) fun x37 =>
   q04 (q6w n p1 r5.1 z15 x37) fun r39 =>
   cond r39.2
    (q04 (qj1 n r5.1 r39.1) fun r44 =>
    q1b ((l31.length+1)*16≤140737488355328∧l31.length+1≤140737488355328) (
    q6u z30 (q41 p1 n r5 r7 z15 l16 rc1 m2) (l31++[(q19.mk z30 r44)])))
    (q6u z30 (q41 p1 n r5 r7 z15 l16 rc1 m2) l31))
   (qaf z15 l16 rc1 l31)
def qae  (l18:List (List q19)):Option ((List (List q19))×Int) :=
 some (l18,0)
def q39 (p1:List q05) (n:Nat) (r5:(List q11)×Int) (r7:(List (List UInt8))):Nat→Int→(List (List q19))→Option ((List (List q19))×Int)
 | 0,_,_=>none
 | m1+1,z15,l16 =>
  cond (decide (z15<(r5.1.length:Int)))
   (q41 p1 n r5 r7 z15 l16 (q39 p1 n r5 r7 m1) n 0 ([]:List q19))
   (qae l16)
def qew (n:Nat) (p1:List q05):Option ((List (List q19))×Int) :=
 q04 (qdk n p1) fun r2 =>
 cond (r2 != 0)
  (some ([],r2))
  (q04 (q7h n p1) fun r5 =>
  q04 (qag n p1) fun r7 =>
  q39 p1 n r5 r7 n 0 ([]:List (List q19)))
end Go.Proofs
end
