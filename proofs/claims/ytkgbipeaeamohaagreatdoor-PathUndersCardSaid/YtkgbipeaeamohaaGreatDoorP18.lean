/-
  Texts of the walk: H4.
-/
import Derived.Test.YtkgbipeaeamohaaGreatDoorP17
set_option linter.unusedSimpArgs false
set_option linter.unusedVariables false
section
namespace Go.Proofs
open Go Go.Rx Go.Vx Tryz
set_option maxRecDepth 20000
set_option maxHeartbeats 4000000
set_option synthInstance.maxSize 4000
set_option synthInstance.maxHeartbeats 200000
theorem q6q (n:Nat) (p1:List q0m) (p2:List q0m) (r:Bool) (hF:q5k n p1 p2=some r):EvU Tryz.prog 17 [.isl false (List.map q0n p1),.isl false (List.map q0n p2)] ⟨[],0⟩ (fun u _=>u = .bool r∧Bel 0 u):=by
 unfold q5k at hF
 refine bg2 43 fn17 ?_
 refine go ?_
 refine RS.q rfl (q0b rfl rfl rfl (q07 q0n und31)) ?_
 refine go ?_
 refine RS.q rfl (q0b rfl rfl rfl (q07 q0n und31)) ?_
 refine go ?_
 refine cF hF (fun h3 hF=>?_) (fun h3 hF=>?_)
 exact gx hF
 refine go ?_
 refine gS (l':=[(0,_),(1,_),(5,_)]) ?_
 refine z1b (fun m tm σ=>∃ z7:Int,q3s p1 p2 n m z7=some r∧tm=fr 43 [(0,.iM q0n p1),(1,.iM q0n p2),(5,.i6 z7)]∧σ=⟨[],0⟩) (fun tm σ=>q5q=some r∧tm=fr 43 []∧σ=⟨[],0⟩) n ⟨0,hF,rfl,rfl⟩ ?_ ?_
 rintro _ _ ⟨hF,rfl,rfl⟩
 unfold q5q at hF
 exact gx hF
 rintro (_|m1) _ _ ⟨z7,hF,rfl,rfl⟩
 cases hF
 unfold q3s at hF
 refine go ?_
 refine RS.q rfl (q0b rfl rfl rfl (q07 q0n und31)) ?_
 refine go ?_
 refine cF hF (fun h8 hF=>?_) (fun h8 hF=>?_)
 refine go ?_
 refine WPU.block ?_
 obtain ⟨b22,h23,hF⟩:=q00 hF
 refine gn ?_
 refine z1c (fun tm σ=>tm=fr 43 [(0,.iM q0n p1),(1,.iM q0n p2),(5,.i6 z7),(42,.bool b22)]∧σ=⟨[],0⟩) ?_ ?_
 rintro _ _ ⟨rfl,rfl⟩
 refine go ?_
 refine cF hF (fun h24 hF=>?_) (fun h24 hF=>?_)
 exact gx hF
 refine go ?_
 exact lC ⟨_,hF,rfl,rfl⟩
 obtain ⟨x9,h10,h23⟩:=q00 h23
 obtain ⟨x11,h12,h23⟩:=q00 h23
 obtain ⟨r13,h14,h23⟩:=q00 h23
 rcases gB h23 with ⟨h15,h23⟩ | ⟨h15,h23⟩
 obtain rfl:=sI h23
 refine z1d Tryz.tb_ok [] (by kernel_rfl) ?_
 repeat refine RD.mv rfl rfl rfl rfl ?_
 refine RD.q rfl (q0h rfl rfl (q09 q0n und31 (q03 inf56) q38 h10 rfl)) (RD.q rfl (q1m und56 rfl (q03 inf33) rfl rfl) (RD.q rfl (q0d und33 rfl rfl rfl) ?_))
 repeat refine RD.mv rfl rfl rfl rfl ?_
 refine RD.q rfl (q0h rfl rfl (q09 q0n und31 (q03 inf56) q38 h12 rfl)) (RD.q rfl (q1m und56 rfl (q03 inf33) rfl rfl) (RD.q rfl (q0d und33 rfl rfl rfl) (RD.fl rfl (pC (qef n x9.A x11.A r13 h14)) fn47 (RD.q rfl (qtp rfl rfl rfl rfl) (RD.mv rfl rfl rfl rfl ?_)))))
 repeat refine RD.no (qrl rfl rfl rfl h15) rfl rfl ?_
 refine RD.q rfl (qet rfl h15 rfl) ?_
 refine RD.done ⟨by kernel_rfl,trivial,?_⟩
 refine go ?_
 exact xC ⟨rfl,rfl⟩
 obtain ⟨x16,h17,h23⟩:=q00 h23
 obtain ⟨x18,h19,h23⟩:=q00 h23
 obtain ⟨r20,h21,h23⟩:=q00 h23
 obtain rfl:=sI h23
 refine z1d Tryz.tb_ok [] (by kernel_rfl) ?_
 repeat refine RD.mv rfl rfl rfl rfl ?_
 refine RD.q rfl (q0h rfl rfl (q09 q0n und31 (q03 inf56) q38 h10 rfl)) (RD.q rfl (q1m und56 rfl (q03 inf33) rfl rfl) (RD.q rfl (q0d und33 rfl rfl rfl) ?_))
 repeat refine RD.mv rfl rfl rfl rfl ?_
 refine RD.q rfl (q0h rfl rfl (q09 q0n und31 (q03 inf56) q38 h12 rfl)) (RD.q rfl (q1m und56 rfl (q03 inf33) rfl rfl) (RD.q rfl (q0d und33 rfl rfl rfl) (RD.fl rfl (pC (qef n x9.A x11.A r13 h14)) fn47 (RD.q rfl (qtp rfl rfl rfl rfl) (RD.mv rfl rfl rfl rfl (RD.w rfl (q1u rfl) (RD.w rfl (q1u rfl) ?_)))))))
 refine RD.w rfl (q0h rfl rfl (q09 q0n und31 (q03 inf56) q38 h17 rfl)) (RD.w rfl (q1m und56 rfl (q03 inf33) rfl rfl) (RD.w rfl (q0d und33 rfl rfl rfl) (RD.w rfl (q1u rfl) (RD.w rfl (q1u rfl) (RD.w rfl (q0h rfl rfl (q09 q0n und31 (q03 inf56) q38 h19 rfl)) (RD.w rfl (q1m und56 rfl (q03 inf33) rfl rfl) (RD.w rfl (q0d und33 rfl rfl rfl) ?_)))))))
 refine RD.fl rfl (pC (qef n x16.B x18.B r20 h21)) fn47 (RD.w rfl (qtp rfl rfl rfl rfl) (RD.q rfl (qes rfl h15 rfl) ?_))
 refine RD.done ⟨by kernel_rfl,trivial,?_⟩
 refine go ?_
 exact xC ⟨rfl,rfl⟩
 refine go ?_
 exact xC ⟨hF,rfl,rfl⟩
def q78 (p1:List Int)  : Option (Bool) :=
 some (decide ((p1.length:Int)≤30))
def q40 (p1:List Int):Nat→Int→Option (Bool)
 | 0,_=>none
 | m1+1,z6 =>
  cond (decide (z6<(p1.length:Int)))
   (q04 (q12 p1 z6) fun x8 =>
   q04 (cond (decide (x8<0))
    (some true)
    (some (decide (x8 ≥ 64)))) fun b11 =>
   cond b11
    (some false)
    ((q40 p1 m1) (IntKind.i64.wrap (z6+1))))
   (q78 p1)
def qc7 (n:Nat) (p1:List Int):Option (Bool) :=
 q40 p1 n 0
theorem qnl (n:Nat) (p1:List Int) (r:Bool) (hF:qc7 n p1=some r):EvU Tryz.prog 20 [.isl false (List.map (cI .i64) p1)] ⟨[],0⟩ (fun u _=>u = .bool r∧Bel 0 u):=by
 unfold qc7 at hF
 refine bg1 21 fn20 ?_
 refine go ?_
 refine RS.q rfl (q0b rfl rfl rfl (q07 (cI .i64) und33)) ?_
 refine go ?_
 refine gS (l':=[(0,_),(5,_),(6,_),(7,_)]) ?_
 refine z1b (fun m tm σ=>∃ z6:Int,q40 p1 m z6=some r∧tm=fr 21 [(0,.iM (cI .i64) p1),(5,.iM (cI .i64) p1),(6,.i6 (p1.length:Int)),(7,.i6 z6)]∧σ=⟨[],0⟩) (fun tm σ=>q78 p1=some r∧tm=fr 21 [(0,.iM (cI .i64) p1)]∧σ=⟨[],0⟩) n ⟨0,hF,rfl,rfl⟩ ?_ ?_
 rintro _ _ ⟨hF,rfl,rfl⟩
 unfold q78 at hF
 refine go ?_
 refine RS.q rfl (q0b rfl rfl rfl (q07 (cI .i64) und33)) ?_
 exact gx hF
 rintro (_|m1) _ _ ⟨z6,hF,rfl,rfl⟩
 cases hF
 unfold q40 at hF
 refine go ?_
 refine cF hF (fun h7 hF=>?_) (fun h7 hF=>?_)
 refine go ?_
 refine WPU.block ?_
 obtain ⟨x8,h9,hF⟩:=q00 hF
 refine go ?_
 refine RS.q rfl (q0h rfl rfl (q09 (cI .i64) und33 (q03 inf3) (q16 .i64) h9 rfl)) (RS.q rfl (q0d und3 rfl rfl rfl) ?_)
 obtain ⟨b11,h12,hF⟩:=q00 hF
 refine gn ?_
 refine z1c (fun tm σ=>tm=fr 21 [(0,.iM (cI .i64) p1),(5,.iM (cI .i64) p1),(6,.i6 (p1.length:Int)),(7,.i6 z6),(16,.bool b11)]∧σ=⟨[],0⟩) ?_ ?_
 rintro _ _ ⟨rfl,rfl⟩
 refine go ?_
 refine cF hF (fun h13 hF=>?_) (fun h13 hF=>?_)
 exact gx hF
 refine go ?_
 exact lC ⟨_,hF,rfl,rfl⟩
 rcases gB h12 with ⟨h10,h12⟩ | ⟨h10,h12⟩
 exact gy h12
 exact gy h12
 refine go ?_
 exact xC ⟨hF,rfl,rfl⟩
def q79   : Option (Bool) :=
 some true
def q41 (p1:GFS):Nat→Int→Option (Bool)
 | 0,_=>none
 | m1+1,z18 =>
  cond (decide (z18<(p1.Nodes.length:Int)))
   (q04 (q12 p1.Nodes z18) fun x20 =>
   q04 (cond (decide (x20.Typex ≥ 256))
    (some true)
    (cond (decide ((x20.Arcs.length:Int) > 0))
     (q04 (q12 x20.Arcs (IntKind.i64.wrap ((x20.Arcs.length:Int) - 1))) fun x24 =>
     some (decide (x24.Feat ≥ 64)))
     (some false))) fun b26 =>
   cond b26
    (some false)
    ((q41 p1 m1) (IntKind.i64.wrap (z18+1))))
   (q79)
def q9n (n:Nat) (p1:GFS):Option (Bool) :=
 q04 (qa4 n p1) fun r2 =>
 cond (!r2)
  (some false)
  (q04 (qa3 n p1) fun r5 =>
  q04 (cond (r5.2 != 0)
   (some true)
   (q04 (q5p n p1 (GFS.mk r5.1.Nodes)) fun r8 =>
   some (!r8))) fun b10 =>
  cond b10
   (some false)
   (q41 p1 n 0))
theorem qgy (n:Nat) (p1:GFS) (r:Bool) (hF:q9n n p1=some r):EvU Tryz.prog 12 [.agg [.isl false (List.map q01 p1.Nodes)]] ⟨[],0⟩ (fun u _=>u = .bool r∧Bel 0 u):=by
 unfold q9n at hF
 refine bg1 52 fn12 ?_
 refine go ?_
 refine RS.q (u:=.ptr 0 0 0) (σ':=⟨[(0,.row [.iM q01 p1.Nodes] 24)],1⟩) rfl (q3i rfl rfl rfl) ?_
 obtain ⟨r2,h3,hF⟩:=q00 hF
 refine go ?_
 refine RS.q (u:=.agg [.iM q01 p1.Nodes]) rfl (q14 und24 rfl (q03 inf24) rfl rfl rfl) (RS.cl rfl (pC (qo6 n p1 r2 h3) _) fn41 ?_)
 refine go ?_
 refine cF hF (fun h4 hF=>?_) (fun h4 hF=>?_)
 exact gx hF
 obtain ⟨r5,h6,hF⟩:=q00 hF
 refine go ?_
 refine RS.q (u:=.agg [.iM q01 p1.Nodes]) rfl (q14 und24 rfl (q03 inf24) rfl rfl rfl) (RS.cl rfl (pC (qo5 n p1 r5 h6) _) fn42 ?_)
 refine go ?_
 refine RS.q (u:=.ptr 1 0 0) (σ':=⟨[(1,.row [.nils] 24),(0,.row [.iM q01 p1.Nodes] 24)],2⟩) rfl (q1d inf24 rfl rfl) ?_
 refine z1f (u:=.junk) (σ':=⟨[(1,.row [.iM q01 r5.1.Nodes] 24),(0,.row [.iM q01 p1.Nodes] 24)],2⟩) rfl (q0p (q03 inf24) rfl rfl rfl rfl rfl rfl rfl rfl) rfl ?_
 obtain ⟨b10,h11,hF⟩:=q00 hF
 refine gn ?_
 refine z1c (fun tm σ=>tm=fr 52 [(1,.ptr 0 0 0),(22,.bool b10)]∧σ=⟨[(1,.row [.iM q01 r5.1.Nodes] 24),(0,.row [.iM q01 p1.Nodes] 24)],2⟩) ?_ ?_
 rintro _ _ ⟨rfl,rfl⟩
 refine go ?_
 refine cF hF (fun h12 hF=>?_) (fun h12 hF=>?_)
 exact gx hF
 refine go ?_
 refine RS.q rfl (q0s und24 rfl (q03 inf22) rfl rfl rfl) (RS.q rfl (q0l und22 rfl rfl rfl rfl) (RS.q rfl (q0b rfl rfl rfl (q07 q01 und22)) ?_))
 refine go ?_
 refine gS (l':=[(24,_),(25,_),(26,_)]) ?_
 refine z1b (fun m tm σ=>∃ z18:Int,q41 p1 m z18=some r∧tm=fr 52 [(24,.iM q01 p1.Nodes),(25,.i6 (p1.Nodes.length:Int)),(26,.i6 z18)]∧σ=⟨[(1,.row [.iM q01 r5.1.Nodes] 24),(0,.row [.iM q01 p1.Nodes] 24)],2⟩) (fun tm σ=>q79=some r∧tm=fr 52 []∧σ=⟨[(1,.row [.iM q01 r5.1.Nodes] 24),(0,.row [.iM q01 p1.Nodes] 24)],2⟩) n ⟨0,hF,rfl,rfl⟩ ?_ ?_
 rintro _ _ ⟨hF,rfl,rfl⟩
 unfold q79 at hF
 exact gx hF
 rintro (_|m1) _ _ ⟨z18,hF,rfl,rfl⟩
 cases hF
 unfold q41 at hF
 refine go ?_
 refine cF hF (fun h19 hF=>?_) (fun h19 hF=>?_)
 refine go ?_
 refine WPU.block ?_
 obtain ⟨x20,h21,hF⟩:=q00 hF
 refine go ?_
 refine RS.q rfl (q0h rfl rfl (q09 q01 und22 (q03 inf54) q1g h21 rfl)) (RS.q (u:=.agg (q01 x20)) rfl (qag und54 rfl (q03 inf54) rfl rfl) (RS.q (u:=.ptr 2 0 0) (σ':=⟨[(2,.row [.i6 0,.nils] 54),(1,.row [.iM q01 r5.1.Nodes] 24),(0,.row [.iM q01 p1.Nodes] 24)],3⟩) rfl (q1d inf54 rfl rfl) ?_))
 refine z1f (u:=.junk) (σ':=⟨[(2,.row (q01 x20) 54),(1,.row [.iM q01 r5.1.Nodes] 24),(0,.row [.iM q01 p1.Nodes] 24)],3⟩) rfl (q0p (q03 inf54) rfl rfl rfl rfl rfl rfl rfl rfl) rfl ?_
 obtain ⟨b26,h27,hF⟩:=q00 hF
 refine gn ?_
 refine z1c (fun tm σ=>tm=fr 52 [(24,.iM q01 p1.Nodes),(25,.i6 (p1.Nodes.length:Int)),(26,.i6 z18),(50,.bool b26)]∧σ=⟨[(2,.row (q01 x20) 54),(1,.row [.iM q01 r5.1.Nodes] 24),(0,.row [.iM q01 p1.Nodes] 24)],3⟩) ?_ ?_
 rintro _ _ ⟨rfl,rfl⟩
 refine go ?_
 refine cF hF (fun h28 hF=>?_) (fun h28 hF=>?_)
 exact gx hF
 refine go ?_
 exact lC ⟨_,hF,rfl,rfl⟩
 rcases gB h27 with ⟨h22,h27⟩ | ⟨h22,h27⟩
 obtain rfl:=sI h27
 refine go ?_
 refine RS.q rfl (q0s und54 rfl (q03 inf3) rfl rfl rfl) (RS.q rfl (q0l und3 rfl rfl rfl rfl) ?_)
 refine go ?_
 repeat refine RS.no (qlq rfl rfl rfl) rfl rfl ?_
 refine go ?_
 exact xC ⟨rfl,rfl⟩
 rcases gB h27 with ⟨h23,h27⟩ | ⟨h23,h27⟩
 obtain ⟨x24,h25,h27⟩:=q00 h27
 obtain rfl:=sI h27
 refine go ?_
 refine RS.q rfl (q0s und54 rfl (q03 inf3) rfl rfl rfl) (RS.q rfl (q0l und3 rfl rfl rfl rfl) ?_)
 refine go ?_
 refine RS.w rfl (q0s und54 rfl (q03 inf52) rfl rfl rfl) (RS.w rfl (q0l und52 rfl rfl rfl rfl) (RS.w rfl (q0b rfl rfl rfl (q07 q0c und52)) ?_))
 refine go ?_
 refine RS.w rfl (q0s und54 rfl (q03 inf52) rfl rfl rfl) (RS.w rfl (q0l und52 rfl rfl rfl rfl) (RS.w rfl (q0s und54 rfl (q03 inf52) rfl rfl rfl) (RS.w rfl (q0l und52 rfl rfl rfl rfl) (RS.w rfl (q0b rfl rfl rfl (q07 q0c und52)) ?_))))
 refine go ?_
 refine RS.w rfl (q0h rfl rfl (q09 q0c und52 (q03 inf66) q0o h25 rfl)) (RS.w rfl (q1m und66 rfl (q03 inf3) rfl rfl) (RS.w rfl (q0d und3 rfl rfl rfl) ?_))
 refine go ?_
 exact xC ⟨rfl,rfl⟩
 obtain rfl:=sI h27
 refine go ?_
 refine RS.q rfl (q0s und54 rfl (q03 inf3) rfl rfl rfl) (RS.q rfl (q0l und3 rfl rfl rfl rfl) ?_)
 refine go ?_
 refine RS.w rfl (q0s und54 rfl (q03 inf52) rfl rfl rfl) (RS.w rfl (q0l und52 rfl rfl rfl rfl) (RS.w rfl (q0b rfl rfl rfl (q07 q0c und52)) ?_))
 refine go ?_
 exact xC ⟨rfl,rfl⟩
 refine go ?_
 exact xC ⟨hF,rfl,rfl⟩
 rcases gB h11 with ⟨h7,h11⟩ | ⟨h7,h11⟩
 exact gy h11
 obtain ⟨r8,h9,h11⟩:=q00 h11
 obtain rfl:=sI h11
 refine go ?_
 refine RS.w (u:=.agg [.iM q01 p1.Nodes]) rfl (q14 und24 rfl (q03 inf24) rfl rfl rfl) (RS.w (u:=.agg [.iM q01 r5.1.Nodes]) rfl (q14 und24 rfl (q03 inf24) rfl rfl rfl) (RS.cl rfl (pC (q2n n p1 (GFS.mk r5.1.Nodes) r8 h9) _) fn21 ?_))
 refine go ?_
 exact xC ⟨rfl,rfl⟩
def q6z   : Option (Bool) :=
 some true
def q4u (p1:List Int) (p2:List Int):Nat→Int→Option (Bool)
 | 0,_=>none
 | m1+1,z7 =>
  cond (decide (z7<(p1.length:Int)))
   (q04 (q12 p1 z7) fun x9 =>
   q04 (q12 p2 z7) fun x11 =>
   cond (x9 != x11)
    (some false)
    ((q4u p1 p2 m1) (IntKind.i64.wrap (z7+1))))
   (q6z)
def q7f (n:Nat) (p1:List Int) (p2:List Int):Option (Bool) :=
 cond ((p1.length:Int) != (p2.length:Int))
  (some false)
  (q4u p1 p2 n 0)
theorem q3w (n:Nat) (p1:List Int) (p2:List Int) (r:Bool) (hF:q7f n p1 p2=some r):EvU Tryz.prog 28 [.isl false (List.map (cI .i64) p1),.isl false (List.map (cI .i64) p2)] ⟨[],0⟩ (fun u _=>u = .bool r∧Bel 0 u):=by
 unfold q7f at hF
 refine bg2 26 fn28 ?_
 refine go ?_
 refine RS.q rfl (q0b rfl rfl rfl (q07 (cI .i64) und33)) ?_
 refine go ?_
 refine RS.q rfl (q0b rfl rfl rfl (q07 (cI .i64) und33)) ?_
 refine go ?_
 refine cF hF (fun h3 hF=>?_) (fun h3 hF=>?_)
 exact gx hF
 refine go ?_
 refine gS (l':=[(0,_),(1,_),(5,_)]) ?_
 refine z1b (fun m tm σ=>∃ z7:Int,q4u p1 p2 m z7=some r∧tm=fr 26 [(0,.iM (cI .i64) p1),(1,.iM (cI .i64) p2),(5,.i6 z7)]∧σ=⟨[],0⟩) (fun tm σ=>q6z=some r∧tm=fr 26 []∧σ=⟨[],0⟩) n ⟨0,hF,rfl,rfl⟩ ?_ ?_
 rintro _ _ ⟨hF,rfl,rfl⟩
 unfold q6z at hF
 exact gx hF
 rintro (_|m1) _ _ ⟨z7,hF,rfl,rfl⟩
 cases hF
 unfold q4u at hF
 refine go ?_
 refine RS.q rfl (q0b rfl rfl rfl (q07 (cI .i64) und33)) ?_
 refine go ?_
 refine cF hF (fun h8 hF=>?_) (fun h8 hF=>?_)
 refine go ?_
 refine WPU.block ?_
 obtain ⟨x9,h10,hF⟩:=q00 hF
 obtain ⟨x11,h12,hF⟩:=q00 hF
 refine go ?_
 refine z1d Tryz.tb_ok [] (by kernel_rfl) ?_
 repeat refine RD.mv rfl rfl rfl rfl ?_
 refine RD.q rfl (q0h rfl rfl (q09 (cI .i64) und33 (q03 inf3) (q16 .i64) h10 rfl)) (RD.q rfl (q0d und3 rfl rfl rfl) ?_)
 repeat refine RD.mv rfl rfl rfl rfl ?_
 refine RD.q rfl (q0h rfl rfl (q09 (cI .i64) und33 (q03 inf3) (q16 .i64) h12 rfl)) (RD.q rfl (q0d und3 rfl rfl rfl) (RD.q rfl (q2i rfl rfl (qpb _ _ _) rfl) ?_))
 refine RD.done ⟨by kernel_rfl,trivial,?_⟩
 refine go ?_
 refine cF hF (fun h13 hF=>?_) (fun h13 hF=>?_)
 exact gx hF
 refine go ?_
 exact lC ⟨_,hF,rfl,rfl⟩
 refine go ?_
 exact xC ⟨hF,rfl,rfl⟩
def q6a   : Option (Bool) :=
 some true
def q4h (p1:List (List Int)) (p2:List (List Int)) (n:Nat):Nat→Int→Option (Bool)
 | 0,_=>none
 | m1+1,z7 =>
  cond (decide (z7<(p1.length:Int)))
   (q04 (q12 p1 z7) fun x9 =>
   q04 (q12 p2 z7) fun x11 =>
   q04 (q7f n x9 x11) fun r13 =>
   cond (!r13)
    (some false)
    ((q4h p1 p2 n m1) (IntKind.i64.wrap (z7+1))))
   (q6a)
def q9q (n:Nat) (p1:List (List Int)) (p2:List (List Int)):Option (Bool) :=
 cond ((p1.length:Int) != (p2.length:Int))
  (some false)
  (q4h p1 p2 n n 0)
theorem q70 (n:Nat) (p1:List (List Int)) (p2:List (List Int)) (r:Bool) (hF:q9q n p1 p2=some r):EvU Tryz.prog 14 [.isl false (List.map (cL (cI .i64)) p1),.isl false (List.map (cL (cI .i64)) p2)] ⟨[],0⟩ (fun u _=>u = .bool r∧Bel 0 u):=by
 unfold q9q at hF
 refine bg2 27 fn14 ?_
 refine go ?_
 refine RS.q rfl (q0b rfl rfl rfl (q07 (cL (cI .i64)) und28)) ?_
 refine go ?_
 refine RS.q rfl (q0b rfl rfl rfl (q07 (cL (cI .i64)) und28)) ?_
 refine go ?_
 refine cF hF (fun h3 hF=>?_) (fun h3 hF=>?_)
 exact gx hF
 refine go ?_
 refine gS (l':=[(0,_),(1,_),(5,_)]) ?_
 refine z1b (fun m tm σ=>∃ z7:Int,q4h p1 p2 n m z7=some r∧tm=fr 27 [(0,.iM (cL (cI .i64)) p1),(1,.iM (cL (cI .i64)) p2),(5,.i6 z7)]∧σ=⟨[],0⟩) (fun tm σ=>q6a=some r∧tm=fr 27 []∧σ=⟨[],0⟩) n ⟨0,hF,rfl,rfl⟩ ?_ ?_
 rintro _ _ ⟨hF,rfl,rfl⟩
 unfold q6a at hF
 exact gx hF
 rintro (_|m1) _ _ ⟨z7,hF,rfl,rfl⟩
 cases hF
 unfold q4h at hF
 refine go ?_
 refine RS.q rfl (q0b rfl rfl rfl (q07 (cL (cI .i64)) und28)) ?_
 refine go ?_
 refine cF hF (fun h8 hF=>?_) (fun h8 hF=>?_)
 refine go ?_
 refine WPU.block ?_
 obtain ⟨x9,h10,hF⟩:=q00 hF
 obtain ⟨x11,h12,hF⟩:=q00 hF
 obtain ⟨r13,h14,hF⟩:=q00 hF
 refine go ?_
 refine z1d Tryz.tb_ok [] (by kernel_rfl) ?_
 repeat refine RD.mv rfl rfl rfl rfl ?_
 refine RD.q rfl (q0h rfl rfl (q09 (cL (cI .i64)) und28 (q03 inf33) (q3v (cI .i64)) h10 rfl)) (RD.q rfl (q0d und33 rfl rfl rfl) ?_)
 repeat refine RD.mv rfl rfl rfl rfl ?_
 refine RD.q rfl (q0h rfl rfl (q09 (cL (cI .i64)) und28 (q03 inf33) (q3v (cI .i64)) h12 rfl)) (RD.q rfl (q0d und33 rfl rfl rfl) (RD.fl rfl (pC (q3w n x9 x11 r13 h14)) fn28 (RD.q rfl (qtp rfl rfl rfl rfl) ?_)))
 refine RD.done ⟨by kernel_rfl,trivial,?_⟩
 refine go ?_
 refine cF hF (fun h15 hF=>?_) (fun h15 hF=>?_)
 exact gx hF
 refine go ?_
 exact lC ⟨_,hF,rfl,rfl⟩
 refine go ?_
 exact xC ⟨hF,rfl,rfl⟩
def qbc   : Option (Int) :=
 some 0
def q7q (p1:List q05):Nat→Int→Option (Int)
 | 0,_=>none
 | m1+1,z5 =>
  cond (decide (z5<(p1.length:Int)))
   (q04 (q04 (q12 p1 z5) fun x7 =>
   cond (decide ((x7.Supers.length:Int) > 256))
    (some true)
    (q04 (q12 p1 z5) fun x10 =>
    some (decide ((x10.Feats.length:Int) > 256)))) fun b12 =>
   cond b12
    (some 7)
    ((q7q p1 m1) (IntKind.i64.wrap (z5+1))))
   (qbc)
def qg6 (n:Nat) (p1:List q05):Option (Int) :=
 cond (decide ((p1.length:Int) > 256))
  (some 7)
  (q7q p1 n 0)
theorem qo3 (n:Nat) (p1:List q05) (r:Int) (hF:qg6 n p1=some r):EvU Tryz.prog 121 [.isl false (List.map q02 p1)] ⟨[],0⟩ (fun u _=>u = .int .i64 r∧Bel 0 u):=by
 unfold qg6 at hF
 refine bg1 29 fn121 ?_
 refine go ?_
 refine RS.q rfl (q0b rfl rfl rfl (q07 q02 und38)) ?_
 refine go ?_
 refine cF hF (fun h2 hF=>?_) (fun h2 hF=>?_)
 exact gx hF
 refine go ?_
 refine gS (l':=[(0,_),(3,_)]) ?_
 refine z1b (fun m tm σ=>∃ z5:Int,q7q p1 m z5=some r∧tm=fr 29 [(0,.iM q02 p1),(3,.i6 z5)]∧σ=⟨[],0⟩) (fun tm σ=>qbc=some r∧tm=fr 29 []∧σ=⟨[],0⟩) n ⟨0,hF,rfl,rfl⟩ ?_ ?_
 rintro _ _ ⟨hF,rfl,rfl⟩
 unfold qbc at hF
 exact gx hF
 rintro (_|m1) _ _ ⟨z5,hF,rfl,rfl⟩
 cases hF
 unfold q7q at hF
 refine go ?_
 refine RS.q rfl (q0b rfl rfl rfl (q07 q02 und38)) ?_
 refine go ?_
 refine cF hF (fun h6 hF=>?_) (fun h6 hF=>?_)
 refine go ?_
 refine WPU.block ?_
 obtain ⟨b12,h13,hF⟩:=q00 hF
 refine gn ?_
 refine z1c (fun tm σ=>tm=fr 29 [(0,.iM q02 p1),(3,.i6 z5),(28,.bool b12)]∧σ=⟨[],0⟩) ?_ ?_
 rintro _ _ ⟨rfl,rfl⟩
 refine go ?_
 refine cF hF (fun h14 hF=>?_) (fun h14 hF=>?_)
 exact gx hF
 refine go ?_
 exact lC ⟨_,hF,rfl,rfl⟩
 obtain ⟨x7,h8,h13⟩:=q00 h13
 rcases gB h13 with ⟨h9,h13⟩ | ⟨h9,h13⟩
 obtain rfl:=sI h13
 refine go ?_
 refine RS.q rfl (q0h rfl rfl (q09 q02 und38 (q03 inf127) q0k h8 rfl)) (RS.q rfl (q1m und127 rfl (q03 inf80) rfl rfl) (RS.q rfl (q0d und80 rfl rfl rfl) (RS.q rfl (q0b rfl rfl rfl (q07 cS und80)) ?_)))
 refine go ?_
 exact xC ⟨rfl,rfl⟩
 obtain ⟨x10,h11,h13⟩:=q00 h13
 obtain rfl:=sI h13
 refine go ?_
 refine RS.q rfl (q0h rfl rfl (q09 q02 und38 (q03 inf127) q0k h8 rfl)) (RS.q rfl (q1m und127 rfl (q03 inf80) rfl rfl) (RS.q rfl (q0d und80 rfl rfl rfl) (RS.q rfl (q0b rfl rfl rfl (q07 cS und80)) ?_)))
 refine go ?_
 refine RS.w rfl (q0h rfl rfl (q09 q02 und38 (q03 inf127) q0k h11 rfl)) (RS.w rfl (q1m und127 rfl (q03 inf125) rfl rfl) (RS.w rfl (q0d und125 rfl rfl rfl) (RS.w rfl (q0b rfl rfl rfl (q07 q0f und125)) ?_)))
 refine go ?_
 exact xC ⟨rfl,rfl⟩
 refine go ?_
 exact xC ⟨hF,rfl,rfl⟩
def qig (n:Nat) (p1:List UInt8):Option (Bool) :=
 q04 (qcs n p1 false) fun r2 =>
 some r2
theorem qps (n:Nat) (p1:List UInt8) (r:Bool) (hF:qig n p1=some r):EvU Tryz.prog 147 [.str p1] ⟨[],0⟩ (fun u _=>u = .bool r∧Bel 0 u):=by
 unfold qig at hF
 refine bg1 5 fn147 ?_
 obtain ⟨r2,h3,hF⟩:=q00 hF
 refine go ?_
 refine RS.cl rfl (pC (qh7 n p1 false r2 h3) _) fn81 ?_
 exact gx hF
def qcz   : Option (Int) :=
 some (-1)
def q93 (p1:List q05) (p2:List UInt8):Nat→Int→Option (Int)
 | 0,_=>none
 | m1+1,z6 =>
  cond (decide (z6<(p1.length:Int)))
   (q04 (q12 p1 z6) fun x8 =>
   cond (q1o x8.Name p2)
    (some z6)
    ((q93 p1 p2 m1) (IntKind.i64.wrap (z6+1))))
   (qcz)
def q5x (n:Nat) (p1:List q05) (p2:List UInt8):Option (Int) :=
 q93 p1 p2 n 0
theorem q5y (n:Nat) (p1:List q05) (p2:List UInt8) (r:Int) (hF:q5x n p1 p2=some r):EvU Tryz.prog 148 [.isl false (List.map q02 p1),.str p2] ⟨[],0⟩ (fun u _=>u = .int .i64 r∧Bel 0 u):=by
 unfold q5x at hF
 refine bg2 20 fn148 ?_
 refine go ?_
 refine gS (l':=[(0,_),(1,_),(5,_)]) ?_
 refine z1b (fun m tm σ=>∃ z6:Int,q93 p1 p2 m z6=some r∧tm=fr 20 [(0,.iM q02 p1),(1,.str p2),(5,.i6 z6)]∧σ=⟨[],0⟩) (fun tm σ=>qcz=some r∧tm=fr 20 []∧σ=⟨[],0⟩) n ⟨0,hF,rfl,rfl⟩ ?_ ?_
 rintro _ _ ⟨hF,rfl,rfl⟩
 unfold qcz at hF
 exact gx hF
 rintro (_|m1) _ _ ⟨z6,hF,rfl,rfl⟩
 cases hF
 unfold q93 at hF
 refine go ?_
 refine RS.q rfl (q0b rfl rfl rfl (q07 q02 und38)) ?_
 refine go ?_
 refine cF hF (fun h7 hF=>?_) (fun h7 hF=>?_)
 refine go ?_
 refine WPU.block ?_
 obtain ⟨x8,h9,hF⟩:=q00 hF
 refine go ?_
 refine RS.q rfl (q0h rfl rfl (q09 q02 und38 (q03 inf127) q0k h9 rfl)) (RS.q rfl (q1m und127 rfl (q03 inf9) rfl rfl) (RS.q rfl (q0d und9 rfl rfl rfl) ?_))
 refine go ?_
 refine RS.q (u:=.bool (q1o x8.Name p2)) rfl (q8o rfl rfl rfl rfl) ?_
 refine go ?_
 refine cF hF (fun h10 hF=>?_) (fun h10 hF=>?_)
 exact gx hF
 refine go ?_
 exact lC ⟨_,hF,rfl,rfl⟩
 refine go ?_
 exact xC ⟨hF,rfl,rfl⟩
def qba   : Option (Int) :=
 some 0
def q7o (p1:List q05) (n:Nat):Nat→Int→Option (Int)
 | 0,_=>none
 | m1+1,z4 =>
  cond (decide (z4<(p1.length:Int)))
   (q04 (q12 p1 z4) fun x6 =>
   q04 (qig n x6.Name) fun r8 =>
   cond (!r8)
    (some 1)
    (q04 (q12 p1 z4) fun x11 =>
    q04 (q5x n p1 x11.Name) fun r13 =>
    cond (decide (r13<z4))
     (some 4)
     ((q7o p1 n m1) (IntKind.i64.wrap (z4+1)))))
   (qba)
def qg4 (n:Nat) (p1:List q05):Option (Int) :=
 q7o p1 n n 0
theorem qo1 (n:Nat) (p1:List q05) (r:Int) (hF:qg4 n p1=some r):EvU Tryz.prog 122 [.isl false (List.map q02 p1)] ⟨[],0⟩ (fun u _=>u = .int .i64 r∧Bel 0 u):=by
 unfold qg4 at hF
 refine bg1 26 fn122 ?_
 refine go ?_
 refine gS (l':=[(0,_),(3,_)]) ?_
 refine z1b (fun m tm σ=>∃ z4:Int,q7o p1 n m z4=some r∧tm=fr 26 [(0,.iM q02 p1),(3,.i6 z4)]∧σ=⟨[],0⟩) (fun tm σ=>qba=some r∧tm=fr 26 []∧σ=⟨[],0⟩) n ⟨0,hF,rfl,rfl⟩ ?_ ?_
 rintro _ _ ⟨hF,rfl,rfl⟩
 unfold qba at hF
 exact gx hF
 rintro (_|m1) _ _ ⟨z4,hF,rfl,rfl⟩
 cases hF
 unfold q7o at hF
 refine go ?_
 refine RS.q rfl (q0b rfl rfl rfl (q07 q02 und38)) ?_
 refine go ?_
 refine cF hF (fun h5 hF=>?_) (fun h5 hF=>?_)
 refine go ?_
 refine WPU.block ?_
 obtain ⟨x6,h7,hF⟩:=q00 hF
 obtain ⟨r8,h9,hF⟩:=q00 hF
 refine go ?_
 refine RS.q rfl (q0h rfl rfl (q09 q02 und38 (q03 inf127) q0k h7 rfl)) (RS.q rfl (q1m und127 rfl (q03 inf9) rfl rfl) (RS.q rfl (q0d und9 rfl rfl rfl) (RS.cl rfl (pC (qps n x6.Name r8 h9) _) fn147 ?_)))
 refine go ?_
 refine cF hF (fun h10 hF=>?_) (fun h10 hF=>?_)
 exact gx hF
 obtain ⟨x11,h12,hF⟩:=q00 hF
 obtain ⟨r13,h14,hF⟩:=q00 hF
 refine go ?_
 refine RS.q rfl (q0h rfl rfl (q09 q02 und38 (q03 inf127) q0k h12 rfl)) (RS.q rfl (q1m und127 rfl (q03 inf9) rfl rfl) (RS.q rfl (q0d und9 rfl rfl rfl) (RS.cl rfl (pC (q5y n p1 x11.Name r13 h14) _) fn148 ?_)))
 refine go ?_
 refine cF hF (fun h15 hF=>?_) (fun h15 hF=>?_)
 exact gx hF
 refine go ?_
 exact lC ⟨_,hF,rfl,rfl⟩
 refine go ?_
 exact xC ⟨hF,rfl,rfl⟩
def qb3   : Option (Bool) :=
 some false
def q7j (p1:List (List UInt8)) (p2:List UInt8):Nat→Int→Option (Bool)
 | 0,_=>none
 | m1+1,z6 =>
  cond (decide (z6<(p1.length:Int)))
   (q04 (q12 p1 z6) fun x8 =>
   cond (q1o x8 p2)
    (some true)
    ((q7j p1 p2 m1) (IntKind.i64.wrap (z6+1))))
   (qb3)
def q2u (n:Nat) (p1:List (List UInt8)) (p2:List UInt8):Option (Bool) :=
 q7j p1 p2 n 0
theorem q24 (n:Nat) (p1:List (List UInt8)) (p2:List UInt8) (r:Bool) (hF:q2u n p1 p2=some r):EvU Tryz.prog 126 [.isl false (List.map cS p1),.str p2] ⟨[],0⟩ (fun u _=>u = .bool r∧Bel 0 u):=by
 unfold q2u at hF
 refine bg2 18 fn126 ?_
 refine go ?_
 refine gS (l':=[(0,_),(1,_),(5,_)]) ?_
 refine z1b (fun m tm σ=>∃ z6:Int,q7j p1 p2 m z6=some r∧tm=fr 18 [(0,.iM cS p1),(1,.str p2),(5,.i6 z6)]∧σ=⟨[],0⟩) (fun tm σ=>qb3=some r∧tm=fr 18 []∧σ=⟨[],0⟩) n ⟨0,hF,rfl,rfl⟩ ?_ ?_
 rintro _ _ ⟨hF,rfl,rfl⟩
 unfold qb3 at hF
 exact gx hF
 rintro (_|m1) _ _ ⟨z6,hF,rfl,rfl⟩
 cases hF
 unfold q7j at hF
 refine go ?_
 refine RS.q rfl (q0b rfl rfl rfl (q07 cS und80)) ?_
 refine go ?_
 refine cF hF (fun h7 hF=>?_) (fun h7 hF=>?_)
 refine go ?_
 refine WPU.block ?_
 obtain ⟨x8,h9,hF⟩:=q00 hF
 refine go ?_
 refine RS.q rfl (q0h rfl rfl (q09 cS und80 (q03 inf9) q1k h9 rfl)) (RS.q rfl (q0d und9 rfl rfl rfl) ?_)
 refine go ?_
 refine RS.q (u:=.bool (q1o x8 p2)) rfl (q8o rfl rfl rfl rfl) ?_
 refine go ?_
 refine cF hF (fun h10 hF=>?_) (fun h10 hF=>?_)
 exact gx hF
 refine go ?_
 exact lC ⟨_,hF,rfl,rfl⟩
 refine go ?_
 exact xC ⟨hF,rfl,rfl⟩
def q9u (z4:Int) (rc1:Int→Option (Int))  : Option (Int) :=
 rc1 (IntKind.i64.wrap (z4+1))
def q6d (p1:List q05) (n:Nat) (z4:Int) (rc1:Int→Option (Int)) (x6:q05):Nat→Int→Option (Int)
 | 0,_=>none
 | m2+1,z12 =>
  cond (decide (z12<(x6.Supers.length:Int)))
   (q04 (q12 x6.Supers z12) fun x14 =>
   q04 (q5x n p1 x14) fun r16 =>
   cond (decide (r16<0))
    (some 5)
    (q04 (qz0 x6.Supers 0 z12) fun l19 =>
    q04 (q12 x6.Supers z12) fun x23 =>
    q04 (q2u n l19 x23) fun r25 =>
    cond r25
     (some 4)
     ((q6d p1 n z4 rc1 x6 m2) (IntKind.i64.wrap (z12+1)))))
   (q9u z4 rc1)
def q9t   : Option (Int) :=
 some 0
def q3k (p1:List q05) (n:Nat):Nat→Int→Option (Int)
 | 0,_=>none
 | m1+1,z4 =>
  cond (decide (z4<(p1.length:Int)))
   (q04 (q12 p1 z4) fun x6 =>
   q6d p1 n z4 (q3k p1 n m1) x6 n 0)
   (q9t)
def qe9 (n:Nat) (p1:List q05):Option (Int) :=
 q3k p1 n n 0
theorem qm6 (n:Nat) (p1:List q05) (r:Int) (hF:qe9 n p1=some r):EvU Tryz.prog 123 [.isl false (List.map q02 p1)] ⟨[],0⟩ (fun u _=>u = .int .i64 r∧Bel 0 u):=by
 unfold qe9 at hF
 refine bg1 38 fn123 ?_
 refine go ?_
 refine gS (l':=[(0,_),(3,_)]) ?_
 refine z1b (fun m tm σ=>∃ z4:Int,q3k p1 n m z4=some r∧tm=fr 38 [(0,.iM q02 p1),(3,.i6 z4)]∧σ=⟨[],0⟩) (fun tm σ=>q9t=some r∧tm=fr 38 []∧σ=⟨[],0⟩) n ⟨0,hF,rfl,rfl⟩ ?_ ?_
 rintro _ _ ⟨hF,rfl,rfl⟩
 unfold q9t at hF
 exact gx hF
 rintro (_|m1) _ _ ⟨z4,hF,rfl,rfl⟩
 cases hF
 unfold q3k at hF
 refine go ?_
 refine RS.q rfl (q0b rfl rfl rfl (q07 q02 und38)) ?_
 refine go ?_
 refine cF hF (fun h5 hF=>?_) (fun h5 hF=>?_)
 refine go ?_
 refine WPU.block ?_
 obtain ⟨x6,h7,hF⟩:=q00 hF
 refine go ?_
 refine RS.q rfl (q0h rfl rfl (q09 q02 und38 (q03 inf127) q0k h7 rfl)) (RS.q rfl (q1m und127 rfl (q03 inf80) rfl rfl) (RS.q rfl (q0d und80 rfl rfl rfl) ?_))
 refine go ?_
 refine gS (l':=[(0,_),(3,_),(4,_),(5,_)]) ?_
 refine z1b (fun m tm σ=>∃ z12:Int,q6d p1 n z4 (q3k p1 n m1) x6 m z12=some r∧tm=fr 38 [(0,.iM q02 p1),(3,.i6 z4),(4,.iM cS x6.Supers),(5,.i6 z12)]∧σ=⟨[],0⟩) (fun tm σ=>q9u z4 (q3k p1 n m1)=some r∧tm=fr 38 [(0,.iM q02 p1),(3,.i6 z4)]∧σ=⟨[],0⟩) n ⟨0,hF,rfl,rfl⟩ ?_ ?_
 rintro _ _ ⟨hF,rfl,rfl⟩
 unfold q9u at hF
 refine go ?_
 exact lC ⟨_,hF,rfl,rfl⟩
 rintro (_|m2) _ _ ⟨z12,hF,rfl,rfl⟩
 cases hF
 unfold q6d at hF
 refine go ?_
 refine RS.q rfl (q0b rfl rfl rfl (q07 cS und80)) ?_
 refine go ?_
 refine cF hF (fun h13 hF=>?_) (fun h13 hF=>?_)
 refine go ?_
 refine WPU.block ?_
 obtain ⟨x14,h15,hF⟩:=q00 hF
 obtain ⟨r16,h17,hF⟩:=q00 hF
 refine go ?_
 refine RS.q rfl (q0h rfl rfl (q09 cS und80 (q03 inf9) q1k h15 rfl)) (RS.q rfl (q0d und9 rfl rfl rfl) (RS.cl rfl (pC (q5y n p1 x14 r16 h17) _) fn148 ?_))
 refine go ?_
 refine cF hF (fun h18 hF=>?_) (fun h18 hF=>?_)
 exact gx hF
 obtain ⟨l19,h20,hF⟩:=q00 hF
 obtain ⟨h21,h22⟩:=qur cS .i64 h20
 obtain ⟨x23,h24,hF⟩:=q00 hF
 obtain ⟨r25,h26,hF⟩:=q00 hF
 refine go ?_
 refine z1d Tryz.tb_ok [] (by kernel_rfl) ?_
 repeat refine RD.mv rfl rfl rfl rfl ?_
 refine RD.q (u:=.iM cS l19) rfl (qaj rfl qqe (qz3 rfl) qqe (qsv cS und80 (q03 inf9) q1k h21 h22)) ?_
 repeat refine RD.mv rfl rfl rfl rfl ?_
 refine RD.q rfl (q0h rfl rfl (q09 cS und80 (q03 inf9) q1k h24 rfl)) (RD.q rfl (q0d und9 rfl rfl rfl) (RD.fl rfl (pC (q24 n l19 x23 r25 h26)) fn126 ?_))
 refine RD.done ⟨by kernel_rfl,trivial,?_⟩
 refine go ?_
 refine cF hF (fun h27 hF=>?_) (fun h27 hF=>?_)
 exact gx hF
 refine go ?_
 exact lC ⟨_,hF,rfl,rfl⟩
 refine go ?_
 exact xC ⟨hF,rfl,rfl⟩
 refine go ?_
 exact xC ⟨hF,rfl,rfl⟩
def qbb   : Option (Bool) :=
 some true
def q7p (p1:q05) (p2:List (List UInt8)) (n:Nat):Nat→Int→Option (Bool)
 | 0,_=>none
 | m1+1,z8 =>
  cond (decide (z8<(p1.Supers.length:Int)))
   (q04 (q12 p1.Supers z8) fun x10 =>
   q04 (q2u n p2 x10) fun r12 =>
   cond (!r12)
    (some false)
    ((q7p p1 p2 n m1) (IntKind.i64.wrap (z8+1))))
   (qbb)
def qg5 (n:Nat) (p1:q05) (p2:List (List UInt8)):Option (Bool) :=
 q7p p1 p2 n n 0
theorem qo2 (n:Nat) (p1:q05) (p2:List (List UInt8)) (r:Bool) (hF:qg5 n p1 p2=some r):EvU Tryz.prog 149 [.agg (q02 p1),.isl false (List.map cS p2)] ⟨[],0⟩ (fun u _=>u = .bool r∧Bel 0 u):=by
 unfold qg5 at hF
 refine bg2 21 fn149 ?_
 refine go ?_
 refine RS.q (u:=.ptr 0 0 0) (σ':=⟨[(0,.row (q02 p1) 127)],1⟩) rfl (q3i rfl rfl rfl) ?_
 refine go ?_
 refine gS (l':=[(1,_),(2,_),(5,_)]) ?_
 refine z1b (fun m tm σ=>∃ z8:Int,q7p p1 p2 n m z8=some r∧tm=fr 21 [(1,.iM cS p2),(2,.ptr 0 0 0),(5,.i6 z8)]∧σ=⟨[(0,.row (q02 p1) 127)],1⟩) (fun tm σ=>qbb=some r∧tm=fr 21 []∧σ=⟨[(0,.row (q02 p1) 127)],1⟩) n ⟨0,hF,rfl,rfl⟩ ?_ ?_
 rintro _ _ ⟨hF,rfl,rfl⟩
 unfold qbb at hF
 exact gx hF
 rintro (_|m1) _ _ ⟨z8,hF,rfl,rfl⟩
 cases hF
 unfold q7p at hF
 refine go ?_
 refine RS.q rfl (q0s und127 rfl (q03 inf80) rfl rfl rfl) (RS.q rfl (q0l und80 rfl rfl rfl rfl) (RS.q rfl (q0b rfl rfl rfl (q07 cS und80)) ?_))
 refine go ?_
 refine cF hF (fun h9 hF=>?_) (fun h9 hF=>?_)
 refine go ?_
 refine WPU.block ?_
 obtain ⟨x10,h11,hF⟩:=q00 hF
 obtain ⟨r12,h13,hF⟩:=q00 hF
 refine go ?_
 refine RS.q rfl (q0s und127 rfl (q03 inf80) rfl rfl rfl) (RS.q rfl (q0l und80 rfl rfl rfl rfl) ?_)
 refine go ?_
 refine RS.q rfl (q0h rfl rfl (q09 cS und80 (q03 inf9) q1k h11 rfl)) (RS.q rfl (q0d und9 rfl rfl rfl) (RS.cl rfl (pC (q24 n p2 x10 r12 h13) _) fn126 ?_))
 refine go ?_
 refine cF hF (fun h14 hF=>?_) (fun h14 hF=>?_)
 exact gx hF
 refine go ?_
 exact lC ⟨_,hF,rfl,rfl⟩
 refine go ?_
 exact xC ⟨hF,rfl,rfl⟩
def q6b (rc1:Bool→(List (List UInt8))→Option ((List (List UInt8)))) (b21:Bool) (l24:List (List UInt8)):Option ((List (List UInt8))) :=
 rc1 b21 l24
def q6c (z20:Int) (rc2:Bool→(List UInt8)→Int→Option ((List (List UInt8)))) (s46:List UInt8):Option ((List (List UInt8))) :=
 rc2 true s46 (IntKind.i64.wrap (z20+1))
def q9s (l7:List (List UInt8)) (rc1:Bool→(List (List UInt8))→Option ((List (List UInt8)))) (b21:Bool) (s22:List UInt8):Option ((List (List UInt8))) :=
 cond b21
  (q1e ((l7.length+1)*16≤140737488355328∧l7.length+1≤140737488355328) (
  q6b rc1 b21 (l7++[s22])))
  (q6b rc1 b21 l7)
def q2v (p1:List q05) (n:Nat) (l7:List (List UInt8)) (rc1:Bool→(List (List UInt8))→Option ((List (List UInt8)))):Nat→Bool→(List UInt8)→Int→Option ((List (List UInt8)))
 | 0,_,_,_=>none
 | m2+1,b18,s19,z20 =>
  cond (decide (z20<(p1.length:Int)))
   (q04 (q04 (q12 p1 z20) fun x28 =>
   q04 (q2u n l7 x28.Name) fun r30 =>
   cond r30
    (some true)
    (q04 (q12 p1 z20) fun x33 =>
    q04 (qg5 n x33 l7) fun r35 =>
    some (!r35))) fun b37 =>
   cond b37
    ((q2v p1 n l7 rc1 m2) b18 s19 (IntKind.i64.wrap (z20+1)))
    (q04 (cond (!b18)
     (some true)
     (q04 (q12 p1 z20) fun x41 =>
     some (q5m x41.Name s19))) fun b43 =>
    cond b43
     (q04 (q12 p1 z20) fun x47 =>
     q6c z20 (q2v p1 n l7 rc1 m2) x47.Name)
     (q6c z20 (q2v p1 n l7 rc1 m2) s19)))
   (q9s l7 rc1 b18 s19)
def q9r  (l9:List (List UInt8)):Option ((List (List UInt8))) :=
 some l9
def q2d (p1:List q05) (n:Nat):Nat→Bool→(List (List UInt8))→Option ((List (List UInt8)))
 | 0,_,_=>none
 | m1+1,b6,l7 =>
  cond b6
   (q2v p1 n l7 (q2d p1 n m1) n false [] 0)
   (q9r l7)
def qe8 (n:Nat) (p1:List q05):Option ((List (List UInt8))) :=
 q2d p1 n n true ([]:List (List UInt8))
theorem qm5 (n:Nat) (p1:List q05) (r:(List (List UInt8))) (hF:qe8 n p1=some r):EvU Tryz.prog 124 [.isl false (List.map q02 p1)] ⟨[],0⟩ (fun u _=>u = .isl false (List.map cS r)∧Bel 0 u):=by
 unfold qe8 at hF
 refine bg1 52 fn124 ?_
 refine gr ?_
 refine gr ?_
 refine gr ?_
 refine WPU.ghost (tm':=fr 52 [(0,.iM q02 p1),(3,.vl 0 0 0 (([]:List (List UInt8)).length)),(4,.bool true)]) (σ':=⟨[(0,.vec (List.map cS ([]:List (List UInt8))).flatten 9 1 0)],1⟩) (Gh.trans (z1h 3 9 1 (by decide) NZ rfl rfl) (z1g ⟨rfl,rfl,rfl,trivial⟩ rfl)) NZ ?_
 refine gS (l':=[(0,_),(3,_),(4,_)]) ?_
 refine z1b (fun m tm σ=>∃ b6:Bool,∃ l7:List (List UInt8),∃ t8:Nat,q2d p1 n m b6 l7=some r∧tm=fr 52 [(0,.iM q02 p1),(3,.vl 0 t8 0 l7.length),(4,.bool b6)]∧σ=⟨[(0,.vec (List.map cS l7).flatten 9 1 t8)],1⟩) (fun tm σ=>∃ l9:List (List UInt8),∃ t10:Nat,q9r l9=some r∧tm=fr 52 [(3,.vl 0 t10 0 l9.length)]∧σ=⟨[(0,.vec (List.map cS l9).flatten 9 1 t10)],1⟩) n ⟨true,([]:List (List UInt8)),0,hF,rfl,rfl⟩ ?_ ?_
 rintro _ _ ⟨l9,t10,hF,rfl,rfl⟩
 unfold q9r at hF
 refine go ?_
 obtain rfl:=sI hF
 exact rT (us:=[.vl 0 t10 0 l9.length]) (u:=.iM cS l9) (q2k rfl (q33)) (fR 0 1)
 rintro (_|m1) _ _ ⟨b6,l7,t8,hF,rfl,rfl⟩
 cases hF
 unfold q2d at hF
 refine go ?_
 refine cF hF (fun h11 hF=>?_) (fun h11 hF=>?_)
 refine go ?_
 refine WPU.block ?_
 refine go ?_
 refine gS (l':=[(0,_),(3,_),(4,_),(5,_),(6,_)]) ?_
 refine z1b (fun m tm σ=>∃ b18:Bool,∃ s19:List UInt8,∃ z20:Int,q2v p1 n l7 (q2d p1 n m1) m b18 s19 z20=some r∧tm=fr 52 [(0,.iM q02 p1),(3,.vl 0 t8 0 l7.length),(4,.bool b18),(5,.str s19),(6,.i6 z20)]∧σ=⟨[(0,.vec (List.map cS l7).flatten 9 1 t8)],1⟩) (fun tm σ=>∃ b21:Bool,∃ s22:List UInt8,q9s l7 (q2d p1 n m1) b21 s22=some r∧tm=fr 52 [(0,.iM q02 p1),(3,.vl 0 t8 0 l7.length),(4,.bool b21),(5,.str s22)]∧σ=⟨[(0,.vec (List.map cS l7).flatten 9 1 t8)],1⟩) n ⟨false,[],0,hF,rfl,rfl⟩ ?_ ?_
 rintro _ _ ⟨b21,s22,hF,rfl,rfl⟩
 unfold q9s at hF
 refine gr ?_
 refine z1c (fun tm σ=>∃ l24:List (List UInt8),∃ t25:Nat,q6b (q2d p1 n m1) b21 l24=some r∧tm=fr 52 [(0,.iM q02 p1),(3,.vl 0 t25 0 l24.length),(4,.bool b21)]∧σ=⟨[(0,.vec (List.map cS l24).flatten 9 1 t25)],1⟩) ?_ ?_
 rintro _ _ ⟨l24,t25,hF,rfl,rfl⟩
 unfold q6b at hF
 refine go ?_
 exact lC ⟨b21,l24,t25,hF,rfl,rfl⟩
 refine cF hF (fun h23 hF=>?_) (fun h23 hF=>?_)
 obtain ⟨h26,hF⟩:=q0a hF
 refine go ?_
 refine RS.q (u:=.sl 1 0 1 1) (σ':=⟨[(1,.row [.str s22] 9),(0,.vec (List.map cS l7).flatten 9 1 t8)],2⟩) rfl (q0j und80 inf9 rfl rfl rfl rfl rfl rfl rfl) (RS.q (u:=.vl 0 (t8+1) 0 ((l7++[s22]).length)) (σ':=⟨[(1,.row [.str s22] 9),(0,.vec (List.map cS (l7++[s22])).flatten 9 1 (t8+1))],2⟩) rfl (q1l rfl rfl rfl rfl (q1s cS ([s22]) und80 und80 inf9 rfl q1k rfl (q1i cS [s22] rfl rfl rfl rfl) h26)) ?_)
 refine go ?_
 exact xC ⟨(l7++[s22]),(t8+1),hF,rfl,rfl⟩
 refine go ?_
 exact xC ⟨l7,t8,hF,rfl,rfl⟩
 rintro (_|m2) _ _ ⟨b18,s19,z20,hF,rfl,rfl⟩
 cases hF
 unfold q2v at hF
 refine go ?_
 refine RS.q rfl (q0b rfl rfl rfl (q07 q02 und38)) ?_
 refine go ?_
 refine cF hF (fun h27 hF=>?_) (fun h27 hF=>?_)
 refine go ?_
 refine WPU.block ?_
 obtain ⟨b37,h38,hF⟩:=q00 hF
 refine gn ?_
 refine z1c (fun tm σ=>tm=fr 52 [(0,.iM q02 p1),(3,.vl 0 t8 0 l7.length),(4,.bool b18),(5,.str s19),(6,.i6 z20),(29,.bool b37)]∧σ=⟨[(0,.vec (List.map cS l7).flatten 9 1 t8)],1⟩) ?_ ?_
 rintro _ _ ⟨rfl,rfl⟩
 refine go ?_
 refine cF hF (fun h39 hF=>?_) (fun h39 hF=>?_)
 refine go ?_
 exact lC ⟨b18,s19,(IntKind.i64.wrap (z20+1)),hF,rfl,rfl⟩
 obtain ⟨b43,h44,hF⟩:=q00 hF
 refine gn ?_
 refine z1c (fun tm σ=>tm=fr 52 [(0,.iM q02 p1),(3,.vl 0 t8 0 l7.length),(5,.str s19),(6,.i6 z20),(40,.bool b43)]∧σ=⟨[(0,.vec (List.map cS l7).flatten 9 1 t8)],1⟩) ?_ ?_
 rintro _ _ ⟨rfl,rfl⟩
 refine gn ?_
 refine z1c (fun tm σ=>∃ s46:List UInt8,q6c z20 (q2v p1 n l7 (q2d p1 n m1) m2) s46=some r∧tm=fr 52 [(0,.iM q02 p1),(3,.vl 0 t8 0 l7.length),(5,.str s46),(6,.i6 z20)]∧σ=⟨[(0,.vec (List.map cS l7).flatten 9 1 t8)],1⟩) ?_ ?_
 rintro _ _ ⟨s46,hF,rfl,rfl⟩
 unfold q6c at hF
 refine go ?_
 exact lC ⟨true,s46,(IntKind.i64.wrap (z20+1)),hF,rfl,rfl⟩
 refine cF hF (fun h45 hF=>?_) (fun h45 hF=>?_)
 obtain ⟨x47,h48,hF⟩:=q00 hF
 refine go ?_
 refine RS.q rfl (q0h rfl rfl (q09 q02 und38 (q03 inf127) q0k h48 rfl)) (RS.q rfl (q1m und127 rfl (q03 inf9) rfl rfl) (RS.q rfl (q0d und9 rfl rfl rfl) ?_))
 refine go ?_
 exact xC ⟨x47.Name,hF,rfl,rfl⟩
 refine go ?_
 exact xC ⟨s19,hF,rfl,rfl⟩
 rcases gB h44 with ⟨h40,h44⟩ | ⟨h40,h44⟩
 exact gy h44
 obtain ⟨x41,h42,h44⟩:=q00 h44
 obtain rfl:=sI h44
 refine go ?_
 refine RS.w rfl (q0h rfl rfl (q09 q02 und38 (q03 inf127) q0k h42 rfl)) (RS.w rfl (q1m und127 rfl (q03 inf9) rfl rfl) (RS.w rfl (q0d und9 rfl rfl rfl) ?_))
 refine go ?_
 refine RS.w (u:=.bool (q5m x41.Name s19)) rfl (q8o rfl rfl rfl rfl) ?_
 refine go ?_
 exact xC ⟨rfl,rfl⟩
 obtain ⟨x28,h29,h38⟩:=q00 h38
 obtain ⟨r30,h31,h38⟩:=q00 h38
 rcases gB h38 with ⟨h32,h38⟩ | ⟨h32,h38⟩
 obtain rfl:=sI h38
 refine go ?_
 refine RS.q rfl (q0h rfl rfl (q09 q02 und38 (q03 inf127) q0k h29 rfl)) (RS.q rfl (q1m und127 rfl (q03 inf9) rfl rfl) (RS.q rfl (q0d und9 rfl rfl rfl) (RS.cl rfl (vw (q24 n l7 x28.Name r30 h31) (z1e 0 1)) fn126 ?_)))
 refine go ?_
 exact xC ⟨rfl,rfl⟩
 obtain ⟨x33,h34,h38⟩:=q00 h38
 obtain ⟨r35,h36,h38⟩:=q00 h38
 obtain rfl:=sI h38
 refine go ?_
 refine RS.q rfl (q0h rfl rfl (q09 q02 und38 (q03 inf127) q0k h29 rfl)) (RS.q rfl (q1m und127 rfl (q03 inf9) rfl rfl) (RS.q rfl (q0d und9 rfl rfl rfl) (RS.cl rfl (vw (q24 n l7 x28.Name r30 h31) (z1e 0 1)) fn126 ?_)))
 refine go ?_
 refine RS.w rfl (q0h rfl rfl (q09 q02 und38 (q03 inf127) q0k h34 rfl)) (RS.w (u:=.agg (q02 x33)) rfl (qag und127 rfl (q03 inf127) rfl rfl) ?_)
 refine go ?_
 refine RS.cl rfl (vw (qo2 n x33 l7 r35 h36) (z1e 0 1)) fn149 ?_
 refine go ?_
 exact xC ⟨rfl,rfl⟩
 refine go ?_
 exact xC ⟨b18,s19,hF,rfl,rfl⟩
 refine go ?_
 exact xC ⟨l7,t8,hF,rfl,rfl⟩
def q7m (z15:Int) (rc1:Int→Int→Option (Int)) (z25:Int):Option (Int) :=
 rc1 z25 (IntKind.i64.wrap (z15+1))
def qb7 (p1:List q05) (n:Nat) (z16:Int):Option (Int) :=
 cond (z16 != 1)
  (some 1)
  (q04 (qe8 n p1) fun r18 =>
  cond (decide ((r18.length:Int)<(p1.length:Int)))
   (some 6)
   (some 0))
def q45 (p1:List q05) (n:Nat):Nat→Int→Int→Option (Int)
 | 0,_,_=>none
 | m1+1,z14,z15 =>
  cond (decide (z15<(p1.length:Int)))
   (q04 (q12 p1 z15) fun x22 =>
   cond ((x22.Supers.length:Int) == 0)
    (q7m z15 (q45 p1 n m1) (IntKind.i64.wrap (z14+1)))
    (q7m z15 (q45 p1 n m1) z14))
   (qb7 p1 n z14)
def qg3 (n:Nat) (p1:List q05):Option (Int) :=
 q04 (qg6 n p1) fun r2 =>
 cond (r2 != 0)
  (some r2)
  (q04 (qg4 n p1) fun r5 =>
  cond (r5 != 0)
   (some r5)
   (q04 (qe9 n p1) fun r8 =>
   cond (r8 != 0)
    (some r8)
    (q45 p1 n n 0 0)))
theorem qo0 (n:Nat) (p1:List q05) (r:Int) (hF:qg3 n p1=some r):EvU Tryz.prog 94 [.isl false (List.map q02 p1)] ⟨[],0⟩ (fun u _=>u = .int .i64 r∧Bel 0 u):=by
 unfold qg3 at hF
 refine bg1 46 fn94 ?_
 obtain ⟨r2,h3,hF⟩:=q00 hF
 refine go ?_
 refine RS.cl rfl (pC (qo3 n p1 r2 h3) _) fn121 ?_
 refine go ?_
 refine cF hF (fun h4 hF=>?_) (fun h4 hF=>?_)
 exact gx hF
 obtain ⟨r5,h6,hF⟩:=q00 hF
 refine go ?_
 refine RS.cl rfl (pC (qo1 n p1 r5 h6) _) fn122 ?_
 refine go ?_
 refine cF hF (fun h7 hF=>?_) (fun h7 hF=>?_)
 exact gx hF
 obtain ⟨r8,h9,hF⟩:=q00 hF
 refine go ?_
 refine RS.cl rfl (pC (qm6 n p1 r8 h9) _) fn123 ?_
 refine go ?_
 refine cF hF (fun h10 hF=>?_) (fun h10 hF=>?_)
 exact gx hF
 refine go ?_
 refine gS (l':=[(0,_),(6,_),(7,_)]) ?_
 refine z1b (fun m tm σ=>∃ z14:Int,∃ z15:Int,q45 p1 n m z14 z15=some r∧tm=fr 46 [(0,.iM q02 p1),(6,.i6 z14),(7,.i6 z15)]∧σ=⟨[],0⟩) (fun tm σ=>∃ z16:Int,qb7 p1 n z16=some r∧tm=fr 46 [(0,.iM q02 p1),(6,.i6 z16)]∧σ=⟨[],0⟩) n ⟨0,0,hF,rfl,rfl⟩ ?_ ?_
 rintro _ _ ⟨z16,hF,rfl,rfl⟩
 unfold qb7 at hF
 refine go ?_
 refine cF hF (fun h17 hF=>?_) (fun h17 hF=>?_)
 exact gx hF
 obtain ⟨r18,h19,hF⟩:=q00 hF
 refine go ?_
 refine RS.cl rfl (pC (qm5 n p1 r18 h19) _) fn124 (RS.q rfl (q0b rfl rfl rfl (q07 cS und80)) ?_)
 refine go ?_
 refine RS.q rfl (q0b rfl rfl rfl (q07 q02 und38)) ?_
 refine go ?_
 refine cF hF (fun h20 hF=>?_) (fun h20 hF=>?_)
 exact gx hF
 exact gx hF
 rintro (_|m1) _ _ ⟨z14,z15,hF,rfl,rfl⟩
 cases hF
 unfold q45 at hF
 refine go ?_
 refine RS.q rfl (q0b rfl rfl rfl (q07 q02 und38)) ?_
 refine go ?_
 refine cF hF (fun h21 hF=>?_) (fun h21 hF=>?_)
 refine go ?_
 refine WPU.block ?_
 obtain ⟨x22,h23,hF⟩:=q00 hF
 refine go ?_
 refine RS.q rfl (q0h rfl rfl (q09 q02 und38 (q03 inf127) q0k h23 rfl)) (RS.q rfl (q1m und127 rfl (q03 inf80) rfl rfl) (RS.q rfl (q0d und80 rfl rfl rfl) (RS.q rfl (q0b rfl rfl rfl (q07 cS und80)) ?_)))
 refine gn ?_
 refine z1c (fun tm σ=>∃ z25:Int,q7m z15 (q45 p1 n m1) z25=some r∧tm=fr 46 [(0,.iM q02 p1),(6,.i6 z25),(7,.i6 z15)]∧σ=⟨[],0⟩) ?_ ?_
 rintro _ _ ⟨z25,hF,rfl,rfl⟩
 unfold q7m at hF
 refine go ?_
 exact lC ⟨z25,(IntKind.i64.wrap (z15+1)),hF,rfl,rfl⟩
 refine cF hF (fun h24 hF=>?_) (fun h24 hF=>?_)
 refine go ?_
 exact xC ⟨(IntKind.i64.wrap (z14+1)),hF,rfl,rfl⟩
 refine go ?_
 exact xC ⟨z14,hF,rfl,rfl⟩
 refine go ?_
 exact xC ⟨z14,hF,rfl,rfl⟩
def qe7 (p1:List (List UInt8)) (p2:List UInt8) (z7:Int):Option ((List (List UInt8))) :=
 q04 (cond (decide (z7<(p1.length:Int)))
  (q04 (q12 p1 z7) fun x9 =>
  some (q1o x9 p2))
  (some false)) fun b11 =>
 cond b11
  (some p1)
  (q04 (qz0 p1 0 z7) fun l14 =>
  q1e (l14.length*16≤140737488355328∧l14.length≤140737488355328) (
  q1e ((l14.length+1)*16≤140737488355328∧l14.length+1≤140737488355328) (
  q04 (qz0 p1 z7 (p1.length:Int)) fun l20 =>
  q1e (((l14++[p2]).length+l20.length)*16≤140737488355328∧(l14++[p2]).length+l20.length≤140737488355328) (
  some ((l14++[p2])++l20)))))
def qao (p1:List (List UInt8)) (p2:List UInt8):Nat→Int→Option ((List (List UInt8)))
 | 0,_=>none
 | m1+1,z6 =>
  q04 (cond (decide (z6<(p1.length:Int)))
   (q04 (q12 p1 z6) fun x26 =>
   some (q5m x26 p2))
   (some false)) fun b28 =>
  cond b28
   ((qao p1 p2 m1) (IntKind.i64.wrap (z6+1)))
   (qe7 p1 p2 z6)
def q88 (n:Nat) (p1:List (List UInt8)) (p2:List UInt8):Option ((List (List UInt8))) :=
 qao p1 p2 n 0
theorem q71 (n:Nat) (p1:List (List UInt8)) (p2:List UInt8) (r:(List (List UInt8))) (hF:q88 n p1 p2=some r):EvU Tryz.prog 116 [.isl false (List.map cS p1),.str p2] ⟨[],0⟩ (fun u _=>u = .isl false (List.map cS r)∧Bel 0 u):=by
 unfold q88 at hF
 refine bg2 48 fn116 ?_
 refine go ?_
 refine gS (l':=[(0,_),(1,_),(5,_),(6,_)]) ?_
 refine z1b (fun m tm σ=>∃ z6:Int,qao p1 p2 m z6=some r∧tm=fr 48 [(0,.iM cS p1),(1,.str p2),(5,.nils),(6,.i6 z6)]∧σ=⟨[],0⟩) (fun tm σ=>∃ z7:Int,qe7 p1 p2 z7=some r∧tm=fr 48 [(0,.iM cS p1),(1,.str p2),(5,.nils),(6,.i6 z7)]∧σ=⟨[],0⟩) n ⟨0,hF,rfl,rfl⟩ ?_ ?_
 rintro _ _ ⟨z7,hF,rfl,rfl⟩
 unfold qe7 at hF
 obtain ⟨b11,h12,hF⟩:=q00 hF
 refine gn ?_
 refine z1c (fun tm σ=>tm=fr 48 [(0,.iM cS p1),(1,.str p2),(5,.nils),(6,.i6 z7),(32,.bool b11)]∧σ=⟨[],0⟩) ?_ ?_
 rintro _ _ ⟨rfl,rfl⟩
 refine go ?_
 refine cF hF (fun h13 hF=>?_) (fun h13 hF=>?_)
 exact gx hF
 obtain ⟨l14,h15,hF⟩:=q00 hF
 obtain ⟨h16,h17⟩:=qur cS .i64 h15
 obtain ⟨h18,hF⟩:=q0a hF
 refine go ?_
 refine RS.q (u:=.iM cS l14) rfl (qaj rfl qqe (qz3 rfl) qqe (qsv cS und80 (q03 inf9) q1k h16 h17)) (RS.q (u:=.vl 0 0 0 l14.length) (σ':=⟨[(0,.vec (List.map cS l14).flatten 9 1 0)],1⟩) rfl (q1l rfl rfl rfl rfl (qqm cS l14 und80 und80 inf9 rfl (qgb cS q1k) h18)) ?_)
 obtain ⟨h19,hF⟩:=q0a hF
 refine go ?_
 refine RS.q (u:=.sl 1 0 1 1) (σ':=⟨[(1,.row [.str p2] 9),(0,.vec (List.map cS l14).flatten 9 1 0)],2⟩) rfl (q0j und80 inf9 rfl rfl rfl rfl rfl rfl rfl) (RS.q (u:=.vl 0 1 0 ((l14++[p2]).length)) (σ':=⟨[(1,.row [.str p2] 9),(0,.vec (List.map cS (l14++[p2])).flatten 9 1 1)],2⟩) rfl (q1l rfl rfl rfl rfl (q1s cS ([p2]) und80 und80 inf9 rfl q1k rfl (q1i cS [p2] rfl rfl rfl rfl) h19)) ?_)
 obtain ⟨l20,h21,hF⟩:=q00 hF
 obtain ⟨h22,h23⟩:=cut_lo cS .i64 h21
 obtain ⟨h24,hF⟩:=q0a hF
 refine go ?_
 refine RS.q (u:=.iM cS l20) rfl (qaj rfl (qz3 rfl) qqe qqe (qsv cS und80 (q03 inf9) q1k h22 h23)) (RS.q (u:=.vl 0 2 0 (((l14++[p2])++l20).length)) (σ':=⟨[(1,.row [.str p2] 9),(0,.vec (List.map cS ((l14++[p2])++l20)).flatten 9 1 2)],2⟩) rfl (q1l rfl rfl rfl rfl (q1s cS l20 und80 und80 inf9 rfl q1k rfl (qgb cS q1k) h24)) ?_)
 refine go ?_
 obtain rfl:=sI hF
 exact rT (us:=[.vl 0 2 0 (((l14++[p2])++l20).length)]) (u:=.iM cS ((l14++[p2])++l20)) (q2k rfl (q33)) (fR 0 1)
 rcases gB h12 with ⟨h8,h12⟩ | ⟨h8,h12⟩
 obtain ⟨x9,h10,h12⟩:=q00 h12
 obtain rfl:=sI h12
 refine go ?_
 refine RS.q rfl (q0b rfl rfl rfl (q07 cS und80)) ?_
 refine go ?_
 refine RS.w rfl (q0h rfl rfl (q09 cS und80 (q03 inf9) q1k h10 rfl)) (RS.w rfl (q0d und9 rfl rfl rfl) ?_)
 refine go ?_
 refine RS.w (u:=.bool (q1o x9 p2)) rfl (q8o rfl rfl rfl rfl) ?_
 refine go ?_
 exact xC ⟨rfl,rfl⟩
 obtain rfl:=sI h12
 refine go ?_
 refine RS.q rfl (q0b rfl rfl rfl (q07 cS und80)) ?_
 refine go ?_
 exact xC ⟨rfl,rfl⟩
 rintro (_|m1) _ _ ⟨z6,hF,rfl,rfl⟩
 cases hF
 unfold qao at hF
 obtain ⟨b28,h29,hF⟩:=q00 hF
 refine gn ?_
 refine z1c (fun tm σ=>tm=fr 48 [(0,.iM cS p1),(1,.str p2),(5,.nils),(6,.i6 z6),(18,.bool b28)]∧σ=⟨[],0⟩) ?_ ?_
 rintro _ _ ⟨rfl,rfl⟩
 refine go ?_
 refine cF hF (fun h30 hF=>?_) (fun h30 hF=>?_)
 refine go ?_
 refine WPU.block ?_
 refine go ?_
 exact lC ⟨_,hF,rfl,rfl⟩
 refine go ?_
 exact xC ⟨z6,hF,rfl,rfl⟩
 rcases gB h29 with ⟨h25,h29⟩ | ⟨h25,h29⟩
 obtain ⟨x26,h27,h29⟩:=q00 h29
 obtain rfl:=sI h29
 refine go ?_
 refine RS.q rfl (q0b rfl rfl rfl (q07 cS und80)) ?_
 refine go ?_
 refine RS.w rfl (q0h rfl rfl (q09 cS und80 (q03 inf9) q1k h27 rfl)) (RS.w rfl (q0d und9 rfl rfl rfl) ?_)
 refine go ?_
 refine RS.w (u:=.bool (q5m x26 p2)) rfl (q8o rfl rfl rfl rfl) ?_
 refine go ?_
 exact xC ⟨rfl,rfl⟩
 obtain rfl:=sI h29
 refine go ?_
 refine RS.q rfl (q0b rfl rfl rfl (q07 cS und80)) ?_
 refine go ?_
 exact xC ⟨rfl,rfl⟩
def qb8  (l7:List (List UInt8)):Option ((List (List UInt8))) :=
 some l7
def q7n (p1:List q05) (n:Nat):Nat→(List (List UInt8))→Int→Option ((List (List UInt8)))
 | 0,_,_=>none
 | m1+1,l5,z6 =>
  cond (decide (z6<(p1.length:Int)))
   (q04 (q12 p1 z6) fun x9 =>
   q04 (q88 n l5 x9.Name) fun r11 =>
   (q7n p1 n m1) r11 (IntKind.i64.wrap (z6+1)))
   (qb8 l5)
def qcy (n:Nat) (p1:List q05):Option ((List (List UInt8))) :=
 q7n p1 n n [] 0
theorem qhb (n:Nat) (p1:List q05) (r:(List (List UInt8))) (hF:qcy n p1=some r):EvU Tryz.prog 95 [.isl false (List.map q02 p1)] ⟨[],0⟩ (fun u _=>u = .isl false (List.map cS r)∧Bel 0 u):=by
 unfold qcy at hF
 refine bg1 19 fn95 ?_
 refine gr ?_
 refine gr ?_
 refine gr ?_
 refine WPU.ghost (tm':=fr 19 [(0,.iM q02 p1),(3,.iM cS []),(4,.i6 0)]) (Gh.trans (Gh.sub (l':=[(0,.iM q02 p1),(3,.nils),(4,.i6 0)]) ⟨rfl,rfl,rfl,trivial⟩) (Gh.wkS (l':=[(0,.iM q02 p1),(3,.iM cS []),(4,.i6 0)]) (.cons (.refl _) (.cons (.nil false) (.cons (.refl _) .nil))))) NZ ?_
 refine gS (l':=[(0,_),(3,_),(4,_)]) ?_
 refine z1b (fun m tm σ=>∃ l5:List (List UInt8),∃ z6:Int,q7n p1 n m l5 z6=some r∧tm=fr 19 [(0,.iM q02 p1),(3,.iM cS l5),(4,.i6 z6)]∧σ=⟨[],0⟩) (fun tm σ=>∃ l7:List (List UInt8),qb8 l7=some r∧tm=fr 19 [(3,.iM cS l7)]∧σ=⟨[],0⟩) n ⟨[],0,hF,rfl,rfl⟩ ?_ ?_
 rintro _ _ ⟨l7,hF,rfl,rfl⟩
 unfold qb8 at hF
 exact gx hF
 rintro (_|m1) _ _ ⟨l5,z6,hF,rfl,rfl⟩
 cases hF
 unfold q7n at hF
 refine go ?_
 refine RS.q rfl (q0b rfl rfl rfl (q07 q02 und38)) ?_
 refine go ?_
 refine cF hF (fun h8 hF=>?_) (fun h8 hF=>?_)
 refine go ?_
 refine WPU.block ?_
 obtain ⟨x9,h10,hF⟩:=q00 hF
 obtain ⟨r11,h12,hF⟩:=q00 hF
 refine go ?_
 refine RS.q rfl (q0h rfl rfl (q09 q02 und38 (q03 inf127) q0k h10 rfl)) (RS.q rfl (q1m und127 rfl (q03 inf9) rfl rfl) (RS.q rfl (q0d und9 rfl rfl rfl) (RS.cl rfl (pC (q71 n l5 x9.Name r11 h12) _) fn116 ?_)))
 refine go ?_
 exact lC ⟨r11,(IntKind.i64.wrap (z6+1)),hF,rfl,rfl⟩
 refine go ?_
 exact xC ⟨l5,hF,rfl,rfl⟩
def qb5  (l21:List (List UInt8)):Option ((List (List UInt8))) :=
 some l21
def q7l (n:Nat) (l13:List (List UInt8)):Nat→(List (List UInt8))→Int→Option ((List (List UInt8)))
 | 0,_,_=>none
 | m2+1,l19,z20 =>
  cond (decide (z20<(l13.length:Int)))
   (q04 (q12 l13 z20) fun x23 =>
   q04 (q88 n l19 x23) fun r25 =>
   (q7l n l13 m2) r25 (IntKind.i64.wrap (z20+1)))
   (qb5 l19)
def q7k (z33:Int) (rc3:Int→(List (List UInt8))→Option ((List (List UInt8)))) (l53:List (List UInt8)):Option ((List (List UInt8))) :=
 rc3 (IntKind.i64.wrap (z33+1)) l53
def qb6 (z10:Int) (rc1:Int→(List (List UInt8))→Option ((List (List UInt8)))) (l36:List (List UInt8)):Option ((List (List UInt8))) :=
 rc1 (IntKind.i64.wrap (z10+1)) l36
def q44 (p1:List q05) (n:Nat) (z10:Int) (rc1:Int→(List (List UInt8))→Option ((List (List UInt8)))):Nat→Int→(List (List UInt8))→Option ((List (List UInt8)))
 | 0,_,_=>none
 | m3+1,z33,l34 =>
  cond (decide (z33<(p1.length:Int)))
   (q04 (q04 (q12 p1 z33) fun x39 =>
   q04 (q12 l34 z10) fun x41 =>
   q04 (q2u n x39.Supers x41) fun r43 =>
   cond r43
    (q04 (q12 p1 z33) fun x46 =>
    q04 (q2u n l34 x46.Name) fun r48 =>
    some (!r48))
    (some false)) fun b50 =>
   cond b50
    (q04 (q12 p1 z33) fun x55 =>
    q1e ((l34.length+1)*16≤140737488355328∧l34.length+1≤140737488355328) (
    q7k z33 (q44 p1 n z10 rc1 m3) (l34++[x55.Name])))
    (q7k z33 (q44 p1 n z10 rc1 m3) l34))
   (qb6 z10 rc1 l34)
def qb4 (n:Nat) (l13:List (List UInt8)):Option ((List (List UInt8))) :=
 q7l n l13 n [] 0
def q3f (p1:List q05) (n:Nat):Nat→Int→(List (List UInt8))→Option ((List (List UInt8)))
 | 0,_,_=>none
 | m1+1,z10,l11 =>
  cond (decide (z10<(l11.length:Int)))
   (q44 p1 n z10 (q3f p1 n m1) n 0 l11)
   (qb4 n l11)
def qg2 (n:Nat) (p1:List q05) (p2:List UInt8):Option ((List (List UInt8))) :=
 q04 (q5x n p1 p2) fun r3 =>
 cond (decide (r3<0))
  (some [])
  (q3f p1 n n 0 ([p2]))
theorem qnz (n:Nat) (p1:List q05) (p2:List UInt8) (r:(List (List UInt8))) (hF:qg2 n p1 p2=some r):EvU Tryz.prog 125 [.isl false (List.map q02 p1),.str p2] ⟨[],0⟩ (fun u _=>u = .isl false (List.map cS r)∧Bel 0 u):=by
 unfold qg2 at hF
 refine bg2 69 fn125 ?_
 obtain ⟨r3,h4,hF⟩:=q00 hF
 refine go ?_
 refine RS.cl rfl (pC (q5y n p1 p2 r3 h4) _) fn148 ?_
 refine go ?_
 refine cF hF (fun h5 hF=>?_) (fun h5 hF=>?_)
 refine go ?_
 obtain rfl:=sI hF
 exact rT (us:=[.nils]) (u:=.isl false []) (q2k rfl (q33)) wR
 refine go ?_
 refine z1r (u:=.vl 0 0 0 ([p2].length)) (σ':=⟨[(0,.vec (List.map cS ([p2])).flatten 9 1 0)],1⟩) rfl (qdm.bslv (cs:=(List.map cS [p2]).flatten) Tryz.tb_ok rfl und80 inf9 rfl rfl rfl rfl rfl rfl rfl rfl) rfl rfl ?_
 refine go ?_
 refine gS (l':=[(0,_),(5,_),(6,_)]) ?_
 refine z1b (fun m tm σ=>∃ z10:Int,∃ l11:List (List UInt8),∃ t12:Nat,q3f p1 n m z10 l11=some r∧tm=fr 69 [(0,.iM q02 p1),(5,.vl 0 t12 0 l11.length),(6,.i6 z10)]∧σ=⟨[(0,.vec (List.map cS l11).flatten 9 1 t12)],1⟩) (fun tm σ=>∃ l13:List (List UInt8),∃ t14:Nat,qb4 n l13=some r∧tm=fr 69 [(5,.vl 0 t14 0 l13.length)]∧σ=⟨[(0,.vec (List.map cS l13).flatten 9 1 t14)],1⟩) n ⟨0,[p2],0,hF,rfl,rfl⟩ ?_ ?_
 rintro _ _ ⟨l13,t14,hF,rfl,rfl⟩
 unfold qb4 at hF
 refine gr ?_
 refine gr ?_
 refine WPU.ghost (tm':=fr 69 [(5,.vl 0 t14 0 l13.length),(8,.iM cS []),(9,.i6 0)]) (Gh.trans (Gh.sub (l':=[(5,.vl 0 t14 0 l13.length),(8,.nils),(9,.i6 0)]) ⟨rfl,rfl,rfl,trivial⟩) (Gh.wkS (l':=[(5,.vl 0 t14 0 l13.length),(8,.iM cS []),(9,.i6 0)]) (.cons (.refl _) (.cons (.nil false) (.cons (.refl _) .nil))))) NZ ?_
 refine gS (l':=[(5,_),(8,_),(9,_)]) ?_
 refine z1b (fun m tm σ=>∃ l19:List (List UInt8),∃ z20:Int,q7l n l13 m l19 z20=some r∧tm=fr 69 [(5,.vl 0 t14 0 l13.length),(8,.iM cS l19),(9,.i6 z20)]∧σ=⟨[(0,.vec (List.map cS l13).flatten 9 1 t14)],1⟩) (fun tm σ=>∃ l21:List (List UInt8),qb5 l21=some r∧tm=fr 69 [(8,.iM cS l21)]∧σ=⟨[(0,.vec (List.map cS l13).flatten 9 1 t14)],1⟩) n ⟨[],0,hF,rfl,rfl⟩ ?_ ?_
 rintro _ _ ⟨l21,hF,rfl,rfl⟩
 unfold qb5 at hF
 exact gx hF
 rintro (_|m2) _ _ ⟨l19,z20,hF,rfl,rfl⟩
 cases hF
 unfold q7l at hF
 refine go ?_
 refine RS.q rfl (q0b rfl rfl rfl (q9o und80 rfl)) ?_
 refine go ?_
 refine cF hF (fun h22 hF=>?_) (fun h22 hF=>?_)
 refine go ?_
 refine WPU.block ?_
 obtain ⟨x23,h24,hF⟩:=q00 hF
 obtain ⟨r25,h26,hF⟩:=q00 hF
 refine go ?_
 refine RS.q rfl (q0h rfl rfl (qa6 cS und80 (q03 inf9) (by decide) q1k (vo rfl) h24)) ?_
 refine RS.q rfl (q5n cS (fun x=>.str x) und9 rfl (fun _=>rfl) rfl rfl h24) (RS.cl rfl (pC (q71 n l19 x23 r25 h26) _) fn116 ?_)
 refine go ?_
 exact lC ⟨r25,(IntKind.i64.wrap (z20+1)),hF,rfl,rfl⟩
 refine go ?_
 exact xC ⟨l19,hF,rfl,rfl⟩
 rintro (_|m1) _ _ ⟨z10,l11,t12,hF,rfl,rfl⟩
 cases hF
 unfold q3f at hF
 refine go ?_
 refine RS.q rfl (q0b rfl rfl rfl (q9o und80 rfl)) ?_
 refine go ?_
 refine cF hF (fun h27 hF=>?_) (fun h27 hF=>?_)
 refine go ?_
 refine WPU.block ?_
 refine go ?_
 refine gS (l':=[(0,_),(5,_),(6,_),(7,_)]) ?_
 refine z1b (fun m tm σ=>∃ z33:Int,∃ l34:List (List UInt8),∃ t35:Nat,q44 p1 n z10 (q3f p1 n m1) m z33 l34=some r∧tm=fr 69 [(0,.iM q02 p1),(5,.vl 0 t35 0 l34.length),(6,.i6 z10),(7,.i6 z33)]∧σ=⟨[(0,.vec (List.map cS l34).flatten 9 1 t35)],1⟩) (fun tm σ=>∃ l36:List (List UInt8),∃ t37:Nat,qb6 z10 (q3f p1 n m1) l36=some r∧tm=fr 69 [(0,.iM q02 p1),(5,.vl 0 t37 0 l36.length),(6,.i6 z10)]∧σ=⟨[(0,.vec (List.map cS l36).flatten 9 1 t37)],1⟩) n ⟨0,l11,t12,hF,rfl,rfl⟩ ?_ ?_
 rintro _ _ ⟨l36,t37,hF,rfl,rfl⟩
 unfold qb6 at hF
 refine go ?_
 exact lC ⟨_,l36,t37,hF,rfl,rfl⟩
 rintro (_|m3) _ _ ⟨z33,l34,t35,hF,rfl,rfl⟩
 cases hF
 unfold q44 at hF
 refine go ?_
 refine RS.q rfl (q0b rfl rfl rfl (q07 q02 und38)) ?_
 refine go ?_
 refine cF hF (fun h38 hF=>?_) (fun h38 hF=>?_)
 refine go ?_
 refine WPU.block ?_
 obtain ⟨b50,h51,hF⟩:=q00 hF
 refine gn ?_
 refine z1c (fun tm σ=>tm=fr 69 [(0,.iM q02 p1),(5,.vl 0 t35 0 l34.length),(6,.i6 z10),(7,.i6 z33),(47,.bool b50)]∧σ=⟨[(0,.vec (List.map cS l34).flatten 9 1 t35)],1⟩) ?_ ?_
 rintro _ _ ⟨rfl,rfl⟩
 refine gn ?_
 refine z1c (fun tm σ=>∃ l53:List (List UInt8),∃ t54:Nat,q7k z33 (q44 p1 n z10 (q3f p1 n m1) m3) l53=some r∧tm=fr 69 [(0,.iM q02 p1),(5,.vl 0 t54 0 l53.length),(6,.i6 z10),(7,.i6 z33)]∧σ=⟨[(0,.vec (List.map cS l53).flatten 9 1 t54)],1⟩) ?_ ?_
 rintro _ _ ⟨l53,t54,hF,rfl,rfl⟩
 unfold q7k at hF
 refine go ?_
 exact lC ⟨_,l53,t54,hF,rfl,rfl⟩
 refine cF hF (fun h52 hF=>?_) (fun h52 hF=>?_)
 obtain ⟨x55,h56,hF⟩:=q00 hF
 obtain ⟨h57,hF⟩:=q0a hF
 refine go ?_
 refine RS.q rfl (q0h rfl rfl (q09 q02 und38 (q03 inf127) q0k h56 rfl)) (RS.q rfl (q1m und127 rfl (q03 inf9) rfl rfl) (RS.q rfl (q0d und9 rfl rfl rfl) (RS.q (u:=.sl 1 0 1 1) (σ':=⟨[(1,.row [.str x55.Name] 9),(0,.vec (List.map cS l34).flatten 9 1 t35)],2⟩) rfl (q0j und80 inf9 rfl rfl rfl rfl rfl rfl rfl) (RS.q (u:=.vl 0 (t35+1) 0 ((l34++[x55.Name]).length)) (σ':=⟨[(1,.row [.str x55.Name] 9),(0,.vec (List.map cS (l34++[x55.Name])).flatten 9 1 (t35+1))],2⟩) rfl (q1l rfl rfl rfl rfl (q1s cS ([x55.Name]) und80 und80 inf9 rfl q1k rfl (q1i cS [x55.Name] rfl rfl rfl rfl) h57)) ?_))))
 refine go ?_
 exact xC ⟨(l34++[x55.Name]),(t35+1),hF,rfl,rfl⟩
 refine go ?_
 exact xC ⟨l34,t35,hF,rfl,rfl⟩
 obtain ⟨x39,h40,h51⟩:=q00 h51
 obtain ⟨x41,h42,h51⟩:=q00 h51
 obtain ⟨r43,h44,h51⟩:=q00 h51
 rcases gB h51 with ⟨h45,h51⟩ | ⟨h45,h51⟩
 obtain ⟨x46,h47,h51⟩:=q00 h51
 obtain ⟨r48,h49,h51⟩:=q00 h51
 obtain rfl:=sI h51
 refine z1d Tryz.tb_ok [] (by kernel_rfl) ?_
 repeat refine RD.mv rfl rfl rfl rfl ?_
 refine RD.q rfl (q0h rfl rfl (q09 q02 und38 (q03 inf127) q0k h40 rfl)) (RD.q rfl (q1m und127 rfl (q03 inf80) rfl rfl) (RD.q rfl (q0d und80 rfl rfl rfl) ?_))
 repeat refine RD.mv rfl rfl rfl rfl ?_
 refine RD.q rfl (q0h rfl rfl (qa6 cS und80 (q03 inf9) (by decide) q1k (vo rfl) h42)) ?_
 refine RD.q rfl (q5n cS (fun x=>.str x) und9 rfl (fun _=>rfl) rfl rfl h42) (RD.fl rfl (pC (q24 n x39.Supers x41 r43 h44)) fn126 (RD.mv rfl rfl rfl rfl (RD.w rfl (q1u rfl) (RD.w rfl (q1u rfl) (RD.w rfl (q1u rfl) (RD.w rfl (q0h rfl rfl (q09 q02 und38 (q03 inf127) q0k h47 rfl)) (RD.w rfl (q1m und127 rfl (q03 inf9) rfl rfl) ?_)))))))
 refine RD.w rfl (q0d und9 rfl rfl rfl) (RD.call (u:=.bool r48) (args:=[.vl 0 t35 0 l34.length,.str x46.Name]) (z0y rfl rfl rfl h45) (qce rfl rfl fn126 hb126 rfl rfl) (vw (q24 n l34 x46.Name r48 h49) (z1e 0 1)) rfl rfl (RD.w rfl (qtp rfl rfl rfl rfl) (RD.q rfl (qet rfl h45 rfl) ?_)))
 refine RD.done ⟨by kernel_rfl,trivial,?_⟩
 refine go ?_
 exact xC ⟨rfl,rfl⟩
 obtain rfl:=sI h51
 refine z1d Tryz.tb_ok [] (by kernel_rfl) ?_
 repeat refine RD.mv rfl rfl rfl rfl ?_
 refine RD.q rfl (q0h rfl rfl (q09 q02 und38 (q03 inf127) q0k h40 rfl)) (RD.q rfl (q1m und127 rfl (q03 inf80) rfl rfl) (RD.q rfl (q0d und80 rfl rfl rfl) ?_))
 repeat refine RD.mv rfl rfl rfl rfl ?_
 refine RD.q rfl (q0h rfl rfl (qa6 cS und80 (q03 inf9) (by decide) q1k (vo rfl) h42)) ?_
 refine RD.q rfl (q5n cS (fun x=>.str x) und9 rfl (fun _=>rfl) rfl rfl h42) (RD.fl rfl (pC (q24 n x39.Supers x41 r43 h44)) fn126 (RD.mv rfl rfl rfl rfl ?_))
 repeat refine RD.no (qrl rfl rfl rfl h45) rfl rfl ?_
 refine RD.q rfl (qes rfl h45 rfl) ?_
 refine RD.done ⟨by kernel_rfl,trivial,?_⟩
 refine go ?_
 exact xC ⟨rfl,rfl⟩
 refine go ?_
 exact xC ⟨l34,t35,hF,rfl,rfl⟩
 refine go ?_
 exact xC ⟨l11,t12,hF,rfl,rfl⟩
def q9p (p1:List Int) (z5:Int):Option ((List Int)) :=
 q04 (qz0 p1 0 z5) fun l6 =>
 q1e (l6.length*8≤140737488355328∧l6.length≤140737488355328) (
 some l6)
def q69 (p1:List Int):Nat→Int→Option ((List Int))
 | 0,_=>none
 | m1+1,z4 =>
  q04 (cond (decide (z4 > 0))
   (q04 (q12 p1 (IntKind.i64.wrap (z4 - 1))) fun x12 =>
   some (x12 == 0))
   (some false)) fun b14 =>
  cond b14
   ((q69 p1 m1) (IntKind.i64.wrap (z4 - 1)))
   (q9p p1 z4)
def q5w (n:Nat) (p1:List Int):Option ((List Int)) :=
 q69 p1 n (p1.length:Int)
theorem q7e (n:Nat) (p1:List Int) (r:(List Int)) (hF:q5w n p1=some r):EvU Tryz.prog 119 [.isl false (List.map (cI .u64) p1)] ⟨[],0⟩ (fun u _=>u = .isl false (List.map (cI .u64) r)∧Bel 0 u):=by
 unfold q5w at hF
 refine bg1 23 fn119 ?_
 refine go ?_
 refine RS.q rfl (q0b rfl rfl rfl (q07 (cI .u64) und103)) ?_
 refine go ?_
 refine gS (l':=[(0,_),(3,_)]) ?_
 refine z1b (fun m tm σ=>∃ z4:Int,q69 p1 m z4=some r∧tm=fr 23 [(0,.iM (cI .u64) p1),(3,.i6 z4)]∧σ=⟨[],0⟩) (fun tm σ=>∃ z5:Int,q9p p1 z5=some r∧tm=fr 23 [(0,.iM (cI .u64) p1),(3,.i6 z5)]∧σ=⟨[],0⟩) n ⟨(p1.length:Int),hF,rfl,rfl⟩ ?_ ?_
 rintro _ _ ⟨z5,hF,rfl,rfl⟩
 unfold q9p at hF
 obtain ⟨l6,h7,hF⟩:=q00 hF
 obtain ⟨h8,h9⟩:=qur (cI .u64) .i64 h7
 obtain ⟨h10,hF⟩:=q0a hF
 refine go ?_
 refine RS.q (u:=.sl 0 0 0 0) (σ':=⟨[(0,.row [] 191)],1⟩) rfl (q0j und103 inf191 rfl rfl rfl rfl rfl rfl rfl) ?_
 refine go ?_
 refine RS.q (u:=.iM (cI .u64) l6) rfl (qaj rfl qqe (qz3 rfl) qqe (qsv (cI .u64) und103 (q03 inf191) (q16 .u64) h8 h9)) (RS.q (u:=.vl 1 0 0 l6.length) (σ':=⟨[(1,.vec (List.map (cI .u64) l6).flatten 191 1 0),(0,.row [] 191)],2⟩) rfl (q1l rfl rfl rfl rfl (qql (cI .u64) l6 und103 und103 inf191 rfl rfl rfl (qgb (cI .u64) (q16 .u64)) h10)) ?_)
 refine go ?_
 obtain rfl:=sI hF
 exact rT (us:=[.vl 1 0 0 l6.length]) (u:=.iM (cI .u64) l6) (q2k rfl (q33)) (fR 1 1)
 rintro (_|m1) _ _ ⟨z4,hF,rfl,rfl⟩
 cases hF
 unfold q69 at hF
 obtain ⟨b14,h15,hF⟩:=q00 hF
 refine gn ?_
 refine z1c (fun tm σ=>tm=fr 23 [(0,.iM (cI .u64) p1),(3,.i6 z4),(15,.bool b14)]∧σ=⟨[],0⟩) ?_ ?_
 rintro _ _ ⟨rfl,rfl⟩
 refine go ?_
 refine cF hF (fun h16 hF=>?_) (fun h16 hF=>?_)
 refine go ?_
 refine WPU.block ?_
 refine go ?_
 exact lC ⟨_,hF,rfl,rfl⟩
 refine go ?_
 exact xC ⟨z4,hF,rfl,rfl⟩
 rcases gB h15 with ⟨h11,h15⟩ | ⟨h11,h15⟩
 obtain ⟨x12,h13,h15⟩:=q00 h15
 obtain rfl:=sI h15
 refine go ?_
 refine RS.w rfl (q0h rfl rfl (q09 (cI .u64) und103 (q03 inf191) (q16 .u64) h13 rfl)) (RS.w rfl (q0d und191 rfl rfl rfl) ?_)
 refine go ?_
 exact xC ⟨rfl,rfl⟩
 exact gy h15
def qg0 (n:Nat) (l8:List Int):Option ((List Int)×Int) :=
 q1e ((64:Int).toNat=l8.length) (
 q04 (q5w n l8) fun r10 =>
 some (r10,0))
def qcw (p1:List Int) (n:Nat):Nat→Int→(List Int)→Option ((List Int)×Int)
 | 0,_,_=>none
 | m1+1,z6,l7 =>
  cond (decide (z6<(p1.length:Int)))
   (q04 (q04 (q12 p1 z6) fun x13 =>
   cond (decide (x13<0))
    (some true)
    (q04 (q12 p1 z6) fun x16 =>
    some (decide (x16 > 4095)))) fun b18 =>
   cond b18
    (some ([],2))
    (q04 (q12 p1 z6) fun x21 =>
    q04 (q12 p1 z6) fun x24 =>
    q04 (qpa l7 0 ((64:Int).toNat) (IntKind.i64.wrap (x24.tdiv 64))) fun x27 =>
    q04 (q12 p1 z6) fun x29 =>
    q1e (¬ (IntKind.u64.wrap (x29.tmod 64))<0) (
    q04 (qpa l7 0 ((64:Int).toNat) (IntKind.i64.wrap (x21.tdiv 64))) fun x33 =>
    (qcw p1 n m1) (IntKind.i64.wrap (z6+1)) (l7.set (IntKind.i64.wrap (x21.tdiv 64)).toNat (orI .u64 x27 (IntKind.u64.wrap (1*(2 ^ (min (IntKind.u64.wrap (x29.tmod 64)).toNat IntKind.u64.bits)))))))))
   (qg0 n l7)
def qnx (n:Nat) (p1:List Int):Option ((List Int)×Int) :=
 q1e (0≤(64:Int)∧8*(64:Int).toNat≤281474976710656∧(64:Int)≤281474976710656) (
 qcw p1 n n 0 (List.replicate (64:Int).toNat 0))
theorem qtr (n:Nat) (p1:List Int) (r:(List Int)×Int) (hF:qnx n p1=some r):EvU Tryz.prog 127 [.isl false (List.map (cI .i64) p1)] ⟨[],0⟩ (fun u _=>u = .tup [.isl false (List.map (cI .u64) r.1),.int .i64 r.2]∧Bel 0 u):=by
 unfold qnx at hF
 refine bg1 50 fn127 ?_
 obtain ⟨h2,hF⟩:=q0a hF
 refine go ?_
 refine RS.q (u:=.sl 0 0 ((64:Int).toNat) ((64:Int).toNat)) (σ':=⟨[(0,.row (List.map (cI .u64) (List.replicate (64:Int).toNat 0)).flatten 191)],1⟩) rfl (qw2 (cI .u64) 0 rfl rfl und103 inf191 rfl rfl rfl rfl h2) ?_
 refine go ?_
 refine gS (l':=[(0,_),(4,_),(5,_)]) ?_
 refine z1b (fun m tm σ=>∃ z6:Int,∃ l7:List Int,qcw p1 n m z6 l7=some r∧tm=fr 50 [(0,.iM (cI .i64) p1),(4,.sl 0 0 ((64:Int).toNat) ((64:Int).toNat)),(5,.i6 z6)]∧σ=⟨[(0,.row (List.map (cI .u64) l7).flatten 191)],1⟩) (fun tm σ=>∃ l8:List Int,qg0 n l8=some r∧tm=fr 50 [(4,.sl 0 0 ((64:Int).toNat) ((64:Int).toNat))]∧σ=⟨[(0,.row (List.map (cI .u64) l8).flatten 191)],1⟩) n ⟨0,(List.replicate (64:Int).toNat 0),hF,rfl,rfl⟩ ?_ ?_
 rintro _ _ ⟨l8,hF,rfl,rfl⟩
 unfold qg0 at hF
 obtain ⟨h9,hF⟩:=q0a hF
 refine gn ?_
 refine WPU.ghost (tm':=fr 50 [(4,.iM (cI .u64) l8)]) (σ':=⟨[],1⟩) (Gh.trans (Gh.sub (l':=[(4,.sl 0 0 ((64:Int).toNat) ((64:Int).toNat))]) ⟨rfl,trivial⟩) (Gh.fzS (l':=[(4,.iM (cI .u64) l8)]) (h':=[]) 0 (.row (List.map (cI .u64) l8).flatten 191) 1 rfl (by simp) (by simp only [fzS,qlx,qi3,qac,qmr,qkk,qmt,qi6,qkn,qkm,qkl,qi5,qms,qp7,qmq,qmu,qth,qnj,qxy (q16 .u64) h9]) (by simp only [fzH,fzB,ug,Nat.beq,cond_true,cond_false,qlx,qi3,qac,qmr,qkk,qmt,qi6,qkn,qkm,qkl,qi5,qms,qp7,qmq,qmu,qth,qnj,qxy (q16 .u64) h9]))) NZ ?_
 obtain ⟨r10,h11,hF⟩:=q00 hF
 refine go ?_
 refine RS.cl rfl (pC (q7e n l8 r10 h11) _) fn119 ?_
 refine go ?_
 obtain rfl:=sI hF
 exact rt2 rfl rfl rfl rfl rfl
 rintro (_|m1) _ _ ⟨z6,l7,hF,rfl,rfl⟩
 cases hF
 unfold qcw at hF
 refine go ?_
 refine RS.q rfl (q0b rfl rfl rfl (q07 (cI .i64) und33)) ?_
 refine go ?_
 refine cF hF (fun h12 hF=>?_) (fun h12 hF=>?_)
 refine go ?_
 refine WPU.block ?_
 obtain ⟨b18,h19,hF⟩:=q00 hF
 refine gn ?_
 refine z1c (fun tm σ=>tm=fr 50 [(0,.iM (cI .i64) p1),(4,.sl 0 0 ((64:Int).toNat) ((64:Int).toNat)),(5,.i6 z6),(24,.bool b18)]∧σ=⟨[(0,.row (List.map (cI .u64) l7).flatten 191)],1⟩) ?_ ?_
 rintro _ _ ⟨rfl,rfl⟩
 refine go ?_
 refine cF hF (fun h20 hF=>?_) (fun h20 hF=>?_)
 refine go ?_
 obtain rfl:=sI hF
 exact rT (us:=[.nils,.i6 2]) (u:=.tup [.isl false [],.i6 2]) (q2k rfl (q2k rfl (q33))) wR
 obtain ⟨x21,h22,hF⟩:=q00 hF
 obtain ⟨x24,h25,hF⟩:=q00 hF
 obtain ⟨x27,h28,hF⟩:=q00 hF
 obtain ⟨x29,h30,hF⟩:=q00 hF
 obtain ⟨h32,hF⟩:=q0a hF
 obtain ⟨x33,h34,hF⟩:=q00 hF
 refine go ?_
 refine z1d Tryz.tb_ok [] (by kernel_rfl) ?_
 repeat refine RD.mv rfl rfl rfl rfl ?_
 refine RD.q rfl (q0h rfl rfl (q09 (cI .i64) und33 (q03 inf3) (q16 .i64) h22 rfl)) (RD.q rfl (q0d und3 rfl rfl rfl) ?_)
 refine RD.q rfl (q2i rfl rfl (qs0 _ (by decide)) rfl) ?_
 repeat refine RD.mv rfl rfl rfl rfl ?_
 refine RD.q rfl (q0h rfl rfl (q09 (cI .i64) und33 (q03 inf3) (q16 .i64) h25 rfl)) (RD.q rfl (q0d und3 rfl rfl rfl) ?_)
 refine RD.q rfl (q2i rfl rfl (qs0 _ (by decide)) rfl) ?_
 refine RD.q rfl (q0h rfl rfl (qti und103 (q03 inf191) rfl h28)) (RD.q (u:=.int .u64 x27) rfl (qze (cI .u64) (fun x=>.int .u64 x) und191 rfl (fun _=>rfl) rfl rfl h28) ?_)
 repeat refine RD.mv rfl rfl rfl rfl ?_
 refine RD.q rfl (q0h rfl rfl (q09 (cI .i64) und33 (q03 inf3) (q16 .i64) h30 rfl)) (RD.q rfl (q0d und3 rfl rfl rfl) ?_)
 refine RD.q rfl (q2i rfl rfl (qzd _ (by decide)) rfl) ?_
 refine RD.q (u:=.int .u64 (IntKind.u64.wrap (x29.tmod 64))) rfl (qw1 rfl rfl (by simp only [qqr,und3,und190]<;>rfl) rfl) ?_
 refine RD.q rfl (q2i rfl rfl (ix_shl _ h32) rfl) (RD.q rfl (q2i rfl rfl (ix_or _ _ _) rfl) (RD.q rfl (q0h rfl rfl (qti und103 (q03 inf191) rfl h34)) ?_))
 refine z1l (u:=.junk) (σ':=⟨[(0,.row (List.map (cI .u64) (l7.set (IntKind.i64.wrap (x21.tdiv 64)).toNat (orI .u64 x27 (IntKind.u64.wrap (1*(2 ^ (min (IntKind.u64.wrap (x29.tmod 64)).toNat IntKind.u64.bits))))))).flatten 191)],1⟩) rfl (qyl (cI .u64) (q03 inf191) (q16 .u64) rfl rfl rfl rfl rfl rfl h34 rfl) rfl ?_
 refine RD.done ⟨by kernel_rfl,trivial,?_⟩
 refine go ?_
 exact lC ⟨_,(l7.set (IntKind.i64.wrap (x21.tdiv 64)).toNat (orI .u64 x27 (IntKind.u64.wrap (1*(2 ^ (min (IntKind.u64.wrap (x29.tmod 64)).toNat IntKind.u64.bits)))))),hF,rfl,rfl⟩
 obtain ⟨x13,h14,h19⟩:=q00 h19
 rcases gB h19 with ⟨h15,h19⟩ | ⟨h15,h19⟩
 obtain rfl:=sI h19
 refine go ?_
 refine RS.q rfl (q0h rfl rfl (q09 (cI .i64) und33 (q03 inf3) (q16 .i64) h14 rfl)) (RS.q rfl (q0d und3 rfl rfl rfl) ?_)
 refine go ?_
 exact xC ⟨rfl,rfl⟩
 obtain ⟨x16,h17,h19⟩:=q00 h19
 obtain rfl:=sI h19
 refine go ?_
 refine RS.q rfl (q0h rfl rfl (q09 (cI .i64) und33 (q03 inf3) (q16 .i64) h14 rfl)) (RS.q rfl (q0d und3 rfl rfl rfl) ?_)
 refine go ?_
 refine RS.w rfl (q0h rfl rfl (q09 (cI .i64) und33 (q03 inf3) (q16 .i64) h17 rfl)) (RS.w rfl (q0d und3 rfl rfl rfl) ?_)
 refine go ?_
 exact xC ⟨rfl,rfl⟩
 refine go ?_
 exact xC ⟨l7,hF,rfl,rfl⟩
def q96 (z11:Int) (rc1:Int→(List Int)→Option ((List Int))) (l24:List Int):Option ((List Int)) :=
 rc1 (IntKind.i64.wrap (z11+1)) l24
def qd1 (n:Nat) (l14:List Int):Option ((List Int)) :=
 q04 (qnx n l14) fun r16 =>
 some r16.1
def q4w (p2:List (List UInt8)) (n:Nat) (r4:(List (List UInt8))):Nat→Int→(List Int)→Option ((List Int))
 | 0,_,_=>none
 | m1+1,z11,l12 =>
  cond (decide (z11<(p2.length:Int)))
   (q04 (q12 p2 z11) fun x19 =>
   q04 (q2u n r4 x19) fun r21 =>
   cond r21
    (q1e ((l12.length+1)*8≤140737488355328∧l12.length+1≤140737488355328) (
    q96 z11 (q4w p2 n r4 m1) (l12++[z11])))
    (q96 z11 (q4w p2 n r4 m1) l12))
   (qd1 n l12)
def qik (n:Nat) (p1:List q05) (p2:List (List UInt8)) (p3:List UInt8):Option ((List Int)) :=
 q04 (qg2 n p1 p3) fun r4 =>
 q4w p2 n r4 n 0 ([]:List Int)
theorem qpw (n:Nat) (p1:List q05) (p2:List (List UInt8)) (p3:List UInt8) (r:(List Int)) (hF:qik n p1 p2 p3=some r):EvU Tryz.prog 96 [.isl false (List.map q02 p1),.isl false (List.map cS p2),.str p3] ⟨[],0⟩ (fun u _=>u = .isl false (List.map (cI .u64) r)∧Bel 0 u):=by
 unfold qik at hF
 refine bg3 37 fn96 ?_
 obtain ⟨r4,h5,hF⟩:=q00 hF
 refine go ?_
 refine RS.cl rfl (pC (qnz n p1 p3 r4 h5) _) fn125 ?_
 refine gr ?_
 refine gr ?_
 refine WPU.ghost (tm':=fr 37 [(1,.iM cS p2),(7,.iM cS r4),(8,.vl 0 0 0 (([]:List Int).length)),(9,.i6 0)]) (σ':=⟨[(0,.vec (List.map (cI .i64) ([]:List Int)).flatten 3 1 0)],1⟩) (Gh.trans (z1h 8 3 1 (by decide) NZ rfl rfl) (z1g ⟨rfl,rfl,rfl,rfl,trivial⟩ rfl)) NZ ?_
 refine gS (l':=[(1,_),(7,_),(8,_),(9,_)]) ?_
 refine z1b (fun m tm σ=>∃ z11:Int,∃ l12:List Int,∃ t13:Nat,q4w p2 n r4 m z11 l12=some r∧tm=fr 37 [(1,.iM cS p2),(7,.iM cS r4),(8,.vl 0 t13 0 l12.length),(9,.i6 z11)]∧σ=⟨[(0,.vec (List.map (cI .i64) l12).flatten 3 1 t13)],1⟩) (fun tm σ=>∃ l14:List Int,∃ t15:Nat,qd1 n l14=some r∧tm=fr 37 [(8,.vl 0 t15 0 l14.length)]∧σ=⟨[(0,.vec (List.map (cI .i64) l14).flatten 3 1 t15)],1⟩) n ⟨0,([]:List Int),0,hF,rfl,rfl⟩ ?_ ?_
 rintro _ _ ⟨l14,t15,hF,rfl,rfl⟩
 unfold qd1 at hF
 refine gn ?_
 refine WPU.ghost (tm':=fr 37 [(8,.iM (cI .i64) l14)]) (σ':=⟨[],1⟩) (Gh.trans (Gh.sub (l':=[(8,.vl 0 t15 0 l14.length)]) ⟨rfl,trivial⟩) (z1p 0 1)) NZ ?_
 obtain ⟨r16,h17,hF⟩:=q00 hF
 refine go ?_
 refine RS.cl rfl (pC (qtr n l14 r16 h17) _) fn127 ?_
 exact gx hF
 rintro (_|m1) _ _ ⟨z11,l12,t13,hF,rfl,rfl⟩
 cases hF
 unfold q4w at hF
 refine go ?_
 refine RS.q rfl (q0b rfl rfl rfl (q07 cS und80)) ?_
 refine go ?_
 refine cF hF (fun h18 hF=>?_) (fun h18 hF=>?_)
 refine go ?_
 refine WPU.block ?_
 obtain ⟨x19,h20,hF⟩:=q00 hF
 obtain ⟨r21,h22,hF⟩:=q00 hF
 refine go ?_
 refine RS.q rfl (q0h rfl rfl (q09 cS und80 (q03 inf9) q1k h20 rfl)) (RS.q rfl (q0d und9 rfl rfl rfl) (RS.cl rfl (pC (q24 n r4 x19 r21 h22) _) fn126 ?_))
 refine gn ?_
 refine z1c (fun tm σ=>∃ l24:List Int,∃ t25:Nat,q96 z11 (q4w p2 n r4 m1) l24=some r∧tm=fr 37 [(1,.iM cS p2),(7,.iM cS r4),(8,.vl 0 t25 0 l24.length),(9,.i6 z11)]∧σ=⟨[(0,.vec (List.map (cI .i64) l24).flatten 3 1 t25)],1⟩) ?_ ?_
 rintro _ _ ⟨l24,t25,hF,rfl,rfl⟩
 unfold q96 at hF
 refine go ?_
 exact lC ⟨_,l24,t25,hF,rfl,rfl⟩
 refine cF hF (fun h23 hF=>?_) (fun h23 hF=>?_)
 obtain ⟨h26,hF⟩:=q0a hF
 refine go ?_
 refine RS.q (u:=.sl 1 0 1 1) (σ':=⟨[(1,.row [.i6 z11] 3),(0,.vec (List.map (cI .i64) l12).flatten 3 1 t13)],2⟩) rfl (q0j und33 inf3 rfl rfl rfl rfl rfl rfl rfl) (RS.q (u:=.vl 0 (t13+1) 0 ((l12++[z11]).length)) (σ':=⟨[(1,.row [.i6 z11] 3),(0,.vec (List.map (cI .i64) (l12++[z11])).flatten 3 1 (t13+1))],2⟩) rfl (q1l rfl rfl rfl rfl (q1s (cI .i64) ([z11]) und33 und33 inf3 rfl (q16 .i64) rfl (q1i (cI .i64) [z11] rfl rfl rfl rfl) h26)) ?_)
 refine go ?_
 exact xC ⟨(l12++[z11]),(t13+1),hF,rfl,rfl⟩
 refine go ?_
 exact xC ⟨l12,t13,hF,rfl,rfl⟩
 refine go ?_
 exact xC ⟨l12,t13,hF,rfl,rfl⟩
def qex (n:Nat) (p1:List Int) (p2:Int):Option (Int) :=
 cond (decide (p2<(p1.length:Int)))
  (q04 (q12 p1 p2) fun x4 =>
  some x4)
  (some 0)
theorem qj5 (n:Nat) (p1:List Int) (p2:Int) (r:Int) (hF:qex n p1 p2=some r):EvU Tryz.prog 146 [.isl false (List.map (cI .u64) p1),.int .i64 p2] ⟨[],0⟩ (fun u _=>u = .int .u64 r∧Bel 0 u):=by
 unfold qex at hF
 refine bg2 13 fn146 ?_
 refine go ?_
 refine RS.q rfl (q0b rfl rfl rfl (q07 (cI .u64) und103)) ?_
 refine go ?_
 refine cF hF (fun h3 hF=>?_) (fun h3 hF=>?_)
 obtain ⟨x4,h5,hF⟩:=q00 hF
 refine go ?_
 refine RS.q rfl (q0h rfl rfl (q09 (cI .u64) und103 (q03 inf191) (q16 .u64) h5 rfl)) (RS.q rfl (q0d und191 rfl rfl rfl) ?_)
 exact gx hF
 exact gx hF
def qe5 (n:Nat) (l11:List Int):Option ((List Int)) :=
 q04 (q5w n l11) fun r13 =>
 some r13
def qan (p1:List Int) (p2:List Int) (n:Nat):Nat→Int→(List Int)→Option ((List Int))
 | 0,_,_=>none
 | m1+1,z8,l9 =>
  cond (decide (z8<(p1.length:Int)))
   (q04 (q12 p1 z8) fun x16 =>
   q04 (qex n p2 z8) fun r18 =>
   q1e ((l9.length+1)*8≤140737488355328∧l9.length+1≤140737488355328) (
   (qan p1 p2 n m1) (IntKind.i64.wrap (z8+1)) (l9++[(qu6 .u64 x16 r18)])))
   (qe5 n l9)
def qh8 (n:Nat) (p1:List Int) (p2:List Int):Option ((List Int)) :=
 qan p1 p2 n n 0 ([]:List Int)
theorem qlb (n:Nat) (p1:List Int) (p2:List Int) (r:(List Int)) (hF:qh8 n p1 p2=some r):EvU Tryz.prog 118 [.isl false (List.map (cI .u64) p1),.isl false (List.map (cI .u64) p2)] ⟨[],0⟩ (fun u _=>u = .isl false (List.map (cI .u64) r)∧Bel 0 u):=by
 unfold qh8 at hF
 refine bg2 26 fn118 ?_
 refine gr ?_
 refine gr ?_
 refine gr ?_
 refine WPU.ghost (tm':=fr 26 [(0,.iM (cI .u64) p1),(1,.iM (cI .u64) p2),(5,.vl 0 0 0 (([]:List Int).length)),(6,.i6 0)]) (σ':=⟨[(0,.vec (List.map (cI .u64) ([]:List Int)).flatten 191 1 0)],1⟩) (Gh.trans (z1h 5 191 1 (by decide) NZ rfl rfl) (z1g ⟨rfl,rfl,rfl,rfl,trivial⟩ rfl)) NZ ?_
 refine gS (l':=[(0,_),(1,_),(5,_),(6,_)]) ?_
 refine z1b (fun m tm σ=>∃ z8:Int,∃ l9:List Int,∃ t10:Nat,qan p1 p2 n m z8 l9=some r∧tm=fr 26 [(0,.iM (cI .u64) p1),(1,.iM (cI .u64) p2),(5,.vl 0 t10 0 l9.length),(6,.i6 z8)]∧σ=⟨[(0,.vec (List.map (cI .u64) l9).flatten 191 1 t10)],1⟩) (fun tm σ=>∃ l11:List Int,∃ t12:Nat,qe5 n l11=some r∧tm=fr 26 [(5,.vl 0 t12 0 l11.length)]∧σ=⟨[(0,.vec (List.map (cI .u64) l11).flatten 191 1 t12)],1⟩) n ⟨0,([]:List Int),0,hF,rfl,rfl⟩ ?_ ?_
 rintro _ _ ⟨l11,t12,hF,rfl,rfl⟩
 unfold qe5 at hF
 refine gn ?_
 refine WPU.ghost (tm':=fr 26 [(5,.iM (cI .u64) l11)]) (σ':=⟨[],1⟩) (Gh.trans (Gh.sub (l':=[(5,.vl 0 t12 0 l11.length)]) ⟨rfl,trivial⟩) (z1p 0 1)) NZ ?_
 obtain ⟨r13,h14,hF⟩:=q00 hF
 refine go ?_
 refine RS.cl rfl (pC (q7e n l11 r13 h14) _) fn119 ?_
 exact gx hF
 rintro (_|m1) _ _ ⟨z8,l9,t10,hF,rfl,rfl⟩
 cases hF
 unfold qan at hF
 refine go ?_
 refine RS.q rfl (q0b rfl rfl rfl (q07 (cI .u64) und103)) ?_
 refine go ?_
 refine cF hF (fun h15 hF=>?_) (fun h15 hF=>?_)
 refine go ?_
 refine WPU.block ?_
 obtain ⟨x16,h17,hF⟩:=q00 hF
 obtain ⟨r18,h19,hF⟩:=q00 hF
 obtain ⟨h20,hF⟩:=q0a hF
 refine go ?_
 refine z1d Tryz.tb_ok [(0,9)] (by kernel_rfl) ?_
 repeat refine RD.mv rfl rfl rfl rfl ?_
 refine RD.q rfl (q0h rfl rfl (q09 (cI .u64) und103 (q03 inf191) (q16 .u64) h17 rfl)) (RD.q rfl (q0d und191 rfl rfl rfl) ?_)
 repeat refine RD.mv rfl rfl rfl rfl ?_
 refine RD.fl rfl (pC (qj5 n p2 z8 r18 h19)) fn146 (RD.q rfl (q2i rfl rfl (qzb _ _ _) rfl) (RD.act (u:=.sl 1 0 1 1) (σ':=⟨[(1,.row [.int .u64 (qu6 .u64 x16 r18)] 191),(0,.vec (List.map (cI .u64) l9).flatten 191 1 t10)],2⟩) rfl (q0j und103 inf191 rfl rfl rfl rfl rfl rfl rfl) rfl rfl (RD.act (u:=.vl 0 (t10+1) 0 ((l9++[(qu6 .u64 x16 r18)]).length)) (σ':=⟨[(1,.row [.int .u64 (qu6 .u64 x16 r18)] 191),(0,.vec (List.map (cI .u64) (l9++[(qu6 .u64 x16 r18)])).flatten 191 1 (t10+1))],2⟩) rfl (q1l rfl rfl rfl rfl (q1s (cI .u64) ([(qu6 .u64 x16 r18)]) und103 und103 inf191 rfl (q16 .u64) rfl (q1i (cI .u64) [(qu6 .u64 x16 r18)] rfl rfl rfl rfl) h20)) rfl rfl (RD.as rfl rfl rfl rfl ?_))))
 refine RD.done ⟨by kernel_rfl,⟨q1u rfl,trivial⟩,?_⟩
 refine go ?_
 exact lC ⟨_,(l9++[(qu6 .u64 x16 r18)]),(t10+1),hF,rfl,rfl⟩
 refine go ?_
 exact xC ⟨l9,t10,hF,rfl,rfl⟩
def qcx   : Option (Bool) :=
 some true
def q91 (p1:List Int) (p2:List Int):Nat→Int→Option (Bool)
 | 0,_=>none
 | m1+1,z7 =>
  cond (decide (z7<(p1.length:Int)))
   (q04 (q12 p1 z7) fun x9 =>
   q04 (q12 p2 z7) fun x11 =>
   cond (x9 != x11)
    (some false)
    ((q91 p1 p2 m1) (IntKind.i64.wrap (z7+1))))
   (qcx)
def qew (n:Nat) (p1:List Int) (p2:List Int):Option (Bool) :=
 cond ((p1.length:Int) != (p2.length:Int))
  (some false)
  (q91 p1 p2 n 0)
theorem qj4 (n:Nat) (p1:List Int) (p2:List Int) (r:Bool) (hF:qew n p1 p2=some r):EvU Tryz.prog 120 [.isl false (List.map (cI .u64) p1),.isl false (List.map (cI .u64) p2)] ⟨[],0⟩ (fun u _=>u = .bool r∧Bel 0 u):=by
 unfold qew at hF
 refine bg2 26 fn120 ?_
 refine go ?_
 refine RS.q rfl (q0b rfl rfl rfl (q07 (cI .u64) und103)) ?_
 refine go ?_
 refine RS.q rfl (q0b rfl rfl rfl (q07 (cI .u64) und103)) ?_
 refine go ?_
 refine cF hF (fun h3 hF=>?_) (fun h3 hF=>?_)
 exact gx hF
 refine go ?_
 refine gS (l':=[(0,_),(1,_),(5,_)]) ?_
 refine z1b (fun m tm σ=>∃ z7:Int,q91 p1 p2 m z7=some r∧tm=fr 26 [(0,.iM (cI .u64) p1),(1,.iM (cI .u64) p2),(5,.i6 z7)]∧σ=⟨[],0⟩) (fun tm σ=>qcx=some r∧tm=fr 26 []∧σ=⟨[],0⟩) n ⟨0,hF,rfl,rfl⟩ ?_ ?_
 rintro _ _ ⟨hF,rfl,rfl⟩
 unfold qcx at hF
 exact gx hF
 rintro (_|m1) _ _ ⟨z7,hF,rfl,rfl⟩
 cases hF
 unfold q91 at hF
 refine go ?_
 refine RS.q rfl (q0b rfl rfl rfl (q07 (cI .u64) und103)) ?_
 refine go ?_
 refine cF hF (fun h8 hF=>?_) (fun h8 hF=>?_)
 refine go ?_
 refine WPU.block ?_
 obtain ⟨x9,h10,hF⟩:=q00 hF
 obtain ⟨x11,h12,hF⟩:=q00 hF
 refine go ?_
 refine z1d Tryz.tb_ok [] (by kernel_rfl) ?_
 repeat refine RD.mv rfl rfl rfl rfl ?_
 refine RD.q rfl (q0h rfl rfl (q09 (cI .u64) und103 (q03 inf191) (q16 .u64) h10 rfl)) (RD.q rfl (q0d und191 rfl rfl rfl) ?_)
 repeat refine RD.mv rfl rfl rfl rfl ?_
 refine RD.q rfl (q0h rfl rfl (q09 (cI .u64) und103 (q03 inf191) (q16 .u64) h12 rfl)) (RD.q rfl (q0d und191 rfl rfl rfl) (RD.q rfl (q2i rfl rfl (qpb _ _ _) rfl) ?_))
 refine RD.done ⟨by kernel_rfl,trivial,?_⟩
 refine go ?_
 refine cF hF (fun h13 hF=>?_) (fun h13 hF=>?_)
 exact gx hF
 refine go ?_
 exact lC ⟨_,hF,rfl,rfl⟩
 refine go ?_
 exact xC ⟨hF,rfl,rfl⟩
def qg7   : Option (Bool) :=
 some false
def qd2 (p1:List (List Int)) (p2:List Int) (n:Nat):Nat→Int→Option (Bool)
 | 0,_=>none
 | m1+1,z6 =>
  cond (decide (z6<(p1.length:Int)))
   (q04 (q12 p1 z6) fun x8 =>
   q04 (qew n x8 p2) fun r10 =>
   cond r10
    (some true)
    ((qd2 p1 p2 n m1) (IntKind.i64.wrap (z6+1))))
   (qg7)
def qo4 (n:Nat) (p1:List (List Int)) (p2:List Int):Option (Bool) :=
 qd2 p1 p2 n n 0
theorem qts (n:Nat) (p1:List (List Int)) (p2:List Int) (r:Bool) (hF:qo4 n p1 p2=some r):EvU Tryz.prog 128 [.isl false (List.map (cL (cI .u64)) p1),.isl false (List.map (cI .u64) p2)] ⟨[],0⟩ (fun u _=>u = .bool r∧Bel 0 u):=by
 unfold qo4 at hF
 refine bg2 18 fn128 ?_
 refine go ?_
 refine gS (l':=[(0,_),(1,_),(5,_)]) ?_
 refine z1b (fun m tm σ=>∃ z6:Int,qd2 p1 p2 n m z6=some r∧tm=fr 18 [(0,.iM (cL (cI .u64)) p1),(1,.iM (cI .u64) p2),(5,.i6 z6)]∧σ=⟨[],0⟩) (fun tm σ=>qg7=some r∧tm=fr 18 []∧σ=⟨[],0⟩) n ⟨0,hF,rfl,rfl⟩ ?_ ?_
 rintro _ _ ⟨hF,rfl,rfl⟩
 unfold qg7 at hF
 exact gx hF
 rintro (_|m1) _ _ ⟨z6,hF,rfl,rfl⟩
 cases hF
 unfold qd2 at hF
 refine go ?_
 refine RS.q rfl (q0b rfl rfl rfl (q07 (cL (cI .u64)) und148)) ?_
 refine go ?_
 refine cF hF (fun h7 hF=>?_) (fun h7 hF=>?_)
 refine go ?_
 refine WPU.block ?_
 obtain ⟨x8,h9,hF⟩:=q00 hF
 obtain ⟨r10,h11,hF⟩:=q00 hF
 refine go ?_
 refine RS.q rfl (q0h rfl rfl (q09 (cL (cI .u64)) und148 (q03 inf103) (q3v (cI .u64)) h9 rfl)) (RS.q rfl (q0d und103 rfl rfl rfl) ?_)
 refine go ?_
 refine RS.cl rfl (pC (qj4 n x8 p2 r10 h11) _) fn120 ?_
 refine go ?_
 refine cF hF (fun h12 hF=>?_) (fun h12 hF=>?_)
 exact gx hF
 refine go ?_
 exact lC ⟨_,hF,rfl,rfl⟩
 refine go ?_
 exact xC ⟨hF,rfl,rfl⟩
def q6g (z19:Int) (rc2:Int→(List (List Int))→Option ((List (List Int)))) (l40:List (List Int)):Option ((List (List Int))) :=
 rc2 (IntKind.i64.wrap (z19+1)) l40
def q9y (z6:Int) (rc1:Int→(List (List Int))→Option ((List (List Int)))) (l22:List (List Int)):Option ((List (List Int))) :=
 rc1 (IntKind.i64.wrap (z6+1)) l22
def q3l (n:Nat) (z6:Int) (rc1:Int→(List (List Int))→Option ((List (List Int)))):Nat→Int→(List (List Int))→Option ((List (List Int)))
 | 0,_,_=>none
 | m2+1,z19,l20 =>
  q04 (cond (decide (z19<z6))
   (some (decide ((l20.length:Int)≤256)))
   (some false)) fun b25 =>
  cond b25
   (q04 (q12 l20 z6) fun x28 =>
   q04 (q12 l20 z19) fun x30 =>
   q04 (qh8 n x28 x30) fun r32 =>
   q04 (cond (decide ((r32.length:Int) > 0))
    (q04 (qo4 n l20 r32) fun r35 =>
    some (!r35))
    (some false)) fun b37 =>
   cond b37
    (q1e ((l20.length+1)*24≤140737488355328∧l20.length+1≤140737488355328) (
    q6g z19 (q3l n z6 rc1 m2) (l20++[r32])))
    (q6g z19 (q3l n z6 rc1 m2) l20))
   (q9y z6 rc1 l20)
def q9x  (l9:List (List Int)):Option ((List (List Int))) :=
 some l9
def q2w (n:Nat):Nat→Int→(List (List Int))→Option ((List (List Int)))
 | 0,_,_=>none
 | m1+1,z6,l7 =>
  q04 (cond (decide (z6<(l7.length:Int)))
   (some (decide ((l7.length:Int)≤256)))
   (some false)) fun b12 =>
  cond b12
   (q3l n z6 (q2w n m1) n 0 l7)
   (q9x l7)
def qec (n:Nat) (p1:List (List Int)):Option ((List (List Int))) :=
 q1e (p1.length*24≤140737488355328∧p1.length≤140737488355328) (
 q2w n n 0 p1)
theorem qm9 (n:Nat) (p1:List (List Int)) (r:(List (List Int))) (hF:qec n p1=some r):EvU Tryz.prog 97 [.isl false (List.map (cL (cI .u64)) p1)] ⟨[],0⟩ (fun u _=>u = .isl false (List.map (cL (cI .u64)) r)∧Bel 0 u):=by
 unfold qec at hF
 refine bg1 54 fn97 ?_
 obtain ⟨h2,hF⟩:=q0a hF
 refine go ?_
 refine RS.q (u:=.sl 0 0 0 0) (σ':=⟨[(0,.row [] 103)],1⟩) rfl (q0j und148 inf103 rfl rfl rfl rfl rfl rfl rfl) ?_
 refine go ?_
 refine RS.q (u:=.vl 1 0 0 p1.length) (σ':=⟨[(1,.vec (List.map (cL (cI .u64)) p1).flatten 103 1 0),(0,.row [] 103)],2⟩) rfl (q1l rfl rfl rfl rfl (qql (cL (cI .u64)) p1 und148 und148 inf103 rfl rfl rfl (qgb (cL (cI .u64)) (q3v (cI .u64))) h2)) ?_
 refine go ?_
 refine gS (l':=[(3,_),(4,_)]) ?_
 refine z1b (fun m tm σ=>∃ z6:Int,∃ l7:List (List Int),∃ t8:Nat,q2w n m z6 l7=some r∧tm=fr 54 [(3,.vl 1 t8 0 l7.length),(4,.i6 z6)]∧σ=⟨[(1,.vec (List.map (cL (cI .u64)) l7).flatten 103 1 t8),(0,.row [] 103)],2⟩) (fun tm σ=>∃ l9:List (List Int),∃ t10:Nat,q9x l9=some r∧tm=fr 54 [(3,.vl 1 t10 0 l9.length)]∧σ=⟨[(1,.vec (List.map (cL (cI .u64)) l9).flatten 103 1 t10),(0,.row [] 103)],2⟩) n ⟨0,p1,0,hF,rfl,rfl⟩ ?_ ?_
 rintro _ _ ⟨l9,t10,hF,rfl,rfl⟩
 unfold q9x at hF
 refine go ?_
 obtain rfl:=sI hF
 exact rT (us:=[.vl 1 t10 0 l9.length]) (u:=.iM (cL (cI .u64)) l9) (q2k rfl (q33)) (fR 1 1)
 rintro (_|m1) _ _ ⟨z6,l7,t8,hF,rfl,rfl⟩
 cases hF
 unfold q2w at hF
 obtain ⟨b12,h13,hF⟩:=q00 hF
 refine gn ?_
 refine z1c (fun tm σ=>tm=fr 54 [(3,.vl 1 t8 0 l7.length),(4,.i6 z6),(18,.bool b12)]∧σ=⟨[(1,.vec (List.map (cL (cI .u64)) l7).flatten 103 1 t8),(0,.row [] 103)],2⟩) ?_ ?_
 rintro _ _ ⟨rfl,rfl⟩
 refine go ?_
 refine cF hF (fun h14 hF=>?_) (fun h14 hF=>?_)
 refine go ?_
 refine WPU.block ?_
 refine go ?_
 refine gS (l':=[(3,_),(4,_),(5,_)]) ?_
 refine z1b (fun m tm σ=>∃ z19:Int,∃ l20:List (List Int),∃ t21:Nat,q3l n z6 (q2w n m1) m z19 l20=some r∧tm=fr 54 [(3,.vl 1 t21 0 l20.length),(4,.i6 z6),(5,.i6 z19)]∧σ=⟨[(1,.vec (List.map (cL (cI .u64)) l20).flatten 103 1 t21),(0,.row [] 103)],2⟩) (fun tm σ=>∃ l22:List (List Int),∃ t23:Nat,q9y z6 (q2w n m1) l22=some r∧tm=fr 54 [(3,.vl 1 t23 0 l22.length),(4,.i6 z6)]∧σ=⟨[(1,.vec (List.map (cL (cI .u64)) l22).flatten 103 1 t23),(0,.row [] 103)],2⟩) n ⟨0,l7,t8,hF,rfl,rfl⟩ ?_ ?_
 rintro _ _ ⟨l22,t23,hF,rfl,rfl⟩
 unfold q9y at hF
 refine go ?_
 exact lC ⟨_,l22,t23,hF,rfl,rfl⟩
 rintro (_|m2) _ _ ⟨z19,l20,t21,hF,rfl,rfl⟩
 cases hF
 unfold q3l at hF
 obtain ⟨b25,h26,hF⟩:=q00 hF
 refine gn ?_
 refine z1c (fun tm σ=>tm=fr 54 [(3,.vl 1 t21 0 l20.length),(4,.i6 z6),(5,.i6 z19),(28,.bool b25)]∧σ=⟨[(1,.vec (List.map (cL (cI .u64)) l20).flatten 103 1 t21),(0,.row [] 103)],2⟩) ?_ ?_
 rintro _ _ ⟨rfl,rfl⟩
 refine go ?_
 refine cF hF (fun h27 hF=>?_) (fun h27 hF=>?_)
 refine go ?_
 refine WPU.block ?_
 obtain ⟨x28,h29,hF⟩:=q00 hF
 obtain ⟨x30,h31,hF⟩:=q00 hF
 obtain ⟨r32,h33,hF⟩:=q00 hF
 refine go ?_
 refine z1d Tryz.tb_ok [] (by kernel_rfl) ?_
 repeat refine RD.mv rfl rfl rfl rfl ?_
 refine RD.q rfl (q0h rfl rfl (qa6 (cL (cI .u64)) und148 (q03 inf103) (by decide) (q3v (cI .u64)) (vo rfl) h29)) ?_
 refine RD.q rfl (q5n (cL (cI .u64)) (fun x=>.iM (cI .u64) x) und103 rfl (fun _=>rfl) rfl rfl h29) ?_
 repeat refine RD.mv rfl rfl rfl rfl ?_
 refine RD.q rfl (q0h rfl rfl (qa6 (cL (cI .u64)) und148 (q03 inf103) (by decide) (q3v (cI .u64)) (vo rfl) h31)) ?_
 refine RD.q rfl (q5n (cL (cI .u64)) (fun x=>.iM (cI .u64) x) und103 rfl (fun _=>rfl) rfl rfl h31) (RD.fl rfl (pC (qlb n x28 x30 r32 h33)) fn118 (RD.as rfl rfl rfl rfl ?_))
 refine RD.done ⟨by kernel_rfl,trivial,?_⟩
 obtain ⟨b37,h38,hF⟩:=q00 hF
 refine gn ?_
 refine z1c (fun tm σ=>tm=fr 54 [(3,.vl 1 t21 0 l20.length),(4,.i6 z6),(5,.i6 z19),(6,.iM (cI .u64) r32),(48,.bool b37)]∧σ=⟨[(1,.vec (List.map (cL (cI .u64)) l20).flatten 103 1 t21),(0,.row [] 103)],2⟩) ?_ ?_
 rintro _ _ ⟨rfl,rfl⟩
 refine gn ?_
 refine z1c (fun tm σ=>∃ l40:List (List Int),∃ t41:Nat,q6g z19 (q3l n z6 (q2w n m1) m2) l40=some r∧tm=fr 54 [(3,.vl 1 t41 0 l40.length),(4,.i6 z6),(5,.i6 z19)]∧σ=⟨[(1,.vec (List.map (cL (cI .u64)) l40).flatten 103 1 t41),(0,.row [] 103)],2⟩) ?_ ?_
 rintro _ _ ⟨l40,t41,hF,rfl,rfl⟩
 unfold q6g at hF
 refine go ?_
 exact lC ⟨_,l40,t41,hF,rfl,rfl⟩
 refine cF hF (fun h39 hF=>?_) (fun h39 hF=>?_)
 obtain ⟨h42,hF⟩:=q0a hF
 refine go ?_
 refine RS.q (u:=.sl 2 0 1 1) (σ':=⟨[(2,.row [.iM (cI .u64) r32] 103),(1,.vec (List.map (cL (cI .u64)) l20).flatten 103 1 t21),(0,.row [] 103)],3⟩) rfl (q0j und148 inf103 rfl rfl rfl rfl rfl rfl rfl) (RS.q (u:=.vl 1 (t21+1) 0 ((l20++[r32]).length)) (σ':=⟨[(2,.row [.iM (cI .u64) r32] 103),(1,.vec (List.map (cL (cI .u64)) (l20++[r32])).flatten 103 1 (t21+1)),(0,.row [] 103)],3⟩) rfl (q1l rfl rfl rfl rfl (q1s (cL (cI .u64)) ([r32]) und148 und148 inf103 rfl (q3v (cI .u64)) rfl (q1i (cL (cI .u64)) [r32] rfl rfl rfl rfl) h42)) ?_)
 refine go ?_
 exact xC ⟨(l20++[r32]),(t21+1),hF,rfl,rfl⟩
 refine go ?_
 exact xC ⟨l20,t21,hF,rfl,rfl⟩
 rcases gB h38 with ⟨h34,h38⟩ | ⟨h34,h38⟩
 obtain ⟨r35,h36,h38⟩:=q00 h38
 obtain rfl:=sI h38
 refine go ?_
 refine RS.q rfl (q0b rfl rfl rfl (q07 (cI .u64) und103)) ?_
 refine go ?_
 refine RS.cl rfl (vw (qts n l20 r32 r35 h36) (z1e 1 1)) fn128 ?_
 refine go ?_
 exact xC ⟨rfl,rfl⟩
 obtain rfl:=sI h38
 refine go ?_
 refine RS.q rfl (q0b rfl rfl rfl (q07 (cI .u64) und103)) ?_
 refine go ?_
 exact xC ⟨rfl,rfl⟩
 refine go ?_
 exact xC ⟨l20,t21,hF,rfl,rfl⟩
 rcases gB h26 with ⟨h24,h26⟩ | ⟨h24,h26⟩
 obtain rfl:=sI h26
 refine go ?_
 refine RS.w rfl (q0b rfl rfl rfl (q9o und148 rfl)) ?_
 refine go ?_
 exact xC ⟨rfl,rfl⟩
 exact gy h26
 refine go ?_
 exact xC ⟨l7,t8,hF,rfl,rfl⟩
 rcases gB h13 with ⟨h11,h13⟩ | ⟨h11,h13⟩
 obtain rfl:=sI h13
 refine go ?_
 refine RS.q rfl (q0b rfl rfl rfl (q9o und148 rfl)) ?_
 refine go ?_
 refine RS.w rfl (q0b rfl rfl rfl (q9o und148 rfl)) ?_
 refine go ?_
 exact xC ⟨rfl,rfl⟩
 obtain rfl:=sI h13
 refine go ?_
 refine RS.q rfl (q0b rfl rfl rfl (q9o und148 rfl)) ?_
 refine go ?_
 exact xC ⟨rfl,rfl⟩
def qaz (n:Nat) (l11:List Int):Option ((List Int)) :=
 q04 (q5w n l11) fun r13 =>
 some r13
def q7d (p1:List Int) (p2:List Int) (n:Nat):Nat→Int→(List Int)→Option ((List Int))
 | 0,_,_=>none
 | m1+1,z8,l9 =>
  cond (decide (z8<(p1.length:Int)))
   (q04 (q12 p1 z8) fun x16 =>
   q04 (qex n p2 z8) fun r18 =>
   q1e ((l9.length+1)*8≤140737488355328∧l9.length+1≤140737488355328) (
   (q7d p1 p2 n m1) (IntKind.i64.wrap (z8+1)) (l9++[(qar .u64 x16 r18)])))
   (qaz n l9)
def qfz (n:Nat) (p1:List Int) (p2:List Int):Option ((List Int)) :=
 q7d p1 p2 n n 0 ([]:List Int)
theorem qnw (n:Nat) (p1:List Int) (p2:List Int) (r:(List Int)) (hF:qfz n p1 p2=some r):EvU Tryz.prog 153 [.isl false (List.map (cI .u64) p1),.isl false (List.map (cI .u64) p2)] ⟨[],0⟩ (fun u _=>u = .isl false (List.map (cI .u64) r)∧Bel 0 u):=by
 unfold qfz at hF
 refine bg2 26 fn153 ?_
 refine gr ?_
 refine gr ?_
 refine gr ?_
 refine WPU.ghost (tm':=fr 26 [(0,.iM (cI .u64) p1),(1,.iM (cI .u64) p2),(5,.vl 0 0 0 (([]:List Int).length)),(6,.i6 0)]) (σ':=⟨[(0,.vec (List.map (cI .u64) ([]:List Int)).flatten 191 1 0)],1⟩) (Gh.trans (z1h 5 191 1 (by decide) NZ rfl rfl) (z1g ⟨rfl,rfl,rfl,rfl,trivial⟩ rfl)) NZ ?_
 refine gS (l':=[(0,_),(1,_),(5,_),(6,_)]) ?_
 refine z1b (fun m tm σ=>∃ z8:Int,∃ l9:List Int,∃ t10:Nat,q7d p1 p2 n m z8 l9=some r∧tm=fr 26 [(0,.iM (cI .u64) p1),(1,.iM (cI .u64) p2),(5,.vl 0 t10 0 l9.length),(6,.i6 z8)]∧σ=⟨[(0,.vec (List.map (cI .u64) l9).flatten 191 1 t10)],1⟩) (fun tm σ=>∃ l11:List Int,∃ t12:Nat,qaz n l11=some r∧tm=fr 26 [(5,.vl 0 t12 0 l11.length)]∧σ=⟨[(0,.vec (List.map (cI .u64) l11).flatten 191 1 t12)],1⟩) n ⟨0,([]:List Int),0,hF,rfl,rfl⟩ ?_ ?_
 rintro _ _ ⟨l11,t12,hF,rfl,rfl⟩
 unfold qaz at hF
 refine gn ?_
 refine WPU.ghost (tm':=fr 26 [(5,.iM (cI .u64) l11)]) (σ':=⟨[],1⟩) (Gh.trans (Gh.sub (l':=[(5,.vl 0 t12 0 l11.length)]) ⟨rfl,trivial⟩) (z1p 0 1)) NZ ?_
 obtain ⟨r13,h14,hF⟩:=q00 hF
 refine go ?_
 refine RS.cl rfl (pC (q7e n l11 r13 h14) _) fn119 ?_
 exact gx hF
 rintro (_|m1) _ _ ⟨z8,l9,t10,hF,rfl,rfl⟩
 cases hF
 unfold q7d at hF
 refine go ?_
 refine RS.q rfl (q0b rfl rfl rfl (q07 (cI .u64) und103)) ?_
 refine go ?_
 refine cF hF (fun h15 hF=>?_) (fun h15 hF=>?_)
 refine go ?_
 refine WPU.block ?_
 obtain ⟨x16,h17,hF⟩:=q00 hF
 obtain ⟨r18,h19,hF⟩:=q00 hF
 obtain ⟨h20,hF⟩:=q0a hF
 refine go ?_
 refine z1d Tryz.tb_ok [(0,9)] (by kernel_rfl) ?_
 repeat refine RD.mv rfl rfl rfl rfl ?_
 refine RD.q rfl (q0h rfl rfl (q09 (cI .u64) und103 (q03 inf191) (q16 .u64) h17 rfl)) (RD.q rfl (q0d und191 rfl rfl rfl) ?_)
 repeat refine RD.mv rfl rfl rfl rfl ?_
 refine RD.fl rfl (pC (qj5 n p2 z8 r18 h19)) fn146 (RD.q rfl (q2i rfl rfl (qvh _ _ _) rfl) (RD.act (u:=.sl 1 0 1 1) (σ':=⟨[(1,.row [.int .u64 (qar .u64 x16 r18)] 191),(0,.vec (List.map (cI .u64) l9).flatten 191 1 t10)],2⟩) rfl (q0j und103 inf191 rfl rfl rfl rfl rfl rfl rfl) rfl rfl (RD.act (u:=.vl 0 (t10+1) 0 ((l9++[(qar .u64 x16 r18)]).length)) (σ':=⟨[(1,.row [.int .u64 (qar .u64 x16 r18)] 191),(0,.vec (List.map (cI .u64) (l9++[(qar .u64 x16 r18)])).flatten 191 1 (t10+1))],2⟩) rfl (q1l rfl rfl rfl rfl (q1s (cI .u64) ([(qar .u64 x16 r18)]) und103 und103 inf191 rfl (q16 .u64) rfl (q1i (cI .u64) [(qar .u64 x16 r18)] rfl rfl rfl rfl) h20)) rfl rfl (RD.as rfl rfl rfl rfl ?_))))
 refine RD.done ⟨by kernel_rfl,⟨q1u rfl,trivial⟩,?_⟩
 refine go ?_
 exact lC ⟨_,(l9++[(qar .u64 x16 r18)]),(t10+1),hF,rfl,rfl⟩
 refine go ?_
 exact xC ⟨l9,t10,hF,rfl,rfl⟩
def q87 (n:Nat) (p1:List Int) (p2:List Int):Option (Bool) :=
 q04 (qfz n p1 p2) fun r3 =>
 some ((r3.length:Int) == 0)
theorem q7g (n:Nat) (p1:List Int) (p2:List Int) (r:Bool) (hF:q87 n p1 p2=some r):EvU Tryz.prog 133 [.isl false (List.map (cI .u64) p1),.isl false (List.map (cI .u64) p2)] ⟨[],0⟩ (fun u _=>u = .bool r∧Bel 0 u):=by
 unfold q87 at hF
 refine bg2 10 fn133 ?_
 obtain ⟨r3,h4,hF⟩:=q00 hF
 refine go ?_
 refine RS.cl rfl (pC (qnw n p1 p2 r3 h4) _) fn153 (RS.q rfl (q0b rfl rfl rfl (q07 (cI .u64) und103)) ?_)
 exact gx hF
def qfy (n:Nat) (p1:List Int) (p2:List Int):Option (Bool) :=
 q04 (q04 (q87 n p1 p2) fun r3 =>
 cond r3
  (q04 (q87 n p2 p1) fun r6 =>
  some r6)
  (some false)) fun b8 =>
 some b8
theorem qnv (n:Nat) (p1:List Int) (p2:List Int) (r:Bool) (hF:qfy n p1 p2=some r):EvU Tryz.prog 129 [.isl false (List.map (cI .u64) p1),.isl false (List.map (cI .u64) p2)] ⟨[],0⟩ (fun u _=>u = .bool r∧Bel 0 u):=by
 unfold qfy at hF
 refine bg2 13 fn129 ?_
 obtain ⟨b8,h9,hF⟩:=q00 hF
 refine gr ?_
 refine z1c (fun tm σ=>tm=fr 13 [(4,.bool b8)]∧σ=⟨[],0⟩) ?_ ?_
 rintro _ _ ⟨rfl,rfl⟩
 exact gx hF
 obtain ⟨r3,h4,h9⟩:=q00 h9
 rcases gB h9 with ⟨h5,h9⟩ | ⟨h5,h9⟩
 obtain ⟨r6,h7,h9⟩:=q00 h9
 obtain rfl:=sI h9
 refine go ?_
 refine RS.cl rfl (pC (q7g n p1 p2 r3 h4) _) fn133 ?_
 refine go ?_
 refine RS.cl rfl (pC (q7g n p2 p1 r6 h7) _) fn133 ?_
 refine go ?_
 exact xC ⟨rfl,rfl⟩
 obtain rfl:=sI h9
 refine go ?_
 refine RS.cl rfl (pC (q7g n p1 p2 r3 h4) _) fn133 ?_
 refine go ?_
 exact xC ⟨rfl,rfl⟩
def qha (n:Nat) (p1:List Int) (p2:Int):Option (Bool) :=
 q04 (cond (decide (p2<0))
  (some true)
  (some (decide ((IntKind.i64.wrap (p2.tdiv 64)) ≥ (p1.length:Int))))) fun b5 =>
 cond b5
  (some false)
  (q04 (q12 p1 (IntKind.i64.wrap (p2.tdiv 64))) fun x9 =>
  q1e (¬ (IntKind.u64.wrap (p2.tmod 64))<0) (
  some ((qu6 .u64 (x9.fdiv (2 ^ (min (IntKind.u64.wrap (p2.tmod 64)).toNat IntKind.u64.bits))) 1) == 1)))
theorem qlc (n:Nat) (p1:List Int) (p2:Int) (r:Bool) (hF:qha n p1 p2=some r):EvU Tryz.prog 130 [.isl false (List.map (cI .u64) p1),.int .i64 p2] ⟨[],0⟩ (fun u _=>u = .bool r∧Bel 0 u):=by
 unfold qha at hF
 refine bg2 25 fn130 ?_
 obtain ⟨b5,h6,hF⟩:=q00 hF
 refine gr ?_
 refine z1c (fun tm σ=>tm=fr 25 [(0,.iM (cI .u64) p1),(1,.i6 p2),(13,.bool b5)]∧σ=⟨[],0⟩) ?_ ?_
 rintro _ _ ⟨rfl,rfl⟩
 refine go ?_
 refine cF hF (fun h7 hF=>?_) (fun h7 hF=>?_)
 exact gx hF
 obtain ⟨x9,h10,hF⟩:=q00 hF
 obtain ⟨h12,hF⟩:=q0a hF
 refine go ?_
 refine RS.q rfl (q2i rfl rfl (qs0 _ (by decide)) rfl) ?_
 refine RS.q rfl (q0h rfl rfl (q09 (cI .u64) und103 (q03 inf191) (q16 .u64) h10 rfl)) (RS.q rfl (q0d und191 rfl rfl rfl) ?_)
 refine go ?_
 refine RS.q rfl (q2i rfl rfl (qzd _ (by decide)) rfl) ?_
 refine RS.q (u:=.int .u64 (IntKind.u64.wrap (p2.tmod 64))) rfl (qw1 rfl rfl (by simp only [qqr,und3,und190]<;>rfl) rfl) ?_
 refine RS.q rfl (q2i rfl rfl (ix_shr _ h12) rfl) (RS.q rfl (q2i rfl rfl (qzb _ _ _) rfl) ?_)
 exact gx hF
 rcases gB h6 with ⟨h3,h6⟩ | ⟨h3,h6⟩
 exact gy h6
 obtain rfl:=sI h6
 refine go ?_
 refine RS.w rfl (q2i rfl rfl (qs0 _ (by decide)) rfl) ?_
 refine go ?_
 refine RS.w rfl (q0b rfl rfl rfl (q07 (cI .u64) und103)) ?_
 refine go ?_
 exact xC ⟨rfl,rfl⟩
def q4v (z8:Int) (rc1:(List (List UInt8))→Int→Option ((List (List UInt8)))) (l16:List (List UInt8)):Option ((List (List UInt8))) :=
 rc1 l16 (IntKind.i64.wrap (z8+1))
def q72  (l9:List (List UInt8)):Option ((List (List UInt8))) :=
 some l9
def q2r (p1:List q05) (p2:List (List UInt8)) (n:Nat):Nat→(List (List UInt8))→Int→Option ((List (List UInt8)))
 | 0,_,_=>none
 | m1+1,l7,z8 =>
  cond (decide (z8<(p2.length:Int)))
   (q04 (q12 p2 z8) fun x11 =>
   q04 (q5x n p1 x11) fun r13 =>
   cond (decide (r13 ≥ 0))
    (q04 (q12 p2 z8) fun x17 =>
    q04 (q88 n l7 x17) fun r19 =>
    q4v z8 (q2r p1 p2 n m1) r19)
    (q4v z8 (q2r p1 p2 n m1) l7))
   (q72 l7)
def qb9 (n:Nat) (p1:List q05) (p2:List (List UInt8)):Option ((List (List UInt8))) :=
 q2r p1 p2 n n [] 0
theorem qji (n:Nat) (p1:List q05) (p2:List (List UInt8)) (r:(List (List UInt8))) (hF:qb9 n p1 p2=some r):EvU Tryz.prog 150 [.isl false (List.map q02 p1),.isl false (List.map cS p2)] ⟨[],0⟩ (fun u _=>u = .isl false (List.map cS r)∧Bel 0 u):=by
 unfold qb9 at hF
 refine bg2 27 fn150 ?_
 refine gr ?_
 refine gr ?_
 refine gr ?_
 refine WPU.ghost (tm':=fr 27 [(0,.iM q02 p1),(1,.iM cS p2),(5,.iM cS []),(6,.i6 0)]) (Gh.trans (Gh.sub (l':=[(0,.iM q02 p1),(1,.iM cS p2),(5,.nils),(6,.i6 0)]) ⟨rfl,rfl,rfl,rfl,trivial⟩) (Gh.wkS (l':=[(0,.iM q02 p1),(1,.iM cS p2),(5,.iM cS []),(6,.i6 0)]) (.cons (.refl _) (.cons (.refl _) (.cons (.nil false) (.cons (.refl _) .nil)))))) NZ ?_
 refine gS (l':=[(0,_),(1,_),(5,_),(6,_)]) ?_
 refine z1b (fun m tm σ=>∃ l7:List (List UInt8),∃ z8:Int,q2r p1 p2 n m l7 z8=some r∧tm=fr 27 [(0,.iM q02 p1),(1,.iM cS p2),(5,.iM cS l7),(6,.i6 z8)]∧σ=⟨[],0⟩) (fun tm σ=>∃ l9:List (List UInt8),q72 l9=some r∧tm=fr 27 [(5,.iM cS l9)]∧σ=⟨[],0⟩) n ⟨[],0,hF,rfl,rfl⟩ ?_ ?_
 rintro _ _ ⟨l9,hF,rfl,rfl⟩
 unfold q72 at hF
 exact gx hF
 rintro (_|m1) _ _ ⟨l7,z8,hF,rfl,rfl⟩
 cases hF
 unfold q2r at hF
 refine go ?_
 refine RS.q rfl (q0b rfl rfl rfl (q07 cS und80)) ?_
 refine go ?_
 refine cF hF (fun h10 hF=>?_) (fun h10 hF=>?_)
 refine go ?_
 refine WPU.block ?_
 obtain ⟨x11,h12,hF⟩:=q00 hF
 obtain ⟨r13,h14,hF⟩:=q00 hF
 refine go ?_
 refine RS.q rfl (q0h rfl rfl (q09 cS und80 (q03 inf9) q1k h12 rfl)) (RS.q rfl (q0d und9 rfl rfl rfl) (RS.cl rfl (pC (q5y n p1 x11 r13 h14) _) fn148 ?_))
 refine gn ?_
 refine z1c (fun tm σ=>∃ l16:List (List UInt8),q4v z8 (q2r p1 p2 n m1) l16=some r∧tm=fr 27 [(0,.iM q02 p1),(1,.iM cS p2),(5,.iM cS l16),(6,.i6 z8)]∧σ=⟨[],0⟩) ?_ ?_
 rintro _ _ ⟨l16,hF,rfl,rfl⟩
 unfold q4v at hF
 refine go ?_
 exact lC ⟨l16,(IntKind.i64.wrap (z8+1)),hF,rfl,rfl⟩
 refine cF hF (fun h15 hF=>?_) (fun h15 hF=>?_)
 obtain ⟨x17,h18,hF⟩:=q00 hF
 obtain ⟨r19,h20,hF⟩:=q00 hF
 refine go ?_
 refine RS.q rfl (q0h rfl rfl (q09 cS und80 (q03 inf9) q1k h18 rfl)) (RS.q rfl (q0d und9 rfl rfl rfl) (RS.cl rfl (pC (q71 n l7 x17 r19 h20) _) fn116 ?_))
 refine go ?_
 exact xC ⟨r19,hF,rfl,rfl⟩
 refine go ?_
 exact xC ⟨l7,hF,rfl,rfl⟩
 refine go ?_
 exact xC ⟨l7,hF,rfl,rfl⟩
def qb1  (l21:List (List UInt8)):Option ((List (List UInt8))) :=
 some l21
def q7i (n:Nat) (l13:List (List UInt8)):Nat→(List (List UInt8))→Int→Option ((List (List UInt8)))
 | 0,_,_=>none
 | m2+1,l19,z20 =>
  cond (decide (z20<(l13.length:Int)))
   (q04 (q12 l13 z20) fun x23 =>
   q04 (q88 n l19 x23) fun r25 =>
   (q7i n l13 m2) r25 (IntKind.i64.wrap (z20+1)))
   (qb1 l19)
def q7h (z40:Int) (rc3:Int→(List (List UInt8))→Option ((List (List UInt8)))) (l51:List (List UInt8)):Option ((List (List UInt8))) :=
 rc3 (IntKind.i64.wrap (z40+1)) l51
def qb2 (z10:Int) (rc1:Int→(List (List UInt8))→Option ((List (List UInt8)))) (l43:List (List UInt8)):Option ((List (List UInt8))) :=
 rc1 (IntKind.i64.wrap (z10+1)) l43
def q43 (n:Nat) (z10:Int) (rc1:Int→(List (List UInt8))→Option ((List (List UInt8)))) (x32:q05):Nat→Int→(List (List UInt8))→Option ((List (List UInt8)))
 | 0,_,_=>none
 | m3+1,z40,l41 =>
  cond (decide (z40<(x32.Supers.length:Int)))
   (q04 (q12 x32.Supers z40) fun x46 =>
   q04 (q2u n l41 x46) fun r48 =>
   cond (!r48)
    (q04 (q12 x32.Supers z40) fun x53 =>
    q1e ((l41.length+1)*16≤140737488355328∧l41.length+1≤140737488355328) (
    q7h z40 (q43 n z10 rc1 x32 m3) (l41++[x53])))
    (q7h z40 (q43 n z10 rc1 x32 m3) l41))
   (qb2 z10 rc1 l41)
def qb0 (n:Nat) (l13:List (List UInt8)):Option ((List (List UInt8))) :=
 q7i n l13 n [] 0
def q3e (p1:List q05) (n:Nat):Nat→Int→(List (List UInt8))→Option ((List (List UInt8)))
 | 0,_,_=>none
 | m1+1,z10,l11 =>
  cond (decide (z10<(l11.length:Int)))
   (q04 (q12 l11 z10) fun x28 =>
   q04 (q5x n p1 x28) fun r30 =>
   q04 (q12 p1 r30) fun x32 =>
   q43 n z10 (q3e p1 n m1) x32 n 0 l11)
   (qb0 n l11)
def qg1 (n:Nat) (p1:List q05) (p2:List UInt8):Option ((List (List UInt8))) :=
 q04 (q5x n p1 p2) fun r3 =>
 cond (decide (r3<0))
  (some [])
  (q3e p1 n n 0 ([p2]))
theorem qny (n:Nat) (p1:List q05) (p2:List UInt8) (r:(List (List UInt8))) (hF:qg1 n p1 p2=some r):EvU Tryz.prog 151 [.isl false (List.map q02 p1),.str p2] ⟨[],0⟩ (fun u _=>u = .isl false (List.map cS r)∧Bel 0 u):=by
 unfold qg1 at hF
 refine bg2 66 fn151 ?_
 obtain ⟨r3,h4,hF⟩:=q00 hF
 refine go ?_
 refine RS.cl rfl (pC (q5y n p1 p2 r3 h4) _) fn148 ?_
 refine go ?_
 refine cF hF (fun h5 hF=>?_) (fun h5 hF=>?_)
 refine go ?_
 obtain rfl:=sI hF
 exact rT (us:=[.nils]) (u:=.isl false []) (q2k rfl (q33)) wR
 refine go ?_
 refine z1r (u:=.vl 0 0 0 ([p2].length)) (σ':=⟨[(0,.vec (List.map cS ([p2])).flatten 9 1 0)],1⟩) rfl (qdm.bslv (cs:=(List.map cS [p2]).flatten) Tryz.tb_ok rfl und80 inf9 rfl rfl rfl rfl rfl rfl rfl rfl) rfl rfl ?_
 refine go ?_
 refine gS (l':=[(0,_),(5,_),(6,_)]) ?_
 refine z1b (fun m tm σ=>∃ z10:Int,∃ l11:List (List UInt8),∃ t12:Nat,q3e p1 n m z10 l11=some r∧tm=fr 66 [(0,.iM q02 p1),(5,.vl 0 t12 0 l11.length),(6,.i6 z10)]∧σ=⟨[(0,.vec (List.map cS l11).flatten 9 1 t12)],1⟩) (fun tm σ=>∃ l13:List (List UInt8),∃ t14:Nat,qb0 n l13=some r∧tm=fr 66 [(5,.vl 0 t14 0 l13.length)]∧σ=⟨[(0,.vec (List.map cS l13).flatten 9 1 t14)],1⟩) n ⟨0,[p2],0,hF,rfl,rfl⟩ ?_ ?_
 rintro _ _ ⟨l13,t14,hF,rfl,rfl⟩
 unfold qb0 at hF
 refine gr ?_
 refine gr ?_
 refine WPU.ghost (tm':=fr 66 [(5,.vl 0 t14 0 l13.length),(9,.iM cS []),(10,.i6 0)]) (Gh.trans (Gh.sub (l':=[(5,.vl 0 t14 0 l13.length),(9,.nils),(10,.i6 0)]) ⟨rfl,rfl,rfl,trivial⟩) (Gh.wkS (l':=[(5,.vl 0 t14 0 l13.length),(9,.iM cS []),(10,.i6 0)]) (.cons (.refl _) (.cons (.nil false) (.cons (.refl _) .nil))))) NZ ?_
 refine gS (l':=[(5,_),(9,_),(10,_)]) ?_
 refine z1b (fun m tm σ=>∃ l19:List (List UInt8),∃ z20:Int,q7i n l13 m l19 z20=some r∧tm=fr 66 [(5,.vl 0 t14 0 l13.length),(9,.iM cS l19),(10,.i6 z20)]∧σ=⟨[(0,.vec (List.map cS l13).flatten 9 1 t14)],1⟩) (fun tm σ=>∃ l21:List (List UInt8),qb1 l21=some r∧tm=fr 66 [(9,.iM cS l21)]∧σ=⟨[(0,.vec (List.map cS l13).flatten 9 1 t14)],1⟩) n ⟨[],0,hF,rfl,rfl⟩ ?_ ?_
 rintro _ _ ⟨l21,hF,rfl,rfl⟩
 unfold qb1 at hF
 exact gx hF
 rintro (_|m2) _ _ ⟨l19,z20,hF,rfl,rfl⟩
 cases hF
 unfold q7i at hF
 refine go ?_
 refine RS.q rfl (q0b rfl rfl rfl (q9o und80 rfl)) ?_
 refine go ?_
 refine cF hF (fun h22 hF=>?_) (fun h22 hF=>?_)
 refine go ?_
 refine WPU.block ?_
 obtain ⟨x23,h24,hF⟩:=q00 hF
 obtain ⟨r25,h26,hF⟩:=q00 hF
 refine go ?_
 refine RS.q rfl (q0h rfl rfl (qa6 cS und80 (q03 inf9) (by decide) q1k (vo rfl) h24)) ?_
 refine RS.q rfl (q5n cS (fun x=>.str x) und9 rfl (fun _=>rfl) rfl rfl h24) (RS.cl rfl (pC (q71 n l19 x23 r25 h26) _) fn116 ?_)
 refine go ?_
 exact lC ⟨r25,(IntKind.i64.wrap (z20+1)),hF,rfl,rfl⟩
 refine go ?_
 exact xC ⟨l19,hF,rfl,rfl⟩
 rintro (_|m1) _ _ ⟨z10,l11,t12,hF,rfl,rfl⟩
 cases hF
 unfold q3e at hF
 refine go ?_
 refine RS.q rfl (q0b rfl rfl rfl (q9o und80 rfl)) ?_
 refine go ?_
 refine cF hF (fun h27 hF=>?_) (fun h27 hF=>?_)
 refine go ?_
 refine WPU.block ?_
 obtain ⟨x28,h29,hF⟩:=q00 hF
 obtain ⟨r30,h31,hF⟩:=q00 hF
 obtain ⟨x32,h33,hF⟩:=q00 hF
 refine go ?_
 refine RS.q rfl (q0h rfl rfl (qa6 cS und80 (q03 inf9) (by decide) q1k (vo rfl) h29)) ?_
 refine RS.q rfl (q5n cS (fun x=>.str x) und9 rfl (fun _=>rfl) rfl rfl h29) (RS.cl rfl (pC (q5y n p1 x28 r30 h31) _) fn148 (RS.q rfl (q0h rfl rfl (q09 q02 und38 (q03 inf127) q0k h33 rfl)) (RS.q rfl (q1m und127 rfl (q03 inf80) rfl rfl) (RS.q rfl (q0d und80 rfl rfl rfl) ?_))))
 refine go ?_
 refine gS (l':=[(0,_),(5,_),(6,_),(7,_),(8,_)]) ?_
 refine z1b (fun m tm σ=>∃ z40:Int,∃ l41:List (List UInt8),∃ t42:Nat,q43 n z10 (q3e p1 n m1) x32 m z40 l41=some r∧tm=fr 66 [(0,.iM q02 p1),(5,.vl 0 t42 0 l41.length),(6,.i6 z10),(7,.iM cS x32.Supers),(8,.i6 z40)]∧σ=⟨[(0,.vec (List.map cS l41).flatten 9 1 t42)],1⟩) (fun tm σ=>∃ l43:List (List UInt8),∃ t44:Nat,qb2 z10 (q3e p1 n m1) l43=some r∧tm=fr 66 [(0,.iM q02 p1),(5,.vl 0 t44 0 l43.length),(6,.i6 z10)]∧σ=⟨[(0,.vec (List.map cS l43).flatten 9 1 t44)],1⟩) n ⟨0,l11,t12,hF,rfl,rfl⟩ ?_ ?_
 rintro _ _ ⟨l43,t44,hF,rfl,rfl⟩
 unfold qb2 at hF
 refine go ?_
 exact lC ⟨_,l43,t44,hF,rfl,rfl⟩
 rintro (_|m3) _ _ ⟨z40,l41,t42,hF,rfl,rfl⟩
 cases hF
 unfold q43 at hF
 refine go ?_
 refine RS.q rfl (q0b rfl rfl rfl (q07 cS und80)) ?_
 refine go ?_
 refine cF hF (fun h45 hF=>?_) (fun h45 hF=>?_)
 refine go ?_
 refine WPU.block ?_
 obtain ⟨x46,h47,hF⟩:=q00 hF
 obtain ⟨r48,h49,hF⟩:=q00 hF
 refine go ?_
 refine RS.q rfl (q0h rfl rfl (q09 cS und80 (q03 inf9) q1k h47 rfl)) (RS.q rfl (q0d und9 rfl rfl rfl) (RS.cl rfl (vw (q24 n l41 x46 r48 h49) (z1e 0 1)) fn126 ?_))
 refine gn ?_
 refine z1c (fun tm σ=>∃ l51:List (List UInt8),∃ t52:Nat,q7h z40 (q43 n z10 (q3e p1 n m1) x32 m3) l51=some r∧tm=fr 66 [(0,.iM q02 p1),(5,.vl 0 t52 0 l51.length),(6,.i6 z10),(7,.iM cS x32.Supers),(8,.i6 z40)]∧σ=⟨[(0,.vec (List.map cS l51).flatten 9 1 t52)],1⟩) ?_ ?_
 rintro _ _ ⟨l51,t52,hF,rfl,rfl⟩
 unfold q7h at hF
 refine go ?_
 exact lC ⟨_,l51,t52,hF,rfl,rfl⟩
 refine cF hF (fun h50 hF=>?_) (fun h50 hF=>?_)
 obtain ⟨x53,h54,hF⟩:=q00 hF
 obtain ⟨h55,hF⟩:=q0a hF
 refine go ?_
 refine RS.q rfl (q0h rfl rfl (q09 cS und80 (q03 inf9) q1k h54 rfl)) (RS.q rfl (q0d und9 rfl rfl rfl) (RS.q (u:=.sl 1 0 1 1) (σ':=⟨[(1,.row [.str x53] 9),(0,.vec (List.map cS l41).flatten 9 1 t42)],2⟩) rfl (q0j und80 inf9 rfl rfl rfl rfl rfl rfl rfl) (RS.q (u:=.vl 0 (t42+1) 0 ((l41++[x53]).length)) (σ':=⟨[(1,.row [.str x53] 9),(0,.vec (List.map cS (l41++[x53])).flatten 9 1 (t42+1))],2⟩) rfl (q1l rfl rfl rfl rfl (q1s cS ([x53]) und80 und80 inf9 rfl q1k rfl (q1i cS [x53] rfl rfl rfl rfl) h55)) ?_)))
 refine go ?_
 exact xC ⟨(l41++[x53]),(t42+1),hF,rfl,rfl⟩
 refine go ?_
 exact xC ⟨l41,t42,hF,rfl,rfl⟩
 refine go ?_
 exact xC ⟨l41,t42,hF,rfl,rfl⟩
 refine go ?_
 exact xC ⟨l11,t12,hF,rfl,rfl⟩
def q5f (z10:Int) (rc1:Int→(List (List UInt8))→Option ((List (List UInt8)))) (l32:List (List UInt8)):Option ((List (List UInt8))) :=
 rc1 (IntKind.i64.wrap (z10+1)) l32
def q8g (r3:(List (List UInt8))) (z10:Int) (l11:List (List UInt8)) (rc1:Int→(List (List UInt8))→Option ((List (List UInt8)))) (b30:Bool):Option ((List (List UInt8))) :=
 cond b30
  (q04 (q12 r3 z10) fun x34 =>
  q1e ((l11.length+1)*16≤140737488355328∧l11.length+1≤140737488355328) (
  q5f z10 rc1 (l11++[x34])))
  (q5f z10 rc1 l11)
def q5g (n:Nat) (r3:(List (List UInt8))) (z10:Int) (l11:List (List UInt8)) (rc1:Int→(List (List UInt8))→Option ((List (List UInt8)))) (r18:(List (List UInt8))):Nat→Bool→Int→Option ((List (List UInt8)))
 | 0,_,_=>none
 | m2+1,b28,z29 =>
  cond (decide (z29<(r3.length:Int)))
   (q04 (cond b28
    (cond (z29 == z10)
     (some true)
     (q04 (q12 r3 z29) fun x40 =>
     q04 (q2u n r18 x40) fun r42 =>
     some (!r42)))
    (some false)) fun b44 =>
   (q5g n r3 z10 l11 rc1 r18 m2) b44 (IntKind.i64.wrap (z29+1)))
   (q8g r3 z10 l11 rc1 b28)
def q8f  (l13:List (List UInt8)):Option ((List (List UInt8))) :=
 some l13
def q2g (p1:List q05) (n:Nat) (r3:(List (List UInt8))):Nat→Int→(List (List UInt8))→Option ((List (List UInt8)))
 | 0,_,_=>none
 | m1+1,z10,l11 =>
  cond (decide (z10<(r3.length:Int)))
   (q04 (q12 r3 z10) fun x16 =>
   q04 (qg1 n p1 x16) fun r18 =>
   q5g n r3 z10 l11 (q2g p1 n r3 m1) r18 n true 0)
   (q8f l11)
def q92 (n:Nat) (p1:List q05) (p2:List (List UInt8)):Option ((List (List UInt8))) :=
 q04 (qb9 n p1 p2) fun r3 =>
 q2g p1 n r3 n 0 ([]:List (List UInt8))
theorem qe6 (n:Nat) (p1:List q05) (p2:List (List UInt8)) (r:(List (List UInt8))) (hF:q92 n p1 p2=some r):EvU Tryz.prog 131 [.isl false (List.map q02 p1),.isl false (List.map cS p2)] ⟨[],0⟩ (fun u _=>u = .isl false (List.map cS r)∧Bel 0 u):=by
 unfold q92 at hF
 refine bg2 56 fn131 ?_
 obtain ⟨r3,h4,hF⟩:=q00 hF
 refine go ?_
 refine RS.cl rfl (pC (qji n p1 p2 r3 h4) _) fn150 ?_
 refine gr ?_
 refine WPU.ghost (tm':=fr 56 [(0,.iM q02 p1),(5,.vl 0 0 0 (([]:List (List UInt8)).length)),(6,.iM cS r3),(7,.i6 0)]) (σ':=⟨[(0,.vec (List.map cS ([]:List (List UInt8))).flatten 9 1 0)],1⟩) (Gh.trans (z1h 5 9 1 (by decide) NZ rfl rfl) (z1g ⟨rfl,rfl,rfl,rfl,trivial⟩ rfl)) NZ ?_
 refine gS (l':=[(0,_),(5,_),(6,_),(7,_)]) ?_
 refine z1b (fun m tm σ=>∃ z10:Int,∃ l11:List (List UInt8),∃ t12:Nat,q2g p1 n r3 m z10 l11=some r∧tm=fr 56 [(0,.iM q02 p1),(5,.vl 0 t12 0 l11.length),(6,.iM cS r3),(7,.i6 z10)]∧σ=⟨[(0,.vec (List.map cS l11).flatten 9 1 t12)],1⟩) (fun tm σ=>∃ l13:List (List UInt8),∃ t14:Nat,q8f l13=some r∧tm=fr 56 [(5,.vl 0 t14 0 l13.length)]∧σ=⟨[(0,.vec (List.map cS l13).flatten 9 1 t14)],1⟩) n ⟨0,([]:List (List UInt8)),0,hF,rfl,rfl⟩ ?_ ?_
 rintro _ _ ⟨l13,t14,hF,rfl,rfl⟩
 unfold q8f at hF
 refine go ?_
 obtain rfl:=sI hF
 exact rT (us:=[.vl 0 t14 0 l13.length]) (u:=.iM cS l13) (q2k rfl (q33)) (fR 0 1)
 rintro (_|m1) _ _ ⟨z10,l11,t12,hF,rfl,rfl⟩
 cases hF
 unfold q2g at hF
 refine go ?_
 refine RS.q rfl (q0b rfl rfl rfl (q07 cS und80)) ?_
 refine go ?_
 refine cF hF (fun h15 hF=>?_) (fun h15 hF=>?_)
 refine go ?_
 refine WPU.block ?_
 obtain ⟨x16,h17,hF⟩:=q00 hF
 obtain ⟨r18,h19,hF⟩:=q00 hF
 refine go ?_
 refine RS.q rfl (q0h rfl rfl (q09 cS und80 (q03 inf9) q1k h17 rfl)) (RS.q rfl (q0d und9 rfl rfl rfl) (RS.cl rfl (pC (qny n p1 x16 r18 h19) _) fn151 ?_))
 refine go ?_
 refine gS (l':=[(0,_),(5,_),(6,_),(7,_),(8,_),(9,_),(10,_)]) ?_
 refine z1b (fun m tm σ=>∃ b28:Bool,∃ z29:Int,q5g n r3 z10 l11 (q2g p1 n r3 m1) r18 m b28 z29=some r∧tm=fr 56 [(0,.iM q02 p1),(5,.vl 0 t12 0 l11.length),(6,.iM cS r3),(7,.i6 z10),(8,.iM cS r18),(9,.bool b28),(10,.i6 z29)]∧σ=⟨[(0,.vec (List.map cS l11).flatten 9 1 t12)],1⟩) (fun tm σ=>∃ b30:Bool,q8g r3 z10 l11 (q2g p1 n r3 m1) b30=some r∧tm=fr 56 [(0,.iM q02 p1),(5,.vl 0 t12 0 l11.length),(6,.iM cS r3),(7,.i6 z10),(9,.bool b30)]∧σ=⟨[(0,.vec (List.map cS l11).flatten 9 1 t12)],1⟩) n ⟨true,0,hF,rfl,rfl⟩ ?_ ?_
 rintro _ _ ⟨b30,hF,rfl,rfl⟩
 unfold q8g at hF
 refine gr ?_
 refine z1c (fun tm σ=>∃ l32:List (List UInt8),∃ t33:Nat,q5f z10 (q2g p1 n r3 m1) l32=some r∧tm=fr 56 [(0,.iM q02 p1),(5,.vl 0 t33 0 l32.length),(6,.iM cS r3),(7,.i6 z10)]∧σ=⟨[(0,.vec (List.map cS l32).flatten 9 1 t33)],1⟩) ?_ ?_
 rintro _ _ ⟨l32,t33,hF,rfl,rfl⟩
 unfold q5f at hF
 refine go ?_
 exact lC ⟨_,l32,t33,hF,rfl,rfl⟩
 refine cF hF (fun h31 hF=>?_) (fun h31 hF=>?_)
 obtain ⟨x34,h35,hF⟩:=q00 hF
 obtain ⟨h36,hF⟩:=q0a hF
 refine go ?_
 refine RS.q rfl (q0h rfl rfl (q09 cS und80 (q03 inf9) q1k h35 rfl)) (RS.q rfl (q0d und9 rfl rfl rfl) (RS.q (u:=.sl 1 0 1 1) (σ':=⟨[(1,.row [.str x34] 9),(0,.vec (List.map cS l11).flatten 9 1 t12)],2⟩) rfl (q0j und80 inf9 rfl rfl rfl rfl rfl rfl rfl) (RS.q (u:=.vl 0 (t12+1) 0 ((l11++[x34]).length)) (σ':=⟨[(1,.row [.str x34] 9),(0,.vec (List.map cS (l11++[x34])).flatten 9 1 (t12+1))],2⟩) rfl (q1l rfl rfl rfl rfl (q1s cS ([x34]) und80 und80 inf9 rfl q1k rfl (q1i cS [x34] rfl rfl rfl rfl) h36)) ?_)))
 refine go ?_
 exact xC ⟨(l11++[x34]),(t12+1),hF,rfl,rfl⟩
 refine go ?_
 exact xC ⟨l11,t12,hF,rfl,rfl⟩
 rintro (_|m2) _ _ ⟨b28,z29,hF,rfl,rfl⟩
 cases hF
 unfold q5g at hF
 refine go ?_
 refine RS.q rfl (q0b rfl rfl rfl (q07 cS und80)) ?_
 refine go ?_
 refine cF hF (fun h37 hF=>?_) (fun h37 hF=>?_)
 refine go ?_
 refine WPU.block ?_
 obtain ⟨b44,h45,hF⟩:=q00 hF
 refine gn ?_
 refine z1c (fun tm σ=>tm=fr 56 [(0,.iM q02 p1),(5,.vl 0 t12 0 l11.length),(6,.iM cS r3),(7,.i6 z10),(8,.iM cS r18),(9,.bool b44),(10,.i6 z29)]∧σ=⟨[(0,.vec (List.map cS l11).flatten 9 1 t12)],1⟩) ?_ ?_
 rintro _ _ ⟨rfl,rfl⟩
 refine go ?_
 exact lC ⟨b44,(IntKind.i64.wrap (z29+1)),hF,rfl,rfl⟩
 rcases gB h45 with ⟨h38,h45⟩ | ⟨h38,h45⟩
 rcases gB h45 with ⟨h39,h45⟩ | ⟨h39,h45⟩
 exact gy h45
 obtain ⟨x40,h41,h45⟩:=q00 h45
 obtain ⟨r42,h43,h45⟩:=q00 h45
 obtain rfl:=sI h45
 refine go ?_
 refine RS.w rfl (q0h rfl rfl (q09 cS und80 (q03 inf9) q1k h41 rfl)) (RS.w rfl (q0d und9 rfl rfl rfl) (RS.cl rfl (pC (q24 n r18 x40 r42 h43) _) fn126 ?_))
 refine go ?_
 exact xC ⟨rfl,rfl⟩
 obtain rfl:=sI h45
 refine go ?_
 repeat refine RS.no (qlq rfl rfl rfl) rfl rfl ?_
 refine go ?_
 exact xC ⟨rfl,rfl⟩
 refine go ?_
 exact xC ⟨b28,hF,rfl,rfl⟩
 refine go ?_
 exact xC ⟨l11,t12,hF,rfl,rfl⟩
def q97 (r17:(List (List UInt8))) (z23:Int) (rc2:(List UInt8)→Int→Option ((List UInt8))) (s27:List UInt8):Option ((List UInt8)) :=
 q04 (q12 r17 z23) fun x28 =>
 q1e (s27.length+x28.length≤9223372036854775807) (
 rc2 (s27++x28) (IntKind.i64.wrap (z23+1)))
def qd4  (s24:List UInt8):Option ((List UInt8)) :=
 some s24
def q4y (r17:(List (List UInt8))):Nat→(List UInt8)→Int→Option ((List UInt8))
 | 0,_,_=>none
 | m2+1,s22,z23 =>
  cond (decide (z23<(r17.length:Int)))
   (cond (decide (z23 > 0))
    (q1e (s22.length+([38]).length≤9223372036854775807) (
    q97 r17 z23 (q4y r17 m2) (s22++[38])))
    (q97 r17 z23 (q4y r17 m2) s22))
   (qd4 s22)
def q98 (z12:Int) (rc1:Int→(List (List UInt8))→Option ((List UInt8))) (l43:List (List UInt8)):Option ((List UInt8)) :=
 rc1 (IntKind.i64.wrap (z12+1)) l43
def qd3 (p1:List q05) (n:Nat) (l15:List (List UInt8)):Option ((List UInt8)) :=
 q04 (q92 n p1 l15) fun r17 =>
 q4y r17 n [] 0
def q4x (p1:List q05) (p2:List (List UInt8)) (p3:List (List Int)) (p4:List Int) (n:Nat):Nat→Int→(List (List UInt8))→Option ((List UInt8))
 | 0,_,_=>none
 | m1+1,z12,l13 =>
  cond (decide (z12<(p2.length:Int)))
   (q04 (q12 p3 z12) fun x33 =>
   q04 (qfy n x33 p4) fun r35 =>
   cond r35
    (q04 (q12 p2 z12) fun x38 =>
    some x38)
    (q04 (qha n p4 z12) fun r40 =>
    cond r40
     (q04 (q12 p2 z12) fun x45 =>
     q1e ((l13.length+1)*16≤140737488355328∧l13.length+1≤140737488355328) (
     q98 z12 (q4x p1 p2 p3 p4 n m1) (l13++[x45])))
     (q98 z12 (q4x p1 p2 p3 p4 n m1) l13)))
   (qd3 p1 n l13)
def qil (n:Nat) (p1:List q05) (p2:List (List UInt8)) (p3:List (List Int)) (p4:List Int):Option ((List UInt8)) :=
 q4x p1 p2 p3 p4 n n 0 ([]:List (List UInt8))
theorem qpx (n:Nat) (p1:List q05) (p2:List (List UInt8)) (p3:List (List Int)) (p4:List Int) (r:(List UInt8)) (hF:qil n p1 p2 p3 p4=some r):EvU Tryz.prog 98 [.isl false (List.map q02 p1),.isl false (List.map cS p2),.isl false (List.map (cL (cI .u64)) p3),.isl false (List.map (cI .u64) p4)] ⟨[],0⟩ (fun u _=>u = .str r∧Bel 0 u):=by
 unfold qil at hF
 refine bg4 59 fn98 ?_
 refine gr ?_
 refine gr ?_
 refine gr ?_
 refine WPU.ghost (tm':=fr 59 [(0,.iM q02 p1),(1,.iM cS p2),(2,.iM (cL (cI .u64)) p3),(3,.iM (cI .u64) p4),(9,.vl 0 0 0 (([]:List (List UInt8)).length)),(10,.i6 0)]) (σ':=⟨[(0,.vec (List.map cS ([]:List (List UInt8))).flatten 9 1 0)],1⟩) (Gh.trans (z1h 9 9 1 (by decide) NZ rfl rfl) (z1g ⟨rfl,rfl,rfl,rfl,rfl,rfl,trivial⟩ rfl)) NZ ?_
 refine gS (l':=[(0,_),(1,_),(2,_),(3,_),(9,_),(10,_)]) ?_
 refine z1b (fun m tm σ=>∃ z12:Int,∃ l13:List (List UInt8),∃ t14:Nat,q4x p1 p2 p3 p4 n m z12 l13=some r∧tm=fr 59 [(0,.iM q02 p1),(1,.iM cS p2),(2,.iM (cL (cI .u64)) p3),(3,.iM (cI .u64) p4),(9,.vl 0 t14 0 l13.length),(10,.i6 z12)]∧σ=⟨[(0,.vec (List.map cS l13).flatten 9 1 t14)],1⟩) (fun tm σ=>∃ l15:List (List UInt8),∃ t16:Nat,qd3 p1 n l15=some r∧tm=fr 59 [(0,.iM q02 p1),(9,.vl 0 t16 0 l15.length)]∧σ=⟨[(0,.vec (List.map cS l15).flatten 9 1 t16)],1⟩) n ⟨0,([]:List (List UInt8)),0,hF,rfl,rfl⟩ ?_ ?_
 rintro _ _ ⟨l15,t16,hF,rfl,rfl⟩
 unfold qd3 at hF
 refine gn ?_
 refine WPU.ghost (tm':=fr 59 [(0,.iM q02 p1),(9,.iM cS l15)]) (σ':=⟨[],1⟩) (Gh.trans (Gh.sub (l':=[(0,.iM q02 p1),(9,.vl 0 t16 0 l15.length)]) ⟨rfl,rfl,trivial⟩) (z1p 0 1)) NZ ?_
 obtain ⟨r17,h18,hF⟩:=q00 hF
 refine go ?_
 refine RS.cl rfl (pC (qe6 n p1 l15 r17 h18) _) fn131 ?_
 refine go ?_
 refine gS (l':=[(9,_),(11,_),(12,_)]) ?_
 refine z1b (fun m tm σ=>∃ s22:List UInt8,∃ z23:Int,q4y r17 m s22 z23=some r∧tm=fr 59 [(9,.iM cS r17),(11,.str s22),(12,.i6 z23)]∧σ=⟨[],1⟩) (fun tm σ=>∃ s24:List UInt8,qd4 s24=some r∧tm=fr 59 [(11,.str s24)]∧σ=⟨[],1⟩) n ⟨[],0,hF,rfl,rfl⟩ ?_ ?_
 rintro _ _ ⟨s24,hF,rfl,rfl⟩
 unfold qd4 at hF
 exact gx hF
 rintro (_|m2) _ _ ⟨s22,z23,hF,rfl,rfl⟩
 cases hF
 unfold q4y at hF
 refine go ?_
 refine RS.q rfl (q0b rfl rfl rfl (q07 cS und80)) ?_
 refine go ?_
 refine cF hF (fun h25 hF=>?_) (fun h25 hF=>?_)
 refine go ?_
 refine WPU.block ?_
 refine gr ?_
 refine z1c (fun tm σ=>∃ s27:List UInt8,q97 r17 z23 (q4y r17 m2) s27=some r∧tm=fr 59 [(9,.iM cS r17),(11,.str s27),(12,.i6 z23)]∧σ=⟨[],1⟩) ?_ ?_
 rintro _ _ ⟨s27,hF,rfl,rfl⟩
 unfold q97 at hF
 obtain ⟨x28,h29,hF⟩:=q00 hF
 obtain ⟨h30,hF⟩:=q0a hF
 refine go ?_
 refine RS.q rfl (q0h rfl rfl (q09 cS und80 (q03 inf9) q1k h29 rfl)) (RS.q rfl (q0d und9 rfl rfl rfl) (RS.q (u:=.str (s27++x28)) rfl (q8o rfl rfl (qzp h30) rfl) ?_))
 refine go ?_
 exact lC ⟨(s27++x28),(IntKind.i64.wrap (z23+1)),hF,rfl,rfl⟩
 refine cF hF (fun h26 hF=>?_) (fun h26 hF=>?_)
 obtain ⟨h31,hF⟩:=q0a hF
 refine go ?_
 refine RS.q (u:=.str (s22++[38])) rfl (q8o rfl rfl (qzp h31) rfl) ?_
 refine go ?_
 exact xC ⟨(s22++[38]),hF,rfl,rfl⟩
 refine go ?_
 exact xC ⟨s22,hF,rfl,rfl⟩
 refine go ?_
 exact xC ⟨s22,hF,rfl,rfl⟩
 rintro (_|m1) _ _ ⟨z12,l13,t14,hF,rfl,rfl⟩
 cases hF
 unfold q4x at hF
 refine go ?_
 refine RS.q rfl (q0b rfl rfl rfl (q07 cS und80)) ?_
 refine go ?_
 refine cF hF (fun h32 hF=>?_) (fun h32 hF=>?_)
 refine go ?_
 refine WPU.block ?_
 obtain ⟨x33,h34,hF⟩:=q00 hF
 obtain ⟨r35,h36,hF⟩:=q00 hF
 refine go ?_
 refine RS.q rfl (q0h rfl rfl (q09 (cL (cI .u64)) und148 (q03 inf103) (q3v (cI .u64)) h34 rfl)) (RS.q rfl (q0d und103 rfl rfl rfl) ?_)
 refine go ?_
 refine RS.cl rfl (pC (qnv n x33 p4 r35 h36) _) fn129 ?_
 refine go ?_
 refine cF hF (fun h37 hF=>?_) (fun h37 hF=>?_)
 obtain ⟨x38,h39,hF⟩:=q00 hF
 refine go ?_
 refine RS.q rfl (q0h rfl rfl (q09 cS und80 (q03 inf9) q1k h39 rfl)) (RS.q rfl (q0d und9 rfl rfl rfl) ?_)
 exact gx hF
 obtain ⟨r40,h41,hF⟩:=q00 hF
 refine go ?_
 refine RS.cl rfl (pC (qlc n p4 z12 r40 h41) _) fn130 ?_
 refine gn ?_
 refine z1c (fun tm σ=>∃ l43:List (List UInt8),∃ t44:Nat,q98 z12 (q4x p1 p2 p3 p4 n m1) l43=some r∧tm=fr 59 [(0,.iM q02 p1),(1,.iM cS p2),(2,.iM (cL (cI .u64)) p3),(3,.iM (cI .u64) p4),(9,.vl 0 t44 0 l43.length),(10,.i6 z12)]∧σ=⟨[(0,.vec (List.map cS l43).flatten 9 1 t44)],1⟩) ?_ ?_
 rintro _ _ ⟨l43,t44,hF,rfl,rfl⟩
 unfold q98 at hF
 refine go ?_
 exact lC ⟨_,l43,t44,hF,rfl,rfl⟩
 refine cF hF (fun h42 hF=>?_) (fun h42 hF=>?_)
 obtain ⟨x45,h46,hF⟩:=q00 hF
 obtain ⟨h47,hF⟩:=q0a hF
 refine go ?_
 refine RS.q rfl (q0h rfl rfl (q09 cS und80 (q03 inf9) q1k h46 rfl)) (RS.q rfl (q0d und9 rfl rfl rfl) (RS.q (u:=.sl 1 0 1 1) (σ':=⟨[(1,.row [.str x45] 9),(0,.vec (List.map cS l13).flatten 9 1 t14)],2⟩) rfl (q0j und80 inf9 rfl rfl rfl rfl rfl rfl rfl) (RS.q (u:=.vl 0 (t14+1) 0 ((l13++[x45]).length)) (σ':=⟨[(1,.row [.str x45] 9),(0,.vec (List.map cS (l13++[x45])).flatten 9 1 (t14+1))],2⟩) rfl (q1l rfl rfl rfl rfl (q1s cS ([x45]) und80 und80 inf9 rfl q1k rfl (q1i cS [x45] rfl rfl rfl rfl) h47)) ?_)))
 refine go ?_
 exact xC ⟨(l13++[x45]),(t14+1),hF,rfl,rfl⟩
 refine go ?_
 exact xC ⟨l13,t14,hF,rfl,rfl⟩
 refine go ?_
 exact xC ⟨l13,t14,hF,rfl,rfl⟩
def q90 (z6:Int) (rc1:Int→(List Int)→Option ((List Int))) (l15:List Int):Option ((List Int)) :=
 rc1 (IntKind.i64.wrap (z6+1)) l15
def qcv  (l9:List Int):Option ((List Int)) :=
 some l9
def q4t (p1:List Int) (n:Nat):Nat→Int→(List Int)→Option ((List Int))
 | 0,_,_=>none
 | m1+1,z6,l7 =>
  cond (decide (z6<(IntKind.i64.wrap (64*(p1.length:Int)))))
   (q04 (qha n p1 z6) fun r12 =>
   cond r12
    (q1e ((l7.length+1)*8≤140737488355328∧l7.length+1≤140737488355328) (
    q90 z6 (q4t p1 n m1) (l7++[z6])))
    (q90 z6 (q4t p1 n m1) l7))
   (qcv l7)
def qii (n:Nat) (p1:List Int):Option ((List Int)) :=
 q4t p1 n n 0 ([]:List Int)
theorem qpu (n:Nat) (p1:List Int) (r:(List Int)) (hF:qii n p1=some r):EvU Tryz.prog 152 [.isl false (List.map (cI .u64) p1)] ⟨[],0⟩ (fun u _=>u = .isl false (List.map (cI .i64) r)∧Bel 0 u):=by
 unfold qii at hF
 refine bg1 20 fn152 ?_
 refine gr ?_
 refine gr ?_
 refine gr ?_
 refine WPU.ghost (tm':=fr 20 [(0,.iM (cI .u64) p1),(3,.vl 0 0 0 (([]:List Int).length)),(4,.i6 0)]) (σ':=⟨[(0,.vec (List.map (cI .i64) ([]:List Int)).flatten 3 1 0)],1⟩) (Gh.trans (z1h 3 3 1 (by decide) NZ rfl rfl) (z1g ⟨rfl,rfl,rfl,trivial⟩ rfl)) NZ ?_
 refine gS (l':=[(0,_),(3,_),(4,_)]) ?_
 refine z1b (fun m tm σ=>∃ z6:Int,∃ l7:List Int,∃ t8:Nat,q4t p1 n m z6 l7=some r∧tm=fr 20 [(0,.iM (cI .u64) p1),(3,.vl 0 t8 0 l7.length),(4,.i6 z6)]∧σ=⟨[(0,.vec (List.map (cI .i64) l7).flatten 3 1 t8)],1⟩) (fun tm σ=>∃ l9:List Int,∃ t10:Nat,qcv l9=some r∧tm=fr 20 [(3,.vl 0 t10 0 l9.length)]∧σ=⟨[(0,.vec (List.map (cI .i64) l9).flatten 3 1 t10)],1⟩) n ⟨0,([]:List Int),0,hF,rfl,rfl⟩ ?_ ?_
 rintro _ _ ⟨l9,t10,hF,rfl,rfl⟩
 unfold qcv at hF
 refine go ?_
 obtain rfl:=sI hF
 exact rT (us:=[.vl 0 t10 0 l9.length]) (u:=.iM (cI .i64) l9) (q2k rfl (q33)) (fR 0 1)
 rintro (_|m1) _ _ ⟨z6,l7,t8,hF,rfl,rfl⟩
 cases hF
 unfold q4t at hF
 refine go ?_
 refine RS.q rfl (q0b rfl rfl rfl (q07 (cI .u64) und103)) ?_
 refine go ?_
 refine cF hF (fun h11 hF=>?_) (fun h11 hF=>?_)
 refine go ?_
 refine WPU.block ?_
 obtain ⟨r12,h13,hF⟩:=q00 hF
 refine go ?_
 refine RS.cl rfl (pC (qlc n p1 z6 r12 h13) _) fn130 ?_
 refine gn ?_
 refine z1c (fun tm σ=>∃ l15:List Int,∃ t16:Nat,q90 z6 (q4t p1 n m1) l15=some r∧tm=fr 20 [(0,.iM (cI .u64) p1),(3,.vl 0 t16 0 l15.length),(4,.i6 z6)]∧σ=⟨[(0,.vec (List.map (cI .i64) l15).flatten 3 1 t16)],1⟩) ?_ ?_
 rintro _ _ ⟨l15,t16,hF,rfl,rfl⟩
 unfold q90 at hF
 refine go ?_
 exact lC ⟨_,l15,t16,hF,rfl,rfl⟩
 refine cF hF (fun h14 hF=>?_) (fun h14 hF=>?_)
 obtain ⟨h17,hF⟩:=q0a hF
 refine go ?_
 refine RS.q (u:=.sl 1 0 1 1) (σ':=⟨[(1,.row [.i6 z6] 3),(0,.vec (List.map (cI .i64) l7).flatten 3 1 t8)],2⟩) rfl (q0j und33 inf3 rfl rfl rfl rfl rfl rfl rfl) (RS.q (u:=.vl 0 (t8+1) 0 ((l7++[z6]).length)) (σ':=⟨[(1,.row [.i6 z6] 3),(0,.vec (List.map (cI .i64) (l7++[z6])).flatten 3 1 (t8+1))],2⟩) rfl (q1l rfl rfl rfl rfl (q1s (cI .i64) ([z6]) und33 und33 inf3 rfl (q16 .i64) rfl (q1i (cI .i64) [z6] rfl rfl rfl rfl) h17)) ?_)
 refine go ?_
 exact xC ⟨(l7++[z6]),(t8+1),hF,rfl,rfl⟩
 refine go ?_
 exact xC ⟨l7,t8,hF,rfl,rfl⟩
 refine go ?_
 exact xC ⟨l7,t8,hF,rfl,rfl⟩
def qcu (n:Nat) (p1:List Int):Option (Int) :=
 q04 (qii n p1) fun r2 =>
 some (r2.length:Int)
theorem qh9 (n:Nat) (p1:List Int) (r:Int) (hF:qcu n p1=some r):EvU Tryz.prog 132 [.isl false (List.map (cI .u64) p1)] ⟨[],0⟩ (fun u _=>u = .int .i64 r∧Bel 0 u):=by
 unfold qcu at hF
 refine bg1 6 fn132 ?_
 obtain ⟨r2,h3,hF⟩:=q00 hF
 refine go ?_
 refine RS.cl rfl (pC (qpu n p1 r2 h3) _) fn152 (RS.q rfl (q0b rfl rfl rfl (q07 (cI .i64) und33)) ?_)
 exact gx hF
def qeb (n:Nat) (p1:q0x) (p2:q0x):Option (Bool) :=
 q04 (qcu n p1.Code) fun r3 =>
 q04 (qcu n p2.Code) fun r5 =>
 q04 (cond (decide (r3 > r5))
  (some true)
  (cond (r3 == r5)
   (some (q5m p1.Name p2.Name))
   (some false))) fun b9 =>
 some b9
theorem qm8 (n:Nat) (p1:q0x) (p2:q0x) (r:Bool) (hF:qeb n p1 p2=some r):EvU Tryz.prog 99 [.agg (q0g p1),.agg (q0g p2)] ⟨[],0⟩ (fun u _=>u = .bool r∧Bel 0 u):=by
 unfold qeb at hF
 refine bg2 28 fn99 ?_
 refine go ?_
 refine RS.q (u:=.ptr 0 0 0) (σ':=⟨[(0,.row (q0g p1) 105)],1⟩) rfl (q3i rfl rfl rfl) (RS.q (u:=.ptr 1 0 0) (σ':=⟨[(1,.row (q0g p2) 105),(0,.row (q0g p1) 105)],2⟩) rfl (q3i rfl rfl rfl) ?_)
 obtain ⟨r3,h4,hF⟩:=q00 hF
 refine go ?_
 refine RS.q rfl (q0s und105 rfl (q03 inf103) rfl rfl rfl) (RS.q rfl (q0l und103 rfl rfl rfl rfl) (RS.cl rfl (pC (qh9 n p1.Code r3 h4) _) fn132 ?_))
 obtain ⟨r5,h6,hF⟩:=q00 hF
 refine go ?_
 refine RS.q rfl (q0s und105 rfl (q03 inf103) rfl rfl rfl) (RS.q rfl (q0l und103 rfl rfl rfl rfl) (RS.cl rfl (pC (qh9 n p2.Code r5 h6) _) fn132 ?_))
 obtain ⟨b9,h10,hF⟩:=q00 hF
 refine gn ?_
 refine z1c (fun tm σ=>tm=fr 28 [(4,.bool b9)]∧σ=⟨[(1,.row (q0g p2) 105),(0,.row (q0g p1) 105)],2⟩) ?_ ?_
 rintro _ _ ⟨rfl,rfl⟩
 exact gx hF
 rcases gB h10 with ⟨h7,h10⟩ | ⟨h7,h10⟩
 obtain rfl:=sI h10
 refine go ?_
 repeat refine RS.no (qlq rfl rfl rfl) rfl rfl ?_
 refine go ?_
 exact xC ⟨rfl,rfl⟩
 rcases gB h10 with ⟨h8,h10⟩ | ⟨h8,h10⟩
 obtain rfl:=sI h10
 refine go ?_
 refine RS.w rfl (q0s und105 rfl (q03 inf9) rfl rfl rfl) (RS.w rfl (q0l und9 rfl rfl rfl rfl) (RS.w rfl (q0s und105 rfl (q03 inf9) rfl rfl rfl) (RS.w rfl (q0l und9 rfl rfl rfl rfl) (RS.w (u:=.bool (q5m p1.Name p2.Name)) rfl (q8o rfl rfl rfl rfl) ?_))))
 refine go ?_
 exact xC ⟨rfl,rfl⟩
 exact gy h10
def qbf (z27:Int) (l28:List q0x) (rc2:Int→(List q0x)→Option ((List q0x)×Int)) (r35:(List UInt8)) (x37:List Int) (z50:Int):Option ((List q0x)×Int) :=
 q1e ((0:Int)≤z50∧z50≤((l28.length:Nat):Int)) (
 q1e (0+z50.toNat≤l28.length) (
 q1e (((l28.drop 0).take z50.toNat).length*40≤140737488355328∧((l28.drop 0).take z50.toNat).length≤140737488355328) (
 q1e ((((l28.drop 0).take z50.toNat).length+1)*40≤140737488355328∧((l28.drop 0).take z50.toNat).length+1≤140737488355328) (
 q1e ((0:Int)≤z50∧z50≤((l28.length:Nat):Int)) (
 q1e ((0+z50.toNat)+(l28.length - z50.toNat)≤l28.length) (
 q1e (((((l28.drop 0).take z50.toNat)++[(q0x.mk r35 x37)]).length+((l28.drop (0+z50.toNat)).take (l28.length - z50.toNat)).length)*40≤140737488355328∧(((l28.drop 0).take z50.toNat)++[(q0x.mk r35 x37)]).length+((l28.drop (0+z50.toNat)).take (l28.length - z50.toNat)).length≤140737488355328) (
 rc2 (IntKind.i64.wrap (z27+1)) ((((l28.drop 0).take z50.toNat)++[(q0x.mk r35 x37)])++((l28.drop (0+z50.toNat)).take (l28.length - z50.toNat))))))))))
def q7s (n:Nat) (z27:Int) (l28:List q0x) (rc2:Int→(List q0x)→Option ((List q0x)×Int)) (r35:(List UInt8)) (x37:List Int):Nat→Int→Option ((List q0x)×Int)
 | 0,_=>none
 | m3+1,z49 =>
  q04 (cond (decide (z49 > 0))
   (q04 (q12 l28 (IntKind.i64.wrap (z49 - 1))) fun x59 =>
   q04 (qeb n (q0x.mk r35 x37) x59) fun r61 =>
   some r61)
   (some false)) fun b63 =>
  cond b63
   ((q7s n z27 l28 rc2 r35 x37 m3) (IntKind.i64.wrap (z49 - 1)))
   (qbf z27 l28 rc2 r35 x37 z49)
def qbe  (l30:List q0x):Option ((List q0x)×Int) :=
 some (l30,0)
def q46 (p1:List q05) (n:Nat) (r5:(List (List UInt8))) (l15:List (List Int)) (r17:(List (List Int))):Nat→Int→(List q0x)→Option ((List q0x)×Int)
 | 0,_,_=>none
 | m2+1,z27,l28 =>
  cond (decide (z27<(r17.length:Int)))
   (q04 (q12 r17 z27) fun x33 =>
   q04 (qil n p1 r5 l15 x33) fun r35 =>
   q04 (q12 r17 z27) fun x37 =>
   q7s n z27 l28 (q46 p1 n r5 l15 r17 m2) r35 x37 n (l28.length:Int))
   (qbe l28)
def qbd (p1:List q05) (n:Nat) (r5:(List (List UInt8))) (l15:List (List Int)):Option ((List q0x)×Int) :=
 q04 (qec n l15) fun r17 =>
 cond (decide ((r17.length:Int) > 256))
  (some ([],7))
  (q46 p1 n r5 l15 r17 n 0 ([]:List q0x))
def q7r (p1:List q05) (n:Nat) (r5:(List (List UInt8))):Nat→Int→(List (List Int))→Option ((List q0x)×Int)
 | 0,_,_=>none
 | m1+1,z12,l13 =>
  cond (decide (z12<(r5.length:Int)))
   (q04 (q12 r5 z12) fun x67 =>
   q04 (qik n p1 r5 x67) fun r69 =>
   q1e ((l13.length+1)*24≤140737488355328∧l13.length+1≤140737488355328) (
   (q7r p1 n r5 m1) (IntKind.i64.wrap (z12+1)) (l13++[r69])))
   (qbd p1 n r5 l13)
def q73 (n:Nat) (p1:List q05):Option ((List q0x)×Int) :=
 q04 (qg3 n p1) fun r2 =>
 cond (r2 != 0)
  (some ([],r2))
  (q04 (qcy n p1) fun r5 =>
  q7r p1 n r5 n 0 ([]:List (List Int)))
theorem q94 (n:Nat) (p1:List q05) (r:(List q0x)×Int) (hF:q73 n p1=some r):EvU Tryz.prog 72 [.isl false (List.map q02 p1)] ⟨[],0⟩ (fun u _=>u = .tup [.isl false (List.map q0g r.1),.int .i64 r.2]∧Bel 0 u):=by
 unfold q73 at hF
 refine bg1 92 fn72 ?_
 obtain ⟨r2,h3,hF⟩:=q00 hF
 refine go ?_
 refine RS.cl rfl (pC (qo0 n p1 r2 h3) _) fn94 ?_
 refine go ?_
 refine cF hF (fun h4 hF=>?_) (fun h4 hF=>?_)
 refine go ?_
 obtain rfl:=sI hF
 exact rT (us:=[.nils,.i6 r2]) (u:=.tup [.isl false [],.i6 r2]) (q2k rfl (q2k rfl (q33))) wR
 obtain ⟨r5,h6,hF⟩:=q00 hF
 refine go ?_
 refine RS.cl rfl (pC (qhb n p1 r5 h6) _) fn95 ?_
 refine gr ?_
 refine gr ?_
 refine WPU.ghost (tm':=fr 92 [(0,.iM q02 p1),(5,.iM cS r5),(6,.vl 0 0 0 (([]:List (List Int)).length)),(7,.i6 0)]) (σ':=⟨[(0,.vec (List.map (cL (cI .u64)) ([]:List (List Int))).flatten 103 1 0)],1⟩) (Gh.trans (z1h 6 103 1 (by decide) NZ rfl rfl) (z1g ⟨rfl,rfl,rfl,rfl,trivial⟩ rfl)) NZ ?_
 refine gS (l':=[(0,_),(5,_),(6,_),(7,_)]) ?_
 refine z1b (fun m tm σ=>∃ z12:Int,∃ l13:List (List Int),∃ t14:Nat,q7r p1 n r5 m z12 l13=some r∧tm=fr 92 [(0,.iM q02 p1),(5,.iM cS r5),(6,.vl 0 t14 0 l13.length),(7,.i6 z12)]∧σ=⟨[(0,.vec (List.map (cL (cI .u64)) l13).flatten 103 1 t14)],1⟩) (fun tm σ=>∃ l15:List (List Int),∃ t16:Nat,qbd p1 n r5 l15=some r∧tm=fr 92 [(0,.iM q02 p1),(5,.iM cS r5),(6,.vl 0 t16 0 l15.length)]∧σ=⟨[(0,.vec (List.map (cL (cI .u64)) l15).flatten 103 1 t16)],1⟩) n ⟨0,([]:List (List Int)),0,hF,rfl,rfl⟩ ?_ ?_
 rintro _ _ ⟨l15,t16,hF,rfl,rfl⟩
 unfold qbd at hF
 refine gn ?_
 refine WPU.ghost (tm':=fr 92 [(0,.iM q02 p1),(5,.iM cS r5),(6,.iM (cL (cI .u64)) l15)]) (σ':=⟨[],1⟩) (Gh.trans (Gh.sub (l':=[(0,.iM q02 p1),(5,.iM cS r5),(6,.vl 0 t16 0 l15.length)]) ⟨rfl,rfl,rfl,trivial⟩) (z1p 0 1)) NZ ?_
 obtain ⟨r17,h18,hF⟩:=q00 hF
 refine go ?_
 refine RS.cl rfl (pC (qm9 n l15 r17 h18) _) fn97 ?_
 refine go ?_
 refine RS.q rfl (q0b rfl rfl rfl (q07 (cL (cI .u64)) und148)) ?_
 refine go ?_
 refine cF hF (fun h19 hF=>?_) (fun h19 hF=>?_)
 refine go ?_
 obtain rfl:=sI hF
 exact rT (us:=[.nils,.i6 7]) (u:=.tup [.isl false [],.i6 7]) (q2k rfl (q2k rfl (q33))) wR
 refine gr ?_
 refine gr ?_
 refine WPU.ghost (tm':=fr 92 [(0,.iM q02 p1),(5,.iM cS r5),(6,.iM (cL (cI .u64)) l15),(8,.iM (cL (cI .u64)) r17),(9,.vl 1 0 0 (([]:List q0x).length)),(10,.i6 0)]) (σ':=⟨[(1,.vec (List.map q0g ([]:List q0x)).flatten 105 2 0)],2⟩) (Gh.trans (z1h 9 105 2 (by decide) NZ rfl rfl) (z1g ⟨rfl,rfl,rfl,rfl,rfl,rfl,trivial⟩ rfl)) NZ ?_
 refine gS (l':=[(0,_),(5,_),(6,_),(8,_),(9,_),(10,_)]) ?_
 refine z1b (fun m tm σ=>∃ z27:Int,∃ l28:List q0x,∃ t29:Nat,q46 p1 n r5 l15 r17 m z27 l28=some r∧tm=fr 92 [(0,.iM q02 p1),(5,.iM cS r5),(6,.iM (cL (cI .u64)) l15),(8,.iM (cL (cI .u64)) r17),(9,.vl 1 t29 0 l28.length),(10,.i6 z27)]∧σ=⟨[(1,.vec (List.map q0g l28).flatten 105 2 t29)],2⟩) (fun tm σ=>∃ l30:List q0x,∃ t31:Nat,qbe l30=some r∧tm=fr 92 [(9,.vl 1 t31 0 l30.length)]∧σ=⟨[(1,.vec (List.map q0g l30).flatten 105 2 t31)],2⟩) n ⟨0,([]:List q0x),0,hF,rfl,rfl⟩ ?_ ?_
 rintro _ _ ⟨l30,t31,hF,rfl,rfl⟩
 unfold qbe at hF
 refine go ?_
 obtain rfl:=sI hF
 exact rT (us:=[.vl 1 t31 0 l30.length,.i6 0]) (u:=.tup [.iM q0g l30,.i6 0]) (q2k rfl (q2k rfl (q33))) (fR 1 2)
 rintro (_|m2) _ _ ⟨z27,l28,t29,hF,rfl,rfl⟩
 cases hF
 unfold q46 at hF
 refine go ?_
 refine RS.q rfl (q0b rfl rfl rfl (q07 (cL (cI .u64)) und148)) ?_
 refine go ?_
 refine cF hF (fun h32 hF=>?_) (fun h32 hF=>?_)
 refine go ?_
 refine WPU.block ?_
 obtain ⟨x33,h34,hF⟩:=q00 hF
 obtain ⟨r35,h36,hF⟩:=q00 hF
 obtain ⟨x37,h38,hF⟩:=q00 hF
 refine go ?_
 refine z1d Tryz.tb_ok [(0,13),(1,13),(2,13),(3,13),(4,13),(5,13),(6,13),(8,13),(9,13),(10,13),(11,13),(12,13)] (by kernel_rfl) ?_
 repeat refine RD.mv rfl rfl rfl rfl ?_
 refine RD.q rfl (q0h rfl rfl (q09 (cL (cI .u64)) und148 (q03 inf103) (q3v (cI .u64)) h34 rfl)) (RD.q rfl (q0d und103 rfl rfl rfl) (RD.fl rfl (pC (qpx n p1 r5 l15 x33 r35 h36)) fn98 ?_))
 repeat refine RD.mv rfl rfl rfl rfl ?_
 refine RD.q rfl (q0h rfl rfl (q09 (cL (cI .u64)) und148 (q03 inf103) (q3v (cI .u64)) h38 rfl)) (RD.q rfl (q0d und103 rfl rfl rfl) (RD.q (u:=.agg [.str r35,.iM (cI .u64) x37]) rfl (q34 bd105 rfl rfl rfl) (RD.act (u:=.ptr 2 0 0) (σ':=⟨[(2,.row [.str [],.nils] 105),(1,.vec (List.map q0g l28).flatten 105 2 t29)],3⟩) rfl (q1d inf105 rfl rfl) rfl rfl ?_)))
 refine z1l (u:=.junk) (σ':=⟨[(2,.row [.str r35,.iM (cI .u64) x37] 105),(1,.vec (List.map q0g l28).flatten 105 2 t29)],3⟩) rfl (q0p (q03 inf105) rfl rfl rfl rfl rfl rfl rfl rfl) rfl ?_
 refine RD.done ⟨by kernel_rfl,⟨q1u rfl,⟨q1u rfl,⟨q1u rfl,⟨q1u rfl,⟨q1u rfl,⟨q0h rfl rfl (q09 (cL (cI .u64)) und148 (q03 inf103) (q3v (cI .u64)) h34 rfl),⟨q0d und103 rfl rfl rfl,⟨q1u rfl,⟨q1u rfl,⟨q0h rfl rfl (q09 (cL (cI .u64)) und148 (q03 inf103) (q3v (cI .u64)) h38 rfl),⟨q0d und103 rfl rfl rfl,⟨q34 bd105 rfl rfl rfl,trivial⟩⟩⟩⟩⟩⟩⟩⟩⟩⟩⟩⟩,?_⟩
 refine go ?_
 refine RS.q rfl (q0b rfl rfl rfl (q9o und99 rfl)) ?_
 refine go ?_
 refine gS (l':=[(0,_),(5,_),(6,_),(8,_),(9,_),(10,_),(11,_),(12,_)]) ?_
 refine z1b (fun m tm σ=>∃ z49:Int,q7s n z27 l28 (q46 p1 n r5 l15 r17 m2) r35 x37 m z49=some r∧tm=fr 92 [(0,.iM q02 p1),(5,.iM cS r5),(6,.iM (cL (cI .u64)) l15),(8,.iM (cL (cI .u64)) r17),(9,.vl 1 t29 0 l28.length),(10,.i6 z27),(11,.ptr 2 0 0),(12,.i6 z49)]∧σ=⟨[(2,.row [.str r35,.iM (cI .u64) x37] 105),(1,.vec (List.map q0g l28).flatten 105 2 t29)],3⟩) (fun tm σ=>∃ z50:Int,qbf z27 l28 (q46 p1 n r5 l15 r17 m2) r35 x37 z50=some r∧tm=fr 92 [(0,.iM q02 p1),(5,.iM cS r5),(6,.iM (cL (cI .u64)) l15),(8,.iM (cL (cI .u64)) r17),(9,.vl 1 t29 0 l28.length),(10,.i6 z27),(11,.ptr 2 0 0),(12,.i6 z50)]∧σ=⟨[(2,.row [.str r35,.iM (cI .u64) x37] 105),(1,.vec (List.map q0g l28).flatten 105 2 t29)],3⟩) n ⟨(l28.length:Int),hF,rfl,rfl⟩ ?_ ?_
 rintro _ _ ⟨z50,hF,rfl,rfl⟩
 unfold qbf at hF
 obtain ⟨h51,hF⟩:=q0a hF
 obtain ⟨h52,hF⟩:=q0a hF
 obtain ⟨h53,hF⟩:=q0a hF
 refine go ?_
 refine RS.q (u:=.vl 1 t29 0 z50.toNat) rfl (qaj rfl qqe (qz3 rfl) qqe (qyj q0g und99 (q03 inf105) q1p (vo rfl) (Nat.le_of_eq (Nat.zero_add _)) (que h51.1 h51.2))) (RS.q (u:=.vl 3 0 0 (((l28.drop 0).take z50.toNat).length)) (σ':=⟨[(3,.vec (List.map q0g ((l28.drop 0).take z50.toNat)).flatten 105 2 0),(2,.row [.str r35,.iM (cI .u64) x37] 105),(1,.vec (List.map q0g l28).flatten 105 2 t29)],4⟩) rfl (q1l rfl rfl rfl rfl (qqm q0g ((l28.drop 0).take z50.toNat) und99 und99 inf105 rfl (qsw q0g q1p (vo rfl) h52) h53)) ?_)
 obtain ⟨h54,hF⟩:=q0a hF
 refine go ?_
 refine RS.q (u:=.agg [.str r35,.iM (cI .u64) x37]) rfl (q14 und105 rfl (q03 inf105) rfl rfl rfl) (RS.q (u:=.sl 4 0 1 1) (σ':=⟨[(4,.row [.str r35,.iM (cI .u64) x37] 105),(3,.vec (List.map q0g ((l28.drop 0).take z50.toNat)).flatten 105 2 0),(2,.row [.str r35,.iM (cI .u64) x37] 105),(1,.vec (List.map q0g l28).flatten 105 2 t29)],5⟩) rfl (q0j und99 inf105 rfl rfl rfl rfl rfl rfl rfl) (RS.q (u:=.vl 3 1 0 ((((l28.drop 0).take z50.toNat)++[(q0x.mk r35 x37)]).length)) (σ':=⟨[(4,.row [.str r35,.iM (cI .u64) x37] 105),(3,.vec (List.map q0g (((l28.drop 0).take z50.toNat)++[(q0x.mk r35 x37)])).flatten 105 2 1),(2,.row [.str r35,.iM (cI .u64) x37] 105),(1,.vec (List.map q0g l28).flatten 105 2 t29)],5⟩) rfl (q1l rfl rfl rfl rfl (q1s q0g ([(q0x.mk r35 x37)]) und99 und99 inf105 rfl q1p rfl (q1i q0g [(q0x.mk r35 x37)] rfl rfl rfl rfl) h54)) ?_))
 obtain ⟨h55,hF⟩:=q0a hF
 obtain ⟨h56,hF⟩:=q0a hF
 obtain ⟨h57,hF⟩:=q0a hF
 refine go ?_
 refine RS.q (u:=.vl 1 t29 (0+z50.toNat) (l28.length - z50.toNat)) rfl (qaj rfl (qz3 rfl) qqe qqe (qyj q0g und99 (q03 inf105) q1p (vo rfl) (Nat.le_of_eq (Nat.zero_add _)) (quf h55.1 h55.2))) (RS.q (u:=.vl 3 2 0 (((((l28.drop 0).take z50.toNat)++[(q0x.mk r35 x37)])++((l28.drop (0+z50.toNat)).take (l28.length - z50.toNat))).length)) (σ':=⟨[(4,.row [.str r35,.iM (cI .u64) x37] 105),(3,.vec (List.map q0g ((((l28.drop 0).take z50.toNat)++[(q0x.mk r35 x37)])++((l28.drop (0+z50.toNat)).take (l28.length - z50.toNat)))).flatten 105 2 2),(2,.row [.str r35,.iM (cI .u64) x37] 105),(1,.vec (List.map q0g l28).flatten 105 2 t29)],5⟩) rfl (q1l rfl rfl rfl rfl (q1s q0g ((l28.drop (0+z50.toNat)).take (l28.length - z50.toNat)) und99 und99 inf105 rfl q1p rfl (qsw q0g q1p (vo rfl) h56) h57)) ?_)
 refine go ?_
 exact ⟨m2,_,_,Nat.lt_succ_self _,⟨(IntKind.i64.wrap (z27+1)),((((l28.drop 0).take z50.toNat)++[(q0x.mk r35 x37)])++((l28.drop (0+z50.toNat)).take (l28.length - z50.toNat))),2,hF,rfl,rfl⟩,NZ,Gh.trans (Gh.sub (l':=[(0,.iM q02 p1),(5,.iM cS r5),(6,.iM (cL (cI .u64)) l15),(8,.iM (cL (cI .u64)) r17),(9,.vl 3 2 0 (((((l28.drop 0).take z50.toNat)++[(q0x.mk r35 x37)])++((l28.drop (0+z50.toNat)).take (l28.length - z50.toNat))).length)),(10,.i6 (IntKind.i64.wrap (z27+1)))]) ⟨rfl,rfl,rfl,rfl,rfl,rfl,trivial⟩) (Gh.trans (Gh.mv (l':=[(0,.iM q02 p1),(5,.iM cS r5),(6,.iM (cL (cI .u64)) l15),(8,.iM (cL (cI .u64)) r17),(9,.vl 1 2 0 (((((l28.drop 0).take z50.toNat)++[(q0x.mk r35 x37)])++((l28.drop (0+z50.toNat)).take (l28.length - z50.toNat))).length)),(10,.i6 (IntKind.i64.wrap (z27+1)))]) (h':=[(4,.row [.str r35,.iM (cI .u64) x37] 105),(1,.vec (List.map q0g ((((l28.drop 0).take z50.toNat)++[(q0x.mk r35 x37)])++((l28.drop (0+z50.toNat)).take (l28.length - z50.toNat)))).flatten 105 2 2),(2,.row [.str r35,.iM (cI .u64) x37] 105)]) 1 3 NZ rfl rfl (by simp only [rS,rU,rUL,qe4,mvN,Nat.beq,cond_true,cond_false]) rfl (by simp only [avH,rB,qn3,rUL,rU,qe4,qsf,mvN,Nat.beq,cond_true,cond_false,and_self])) (Gh.toC (n1:=2) ⟨rfl,rfl,rfl,rfl,rfl,rfl,trivial⟩ rfl NZ (by simp)))⟩
 rintro (_|m3) _ _ ⟨z49,hF,rfl,rfl⟩
 cases hF
 unfold q7s at hF
 obtain ⟨b63,h64,hF⟩:=q00 hF
 refine gn ?_
 refine z1c (fun tm σ=>tm=fr 92 [(0,.iM q02 p1),(5,.iM cS r5),(6,.iM (cL (cI .u64)) l15),(8,.iM (cL (cI .u64)) r17),(9,.vl 1 t29 0 l28.length),(10,.i6 z27),(11,.ptr 2 0 0),(12,.i6 z49),(73,.bool b63)]∧σ=⟨[(2,.row [.str r35,.iM (cI .u64) x37] 105),(1,.vec (List.map q0g l28).flatten 105 2 t29)],3⟩) ?_ ?_
 rintro _ _ ⟨rfl,rfl⟩
 refine go ?_
 refine cF hF (fun h65 hF=>?_) (fun h65 hF=>?_)
 refine go ?_
 refine WPU.block ?_
 refine go ?_
 exact lC ⟨_,hF,rfl,rfl⟩
 refine go ?_
 exact xC ⟨z49,hF,rfl,rfl⟩
 rcases gB h64 with ⟨h58,h64⟩ | ⟨h58,h64⟩
 obtain ⟨x59,h60,h64⟩:=q00 h64
 obtain ⟨r61,h62,h64⟩:=q00 h64
 obtain rfl:=sI h64
 refine z1d Tryz.tb_ok [] (by kernel_rfl) ?_
 refine RD.mv rfl rfl rfl rfl (RD.q rfl (q2i rfl rfl (qkv _ _ _) rfl) (RD.mv rfl rfl rfl rfl (RD.w (u:=.agg [.str r35,.iM (cI .u64) x37]) rfl (q14 und105 rfl (q03 inf105) rfl rfl rfl) (RD.w rfl (q1u rfl) (RD.w rfl (q1u rfl) (RD.w rfl (q2i rfl rfl (qvj _ _ _) rfl) ?_))))))
 refine RD.w rfl (q0h rfl rfl (qa6 q0g und99 (q03 inf105) (by decide) q1p (vo rfl) h60)) ?_
 refine RD.w (u:=.agg (q0g x59)) rfl (ld_vec q0g und105 rfl (q03 inf105) q1p rfl rfl h60 rfl) (RD.fl rfl (pC (qm8 n (q0x.mk r35 x37) x59 r61 h62)) fn99 (RD.q rfl (qet rfl h58 rfl) ?_))
 refine RD.done ⟨by kernel_rfl,trivial,?_⟩
 refine go ?_
 exact xC ⟨rfl,rfl⟩
 obtain rfl:=sI h64
 refine z1d Tryz.tb_ok [] (by kernel_rfl) ?_
 refine RD.mv rfl rfl rfl rfl (RD.q rfl (q2i rfl rfl (qkv _ _ _) rfl) (RD.mv rfl rfl rfl rfl ?_))
 repeat refine RD.no (qrl rfl rfl rfl h58) rfl rfl ?_
 refine RD.q rfl (qes rfl h58 rfl) ?_
 refine RD.done ⟨by kernel_rfl,trivial,?_⟩
 refine go ?_
 exact xC ⟨rfl,rfl⟩
 refine go ?_
 exact xC ⟨l28,t29,hF,rfl,rfl⟩
 rintro (_|m1) _ _ ⟨z12,l13,t14,hF,rfl,rfl⟩
 cases hF
 unfold q7r at hF
 refine go ?_
 refine RS.q rfl (q0b rfl rfl rfl (q07 cS und80)) ?_
 refine go ?_
 refine cF hF (fun h66 hF=>?_) (fun h66 hF=>?_)
 refine go ?_
 refine WPU.block ?_
 obtain ⟨x67,h68,hF⟩:=q00 hF
 obtain ⟨r69,h70,hF⟩:=q00 hF
 obtain ⟨h71,hF⟩:=q0a hF
 refine go ?_
 refine RS.q rfl (q0h rfl rfl (q09 cS und80 (q03 inf9) q1k h68 rfl)) (RS.q rfl (q0d und9 rfl rfl rfl) (RS.cl rfl (pC (qpw n p1 r5 x67 r69 h70) _) fn96 (RS.q (u:=.sl 1 0 1 1) (σ':=⟨[(1,.row [.iM (cI .u64) r69] 103),(0,.vec (List.map (cL (cI .u64)) l13).flatten 103 1 t14)],2⟩) rfl (q0j und148 inf103 rfl rfl rfl rfl rfl rfl rfl) (RS.q (u:=.vl 0 (t14+1) 0 ((l13++[r69]).length)) (σ':=⟨[(1,.row [.iM (cI .u64) r69] 103),(0,.vec (List.map (cL (cI .u64)) (l13++[r69])).flatten 103 1 (t14+1))],2⟩) rfl (q1l rfl rfl rfl rfl (q1s (cL (cI .u64)) ([r69]) und148 und148 inf103 rfl (q3v (cI .u64)) rfl (q1i (cL (cI .u64)) [r69] rfl rfl rfl rfl) h71)) ?_))))
 refine go ?_
 exact lC ⟨_,(l13++[r69]),(t14+1),hF,rfl,rfl⟩
 refine go ?_
 exact xC ⟨l13,t14,hF,rfl,rfl⟩
def qbo   : Option ((List UInt8)×Bool) :=
 some ([],false)
def q7x (p1:q05) (p2:List UInt8):Nat→Int→Option ((List UInt8)×Bool)
 | 0,_=>none
 | m1+1,z8 =>
  cond (decide (z8<(p1.Feats.length:Int)))
   (q04 (q12 p1.Feats z8) fun x10 =>
   cond (q1o x10.Feat p2)
    (q04 (q12 p1.Feats z8) fun x13 =>
    some (x13.Value,true))
    ((q7x p1 p2 m1) (IntKind.i64.wrap (z8+1))))
   (qbo)
def qd8 (n:Nat) (p1:q05) (p2:List UInt8):Option ((List UInt8)×Bool) :=
 q7x p1 p2 n 0
theorem qhe (n:Nat) (p1:q05) (p2:List UInt8) (r:(List UInt8)×Bool) (hF:qd8 n p1 p2=some r):EvU Tryz.prog 117 [.agg (q02 p1),.str p2] ⟨[],0⟩ (fun u _=>u = .tup [.str r.1,.bool r.2]∧Bel 0 u):=by
 unfold qd8 at hF
 refine bg2 28 fn117 ?_
 refine go ?_
 refine RS.q (u:=.ptr 0 0 0) (σ':=⟨[(0,.row (q02 p1) 127)],1⟩) rfl (q3i rfl rfl rfl) ?_
 refine go ?_
 refine gS (l':=[(1,_),(2,_),(6,_)]) ?_
 refine z1b (fun m tm σ=>∃ z8:Int,q7x p1 p2 m z8=some r∧tm=fr 28 [(1,.str p2),(2,.ptr 0 0 0),(6,.i6 z8)]∧σ=⟨[(0,.row (q02 p1) 127)],1⟩) (fun tm σ=>qbo=some r∧tm=fr 28 []∧σ=⟨[(0,.row (q02 p1) 127)],1⟩) n ⟨0,hF,rfl,rfl⟩ ?_ ?_
 rintro _ _ ⟨hF,rfl,rfl⟩
 unfold qbo at hF
 refine go ?_
 obtain rfl:=sI hF
 exact rt2 rfl rfl rfl rfl rfl
 rintro (_|m1) _ _ ⟨z8,hF,rfl,rfl⟩
 cases hF
 unfold q7x at hF
 refine go ?_
 refine RS.q rfl (q0s und127 rfl (q03 inf125) rfl rfl rfl) (RS.q rfl (q0l und125 rfl rfl rfl rfl) (RS.q rfl (q0b rfl rfl rfl (q07 q0f und125)) ?_))
 refine go ?_
 refine cF hF (fun h9 hF=>?_) (fun h9 hF=>?_)
 refine go ?_
 refine WPU.block ?_
 obtain ⟨x10,h11,hF⟩:=q00 hF
 refine go ?_
 refine RS.q rfl (q0s und127 rfl (q03 inf125) rfl rfl rfl) (RS.q rfl (q0l und125 rfl rfl rfl rfl) ?_)
 refine go ?_
 refine RS.q rfl (q0h rfl rfl (q09 q0f und125 (q03 inf162) q22 h11 rfl)) (RS.q rfl (q1m und162 rfl (q03 inf9) rfl rfl) (RS.q rfl (q0d und9 rfl rfl rfl) ?_))
 refine go ?_
 refine RS.q (u:=.bool (q1o x10.Feat p2)) rfl (q8o rfl rfl rfl rfl) ?_
 refine go ?_
 refine cF hF (fun h12 hF=>?_) (fun h12 hF=>?_)
 obtain ⟨x13,h14,hF⟩:=q00 hF
 refine go ?_
 refine RS.q rfl (q0s und127 rfl (q03 inf125) rfl rfl rfl) (RS.q rfl (q0l und125 rfl rfl rfl rfl) ?_)
 refine go ?_
 refine RS.q rfl (q0h rfl rfl (q09 q0f und125 (q03 inf162) q22 h14 rfl)) (RS.q rfl (q1m und162 rfl (q03 inf9) rfl rfl) (RS.q rfl (q0d und9 rfl rfl rfl) ?_))
 refine go ?_
 obtain rfl:=sI hF
 exact rt2 rfl rfl rfl rfl rfl
 refine go ?_
 exact lC ⟨_,hF,rfl,rfl⟩
 refine go ?_
 exact xC ⟨hF,rfl,rfl⟩
def q7w (z8:Int) (rc1:(List (List UInt8))→Int→Option ((List UInt8)×Bool)) (l21:List (List UInt8)):Option ((List UInt8)×Bool) :=
 rc1 l21 (IntKind.i64.wrap (z8+1))
def qbm (p1:List q05) (n:Nat) (l9:List (List UInt8)):Option ((List UInt8)×Bool) :=
 q04 (q92 n p1 l9) fun r10 =>
 cond ((r10.length:Int) != 1)
  (some ([],false))
  (q04 (q12 r10 0) fun x13 =>
  some (x13,true))
def q4a (p1:List q05) (p2:List UInt8) (n:Nat):Nat→(List (List UInt8))→Int→Option ((List UInt8)×Bool)
 | 0,_,_=>none
 | m1+1,l7,z8 =>
  cond (decide (z8<(p1.length:Int)))
   (q04 (q12 p1 z8) fun x16 =>
   q04 (qd8 n x16 p2) fun r18 =>
   cond r18.2
    (q04 (q12 p1 z8) fun x22 =>
    q04 (q88 n l7 x22.Name) fun r24 =>
    q7w z8 (q4a p1 p2 n m1) r24)
    (q7w z8 (q4a p1 p2 n m1) l7))
   (qbm p1 n l7)
def qd7 (n:Nat) (p1:List q05) (p2:List UInt8):Option ((List UInt8)×Bool) :=
 q4a p1 p2 n n [] 0
theorem qhd (n:Nat) (p1:List q05) (p2:List UInt8) (r:(List UInt8)×Bool) (hF:qd7 n p1 p2=some r):EvU Tryz.prog 101 [.isl false (List.map q02 p1),.str p2] ⟨[],0⟩ (fun u _=>u = .tup [.str r.1,.bool r.2]∧Bel 0 u):=by
 unfold qd7 at hF
 refine bg2 43 fn101 ?_
 refine gr ?_
 refine gr ?_
 refine gr ?_
 refine WPU.ghost (tm':=fr 43 [(0,.iM q02 p1),(1,.str p2),(6,.iM cS []),(7,.i6 0)]) (Gh.trans (Gh.sub (l':=[(0,.iM q02 p1),(1,.str p2),(6,.nils),(7,.i6 0)]) ⟨rfl,rfl,rfl,rfl,trivial⟩) (Gh.wkS (l':=[(0,.iM q02 p1),(1,.str p2),(6,.iM cS []),(7,.i6 0)]) (.cons (.refl _) (.cons (.refl _) (.cons (.nil false) (.cons (.refl _) .nil)))))) NZ ?_
 refine gS (l':=[(0,_),(1,_),(6,_),(7,_)]) ?_
 refine z1b (fun m tm σ=>∃ l7:List (List UInt8),∃ z8:Int,q4a p1 p2 n m l7 z8=some r∧tm=fr 43 [(0,.iM q02 p1),(1,.str p2),(6,.iM cS l7),(7,.i6 z8)]∧σ=⟨[],0⟩) (fun tm σ=>∃ l9:List (List UInt8),qbm p1 n l9=some r∧tm=fr 43 [(0,.iM q02 p1),(6,.iM cS l9)]∧σ=⟨[],0⟩) n ⟨[],0,hF,rfl,rfl⟩ ?_ ?_
 rintro _ _ ⟨l9,hF,rfl,rfl⟩
 unfold qbm at hF
 obtain ⟨r10,h11,hF⟩:=q00 hF
 refine go ?_
 refine RS.cl rfl (pC (qe6 n p1 l9 r10 h11) _) fn131 ?_
 refine go ?_
 refine RS.q rfl (q0b rfl rfl rfl (q07 cS und80)) ?_
 refine go ?_
 refine cF hF (fun h12 hF=>?_) (fun h12 hF=>?_)
 refine go ?_
 obtain rfl:=sI hF
 exact rt2 rfl rfl rfl rfl rfl
 obtain ⟨x13,h14,hF⟩:=q00 hF
 refine go ?_
 refine RS.q rfl (q0h rfl rfl (q09 cS und80 (q03 inf9) q1k h14 rfl)) (RS.q rfl (q0d und9 rfl rfl rfl) ?_)
 refine go ?_
 obtain rfl:=sI hF
 exact rt2 rfl rfl rfl rfl rfl
 rintro (_|m1) _ _ ⟨l7,z8,hF,rfl,rfl⟩
 cases hF
 unfold q4a at hF
 refine go ?_
 refine RS.q rfl (q0b rfl rfl rfl (q07 q02 und38)) ?_
 refine go ?_
 refine cF hF (fun h15 hF=>?_) (fun h15 hF=>?_)
 refine go ?_
 refine WPU.block ?_
 obtain ⟨x16,h17,hF⟩:=q00 hF
 obtain ⟨r18,h19,hF⟩:=q00 hF
 refine go ?_
 refine RS.q rfl (q0h rfl rfl (q09 q02 und38 (q03 inf127) q0k h17 rfl)) (RS.q (u:=.agg (q02 x16)) rfl (qag und127 rfl (q03 inf127) rfl rfl) ?_)
 refine go ?_
 refine RS.cl rfl (pC (qhe n x16 p2 r18 h19) _) fn117 ?_
 refine gr ?_
 refine z1c (fun tm σ=>∃ l21:List (List UInt8),q7w z8 (q4a p1 p2 n m1) l21=some r∧tm=fr 43 [(0,.iM q02 p1),(1,.str p2),(6,.iM cS l21),(7,.i6 z8)]∧σ=⟨[],0⟩) ?_ ?_
 rintro _ _ ⟨l21,hF,rfl,rfl⟩
 unfold q7w at hF
 refine go ?_
 exact lC ⟨l21,(IntKind.i64.wrap (z8+1)),hF,rfl,rfl⟩
 refine cF hF (fun h20 hF=>?_) (fun h20 hF=>?_)
 obtain ⟨x22,h23,hF⟩:=q00 hF
 obtain ⟨r24,h25,hF⟩:=q00 hF
 refine go ?_
 refine RS.q rfl (q0h rfl rfl (q09 q02 und38 (q03 inf127) q0k h23 rfl)) (RS.q rfl (q1m und127 rfl (q03 inf9) rfl rfl) (RS.q rfl (q0d und9 rfl rfl rfl) (RS.cl rfl (pC (q71 n l7 x22.Name r24 h25) _) fn116 ?_)))
 refine go ?_
 exact xC ⟨r24,hF,rfl,rfl⟩
 refine go ?_
 exact xC ⟨l7,hF,rfl,rfl⟩
 refine go ?_
 exact xC ⟨l7,hF,rfl,rfl⟩
def q4n (n:Nat) (r2:(List (List UInt8))) (x9:q05) (z16:Int) (rc2:Int→Option (Int))  : Option (Int) :=
 q04 (q12 x9.Feats z16) fun x30 =>
 q04 (q2u n r2 x30.Value) fun r32 =>
 cond (!r32)
  (some 5)
  (rc2 (IntKind.i64.wrap (z16+1)))
def q3a (n:Nat) (r2:(List (List UInt8))) (x9:q05) (z16:Int) (rc2:Int→Option (Int)):Nat→Int→Option (Int)
 | 0,_=>none
 | m3+1,z29 =>
  cond (decide (z29<z16))
   (q04 (q12 x9.Feats z29) fun x36 =>
   q04 (q12 x9.Feats z16) fun x38 =>
   cond (q1o x36.Feat x38.Feat)
    (some 4)
    ((q3a n r2 x9 z16 rc2 m3) (IntKind.i64.wrap (z29+1))))
   (q4n n r2 x9 z16 rc2)
def q4m (z7:Int) (rc1:Int→Option (Int))  : Option (Int) :=
 rc1 (IntKind.i64.wrap (z7+1))
def q1z (n:Nat) (r2:(List (List UInt8))) (z7:Int) (rc1:Int→Option (Int)) (x9:q05):Nat→Int→Option (Int)
 | 0,_=>none
 | m2+1,z16 =>
  cond (decide (z16<(x9.Feats.length:Int)))
   (q04 (q12 x9.Feats z16) fun x18 =>
   q04 (qcp n x18.Feat) fun r20 =>
   cond (!r20)
    (some 1)
    (q3a n r2 x9 z16 (q1z n r2 z7 rc1 x9 m2) n 0))
   (q4m z7 rc1)
def q4l   : Option (Int) :=
 some 0
def q1f (p1:List q05) (n:Nat) (r2:(List (List UInt8))):Nat→Int→Option (Int)
 | 0,_=>none
 | m1+1,z7 =>
  cond (decide (z7<(p1.length:Int)))
   (q04 (q12 p1 z7) fun x9 =>
   q1z n r2 z7 (q1f p1 n r2 m1) x9 n 0)
   (q4l)
def q6i (n:Nat) (p1:List q05):Option (Int) :=
 q04 (qcy n p1) fun r2 =>
 q1f p1 n r2 n 0
theorem qf7 (n:Nat) (p1:List q05) (r:Int) (hF:q6i n p1=some r):EvU Tryz.prog 115 [.isl false (List.map q02 p1)] ⟨[],0⟩ (fun u _=>u = .int .i64 r∧Bel 0 u):=by
 unfold q6i at hF
 refine bg1 58 fn115 ?_
 obtain ⟨r2,h3,hF⟩:=q00 hF
 refine go ?_
 refine RS.cl rfl (pC (qhb n p1 r2 h3) _) fn95 ?_
 refine go ?_
 refine gS (l':=[(0,_),(3,_),(4,_)]) ?_
 refine z1b (fun m tm σ=>∃ z7:Int,q1f p1 n r2 m z7=some r∧tm=fr 58 [(0,.iM q02 p1),(3,.iM cS r2),(4,.i6 z7)]∧σ=⟨[],0⟩) (fun tm σ=>q4l=some r∧tm=fr 58 []∧σ=⟨[],0⟩) n ⟨0,hF,rfl,rfl⟩ ?_ ?_
 rintro _ _ ⟨hF,rfl,rfl⟩
 unfold q4l at hF
 exact gx hF
 rintro (_|m1) _ _ ⟨z7,hF,rfl,rfl⟩
 cases hF
 unfold q1f at hF
 refine go ?_
 refine RS.q rfl (q0b rfl rfl rfl (q07 q02 und38)) ?_
 refine go ?_
 refine cF hF (fun h8 hF=>?_) (fun h8 hF=>?_)
 refine go ?_
 refine WPU.block ?_
 obtain ⟨x9,h10,hF⟩:=q00 hF
 refine go ?_
 refine RS.q rfl (q0h rfl rfl (q09 q02 und38 (q03 inf127) q0k h10 rfl)) (RS.q rfl (q1m und127 rfl (q03 inf125) rfl rfl) (RS.q rfl (q0d und125 rfl rfl rfl) ?_))
 refine go ?_
 refine gS (l':=[(0,_),(3,_),(4,_),(5,_),(6,_)]) ?_
 refine z1b (fun m tm σ=>∃ z16:Int,q1z n r2 z7 (q1f p1 n r2 m1) x9 m z16=some r∧tm=fr 58 [(0,.iM q02 p1),(3,.iM cS r2),(4,.i6 z7),(5,.iM q0f x9.Feats),(6,.i6 z16)]∧σ=⟨[],0⟩) (fun tm σ=>q4m z7 (q1f p1 n r2 m1)=some r∧tm=fr 58 [(0,.iM q02 p1),(3,.iM cS r2),(4,.i6 z7)]∧σ=⟨[],0⟩) n ⟨0,hF,rfl,rfl⟩ ?_ ?_
 rintro _ _ ⟨hF,rfl,rfl⟩
 unfold q4m at hF
 refine go ?_
 exact lC ⟨_,hF,rfl,rfl⟩
 rintro (_|m2) _ _ ⟨z16,hF,rfl,rfl⟩
 cases hF
 unfold q1z at hF
 refine go ?_
 refine RS.q rfl (q0b rfl rfl rfl (q07 q0f und125)) ?_
 refine go ?_
 refine cF hF (fun h17 hF=>?_) (fun h17 hF=>?_)
 refine go ?_
 refine WPU.block ?_
 obtain ⟨x18,h19,hF⟩:=q00 hF
 obtain ⟨r20,h21,hF⟩:=q00 hF
 refine go ?_
 refine RS.q rfl (q0h rfl rfl (q09 q0f und125 (q03 inf162) q22 h19 rfl)) (RS.q rfl (q1m und162 rfl (q03 inf9) rfl rfl) (RS.q rfl (q0d und9 rfl rfl rfl) (RS.cl rfl (pC (qla n x18.Feat r20 h21) _) fn57 ?_)))
 refine go ?_
 refine cF hF (fun h22 hF=>?_) (fun h22 hF=>?_)
 exact gx hF
 refine go ?_
 refine gS (l':=[(0,_),(3,_),(4,_),(5,_),(6,_),(7,_)]) ?_
 refine z1b (fun m tm σ=>∃ z29:Int,q3a n r2 x9 z16 (q1z n r2 z7 (q1f p1 n r2 m1) x9 m2) m z29=some r∧tm=fr 58 [(0,.iM q02 p1),(3,.iM cS r2),(4,.i6 z7),(5,.iM q0f x9.Feats),(6,.i6 z16),(7,.i6 z29)]∧σ=⟨[],0⟩) (fun tm σ=>q4n n r2 x9 z16 (q1z n r2 z7 (q1f p1 n r2 m1) x9 m2)=some r∧tm=fr 58 [(0,.iM q02 p1),(3,.iM cS r2),(4,.i6 z7),(5,.iM q0f x9.Feats),(6,.i6 z16)]∧σ=⟨[],0⟩) n ⟨0,hF,rfl,rfl⟩ ?_ ?_
 rintro _ _ ⟨hF,rfl,rfl⟩
 unfold q4n at hF
 obtain ⟨x30,h31,hF⟩:=q00 hF
 obtain ⟨r32,h33,hF⟩:=q00 hF
 refine go ?_
 refine RS.q rfl (q0h rfl rfl (q09 q0f und125 (q03 inf162) q22 h31 rfl)) (RS.q rfl (q1m und162 rfl (q03 inf9) rfl rfl) (RS.q rfl (q0d und9 rfl rfl rfl) (RS.cl rfl (pC (q24 n r2 x30.Value r32 h33) _) fn126 ?_)))
 refine go ?_
 refine cF hF (fun h34 hF=>?_) (fun h34 hF=>?_)
 exact gx hF
 refine go ?_
 exact lC ⟨_,hF,rfl,rfl⟩
 rintro (_|m3) _ _ ⟨z29,hF,rfl,rfl⟩
 cases hF
 unfold q3a at hF
 refine go ?_
 refine cF hF (fun h35 hF=>?_) (fun h35 hF=>?_)
 refine go ?_
 refine WPU.block ?_
 obtain ⟨x36,h37,hF⟩:=q00 hF
 obtain ⟨x38,h39,hF⟩:=q00 hF
 refine go ?_
 refine z1d Tryz.tb_ok [] (by kernel_rfl) ?_
 repeat refine RD.mv rfl rfl rfl rfl ?_
 refine RD.q rfl (q0h rfl rfl (q09 q0f und125 (q03 inf162) q22 h37 rfl)) (RD.q rfl (q1m und162 rfl (q03 inf9) rfl rfl) (RD.q rfl (q0d und9 rfl rfl rfl) ?_))
 repeat refine RD.mv rfl rfl rfl rfl ?_
 refine RD.q rfl (q0h rfl rfl (q09 q0f und125 (q03 inf162) q22 h39 rfl)) (RD.q rfl (q1m und162 rfl (q03 inf9) rfl rfl) (RD.q rfl (q0d und9 rfl rfl rfl) (RD.q (u:=.bool (q1o x36.Feat x38.Feat)) rfl (q8o rfl rfl rfl rfl) ?_)))
 refine RD.done ⟨by kernel_rfl,trivial,?_⟩
 refine go ?_
 refine cF hF (fun h40 hF=>?_) (fun h40 hF=>?_)
 exact gx hF
 refine go ?_
 exact lC ⟨_,hF,rfl,rfl⟩
 refine go ?_
 exact xC ⟨hF,rfl,rfl⟩
 refine go ?_
 exact xC ⟨hF,rfl,rfl⟩
 refine go ?_
 exact xC ⟨hF,rfl,rfl⟩
def qbl (z6:Int) (rc1:(List (List UInt8))→Int→Option ((List (List UInt8)))) (l15:List (List UInt8)):Option ((List (List UInt8))) :=
 rc1 l15 (IntKind.i64.wrap (z6+1))
def q7v (p1:List q05) (n:Nat) (z6:Int) (rc1:(List (List UInt8))→Int→Option ((List (List UInt8)))):Nat→(List (List UInt8))→Int→Option ((List (List UInt8)))
 | 0,_,_=>none
 | m2+1,l13,z14 =>
  q04 (q12 p1 z6) fun x16 =>
  cond (decide (z14<(x16.Feats.length:Int)))
   (q04 (q12 p1 z6) fun x19 =>
   q04 (q12 x19.Feats z14) fun x21 =>
   q04 (q88 n l13 x21.Feat) fun r23 =>
   (q7v p1 n z6 rc1 m2) r23 (IntKind.i64.wrap (z14+1)))
   (qbl z6 rc1 l13)
def qbk  (l7:List (List UInt8)):Option ((List (List UInt8))) :=
 some l7
def q49 (p1:List q05) (n:Nat):Nat→(List (List UInt8))→Int→Option ((List (List UInt8)))
 | 0,_,_=>none
 | m1+1,l5,z6 =>
  cond (decide (z6<(p1.length:Int)))
   (q7v p1 n z6 (q49 p1 n m1) n l5 0)
   (qbk l5)
def qa1 (n:Nat) (p1:List q05):Option ((List (List UInt8))) :=
 q49 p1 n n [] 0
theorem qd6 (n:Nat) (p1:List q05) (r:(List (List UInt8))) (hF:qa1 n p1=some r):EvU Tryz.prog 91 [.isl false (List.map q02 p1)] ⟨[],0⟩ (fun u _=>u = .isl false (List.map cS r)∧Bel 0 u):=by
 unfold qa1 at hF
 refine bg1 34 fn91 ?_
 refine gr ?_
 refine gr ?_
 refine gr ?_
 refine WPU.ghost (tm':=fr 34 [(0,.iM q02 p1),(3,.iM cS []),(4,.i6 0)]) (Gh.trans (Gh.sub (l':=[(0,.iM q02 p1),(3,.nils),(4,.i6 0)]) ⟨rfl,rfl,rfl,trivial⟩) (Gh.wkS (l':=[(0,.iM q02 p1),(3,.iM cS []),(4,.i6 0)]) (.cons (.refl _) (.cons (.nil false) (.cons (.refl _) .nil))))) NZ ?_
 refine gS (l':=[(0,_),(3,_),(4,_)]) ?_
 refine z1b (fun m tm σ=>∃ l5:List (List UInt8),∃ z6:Int,q49 p1 n m l5 z6=some r∧tm=fr 34 [(0,.iM q02 p1),(3,.iM cS l5),(4,.i6 z6)]∧σ=⟨[],0⟩) (fun tm σ=>∃ l7:List (List UInt8),qbk l7=some r∧tm=fr 34 [(3,.iM cS l7)]∧σ=⟨[],0⟩) n ⟨[],0,hF,rfl,rfl⟩ ?_ ?_
 rintro _ _ ⟨l7,hF,rfl,rfl⟩
 unfold qbk at hF
 exact gx hF
 rintro (_|m1) _ _ ⟨l5,z6,hF,rfl,rfl⟩
 cases hF
 unfold q49 at hF
 refine go ?_
 refine RS.q rfl (q0b rfl rfl rfl (q07 q02 und38)) ?_
 refine go ?_
 refine cF hF (fun h8 hF=>?_) (fun h8 hF=>?_)
 refine go ?_
 refine WPU.block ?_
 refine go ?_
 refine gS (l':=[(0,_),(3,_),(4,_),(5,_)]) ?_
 refine z1b (fun m tm σ=>∃ l13:List (List UInt8),∃ z14:Int,q7v p1 n z6 (q49 p1 n m1) m l13 z14=some r∧tm=fr 34 [(0,.iM q02 p1),(3,.iM cS l13),(4,.i6 z6),(5,.i6 z14)]∧σ=⟨[],0⟩) (fun tm σ=>∃ l15:List (List UInt8),qbl z6 (q49 p1 n m1) l15=some r∧tm=fr 34 [(0,.iM q02 p1),(3,.iM cS l15),(4,.i6 z6)]∧σ=⟨[],0⟩) n ⟨l5,0,hF,rfl,rfl⟩ ?_ ?_
 rintro _ _ ⟨l15,hF,rfl,rfl⟩
 unfold qbl at hF
 refine go ?_
 exact lC ⟨l15,(IntKind.i64.wrap (z6+1)),hF,rfl,rfl⟩
 rintro (_|m2) _ _ ⟨l13,z14,hF,rfl,rfl⟩
 cases hF
 unfold q7v at hF
 obtain ⟨x16,h17,hF⟩:=q00 hF
 refine go ?_
 refine RS.q rfl (q0h rfl rfl (q09 q02 und38 (q03 inf127) q0k h17 rfl)) (RS.q rfl (q1m und127 rfl (q03 inf125) rfl rfl) (RS.q rfl (q0d und125 rfl rfl rfl) (RS.q rfl (q0b rfl rfl rfl (q07 q0f und125)) ?_)))
 refine go ?_
 refine cF hF (fun h18 hF=>?_) (fun h18 hF=>?_)
 refine go ?_
 refine WPU.block ?_
 obtain ⟨x19,h20,hF⟩:=q00 hF
 obtain ⟨x21,h22,hF⟩:=q00 hF
 obtain ⟨r23,h24,hF⟩:=q00 hF
 refine go ?_
 refine RS.q rfl (q0h rfl rfl (q09 q02 und38 (q03 inf127) q0k h20 rfl)) (RS.q rfl (q1m und127 rfl (q03 inf125) rfl rfl) (RS.q rfl (q0d und125 rfl rfl rfl) ?_))
 refine go ?_
 refine RS.q rfl (q0h rfl rfl (q09 q0f und125 (q03 inf162) q22 h22 rfl)) (RS.q rfl (q1m und162 rfl (q03 inf9) rfl rfl) (RS.q rfl (q0d und9 rfl rfl rfl) (RS.cl rfl (pC (q71 n l13 x21.Feat r23 h24) _) fn116 ?_)))
 refine go ?_
 exact lC ⟨r23,(IntKind.i64.wrap (z14+1)),hF,rfl,rfl⟩
 refine go ?_
 exact xC ⟨l13,hF,rfl,rfl⟩
 refine go ?_
 exact xC ⟨l5,hF,rfl,rfl⟩
def q47 (n:Nat) (p1:List q0x) (p2:Int) (p3:Int):Option (Bool) :=
 q04 (q12 p1 p3) fun x4 =>
 q04 (q12 p1 p2) fun x6 =>
 q04 (q87 n x4.Code x6.Code) fun r8 =>
 some r8
theorem q3x (n:Nat) (p1:List q0x) (p2:Int) (p3:Int) (r:Bool) (hF:q47 n p1 p2 p3=some r):EvU Tryz.prog 100 [.isl false (List.map q0g p1),.int .i64 p2,.int .i64 p3] ⟨[],0⟩ (fun u _=>u = .bool r∧Bel 0 u):=by
 unfold q47 at hF
 refine bg3 18 fn100 ?_
 obtain ⟨x4,h5,hF⟩:=q00 hF
 obtain ⟨x6,h7,hF⟩:=q00 hF
 obtain ⟨r8,h9,hF⟩:=q00 hF
 refine go ?_
 refine z1d Tryz.tb_ok [] (by kernel_rfl) ?_
 repeat refine RD.mv rfl rfl rfl rfl ?_
 refine RD.q rfl (q0h rfl rfl (q09 q0g und99 (q03 inf105) q1p h5 rfl)) (RD.q rfl (q1m und105 rfl (q03 inf103) rfl rfl) (RD.q rfl (q0d und103 rfl rfl rfl) ?_))
 repeat refine RD.mv rfl rfl rfl rfl ?_
 refine RD.q rfl (q0h rfl rfl (q09 q0g und99 (q03 inf105) q1p h7 rfl)) (RD.q rfl (q1m und105 rfl (q03 inf103) rfl rfl) (RD.q rfl (q0d und103 rfl rfl rfl) (RD.fl rfl (pC (q7g n x4.Code x6.Code r8 h9)) fn133 (RD.as rfl rfl rfl rfl ?_))))
 refine RD.done ⟨by kernel_rfl,trivial,?_⟩
 exact gx hF
def qa2   : Option (Int) :=
 some (-1)
def q6l (p1:List q0x) (p2:List UInt8):Nat→Int→Option (Int)
 | 0,_=>none
 | m1+1,z6 =>
  cond (decide (z6<(p1.length:Int)))
   (q04 (q12 p1 z6) fun x8 =>
   cond (q1o x8.Name p2)
    (some z6)
    ((q6l p1 p2 m1) (IntKind.i64.wrap (z6+1))))
   (qa2)
def q89 (n:Nat) (p1:List q0x) (p2:List UInt8):Option (Int) :=
 q6l p1 p2 n 0
theorem qbn (n:Nat) (p1:List q0x) (p2:List UInt8) (r:Int) (hF:q89 n p1 p2=some r):EvU Tryz.prog 102 [.isl false (List.map q0g p1),.str p2] ⟨[],0⟩ (fun u _=>u = .int .i64 r∧Bel 0 u):=by
 unfold q89 at hF
 refine bg2 20 fn102 ?_
 refine go ?_
 refine gS (l':=[(0,_),(1,_),(5,_)]) ?_
 refine z1b (fun m tm σ=>∃ z6:Int,q6l p1 p2 m z6=some r∧tm=fr 20 [(0,.iM q0g p1),(1,.str p2),(5,.i6 z6)]∧σ=⟨[],0⟩) (fun tm σ=>qa2=some r∧tm=fr 20 []∧σ=⟨[],0⟩) n ⟨0,hF,rfl,rfl⟩ ?_ ?_
 rintro _ _ ⟨hF,rfl,rfl⟩
 unfold qa2 at hF
 exact gx hF
 rintro (_|m1) _ _ ⟨z6,hF,rfl,rfl⟩
 cases hF
 unfold q6l at hF
 refine go ?_
 refine RS.q rfl (q0b rfl rfl rfl (q07 q0g und99)) ?_
 refine go ?_
 refine cF hF (fun h7 hF=>?_) (fun h7 hF=>?_)
 refine go ?_
 refine WPU.block ?_
 obtain ⟨x8,h9,hF⟩:=q00 hF
 refine go ?_
 refine RS.q rfl (q0h rfl rfl (q09 q0g und99 (q03 inf105) q1p h9 rfl)) (RS.q rfl (q1m und105 rfl (q03 inf9) rfl rfl) (RS.q rfl (q0d und9 rfl rfl rfl) ?_))
 refine go ?_
 refine RS.q (u:=.bool (q1o x8.Name p2)) rfl (q8o rfl rfl rfl rfl) ?_
 refine go ?_
 refine cF hF (fun h10 hF=>?_) (fun h10 hF=>?_)
 exact gx hF
 refine go ?_
 exact lC ⟨_,hF,rfl,rfl⟩
 refine go ?_
 exact xC ⟨hF,rfl,rfl⟩
def q6k  (b17:Bool) (l18:List Int):Option ((List Int)×Bool) :=
 some (l18,b17)
def q3b (p1:List q05) (p2:List q0x) (p3:Int) (p4:List UInt8) (n:Nat):Nat→Bool→(List Int)→Int→Option ((List Int)×Bool)
 | 0,_,_,_=>none
 | m1+1,b14,l15,z16 =>
  cond (decide (z16<(p1.length:Int)))
   (q04 (q12 p1 z16) fun x20 =>
   q04 (qd8 n x20 p4) fun r22 =>
   q04 (cond (!r22.2)
    (some true)
    (q04 (q12 p1 z16) fun x25 =>
    q04 (q89 n p2 x25.Name) fun r27 =>
    q04 (q47 n p2 r27 p3) fun r29 =>
    some (!r29))) fun b31 =>
   cond b31
    ((q3b p1 p2 p3 p4 n m1) b14 l15 (IntKind.i64.wrap (z16+1)))
    (q04 (q89 n p2 r22.1) fun r34 =>
    q04 (q12 p2 r34) fun x36 =>
    q04 (qh8 n l15 x36.Code) fun r38 =>
    (q3b p1 p2 p3 p4 n m1) true r38 (IntKind.i64.wrap (z16+1))))
   (q6k b14 l15)
def q6j (n:Nat) (p1:List q05) (p2:List q0x) (p3:Int) (p4:List UInt8):Option ((List Int)×Bool) :=
 q04 (q12 p2 0) fun x5 =>
 q3b p1 p2 p3 p4 n n false x5.Code 0
theorem qbx (n:Nat) (p1:List q05) (p2:List q0x) (p3:Int) (p4:List UInt8) (r:(List Int)×Bool) (hF:q6j n p1 p2 p3 p4=some r):EvU Tryz.prog 92 [.isl false (List.map q02 p1),.isl false (List.map q0g p2),.int .i64 p3,.str p4] ⟨[],0⟩ (fun u _=>u = .tup [.isl false (List.map (cI .u64) r.1),.bool r.2]∧Bel 0 u):=by
 unfold q6j at hF
 refine bg4 60 fn92 ?_
 obtain ⟨x5,h6,hF⟩:=q00 hF
 refine go ?_
 refine RS.q rfl (q0h rfl rfl (q09 q0g und99 (q03 inf105) q1p h6 rfl)) (RS.q rfl (q1m und105 rfl (q03 inf103) rfl rfl) (RS.q rfl (q0d und103 rfl rfl rfl) ?_))
 refine go ?_
 refine gS (l':=[(0,_),(1,_),(2,_),(3,_),(10,_),(11,_),(12,_)]) ?_
 refine z1b (fun m tm σ=>∃ b14:Bool,∃ l15:List Int,∃ z16:Int,q3b p1 p2 p3 p4 n m b14 l15 z16=some r∧tm=fr 60 [(0,.iM q02 p1),(1,.iM q0g p2),(2,.i6 p3),(3,.str p4),(10,.bool b14),(11,.iM (cI .u64) l15),(12,.i6 z16)]∧σ=⟨[],0⟩) (fun tm σ=>∃ b17:Bool,∃ l18:List Int,q6k b17 l18=some r∧tm=fr 60 [(10,.bool b17),(11,.iM (cI .u64) l18)]∧σ=⟨[],0⟩) n ⟨false,x5.Code,0,hF,rfl,rfl⟩ ?_ ?_
 rintro _ _ ⟨b17,l18,hF,rfl,rfl⟩
 unfold q6k at hF
 refine go ?_
 obtain rfl:=sI hF
 exact rt2 rfl rfl rfl rfl rfl
 rintro (_|m1) _ _ ⟨b14,l15,z16,hF,rfl,rfl⟩
 cases hF
 unfold q3b at hF
 refine go ?_
 refine RS.q rfl (q0b rfl rfl rfl (q07 q02 und38)) ?_
 refine go ?_
 refine cF hF (fun h19 hF=>?_) (fun h19 hF=>?_)
 refine go ?_
 refine WPU.block ?_
 obtain ⟨x20,h21,hF⟩:=q00 hF
 obtain ⟨r22,h23,hF⟩:=q00 hF
 refine go ?_
 refine RS.q rfl (q0h rfl rfl (q09 q02 und38 (q03 inf127) q0k h21 rfl)) (RS.q (u:=.agg (q02 x20)) rfl (qag und127 rfl (q03 inf127) rfl rfl) ?_)
 refine go ?_
 refine RS.cl rfl (pC (qhe n x20 p4 r22 h23) _) fn117 ?_
 obtain ⟨b31,h32,hF⟩:=q00 hF
 refine gn ?_
 refine z1c (fun tm σ=>tm=fr 60 [(0,.iM q02 p1),(1,.iM q0g p2),(2,.i6 p3),(3,.str p4),(10,.bool b14),(11,.iM (cI .u64) l15),(12,.i6 z16),(13,.str r22.1),(48,.bool b31)]∧σ=⟨[],0⟩) ?_ ?_
 rintro _ _ ⟨rfl,rfl⟩
 refine go ?_
 refine cF hF (fun h33 hF=>?_) (fun h33 hF=>?_)
 refine go ?_
 exact lC ⟨b14,l15,(IntKind.i64.wrap (z16+1)),hF,rfl,rfl⟩
 obtain ⟨r34,h35,hF⟩:=q00 hF
 obtain ⟨x36,h37,hF⟩:=q00 hF
 obtain ⟨r38,h39,hF⟩:=q00 hF
 refine go ?_
 refine RS.cl rfl (pC (qbn n p2 r22.1 r34 h35) _) fn102 (RS.q rfl (q0h rfl rfl (q09 q0g und99 (q03 inf105) q1p h37 rfl)) (RS.q rfl (q1m und105 rfl (q03 inf103) rfl rfl) (RS.q rfl (q0d und103 rfl rfl rfl) (RS.cl rfl (pC (qlb n l15 x36.Code r38 h39) _) fn118 ?_))))
 refine go ?_
 exact lC ⟨true,r38,(IntKind.i64.wrap (z16+1)),hF,rfl,rfl⟩
 rcases gB h32 with ⟨h24,h32⟩ | ⟨h24,h32⟩
 exact gy h32
 obtain ⟨x25,h26,h32⟩:=q00 h32
 obtain ⟨r27,h28,h32⟩:=q00 h32
 obtain ⟨r29,h30,h32⟩:=q00 h32
 obtain rfl:=sI h32
 refine go ?_
 refine RS.w rfl (q0h rfl rfl (q09 q02 und38 (q03 inf127) q0k h26 rfl)) (RS.w rfl (q1m und127 rfl (q03 inf9) rfl rfl) (RS.w rfl (q0d und9 rfl rfl rfl) (RS.cl rfl (pC (qbn n p2 x25.Name r27 h28) _) fn102 ?_)))
 refine go ?_
 refine RS.cl rfl (pC (q3x n p2 r27 p3 r29 h30) _) fn100 ?_
 refine go ?_
 exact xC ⟨rfl,rfl⟩
 refine go ?_
 exact xC ⟨b14,l15,hF,rfl,rfl⟩
def qbi (z20:Int) (rc2:Int→Option (Int))  : Option (Int) :=
 rc2 (IntKind.i64.wrap (z20+1))
def q7u (p1:List q05) (n:Nat) (r2:(List q0x)×Int) (r5:(List (List UInt8))) (z20:Int) (rc2:Int→Option (Int)):Nat→Int→Option (Int)
 | 0,_=>none
 | m3+1,z27 =>
  cond (decide (z27<(r5.length:Int)))
   (q04 (q12 r5 z27) fun x29 =>
   q04 (q6j n p1 r2.1 z20 x29) fun r31 =>
   q04 (cond r31.2
    (some ((r31.1.length:Int) == 0))
    (some false)) fun b34 =>
   cond b34
    (some 11)
    ((q7u p1 n r2 r5 z20 rc2 m3) (IntKind.i64.wrap (z27+1))))
   (qbi z20 rc2)
def qbh   : Option (Int) :=
 some 0
def q48 (p1:List q05) (n:Nat) (r2:(List q0x)×Int) (r5:(List (List UInt8))):Nat→Int→Option (Int)
 | 0,_=>none
 | m2+1,z20 =>
  cond (decide (z20<(r2.1.length:Int)))
   (q7u p1 n r2 r5 z20 (q48 p1 n r2 r5 m2) n 0)
   (qbh)
def qbg (p1:List q05) (n:Nat) (r2:(List q0x)×Int) (r5:(List (List UInt8)))  : Option (Int) :=
 q48 p1 n r2 r5 n 0
def q7t (p1:List q05) (n:Nat) (r2:(List q0x)×Int) (r5:(List (List UInt8))):Nat→Int→Option (Int)
 | 0,_=>none
 | m1+1,z15 =>
  cond (decide (z15<(r5.length:Int)))
   (q04 (q12 r5 z15) fun x38 =>
   q04 (qd7 n p1 x38) fun r40 =>
   cond (!r40.2)
    (some 10)
    ((q7t p1 n r2 r5 m1) (IntKind.i64.wrap (z15+1))))
   (qbg p1 n r2 r5)
def qd5 (n:Nat) (p1:List q05):Option (Int) :=
 q04 (q73 n p1) fun r2 =>
 cond (r2.2 != 0)
  (some r2.2)
  (q04 (qa1 n p1) fun r5 =>
  cond (decide ((r5.length:Int) > 64))
   (some 7)
   (q04 (q6i n p1) fun r8 =>
   cond (r8 != 0)
    (some r8)
    (q7t p1 n r2 r5 n 0)))
theorem qhc (n:Nat) (p1:List q05) (r:Int) (hF:qd5 n p1=some r):EvU Tryz.prog 90 [.isl false (List.map q02 p1)] ⟨[],0⟩ (fun u _=>u = .int .i64 r∧Bel 0 u):=by
 unfold qd5 at hF
 refine bg1 78 fn90 ?_
 obtain ⟨r2,h3,hF⟩:=q00 hF
 refine go ?_
 refine RS.cl rfl (pC (q94 n p1 r2 h3) _) fn72 ?_
 refine go ?_
 refine cF hF (fun h4 hF=>?_) (fun h4 hF=>?_)
 exact gx hF
 obtain ⟨r5,h6,hF⟩:=q00 hF
 refine go ?_
 refine RS.cl rfl (pC (qd6 n p1 r5 h6) _) fn91 ?_
 refine go ?_
 refine RS.q rfl (q0b rfl rfl rfl (q07 cS und80)) ?_
 refine go ?_
 refine cF hF (fun h7 hF=>?_) (fun h7 hF=>?_)
 exact gx hF
 obtain ⟨r8,h9,hF⟩:=q00 hF
 refine go ?_
 refine RS.cl rfl (pC (qf7 n p1 r8 h9) _) fn115 ?_
 refine go ?_
 refine cF hF (fun h10 hF=>?_) (fun h10 hF=>?_)
 exact gx hF
 refine go ?_
 refine gS (l':=[(0,_),(3,_),(5,_),(7,_)]) ?_
 refine z1b (fun m tm σ=>∃ z15:Int,q7t p1 n r2 r5 m z15=some r∧tm=fr 78 [(0,.iM q02 p1),(3,.iM q0g r2.1),(5,.iM cS r5),(7,.i6 z15)]∧σ=⟨[],0⟩) (fun tm σ=>qbg p1 n r2 r5=some r∧tm=fr 78 [(0,.iM q02 p1),(3,.iM q0g r2.1),(5,.iM cS r5)]∧σ=⟨[],0⟩) n ⟨0,hF,rfl,rfl⟩ ?_ ?_
 rintro _ _ ⟨hF,rfl,rfl⟩
 unfold qbg at hF
 refine go ?_
 refine gS (l':=[(0,_),(3,_),(5,_),(10,_)]) ?_
 refine z1b (fun m tm σ=>∃ z20:Int,q48 p1 n r2 r5 m z20=some r∧tm=fr 78 [(0,.iM q02 p1),(3,.iM q0g r2.1),(5,.iM cS r5),(10,.i6 z20)]∧σ=⟨[],0⟩) (fun tm σ=>qbh=some r∧tm=fr 78 []∧σ=⟨[],0⟩) n ⟨0,hF,rfl,rfl⟩ ?_ ?_
 rintro _ _ ⟨hF,rfl,rfl⟩
 unfold qbh at hF
 exact gx hF
 rintro (_|m2) _ _ ⟨z20,hF,rfl,rfl⟩
 cases hF
 unfold q48 at hF
 refine go ?_
 refine RS.q rfl (q0b rfl rfl rfl (q07 q0g und99)) ?_
 refine go ?_
 refine cF hF (fun h21 hF=>?_) (fun h21 hF=>?_)
 refine go ?_
 refine WPU.block ?_
 refine go ?_
 refine gS (l':=[(0,_),(3,_),(5,_),(10,_),(11,_)]) ?_
 refine z1b (fun m tm σ=>∃ z27:Int,q7u p1 n r2 r5 z20 (q48 p1 n r2 r5 m2) m z27=some r∧tm=fr 78 [(0,.iM q02 p1),(3,.iM q0g r2.1),(5,.iM cS r5),(10,.i6 z20),(11,.i6 z27)]∧σ=⟨[],0⟩) (fun tm σ=>qbi z20 (q48 p1 n r2 r5 m2)=some r∧tm=fr 78 [(0,.iM q02 p1),(3,.iM q0g r2.1),(5,.iM cS r5),(10,.i6 z20)]∧σ=⟨[],0⟩) n ⟨0,hF,rfl,rfl⟩ ?_ ?_
 rintro _ _ ⟨hF,rfl,rfl⟩
 unfold qbi at hF
 refine go ?_
 exact lC ⟨_,hF,rfl,rfl⟩
 rintro (_|m3) _ _ ⟨z27,hF,rfl,rfl⟩
 cases hF
 unfold q7u at hF
 refine go ?_
 refine RS.q rfl (q0b rfl rfl rfl (q07 cS und80)) ?_
 refine go ?_
 refine cF hF (fun h28 hF=>?_) (fun h28 hF=>?_)
 refine go ?_
 refine WPU.block ?_
 obtain ⟨x29,h30,hF⟩:=q00 hF
 obtain ⟨r31,h32,hF⟩:=q00 hF
 refine go ?_
 refine RS.q rfl (q0h rfl rfl (q09 cS und80 (q03 inf9) q1k h30 rfl)) (RS.q rfl (q0d und9 rfl rfl rfl) (RS.cl rfl (pC (qbx n p1 r2.1 z20 x29 r31 h32) _) fn92 ?_))
 obtain ⟨b34,h35,hF⟩:=q00 hF
 refine gn ?_
 refine z1c (fun tm σ=>tm=fr 78 [(0,.iM q02 p1),(3,.iM q0g r2.1),(5,.iM cS r5),(10,.i6 z20),(11,.i6 z27),(77,.bool b34)]∧σ=⟨[],0⟩) ?_ ?_
 rintro _ _ ⟨rfl,rfl⟩
 refine go ?_
 refine cF hF (fun h36 hF=>?_) (fun h36 hF=>?_)
 exact gx hF
 refine go ?_
 exact lC ⟨_,hF,rfl,rfl⟩
 rcases gB h35 with ⟨h33,h35⟩ | ⟨h33,h35⟩
 obtain rfl:=sI h35
 refine go ?_
 refine RS.w rfl (q0b rfl rfl rfl (q07 (cI .u64) und103)) ?_
 refine go ?_
 exact xC ⟨rfl,rfl⟩
 exact gy h35
 refine go ?_
 exact xC ⟨hF,rfl,rfl⟩
 refine go ?_
 exact xC ⟨hF,rfl,rfl⟩
 rintro (_|m1) _ _ ⟨z15,hF,rfl,rfl⟩
 cases hF
 unfold q7t at hF
 refine go ?_
 refine RS.q rfl (q0b rfl rfl rfl (q07 cS und80)) ?_
 refine go ?_
 refine cF hF (fun h37 hF=>?_) (fun h37 hF=>?_)
 refine go ?_
 refine WPU.block ?_
 obtain ⟨x38,h39,hF⟩:=q00 hF
 obtain ⟨r40,h41,hF⟩:=q00 hF
 refine go ?_
 refine RS.q rfl (q0h rfl rfl (q09 cS und80 (q03 inf9) q1k h39 rfl)) (RS.q rfl (q0d und9 rfl rfl rfl) (RS.cl rfl (pC (qhd n p1 x38 r40 h41) _) fn101 ?_))
 refine go ?_
 refine cF hF (fun h42 hF=>?_) (fun h42 hF=>?_)
 exact gx hF
 refine go ?_
 exact lC ⟨_,hF,rfl,rfl⟩
 refine go ?_
 exact xC ⟨hF,rfl,rfl⟩
def qd0   : Option (Int) :=
 some (-1)
def q95 (p1:List q0x) (n:Nat) (r3:(List Int)):Nat→Int→Option (Int)
 | 0,_=>none
 | m1+1,z8 =>
  cond (decide (z8<(p1.length:Int)))
   (q04 (q12 p1 z8) fun x10 =>
   q04 (qew n x10.Code r3) fun r12 =>
   cond r12
    (some z8)
    ((q95 p1 n r3 m1) (IntKind.i64.wrap (z8+1))))
   (qd0)
def qij (n:Nat) (p1:List q0x) (p2:List Int):Option (Int) :=
 q04 (q5w n p2) fun r3 =>
 q95 p1 n r3 n 0
theorem qpv (n:Nat) (p1:List q0x) (p2:List Int) (r:Int) (hF:qij n p1 p2=some r):EvU Tryz.prog 93 [.isl false (List.map q0g p1),.isl false (List.map (cI .u64) p2)] ⟨[],0⟩ (fun u _=>u = .int .i64 r∧Bel 0 u):=by
 unfold qij at hF
 refine bg2 23 fn93 ?_
 obtain ⟨r3,h4,hF⟩:=q00 hF
 refine go ?_
 refine RS.cl rfl (pC (q7e n p2 r3 h4) _) fn119 ?_
 refine go ?_
 refine gS (l':=[(0,_),(5,_),(6,_)]) ?_
 refine z1b (fun m tm σ=>∃ z8:Int,q95 p1 n r3 m z8=some r∧tm=fr 23 [(0,.iM q0g p1),(5,.iM (cI .u64) r3),(6,.i6 z8)]∧σ=⟨[],0⟩) (fun tm σ=>qd0=some r∧tm=fr 23 []∧σ=⟨[],0⟩) n ⟨0,hF,rfl,rfl⟩ ?_ ?_
 rintro _ _ ⟨hF,rfl,rfl⟩
 unfold qd0 at hF
 exact gx hF
 rintro (_|m1) _ _ ⟨z8,hF,rfl,rfl⟩
 cases hF
 unfold q95 at hF
 refine go ?_
 refine RS.q rfl (q0b rfl rfl rfl (q07 q0g und99)) ?_
 refine go ?_
 refine cF hF (fun h9 hF=>?_) (fun h9 hF=>?_)
 refine go ?_
 refine WPU.block ?_
 obtain ⟨x10,h11,hF⟩:=q00 hF
 obtain ⟨r12,h13,hF⟩:=q00 hF
 refine go ?_
 refine RS.q rfl (q0h rfl rfl (q09 q0g und99 (q03 inf105) q1p h11 rfl)) (RS.q rfl (q1m und105 rfl (q03 inf103) rfl rfl) (RS.q rfl (q0d und103 rfl rfl rfl) ?_))
 refine go ?_
 refine RS.cl rfl (pC (qj4 n x10.Code r3 r12 h13) _) fn120 ?_
 refine go ?_
 refine cF hF (fun h14 hF=>?_) (fun h14 hF=>?_)
 exact gx hF
 refine go ?_
 exact lC ⟨_,hF,rfl,rfl⟩
 refine go ?_
 exact xC ⟨hF,rfl,rfl⟩
def q6h (z30:Int) (rc2:Int→(List q18)→Option ((List (List q18))×Int)) (l42:List q18):Option ((List (List q18))×Int) :=
 rc2 (IntKind.i64.wrap (z30+1)) l42
def qa0 (z15:Int) (l16:List (List q18)) (rc1:Int→(List (List q18))→Option ((List (List q18))×Int)) (l33:List q18):Option ((List (List q18))×Int) :=
 q1e ((l16.length+1)*24≤140737488355328∧l16.length+1≤140737488355328) (
 rc1 (IntKind.i64.wrap (z15+1)) (l16++[l33]))
def q3m (p1:List q05) (n:Nat) (r5:(List q0x)×Int) (r7:(List (List UInt8))) (z15:Int) (l16:List (List q18)) (rc1:Int→(List (List q18))→Option ((List (List q18))×Int)):Nat→Int→(List q18)→Option ((List (List q18))×Int)
 | 0,_,_=>none
 | m2+1,z30,l31 =>
  cond (decide (z30<(r7.length:Int)))
   (q04 (q12 r7 z30) fun x37 =>
   q04 (q6j n p1 r5.1 z15 x37) fun r39 =>
   cond r39.2
    (q04 (qij n r5.1 r39.1) fun r44 =>
    q1e ((l31.length+1)*16≤140737488355328∧l31.length+1≤140737488355328) (
    q6h z30 (q3m p1 n r5 r7 z15 l16 rc1 m2) (l31++[(q18.mk z30 r44)])))
    (q6h z30 (q3m p1 n r5 r7 z15 l16 rc1 m2) l31))
   (qa0 z15 l16 rc1 l31)
def q9z  (l18:List (List q18)):Option ((List (List q18))×Int) :=
 some (l18,0)
def q2x (p1:List q05) (n:Nat) (r5:(List q0x)×Int) (r7:(List (List UInt8))):Nat→Int→(List (List q18))→Option ((List (List q18))×Int)
 | 0,_,_=>none
 | m1+1,z15,l16 =>
  cond (decide (z15<(r5.1.length:Int)))
   (q3m p1 n r5 r7 z15 l16 (q2x p1 n r5 r7 m1) n 0 ([]:List q18))
   (q9z l16)
def qed (n:Nat) (p1:List q05):Option ((List (List q18))×Int) :=
 q04 (qd5 n p1) fun r2 =>
 cond (r2 != 0)
  (some ([],r2))
  (q04 (q73 n p1) fun r5 =>
  q04 (qa1 n p1) fun r7 =>
  q2x p1 n r5 r7 n 0 ([]:List (List q18)))
theorem qma (n:Nat) (p1:List q05) (r:(List (List q18))×Int) (hF:qed n p1=some r):EvU Tryz.prog 71 [.isl false (List.map q02 p1)] ⟨[],0⟩ (fun u _=>u = .tup [.isl false (List.map (cL q0u) r.1),.int .i64 r.2]∧Bel 0 u):=by
 unfold qed at hF
 refine bg1 63 fn71 ?_
 obtain ⟨r2,h3,hF⟩:=q00 hF
 refine go ?_
 refine RS.cl rfl (pC (qhc n p1 r2 h3) _) fn90 ?_
 refine go ?_
 refine cF hF (fun h4 hF=>?_) (fun h4 hF=>?_)
 refine go ?_
 obtain rfl:=sI hF
 exact rT (us:=[.nils,.i6 r2]) (u:=.tup [.isl false [],.i6 r2]) (q2k rfl (q2k rfl (q33))) wR
 obtain ⟨r5,h6,hF⟩:=q00 hF
 refine go ?_
 refine RS.cl rfl (pC (q94 n p1 r5 h6) _) fn72 ?_
 obtain ⟨r7,h8,hF⟩:=q00 hF
 refine go ?_
 refine RS.cl rfl (pC (qd6 n p1 r7 h8) _) fn91 ?_
 refine gr ?_
 refine gr ?_
 refine WPU.ghost (tm':=fr 63 [(0,.iM q02 p1),(5,.iM q0g r5.1),(7,.iM cS r7),(8,.vl 0 0 0 (([]:List (List q18)).length)),(9,.i6 0)]) (σ':=⟨[(0,.vec (List.map (cL q0u) ([]:List (List q18))).flatten 107 1 0)],1⟩) (Gh.trans (z1h 8 107 1 (by decide) NZ rfl rfl) (z1g ⟨rfl,rfl,rfl,rfl,rfl,trivial⟩ rfl)) NZ ?_
 refine gS (l':=[(0,_),(5,_),(7,_),(8,_),(9,_)]) ?_
 refine z1b (fun m tm σ=>∃ z15:Int,∃ l16:List (List q18),∃ t17:Nat,q2x p1 n r5 r7 m z15 l16=some r∧tm=fr 63 [(0,.iM q02 p1),(5,.iM q0g r5.1),(7,.iM cS r7),(8,.vl 0 t17 0 l16.length),(9,.i6 z15)]∧σ=⟨[(0,.vec (List.map (cL q0u) l16).flatten 107 1 t17)],1⟩) (fun tm σ=>∃ l18:List (List q18),∃ t19:Nat,q9z l18=some r∧tm=fr 63 [(8,.vl 0 t19 0 l18.length)]∧σ=⟨[(0,.vec (List.map (cL q0u) l18).flatten 107 1 t19)],1⟩) n ⟨0,([]:List (List q18)),0,hF,rfl,rfl⟩ ?_ ?_
 rintro _ _ ⟨l18,t19,hF,rfl,rfl⟩
 unfold q9z at hF
 refine go ?_
 obtain rfl:=sI hF
 exact rT (us:=[.vl 0 t19 0 l18.length,.i6 0]) (u:=.tup [.iM (cL q0u) l18,.i6 0]) (q2k rfl (q2k rfl (q33))) (fR 0 1)
 rintro (_|m1) _ _ ⟨z15,l16,t17,hF,rfl,rfl⟩
 cases hF
 unfold q2x at hF
 refine go ?_
 refine RS.q rfl (q0b rfl rfl rfl (q07 q0g und99)) ?_
 refine go ?_
 refine cF hF (fun h20 hF=>?_) (fun h20 hF=>?_)
 refine go ?_
 refine WPU.block ?_
 refine gr ?_
 refine gr ?_
 refine WPU.ghost (tm':=fr 63 [(0,.iM q02 p1),(5,.iM q0g r5.1),(7,.iM cS r7),(8,.vl 0 t17 0 l16.length),(9,.i6 z15),(10,.vl 1 0 0 (([]:List q18).length)),(11,.i6 0)]) (σ':=⟨[(1,.vec (List.map q0u ([]:List q18)).flatten 147 2 0),(0,.vec (List.map (cL q0u) l16).flatten 107 1 t17)],2⟩) (Gh.trans (z1h 10 147 2 (by decide) NZ rfl rfl) (z1g ⟨rfl,rfl,rfl,rfl,rfl,rfl,rfl,trivial⟩ rfl)) NZ ?_
 refine gS (l':=[(0,_),(5,_),(7,_),(8,_),(9,_),(10,_),(11,_)]) ?_
 refine z1b (fun m tm σ=>∃ z30:Int,∃ l31:List q18,∃ t32:Nat,q3m p1 n r5 r7 z15 l16 (q2x p1 n r5 r7 m1) m z30 l31=some r∧tm=fr 63 [(0,.iM q02 p1),(5,.iM q0g r5.1),(7,.iM cS r7),(8,.vl 0 t17 0 l16.length),(9,.i6 z15),(10,.vl 1 t32 0 l31.length),(11,.i6 z30)]∧σ=⟨[(1,.vec (List.map q0u l31).flatten 147 2 t32),(0,.vec (List.map (cL q0u) l16).flatten 107 1 t17)],2⟩) (fun tm σ=>∃ l33:List q18,∃ t34:Nat,qa0 z15 l16 (q2x p1 n r5 r7 m1) l33=some r∧tm=fr 63 [(0,.iM q02 p1),(5,.iM q0g r5.1),(7,.iM cS r7),(8,.vl 0 t17 0 l16.length),(9,.i6 z15),(10,.vl 1 t34 0 l33.length)]∧σ=⟨[(1,.vec (List.map q0u l33).flatten 147 2 t34),(0,.vec (List.map (cL q0u) l16).flatten 107 1 t17)],2⟩) n ⟨0,([]:List q18),0,hF,rfl,rfl⟩ ?_ ?_
 rintro _ _ ⟨l33,t34,hF,rfl,rfl⟩
 unfold qa0 at hF
 refine gn ?_
 refine WPU.ghost (tm':=fr 63 [(0,.iM q02 p1),(5,.iM q0g r5.1),(7,.iM cS r7),(8,.vl 0 t17 0 l16.length),(9,.i6 z15),(10,.iM q0u l33)]) (σ':=⟨[(0,.vec (List.map (cL q0u) l16).flatten 107 1 t17)],2⟩) (Gh.trans (Gh.sub (l':=[(0,.iM q02 p1),(5,.iM q0g r5.1),(7,.iM cS r7),(8,.vl 0 t17 0 l16.length),(9,.i6 z15),(10,.vl 1 t34 0 l33.length)]) ⟨rfl,rfl,rfl,rfl,rfl,rfl,trivial⟩) (z1p 1 2)) NZ ?_
 obtain ⟨h35,hF⟩:=q0a hF
 refine go ?_
 refine RS.q (u:=.sl 2 0 1 1) (σ':=⟨[(2,.row [.iM q0u l33] 107),(0,.vec (List.map (cL q0u) l16).flatten 107 1 t17)],3⟩) rfl (q0j und96 inf107 rfl rfl rfl rfl rfl rfl rfl) (RS.q (u:=.vl 0 (t17+1) 0 ((l16++[l33]).length)) (σ':=⟨[(2,.row [.iM q0u l33] 107),(0,.vec (List.map (cL q0u) (l16++[l33])).flatten 107 1 (t17+1))],3⟩) rfl (q1l rfl rfl rfl rfl (q1s (cL q0u) ([l33]) und96 und96 inf107 rfl (q3v q0u) rfl (q1i (cL q0u) [l33] rfl rfl rfl rfl) h35)) ?_)
 refine go ?_
 exact lC ⟨_,(l16++[l33]),(t17+1),hF,rfl,rfl⟩
 rintro (_|m2) _ _ ⟨z30,l31,t32,hF,rfl,rfl⟩
 cases hF
 unfold q3m at hF
 refine go ?_
 refine RS.q rfl (q0b rfl rfl rfl (q07 cS und80)) ?_
 refine go ?_
 refine cF hF (fun h36 hF=>?_) (fun h36 hF=>?_)
 refine go ?_
 refine WPU.block ?_
 obtain ⟨x37,h38,hF⟩:=q00 hF
 obtain ⟨r39,h40,hF⟩:=q00 hF
 refine go ?_
 refine RS.q rfl (q0h rfl rfl (q09 cS und80 (q03 inf9) q1k h38 rfl)) (RS.q rfl (q0d und9 rfl rfl rfl) (RS.cl rfl (pC (qbx n p1 r5.1 z15 x37 r39 h40) _) fn92 ?_))
 refine gr ?_
 refine z1c (fun tm σ=>∃ l42:List q18,∃ t43:Nat,q6h z30 (q3m p1 n r5 r7 z15 l16 (q2x p1 n r5 r7 m1) m2) l42=some r∧tm=fr 63 [(0,.iM q02 p1),(5,.iM q0g r5.1),(7,.iM cS r7),(8,.vl 0 t17 0 l16.length),(9,.i6 z15),(10,.vl 1 t43 0 l42.length),(11,.i6 z30)]∧σ=⟨[(1,.vec (List.map q0u l42).flatten 147 2 t43),(0,.vec (List.map (cL q0u) l16).flatten 107 1 t17)],2⟩) ?_ ?_
 rintro _ _ ⟨l42,t43,hF,rfl,rfl⟩
 unfold q6h at hF
 refine go ?_
 exact lC ⟨_,l42,t43,hF,rfl,rfl⟩
 refine cF hF (fun h41 hF=>?_) (fun h41 hF=>?_)
 obtain ⟨r44,h45,hF⟩:=q00 hF
 obtain ⟨h46,hF⟩:=q0a hF
 refine go ?_
 refine RS.cl rfl (pC (qpv n r5.1 r39.1 r44 h45) _) fn93 (RS.q (u:=.agg [.i6 z30,.i6 r44]) rfl (q34 bd147 rfl rfl rfl) (RS.q (u:=.sl 2 0 1 1) (σ':=⟨[(2,.row [.i6 z30,.i6 r44] 147),(1,.vec (List.map q0u l31).flatten 147 2 t32),(0,.vec (List.map (cL q0u) l16).flatten 107 1 t17)],3⟩) rfl (q0j und107 inf147 rfl rfl rfl rfl rfl rfl rfl) (RS.q (u:=.vl 1 (t32+1) 0 ((l31++[(q18.mk z30 r44)]).length)) (σ':=⟨[(2,.row [.i6 z30,.i6 r44] 147),(1,.vec (List.map q0u (l31++[(q18.mk z30 r44)])).flatten 147 2 (t32+1)),(0,.vec (List.map (cL q0u) l16).flatten 107 1 t17)],3⟩) rfl (q1l rfl rfl rfl rfl (q1s q0u ([(q18.mk z30 r44)]) und107 und107 inf147 rfl qj2 rfl (q1i q0u [(q18.mk z30 r44)] rfl rfl rfl rfl) h46)) ?_)))
 refine go ?_
 exact xC ⟨(l31++[(q18.mk z30 r44)]),(t32+1),hF,rfl,rfl⟩
 refine go ?_
 exact xC ⟨l31,t32,hF,rfl,rfl⟩
 refine go ?_
 exact xC ⟨l31,t32,hF,rfl,rfl⟩
 refine go ?_
 exact xC ⟨l16,t17,hF,rfl,rfl⟩
def q6e (z8:Int) (rc1:Int→(List Int)→Option ((List Int))) (l31:List Int):Option ((List Int)) :=
 rc1 (IntKind.i64.wrap (z8+1)) l31
def q9w (z8:Int) (l9:List Int) (rc1:Int→(List Int)→Option ((List Int))) (b29:Bool):Option ((List Int)) :=
 cond b29
  (q1e ((l9.length+1)*8≤140737488355328∧l9.length+1≤140737488355328) (
  q6e z8 rc1 (l9++[z8])))
  (q6e z8 rc1 l9)
def q6f (p1:List q0x) (p2:Int) (n:Nat) (z8:Int) (l9:List Int) (rc1:Int→(List Int)→Option ((List Int))):Nat→Bool→Int→Option ((List Int))
 | 0,_,_=>none
 | m2+1,b27,z28 =>
  cond (decide (z28<(p1.length:Int)))
   (q04 (cond b27
    (cond (z28 == p2)
     (some true)
     (cond (z28 == z8)
      (some true)
      (q04 (q47 n p1 z8 z28) fun r38 =>
      cond (!r38)
       (some true)
       (q04 (q47 n p1 z28 p2) fun r41 =>
       some (!r41)))))
    (some false)) fun b43 =>
   (q6f p1 p2 n z8 l9 rc1 m2) b43 (IntKind.i64.wrap (z28+1)))
   (q9w z8 l9 rc1 b27)
def q9v  (l11:List Int):Option ((List Int)) :=
 some l11
def q2e (p1:List q0x) (p2:Int) (n:Nat):Nat→Int→(List Int)→Option ((List Int))
 | 0,_,_=>none
 | m1+1,z8,l9 =>
  cond (decide (z8<(p1.length:Int)))
   (q04 (cond (z8 == p2)
    (some true)
    (q04 (q47 n p1 z8 p2) fun r15 =>
    some (!r15))) fun b17 =>
   cond b17
    ((q2e p1 p2 n m1) (IntKind.i64.wrap (z8+1)) l9)
    (q6f p1 p2 n z8 l9 (q2e p1 p2 n m1) n true 0))
   (q9v l9)
def qea (n:Nat) (p1:List q0x) (p2:Int):Option ((List Int)) :=
 q2e p1 p2 n n 0 ([]:List Int)
end Go.Proofs
end
