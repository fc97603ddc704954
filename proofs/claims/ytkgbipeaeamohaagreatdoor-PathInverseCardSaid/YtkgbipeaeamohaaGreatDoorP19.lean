/-
  Texts of the walk: H4.
-/
import Derived.Test.YtkgbipeaeamohaaGreatDoorP18
set_option linter.unusedSimpArgs false
set_option linter.unusedVariables false
section
namespace Go.Proofs
open Go Go.Rx Go.Vx Tryz
set_option maxRecDepth 20000
set_option maxHeartbeats 4000000
set_option synthInstance.maxSize 4000
set_option synthInstance.maxHeartbeats 200000
theorem q7k (n:Nat) (p1:List q0g) (p2:List q0g) (r:Bool) (hF:q6e n p1 p2=some r):EvU Tryz.prog 17 [.isl false (List.map q1j p1),.isl false (List.map q1j p2)] ⟨[],0⟩ (fun u _=>u = .bool r∧Bel 0 u):=by
 unfold q6e at hF
 refine bg2 43 fn17 ?_
 refine go ?_
 refine cF hF (fun h3 hF=>?_) (fun h3 hF=>?_)
 exact gx hF
 refine go ?_
 refine gS (l':=[(0,_),(1,_),(5,_)]) ?_
 refine z6o (fun m tm σ=>∃ z7:Int,q42 p1 p2 n m z7=some r∧tm=fr 43 [(0,.iM q1j p1),(1,.iM q1j p2),(5,.i6 z7)]∧σ=⟨[],0⟩) (fun tm σ=>q6k=some r∧tm=fr 43 []∧σ=⟨[],0⟩) n ⟨0,hF,rfl,rfl⟩ ?_ ?_
 rintro _ _ ⟨hF,rfl,rfl⟩
 unfold q6k at hF
 exact gx hF
 rintro (_|m1) _ _ ⟨z7,hF,rfl,rfl⟩
 cases hF
 unfold q42 at hF
 refine go ?_
 refine cF hF (fun h8 hF=>?_) (fun h8 hF=>?_)
 refine go ?_
 refine WPU.block ?_
 obtain ⟨b22,h23,hF⟩:=q00 hF
 refine gn ?_
 refine z6p (fun tm σ=>tm=fr 43 [(0,.iM q1j p1),(1,.iM q1j p2),(5,.i6 z7),(42,.bool b22)]∧σ=⟨[],0⟩) ?_ ?_
 rintro _ _ ⟨rfl,rfl⟩
 refine go ?_
 refine cF hF (fun h24 hF=>?_) (fun h24 hF=>?_)
 exact gx hF
 refine go ?_
 exact lC ⟨_,hF,rfl,rfl⟩
 obtain ⟨x9,h10,h23⟩:=q00 h23
 obtain ⟨x11,h12,h23⟩:=q00 h23
 obtain ⟨r13,h14,h23⟩:=q00 h23
 rcases gB h23 with ⟨h15,h23⟩ | ⟨h15,h23⟩
 obtain rfl:=sI h23
 refine z6q Tryz.tb_ok [] (by kernel_rfl) ?_
 refine gd ?_
 refine RD.ix h10 ?_
 refine gd ?_
 refine RD.ix h12 ?_
 refine gd ?_
 refine z6w rfl (pC (qfy n x9.A x11.A r13 h14)) fn47 ?_
 refine gd ?_
 refine RD.done ⟨by kernel_rfl,trivial,?_⟩
 refine go ?_
 exact xC ⟨rfl,rfl⟩
 obtain ⟨x16,h17,h23⟩:=q00 h23
 obtain ⟨x18,h19,h23⟩:=q00 h23
 obtain ⟨r20,h21,h23⟩:=q00 h23
 obtain rfl:=sI h23
 refine z6q Tryz.tb_ok [] (by kernel_rfl) ?_
 refine gd ?_
 refine RD.ix h10 ?_
 refine gd ?_
 refine RD.ix h12 ?_
 refine gd ?_
 refine z6w rfl (pC (qfy n x9.A x11.A r13 h14)) fn47 ?_
 refine gd ?_
 refine RD.ix h17 ?_
 refine gd ?_
 refine RD.ix h19 ?_
 refine gd ?_
 refine z6w rfl (pC (qfy n x16.B x18.B r20 h21)) fn47 ?_
 refine gd ?_
 refine RD.done ⟨by kernel_rfl,trivial,?_⟩
 refine go ?_
 exact xC ⟨rfl,rfl⟩
 refine go ?_
 exact xC ⟨hF,rfl,rfl⟩
def q84 (p1:List Int)  : Option (Bool) :=
 some (decide ((p1.length:Int)≤30))
def q4e (p1:List Int):Nat→Int→Option (Bool)
 | 0,_=>none
 | m1+1,z6 =>
  cond (decide (z6<(p1.length:Int)))
   (q03 (q0l p1 z6) fun x8 =>
   q03 (cond (decide (x8<0))
    (some true)
    (some (decide (x8 ≥ 64)))) fun b11 =>
   cond b11
    (some false)
    ((q4e p1 m1) (IntKind.i64.wrap (z6+1))))
   (q84 p1)
def qdk (n:Nat) (p1:List Int):Option (Bool) :=
 q4e p1 n 0
theorem qpq (n:Nat) (p1:List Int) (r:Bool) (hF:qdk n p1=some r):EvU Tryz.prog 20 [.isl false (List.map (cI .i64) p1)] ⟨[],0⟩ (fun u _=>u = .bool r∧Bel 0 u):=by
 unfold qdk at hF
 refine bg1 21 fn20 ?_
 refine go ?_
 refine gS (l':=[(0,_),(5,_),(6,_),(7,_)]) ?_
 refine z6o (fun m tm σ=>∃ z6:Int,q4e p1 m z6=some r∧tm=fr 21 [(0,.iM (cI .i64) p1),(5,.iM (cI .i64) p1),(6,.i6 (p1.length:Int)),(7,.i6 z6)]∧σ=⟨[],0⟩) (fun tm σ=>q84 p1=some r∧tm=fr 21 [(0,.iM (cI .i64) p1)]∧σ=⟨[],0⟩) n ⟨0,hF,rfl,rfl⟩ ?_ ?_
 rintro _ _ ⟨hF,rfl,rfl⟩
 unfold q84 at hF
 exact gx hF
 rintro (_|m1) _ _ ⟨z6,hF,rfl,rfl⟩
 cases hF
 unfold q4e at hF
 refine go ?_
 refine cF hF (fun h7 hF=>?_) (fun h7 hF=>?_)
 refine go ?_
 refine WPU.block ?_
 obtain ⟨x8,h9,hF⟩:=q00 hF
 refine go ?_
 refine RS.ix h9 ?_
 obtain ⟨b11,h12,hF⟩:=q00 hF
 refine gn ?_
 refine z6p (fun tm σ=>tm=fr 21 [(0,.iM (cI .i64) p1),(5,.iM (cI .i64) p1),(6,.i6 (p1.length:Int)),(7,.i6 z6),(16,.bool b11)]∧σ=⟨[],0⟩) ?_ ?_
 rintro _ _ ⟨rfl,rfl⟩
 refine go ?_
 refine cF hF (fun h13 hF=>?_) (fun h13 hF=>?_)
 exact gx hF
 refine go ?_
 exact lC ⟨_,hF,rfl,rfl⟩
 rcases gB h12 with ⟨h10,h12⟩ | ⟨h10,h12⟩
 exact gy h12
 exact gy h12
 refine go ?_
 exact xC ⟨hF,rfl,rfl⟩
def q85   : Option (Bool) :=
 some true
def q4f (p1:GFS):Nat→Int→Option (Bool)
 | 0,_=>none
 | m1+1,z18 =>
  cond (decide (z18<(p1.Nodes.length:Int)))
   (q03 (q0l p1.Nodes z18) fun x20 =>
   q03 (cond (decide (x20.Typex ≥ 256))
    (some true)
    (cond (decide ((x20.Arcs.length:Int) > 0))
     (q03 (q0l x20.Arcs (IntKind.i64.wrap ((x20.Arcs.length:Int) - 1))) fun x24 =>
     some (decide (x24.Feat ≥ 64)))
     (some false))) fun b26 =>
   cond b26
    (some false)
    ((q4f p1 m1) (IntKind.i64.wrap (z18+1))))
   (q85)
def qap (n:Nat) (p1:GFS):Option (Bool) :=
 q03 (qb8 n p1) fun r2 =>
 cond (!r2)
  (some false)
  (q03 (qb7 n p1) fun r5 =>
  q03 (cond (r5.2 != 0)
   (some true)
   (q03 (q56 n p1 (GFS.mk r5.1.Nodes)) fun r8 =>
   some (!r8))) fun b10 =>
  cond b10
   (some false)
   (q4f p1 n 0))
theorem qis (n:Nat) (p1:GFS) (r:Bool) (hF:qap n p1=some r):EvU Tryz.prog 12 [.agg [.isl false (List.map q02 p1.Nodes)]] ⟨[],0⟩ (fun u _=>u = .bool r∧Bel 0 u):=by
 unfold qap at hF
 refine bg1 52 fn12 ?_
 obtain ⟨r2,h3,hF⟩:=q00 hF
 refine go ?_
 refine RS.cl rfl (pC (qqe n p1 r2 h3) _) fn41 ?_
 refine go ?_
 refine cF hF (fun h4 hF=>?_) (fun h4 hF=>?_)
 exact gx hF
 obtain ⟨r5,h6,hF⟩:=q00 hF
 refine go ?_
 refine RS.cl rfl (pC (qqd n p1 r5 h6) _) fn42 ?_
 obtain ⟨b10,h11,hF⟩:=q00 hF
 refine gn ?_
 refine z6p (fun tm σ=>tm=fr 52 [(1,.ptr 0 0 0),(22,.bool b10)]∧σ=⟨[(1,.row [.iM q02 r5.1.Nodes] 24),(0,.row [.iM q02 p1.Nodes] 24)],2⟩) ?_ ?_
 rintro _ _ ⟨rfl,rfl⟩
 refine go ?_
 refine cF hF (fun h12 hF=>?_) (fun h12 hF=>?_)
 exact gx hF
 refine go ?_
 refine gS (l':=[(24,_),(25,_),(26,_)]) ?_
 refine z6o (fun m tm σ=>∃ z18:Int,q4f p1 m z18=some r∧tm=fr 52 [(24,.iM q02 p1.Nodes),(25,.i6 (p1.Nodes.length:Int)),(26,.i6 z18)]∧σ=⟨[(1,.row [.iM q02 r5.1.Nodes] 24),(0,.row [.iM q02 p1.Nodes] 24)],2⟩) (fun tm σ=>q85=some r∧tm=fr 52 []∧σ=⟨[(1,.row [.iM q02 r5.1.Nodes] 24),(0,.row [.iM q02 p1.Nodes] 24)],2⟩) n ⟨0,hF,rfl,rfl⟩ ?_ ?_
 rintro _ _ ⟨hF,rfl,rfl⟩
 unfold q85 at hF
 exact gx hF
 rintro (_|m1) _ _ ⟨z18,hF,rfl,rfl⟩
 cases hF
 unfold q4f at hF
 refine go ?_
 refine cF hF (fun h19 hF=>?_) (fun h19 hF=>?_)
 refine go ?_
 refine WPU.block ?_
 obtain ⟨x20,h21,hF⟩:=q00 hF
 refine go ?_
 refine RS.ix h21 ?_
 obtain ⟨b26,h27,hF⟩:=q00 hF
 refine gn ?_
 refine z6p (fun tm σ=>tm=fr 52 [(24,.iM q02 p1.Nodes),(25,.i6 (p1.Nodes.length:Int)),(26,.i6 z18),(50,.bool b26)]∧σ=⟨[(2,.row (q02 x20) 54),(1,.row [.iM q02 r5.1.Nodes] 24),(0,.row [.iM q02 p1.Nodes] 24)],3⟩) ?_ ?_
 rintro _ _ ⟨rfl,rfl⟩
 refine go ?_
 refine cF hF (fun h28 hF=>?_) (fun h28 hF=>?_)
 exact gx hF
 refine go ?_
 exact lC ⟨_,hF,rfl,rfl⟩
 rcases gB h27 with ⟨h22,h27⟩ | ⟨h22,h27⟩
 obtain rfl:=sI h27
 refine go ?_
 repeat refine RS.no (qlj rfl rfl rfl) rfl rfl ?_
 refine go ?_
 exact xC ⟨rfl,rfl⟩
 rcases gB h27 with ⟨h23,h27⟩ | ⟨h23,h27⟩
 obtain ⟨x24,h25,h27⟩:=q00 h27
 obtain rfl:=sI h27
 refine go ?_
 refine RS.ix h25 ?_
 refine go ?_
 exact xC ⟨rfl,rfl⟩
 exact gy h27
 refine go ?_
 exact xC ⟨hF,rfl,rfl⟩
 rcases gB h11 with ⟨h7,h11⟩ | ⟨h7,h11⟩
 exact gy h11
 obtain ⟨r8,h9,h11⟩:=q00 h11
 obtain rfl:=sI h11
 refine go ?_
 refine RS.cl rfl (pC (q0v n p1 (GFS.mk r5.1.Nodes) r8 h9) _) fn21 ?_
 refine go ?_
 exact xC ⟨rfl,rfl⟩
def q7u   : Option (Bool) :=
 some true
def q5j (p1:List Int) (p2:List Int):Nat→Int→Option (Bool)
 | 0,_=>none
 | m1+1,z7 =>
  cond (decide (z7<(p1.length:Int)))
   (q03 (q0l p1 z7) fun x9 =>
   q03 (q0l p2 z7) fun x11 =>
   cond (x9 != x11)
    (some false)
    ((q5j p1 p2 m1) (IntKind.i64.wrap (z7+1))))
   (q7u)
def q8b (n:Nat) (p1:List Int) (p2:List Int):Option (Bool) :=
 cond ((p1.length:Int) != (p2.length:Int))
  (some false)
  (q5j p1 p2 n 0)
theorem q46 (n:Nat) (p1:List Int) (p2:List Int) (r:Bool) (hF:q8b n p1 p2=some r):EvU Tryz.prog 28 [.isl false (List.map (cI .i64) p1),.isl false (List.map (cI .i64) p2)] ⟨[],0⟩ (fun u _=>u = .bool r∧Bel 0 u):=by
 unfold q8b at hF
 refine bg2 26 fn28 ?_
 refine go ?_
 refine cF hF (fun h3 hF=>?_) (fun h3 hF=>?_)
 exact gx hF
 refine go ?_
 refine gS (l':=[(0,_),(1,_),(5,_)]) ?_
 refine z6o (fun m tm σ=>∃ z7:Int,q5j p1 p2 m z7=some r∧tm=fr 26 [(0,.iM (cI .i64) p1),(1,.iM (cI .i64) p2),(5,.i6 z7)]∧σ=⟨[],0⟩) (fun tm σ=>q7u=some r∧tm=fr 26 []∧σ=⟨[],0⟩) n ⟨0,hF,rfl,rfl⟩ ?_ ?_
 rintro _ _ ⟨hF,rfl,rfl⟩
 unfold q7u at hF
 exact gx hF
 rintro (_|m1) _ _ ⟨z7,hF,rfl,rfl⟩
 cases hF
 unfold q5j at hF
 refine go ?_
 refine cF hF (fun h8 hF=>?_) (fun h8 hF=>?_)
 refine go ?_
 refine WPU.block ?_
 obtain ⟨x9,h10,hF⟩:=q00 hF
 obtain ⟨x11,h12,hF⟩:=q00 hF
 refine go ?_
 refine z6q Tryz.tb_ok [] (by kernel_rfl) ?_
 refine gd ?_
 refine RD.ix h10 ?_
 refine gd ?_
 refine RD.ix h12 ?_
 refine gd ?_
 refine RD.done ⟨by kernel_rfl,trivial,?_⟩
 refine go ?_
 refine cF hF (fun h13 hF=>?_) (fun h13 hF=>?_)
 exact gx hF
 refine go ?_
 exact lC ⟨_,hF,rfl,rfl⟩
 refine go ?_
 exact xC ⟨hF,rfl,rfl⟩
def q74   : Option (Bool) :=
 some true
def q4w (p1:List (List Int)) (p2:List (List Int)) (n:Nat):Nat→Int→Option (Bool)
 | 0,_=>none
 | m1+1,z7 =>
  cond (decide (z7<(p1.length:Int)))
   (q03 (q0l p1 z7) fun x9 =>
   q03 (q0l p2 z7) fun x11 =>
   q03 (q8b n x9 x11) fun r13 =>
   cond (!r13)
    (some false)
    ((q4w p1 p2 n m1) (IntKind.i64.wrap (z7+1))))
   (q74)
def qau (n:Nat) (p1:List (List Int)) (p2:List (List Int)):Option (Bool) :=
 cond ((p1.length:Int) != (p2.length:Int))
  (some false)
  (q4w p1 p2 n n 0)
theorem q7v (n:Nat) (p1:List (List Int)) (p2:List (List Int)) (r:Bool) (hF:qau n p1 p2=some r):EvU Tryz.prog 14 [.isl false (List.map (cL (cI .i64)) p1),.isl false (List.map (cL (cI .i64)) p2)] ⟨[],0⟩ (fun u _=>u = .bool r∧Bel 0 u):=by
 unfold qau at hF
 refine bg2 27 fn14 ?_
 refine go ?_
 refine cF hF (fun h3 hF=>?_) (fun h3 hF=>?_)
 exact gx hF
 refine go ?_
 refine gS (l':=[(0,_),(1,_),(5,_)]) ?_
 refine z6o (fun m tm σ=>∃ z7:Int,q4w p1 p2 n m z7=some r∧tm=fr 27 [(0,.iM (cL (cI .i64)) p1),(1,.iM (cL (cI .i64)) p2),(5,.i6 z7)]∧σ=⟨[],0⟩) (fun tm σ=>q74=some r∧tm=fr 27 []∧σ=⟨[],0⟩) n ⟨0,hF,rfl,rfl⟩ ?_ ?_
 rintro _ _ ⟨hF,rfl,rfl⟩
 unfold q74 at hF
 exact gx hF
 rintro (_|m1) _ _ ⟨z7,hF,rfl,rfl⟩
 cases hF
 unfold q4w at hF
 refine go ?_
 refine cF hF (fun h8 hF=>?_) (fun h8 hF=>?_)
 refine go ?_
 refine WPU.block ?_
 obtain ⟨x9,h10,hF⟩:=q00 hF
 obtain ⟨x11,h12,hF⟩:=q00 hF
 obtain ⟨r13,h14,hF⟩:=q00 hF
 refine go ?_
 refine z6q Tryz.tb_ok [] (by kernel_rfl) ?_
 refine gd ?_
 refine RD.ix h10 ?_
 refine gd ?_
 refine RD.ix h12 ?_
 refine gd ?_
 refine z6w rfl (pC (q46 n x9 x11 r13 h14)) fn28 ?_
 refine gd ?_
 refine RD.done ⟨by kernel_rfl,trivial,?_⟩
 refine go ?_
 refine cF hF (fun h15 hF=>?_) (fun h15 hF=>?_)
 exact gx hF
 refine go ?_
 exact lC ⟨_,hF,rfl,rfl⟩
 refine go ?_
 exact xC ⟨hF,rfl,rfl⟩
def qcd   : Option (Int) :=
 some 0
def q8m (p1:List q04):Nat→Int→Option (Int)
 | 0,_=>none
 | m1+1,z5 =>
  cond (decide (z5<(p1.length:Int)))
   (q03 (q03 (q0l p1 z5) fun x7 =>
   cond (decide ((x7.Supers.length:Int) > 256))
    (some true)
    (q03 (q0l p1 z5) fun x10 =>
    some (decide ((x10.Feats.length:Int) > 256)))) fun b12 =>
   cond b12
    (some 7)
    ((q8m p1 m1) (IntKind.i64.wrap (z5+1))))
   (qcd)
def qht (n:Nat) (p1:List q04):Option (Int) :=
 cond (decide ((p1.length:Int) > 256))
  (some 7)
  (q8m p1 n 0)
theorem qqb (n:Nat) (p1:List q04) (r:Int) (hF:qht n p1=some r):EvU Tryz.prog 121 [.isl false (List.map q01 p1)] ⟨[],0⟩ (fun u _=>u = .int .i64 r∧Bel 0 u):=by
 unfold qht at hF
 refine bg1 29 fn121 ?_
 refine go ?_
 refine cF hF (fun h2 hF=>?_) (fun h2 hF=>?_)
 exact gx hF
 refine go ?_
 refine gS (l':=[(0,_),(3,_)]) ?_
 refine z6o (fun m tm σ=>∃ z5:Int,q8m p1 m z5=some r∧tm=fr 29 [(0,.iM q01 p1),(3,.i6 z5)]∧σ=⟨[],0⟩) (fun tm σ=>qcd=some r∧tm=fr 29 []∧σ=⟨[],0⟩) n ⟨0,hF,rfl,rfl⟩ ?_ ?_
 rintro _ _ ⟨hF,rfl,rfl⟩
 unfold qcd at hF
 exact gx hF
 rintro (_|m1) _ _ ⟨z5,hF,rfl,rfl⟩
 cases hF
 unfold q8m at hF
 refine go ?_
 refine cF hF (fun h6 hF=>?_) (fun h6 hF=>?_)
 refine go ?_
 refine WPU.block ?_
 obtain ⟨b12,h13,hF⟩:=q00 hF
 refine gn ?_
 refine z6p (fun tm σ=>tm=fr 29 [(0,.iM q01 p1),(3,.i6 z5),(28,.bool b12)]∧σ=⟨[],0⟩) ?_ ?_
 rintro _ _ ⟨rfl,rfl⟩
 refine go ?_
 refine cF hF (fun h14 hF=>?_) (fun h14 hF=>?_)
 exact gx hF
 refine go ?_
 exact lC ⟨_,hF,rfl,rfl⟩
 obtain ⟨x7,h8,h13⟩:=q00 h13
 rcases gB h13 with ⟨h9,h13⟩ | ⟨h9,h13⟩
 obtain rfl:=sI h13
 refine go ?_
 refine RS.ix h8 ?_
 refine go ?_
 exact xC ⟨rfl,rfl⟩
 obtain ⟨x10,h11,h13⟩:=q00 h13
 obtain rfl:=sI h13
 refine go ?_
 refine RS.ix h8 ?_
 refine go ?_
 refine RS.ix h11 ?_
 refine go ?_
 exact xC ⟨rfl,rfl⟩
 refine go ?_
 exact xC ⟨hF,rfl,rfl⟩
def qkc (n:Nat) (p1:List UInt8):Option (Bool) :=
 q03 (qe3 n p1 false) fun r2 =>
 some r2
theorem qs4 (n:Nat) (p1:List UInt8) (r:Bool) (hF:qkc n p1=some r):EvU Tryz.prog 147 [.str p1] ⟨[],0⟩ (fun u _=>u = .bool r∧Bel 0 u):=by
 unfold qkc at hF
 refine bg1 5 fn147 ?_
 obtain ⟨r2,h3,hF⟩:=q00 hF
 refine go ?_
 refine RS.cl rfl (pC (qj2 n p1 false r2 h3) _) fn81 ?_
 exact gx hF
def qea   : Option (Int) :=
 some (-1)
def qa2 (p1:List q04) (p2:List UInt8):Nat→Int→Option (Int)
 | 0,_=>none
 | m1+1,z6 =>
  cond (decide (z6<(p1.length:Int)))
   (q03 (q0l p1 z6) fun x8 =>
   cond (q1e x8.Name p2)
    (some z6)
    ((qa2 p1 p2 m1) (IntKind.i64.wrap (z6+1))))
   (qea)
def q6q (n:Nat) (p1:List q04) (p2:List UInt8):Option (Int) :=
 qa2 p1 p2 n 0
theorem q6r (n:Nat) (p1:List q04) (p2:List UInt8) (r:Int) (hF:q6q n p1 p2=some r):EvU Tryz.prog 148 [.isl false (List.map q01 p1),.str p2] ⟨[],0⟩ (fun u _=>u = .int .i64 r∧Bel 0 u):=by
 unfold q6q at hF
 refine bg2 20 fn148 ?_
 refine go ?_
 refine gS (l':=[(0,_),(1,_),(5,_)]) ?_
 refine z6o (fun m tm σ=>∃ z6:Int,qa2 p1 p2 m z6=some r∧tm=fr 20 [(0,.iM q01 p1),(1,.str p2),(5,.i6 z6)]∧σ=⟨[],0⟩) (fun tm σ=>qea=some r∧tm=fr 20 []∧σ=⟨[],0⟩) n ⟨0,hF,rfl,rfl⟩ ?_ ?_
 rintro _ _ ⟨hF,rfl,rfl⟩
 unfold qea at hF
 exact gx hF
 rintro (_|m1) _ _ ⟨z6,hF,rfl,rfl⟩
 cases hF
 unfold qa2 at hF
 refine go ?_
 refine cF hF (fun h7 hF=>?_) (fun h7 hF=>?_)
 refine go ?_
 refine WPU.block ?_
 obtain ⟨x8,h9,hF⟩:=q00 hF
 refine go ?_
 refine RS.ix h9 ?_
 refine go ?_
 refine RS.q (u:=.bool (q1e x8.Name p2)) rfl (q9o rfl rfl rfl rfl) ?_
 refine go ?_
 refine cF hF (fun h10 hF=>?_) (fun h10 hF=>?_)
 exact gx hF
 refine go ?_
 exact lC ⟨_,hF,rfl,rfl⟩
 refine go ?_
 exact xC ⟨hF,rfl,rfl⟩
def qcb   : Option (Int) :=
 some 0
def q8k (p1:List q04) (n:Nat):Nat→Int→Option (Int)
 | 0,_=>none
 | m1+1,z4 =>
  cond (decide (z4<(p1.length:Int)))
   (q03 (q0l p1 z4) fun x6 =>
   q03 (qkc n x6.Name) fun r8 =>
   cond (!r8)
    (some 1)
    (q03 (q0l p1 z4) fun x11 =>
    q03 (q6q n p1 x11.Name) fun r13 =>
    cond (decide (r13<z4))
     (some 4)
     ((q8k p1 n m1) (IntKind.i64.wrap (z4+1)))))
   (qcb)
def qhr (n:Nat) (p1:List q04):Option (Int) :=
 q8k p1 n n 0
theorem qq9 (n:Nat) (p1:List q04) (r:Int) (hF:qhr n p1=some r):EvU Tryz.prog 122 [.isl false (List.map q01 p1)] ⟨[],0⟩ (fun u _=>u = .int .i64 r∧Bel 0 u):=by
 unfold qhr at hF
 refine bg1 26 fn122 ?_
 refine go ?_
 refine gS (l':=[(0,_),(3,_)]) ?_
 refine z6o (fun m tm σ=>∃ z4:Int,q8k p1 n m z4=some r∧tm=fr 26 [(0,.iM q01 p1),(3,.i6 z4)]∧σ=⟨[],0⟩) (fun tm σ=>qcb=some r∧tm=fr 26 []∧σ=⟨[],0⟩) n ⟨0,hF,rfl,rfl⟩ ?_ ?_
 rintro _ _ ⟨hF,rfl,rfl⟩
 unfold qcb at hF
 exact gx hF
 rintro (_|m1) _ _ ⟨z4,hF,rfl,rfl⟩
 cases hF
 unfold q8k at hF
 refine go ?_
 refine cF hF (fun h5 hF=>?_) (fun h5 hF=>?_)
 refine go ?_
 refine WPU.block ?_
 obtain ⟨x6,h7,hF⟩:=q00 hF
 obtain ⟨r8,h9,hF⟩:=q00 hF
 refine go ?_
 refine RS.ix h7 ?_
 refine go ?_
 refine RS.cl rfl (pC (qs4 n x6.Name r8 h9) _) fn147 ?_
 refine go ?_
 refine cF hF (fun h10 hF=>?_) (fun h10 hF=>?_)
 exact gx hF
 obtain ⟨x11,h12,hF⟩:=q00 hF
 obtain ⟨r13,h14,hF⟩:=q00 hF
 refine go ?_
 refine RS.ix h12 ?_
 refine go ?_
 refine RS.cl rfl (pC (q6r n p1 x11.Name r13 h14) _) fn148 ?_
 refine go ?_
 refine cF hF (fun h15 hF=>?_) (fun h15 hF=>?_)
 exact gx hF
 refine go ?_
 exact lC ⟨_,hF,rfl,rfl⟩
 refine go ?_
 exact xC ⟨hF,rfl,rfl⟩
def qc4   : Option (Bool) :=
 some false
def q8f (p1:List (List UInt8)) (p2:List UInt8):Nat→Int→Option (Bool)
 | 0,_=>none
 | m1+1,z6 =>
  cond (decide (z6<(p1.length:Int)))
   (q03 (q0l p1 z6) fun x8 =>
   cond (q1e x8 p2)
    (some true)
    ((q8f p1 p2 m1) (IntKind.i64.wrap (z6+1))))
   (qc4)
def q2w (n:Nat) (p1:List (List UInt8)) (p2:List UInt8):Option (Bool) :=
 q8f p1 p2 n 0
theorem q21 (n:Nat) (p1:List (List UInt8)) (p2:List UInt8) (r:Bool) (hF:q2w n p1 p2=some r):EvU Tryz.prog 126 [.isl false (List.map cS p1),.str p2] ⟨[],0⟩ (fun u _=>u = .bool r∧Bel 0 u):=by
 unfold q2w at hF
 refine bg2 18 fn126 ?_
 refine go ?_
 refine gS (l':=[(0,_),(1,_),(5,_)]) ?_
 refine z6o (fun m tm σ=>∃ z6:Int,q8f p1 p2 m z6=some r∧tm=fr 18 [(0,.iM cS p1),(1,.str p2),(5,.i6 z6)]∧σ=⟨[],0⟩) (fun tm σ=>qc4=some r∧tm=fr 18 []∧σ=⟨[],0⟩) n ⟨0,hF,rfl,rfl⟩ ?_ ?_
 rintro _ _ ⟨hF,rfl,rfl⟩
 unfold qc4 at hF
 exact gx hF
 rintro (_|m1) _ _ ⟨z6,hF,rfl,rfl⟩
 cases hF
 unfold q8f at hF
 refine go ?_
 refine cF hF (fun h7 hF=>?_) (fun h7 hF=>?_)
 refine go ?_
 refine WPU.block ?_
 obtain ⟨x8,h9,hF⟩:=q00 hF
 refine go ?_
 refine RS.ix h9 ?_
 refine go ?_
 refine RS.q (u:=.bool (q1e x8 p2)) rfl (q9o rfl rfl rfl rfl) ?_
 refine go ?_
 refine cF hF (fun h10 hF=>?_) (fun h10 hF=>?_)
 exact gx hF
 refine go ?_
 exact lC ⟨_,hF,rfl,rfl⟩
 refine go ?_
 exact xC ⟨hF,rfl,rfl⟩
def qay (z4:Int) (rc1:Int→Option (Int))  : Option (Int) :=
 rc1 (IntKind.i64.wrap (z4+1))
def q77 (p1:List q04) (n:Nat) (z4:Int) (rc1:Int→Option (Int)) (x6:q04):Nat→Int→Option (Int)
 | 0,_=>none
 | m2+1,z12 =>
  cond (decide (z12<(x6.Supers.length:Int)))
   (q03 (q0l x6.Supers z12) fun x14 =>
   q03 (q6q n p1 x14) fun r16 =>
   cond (decide (r16<0))
    (some 5)
    (q03 (z44 x6.Supers 0 z12) fun l19 =>
    q03 (q0l x6.Supers z12) fun x23 =>
    q03 (q2w n l19 x23) fun r25 =>
    cond r25
     (some 4)
     ((q77 p1 n z4 rc1 x6 m2) (IntKind.i64.wrap (z12+1)))))
   (qay z4 rc1)
def qax   : Option (Int) :=
 some 0
def q3u (p1:List q04) (n:Nat):Nat→Int→Option (Int)
 | 0,_=>none
 | m1+1,z4 =>
  cond (decide (z4<(p1.length:Int)))
   (q03 (q0l p1 z4) fun x6 =>
   q77 p1 n z4 (q3u p1 n m1) x6 n 0)
   (qax)
def qfs (n:Nat) (p1:List q04):Option (Int) :=
 q3u p1 n n 0
theorem qo1 (n:Nat) (p1:List q04) (r:Int) (hF:qfs n p1=some r):EvU Tryz.prog 123 [.isl false (List.map q01 p1)] ⟨[],0⟩ (fun u _=>u = .int .i64 r∧Bel 0 u):=by
 unfold qfs at hF
 refine bg1 38 fn123 ?_
 refine go ?_
 refine gS (l':=[(0,_),(3,_)]) ?_
 refine z6o (fun m tm σ=>∃ z4:Int,q3u p1 n m z4=some r∧tm=fr 38 [(0,.iM q01 p1),(3,.i6 z4)]∧σ=⟨[],0⟩) (fun tm σ=>qax=some r∧tm=fr 38 []∧σ=⟨[],0⟩) n ⟨0,hF,rfl,rfl⟩ ?_ ?_
 rintro _ _ ⟨hF,rfl,rfl⟩
 unfold qax at hF
 exact gx hF
 rintro (_|m1) _ _ ⟨z4,hF,rfl,rfl⟩
 cases hF
 unfold q3u at hF
 refine go ?_
 refine cF hF (fun h5 hF=>?_) (fun h5 hF=>?_)
 refine go ?_
 refine WPU.block ?_
 obtain ⟨x6,h7,hF⟩:=q00 hF
 refine go ?_
 refine RS.ix h7 ?_
 refine go ?_
 refine gS (l':=[(0,_),(3,_),(4,_),(5,_)]) ?_
 refine z6o (fun m tm σ=>∃ z12:Int,q77 p1 n z4 (q3u p1 n m1) x6 m z12=some r∧tm=fr 38 [(0,.iM q01 p1),(3,.i6 z4),(4,.iM cS x6.Supers),(5,.i6 z12)]∧σ=⟨[],0⟩) (fun tm σ=>qay z4 (q3u p1 n m1)=some r∧tm=fr 38 [(0,.iM q01 p1),(3,.i6 z4)]∧σ=⟨[],0⟩) n ⟨0,hF,rfl,rfl⟩ ?_ ?_
 rintro _ _ ⟨hF,rfl,rfl⟩
 unfold qay at hF
 refine go ?_
 exact lC ⟨_,hF,rfl,rfl⟩
 rintro (_|m2) _ _ ⟨z12,hF,rfl,rfl⟩
 cases hF
 unfold q77 at hF
 refine go ?_
 refine cF hF (fun h13 hF=>?_) (fun h13 hF=>?_)
 refine go ?_
 refine WPU.block ?_
 obtain ⟨x14,h15,hF⟩:=q00 hF
 obtain ⟨r16,h17,hF⟩:=q00 hF
 refine go ?_
 refine RS.ix h15 ?_
 refine go ?_
 refine RS.cl rfl (pC (q6r n p1 x14 r16 h17) _) fn148 ?_
 refine go ?_
 refine cF hF (fun h18 hF=>?_) (fun h18 hF=>?_)
 exact gx hF
 obtain ⟨l19,h20,hF⟩:=q00 hF
 obtain ⟨h21,h22⟩:=qy6 cS .i64 h20
 obtain ⟨x23,h24,hF⟩:=q00 hF
 obtain ⟨r25,h26,hF⟩:=q00 hF
 refine go ?_
 refine z6q Tryz.tb_ok [] (by kernel_rfl) ?_
 refine gd ?_
 refine RD.q (u:=.iM cS l19) rfl (qbh rfl qsu (z4a rfl) qsu (qvw cS un80.h (q0i if9.h) qgx h21 h22)) ?_
 refine gd ?_
 refine RD.ix h24 ?_
 refine gd ?_
 refine z6w rfl (pC (q21 n l19 x23 r25 h26)) fn126 ?_
 refine RD.done ⟨by kernel_rfl,trivial,?_⟩
 refine go ?_
 refine cF hF (fun h27 hF=>?_) (fun h27 hF=>?_)
 exact gx hF
 refine go ?_
 exact lC ⟨_,hF,rfl,rfl⟩
 refine go ?_
 exact xC ⟨hF,rfl,rfl⟩
 refine go ?_
 exact xC ⟨hF,rfl,rfl⟩
def qcc   : Option (Bool) :=
 some true
def q8l (p1:q04) (p2:List (List UInt8)) (n:Nat):Nat→Int→Option (Bool)
 | 0,_=>none
 | m1+1,z8 =>
  cond (decide (z8<(p1.Supers.length:Int)))
   (q03 (q0l p1.Supers z8) fun x10 =>
   q03 (q2w n p2 x10) fun r12 =>
   cond (!r12)
    (some false)
    ((q8l p1 p2 n m1) (IntKind.i64.wrap (z8+1))))
   (qcc)
def qhs (n:Nat) (p1:q04) (p2:List (List UInt8)):Option (Bool) :=
 q8l p1 p2 n n 0
theorem qqa (n:Nat) (p1:q04) (p2:List (List UInt8)) (r:Bool) (hF:qhs n p1 p2=some r):EvU Tryz.prog 149 [.agg (q01 p1),.isl false (List.map cS p2)] ⟨[],0⟩ (fun u _=>u = .bool r∧Bel 0 u):=by
 unfold qhs at hF
 refine bg2 21 fn149 ?_
 refine go ?_
 refine gS (l':=[(1,_),(2,_),(5,_)]) ?_
 refine z6o (fun m tm σ=>∃ z8:Int,q8l p1 p2 n m z8=some r∧tm=fr 21 [(1,.iM cS p2),(2,.ptr 0 0 0),(5,.i6 z8)]∧σ=⟨[(0,.row (q01 p1) 127)],1⟩) (fun tm σ=>qcc=some r∧tm=fr 21 []∧σ=⟨[(0,.row (q01 p1) 127)],1⟩) n ⟨0,hF,rfl,rfl⟩ ?_ ?_
 rintro _ _ ⟨hF,rfl,rfl⟩
 unfold qcc at hF
 exact gx hF
 rintro (_|m1) _ _ ⟨z8,hF,rfl,rfl⟩
 cases hF
 unfold q8l at hF
 refine go ?_
 refine cF hF (fun h9 hF=>?_) (fun h9 hF=>?_)
 refine go ?_
 refine WPU.block ?_
 obtain ⟨x10,h11,hF⟩:=q00 hF
 obtain ⟨r12,h13,hF⟩:=q00 hF
 refine go ?_
 refine RS.ix h11 ?_
 refine go ?_
 refine RS.cl rfl (pC (q21 n p2 x10 r12 h13) _) fn126 ?_
 refine go ?_
 refine cF hF (fun h14 hF=>?_) (fun h14 hF=>?_)
 exact gx hF
 refine go ?_
 exact lC ⟨_,hF,rfl,rfl⟩
 refine go ?_
 exact xC ⟨hF,rfl,rfl⟩
def q75 (rc1:Bool→(List (List UInt8))→Option ((List (List UInt8)))) (b21:Bool) (l24:List (List UInt8)):Option ((List (List UInt8))) :=
 rc1 b21 l24
def q76 (z20:Int) (rc2:Bool→(List UInt8)→Int→Option ((List (List UInt8)))) (s46:List UInt8):Option ((List (List UInt8))) :=
 rc2 true s46 (IntKind.i64.wrap (z20+1))
def qaw (l7:List (List UInt8)) (rc1:Bool→(List (List UInt8))→Option ((List (List UInt8)))) (b21:Bool) (s22:List UInt8):Option ((List (List UInt8))) :=
 cond b21
  (q0w ((l7.length+1)*16≤140737488355328∧l7.length+1≤140737488355328) (
  q75 rc1 b21 (l7++[s22])))
  (q75 rc1 b21 l7)
def q2x (p1:List q04) (n:Nat) (l7:List (List UInt8)) (rc1:Bool→(List (List UInt8))→Option ((List (List UInt8)))):Nat→Bool→(List UInt8)→Int→Option ((List (List UInt8)))
 | 0,_,_,_=>none
 | m2+1,b18,s19,z20 =>
  cond (decide (z20<(p1.length:Int)))
   (q03 (q03 (q0l p1 z20) fun x28 =>
   q03 (q2w n l7 x28.Name) fun r30 =>
   cond r30
    (some true)
    (q03 (q0l p1 z20) fun x33 =>
    q03 (qhs n x33 l7) fun r35 =>
    some (!r35))) fun b37 =>
   cond b37
    ((q2x p1 n l7 rc1 m2) b18 s19 (IntKind.i64.wrap (z20+1)))
    (q03 (cond (!b18)
     (some true)
     (q03 (q0l p1 z20) fun x41 =>
     some (q6i x41.Name s19))) fun b43 =>
    cond b43
     (q03 (q0l p1 z20) fun x47 =>
     q76 z20 (q2x p1 n l7 rc1 m2) x47.Name)
     (q76 z20 (q2x p1 n l7 rc1 m2) s19)))
   (qaw l7 rc1 b18 s19)
def qav  (l9:List (List UInt8)):Option ((List (List UInt8))) :=
 some l9
def q2e (p1:List q04) (n:Nat):Nat→Bool→(List (List UInt8))→Option ((List (List UInt8)))
 | 0,_,_=>none
 | m1+1,b6,l7 =>
  cond b6
   (q2x p1 n l7 (q2e p1 n m1) n false [] 0)
   (qav l7)
def qfr (n:Nat) (p1:List q04):Option ((List (List UInt8))) :=
 q2e p1 n n true ([]:List (List UInt8))
theorem qo0 (n:Nat) (p1:List q04) (r:(List (List UInt8))) (hF:qfr n p1=some r):EvU Tryz.prog 124 [.isl false (List.map q01 p1)] ⟨[],0⟩ (fun u _=>u = .isl false (List.map cS r)∧Bel 0 u):=by
 unfold qfr at hF
 refine bg1 52 fn124 ?_
 refine gr ?_
 refine gr ?_
 refine gr ?_
 refine WPU.ghost (tm':=fr 52 [(0,.iM q01 p1),(3,.vl 0 0 0 (([]:List (List UInt8)).length)),(4,.bool true)]) (σ':=⟨[(0,.vec (List.map cS ([]:List (List UInt8))).flatten 9 1 0)],1⟩) (Gh.trans (z6u 3 9 1 (by decide) NZ rfl rfl) (z6s ⟨rfl,rfl,rfl,trivial⟩ rfl)) NZ ?_
 refine gS (l':=[(0,_),(3,_),(4,_)]) ?_
 refine z6o (fun m tm σ=>∃ b6:Bool,∃ l7:List (List UInt8),∃ t8:Nat,q2e p1 n m b6 l7=some r∧tm=fr 52 [(0,.iM q01 p1),(3,.vl 0 t8 0 l7.length),(4,.bool b6)]∧σ=⟨[(0,.vec (List.map cS l7).flatten 9 1 t8)],1⟩) (fun tm σ=>∃ l9:List (List UInt8),∃ t10:Nat,qav l9=some r∧tm=fr 52 [(3,.vl 0 t10 0 l9.length)]∧σ=⟨[(0,.vec (List.map cS l9).flatten 9 1 t10)],1⟩) n ⟨true,([]:List (List UInt8)),0,hF,rfl,rfl⟩ ?_ ?_
 rintro _ _ ⟨l9,t10,hF,rfl,rfl⟩
 unfold qav at hF
 refine go ?_
 obtain rfl:=sI hF
 exact rT (us:=[.vl 0 t10 0 l9.length]) (u:=.iM cS l9) (q1y rfl (q1t)) (fR 0 1)
 rintro (_|m1) _ _ ⟨b6,l7,t8,hF,rfl,rfl⟩
 cases hF
 unfold q2e at hF
 refine go ?_
 refine cF hF (fun h11 hF=>?_) (fun h11 hF=>?_)
 refine go ?_
 refine WPU.block ?_
 refine go ?_
 refine gS (l':=[(0,_),(3,_),(4,_),(5,_),(6,_)]) ?_
 refine z6o (fun m tm σ=>∃ b18:Bool,∃ s19:List UInt8,∃ z20:Int,q2x p1 n l7 (q2e p1 n m1) m b18 s19 z20=some r∧tm=fr 52 [(0,.iM q01 p1),(3,.vl 0 t8 0 l7.length),(4,.bool b18),(5,.str s19),(6,.i6 z20)]∧σ=⟨[(0,.vec (List.map cS l7).flatten 9 1 t8)],1⟩) (fun tm σ=>∃ b21:Bool,∃ s22:List UInt8,qaw l7 (q2e p1 n m1) b21 s22=some r∧tm=fr 52 [(0,.iM q01 p1),(3,.vl 0 t8 0 l7.length),(4,.bool b21),(5,.str s22)]∧σ=⟨[(0,.vec (List.map cS l7).flatten 9 1 t8)],1⟩) n ⟨false,[],0,hF,rfl,rfl⟩ ?_ ?_
 rintro _ _ ⟨b21,s22,hF,rfl,rfl⟩
 unfold qaw at hF
 refine gr ?_
 refine z6p (fun tm σ=>∃ l24:List (List UInt8),∃ t25:Nat,q75 (q2e p1 n m1) b21 l24=some r∧tm=fr 52 [(0,.iM q01 p1),(3,.vl 0 t25 0 l24.length),(4,.bool b21)]∧σ=⟨[(0,.vec (List.map cS l24).flatten 9 1 t25)],1⟩) ?_ ?_
 rintro _ _ ⟨l24,t25,hF,rfl,rfl⟩
 unfold q75 at hF
 refine go ?_
 exact lC ⟨b21,l24,t25,hF,rfl,rfl⟩
 refine cF hF (fun h23 hF=>?_) (fun h23 hF=>?_)
 obtain ⟨h26,hF⟩:=q06 hF
 refine go ?_
 refine RS.g ?_
 refine RS.g ?_
 refine go ?_
 exact xC ⟨(l7++[s22]),(t8+1),hF,rfl,rfl⟩
 refine go ?_
 exact xC ⟨l7,t8,hF,rfl,rfl⟩
 rintro (_|m2) _ _ ⟨b18,s19,z20,hF,rfl,rfl⟩
 cases hF
 unfold q2x at hF
 refine go ?_
 refine cF hF (fun h27 hF=>?_) (fun h27 hF=>?_)
 refine go ?_
 refine WPU.block ?_
 obtain ⟨b37,h38,hF⟩:=q00 hF
 refine gn ?_
 refine z6p (fun tm σ=>tm=fr 52 [(0,.iM q01 p1),(3,.vl 0 t8 0 l7.length),(4,.bool b18),(5,.str s19),(6,.i6 z20),(29,.bool b37)]∧σ=⟨[(0,.vec (List.map cS l7).flatten 9 1 t8)],1⟩) ?_ ?_
 rintro _ _ ⟨rfl,rfl⟩
 refine go ?_
 refine cF hF (fun h39 hF=>?_) (fun h39 hF=>?_)
 refine go ?_
 exact lC ⟨b18,s19,(IntKind.i64.wrap (z20+1)),hF,rfl,rfl⟩
 obtain ⟨b43,h44,hF⟩:=q00 hF
 refine gn ?_
 refine z6p (fun tm σ=>tm=fr 52 [(0,.iM q01 p1),(3,.vl 0 t8 0 l7.length),(5,.str s19),(6,.i6 z20),(40,.bool b43)]∧σ=⟨[(0,.vec (List.map cS l7).flatten 9 1 t8)],1⟩) ?_ ?_
 rintro _ _ ⟨rfl,rfl⟩
 refine gn ?_
 refine z6p (fun tm σ=>∃ s46:List UInt8,q76 z20 (q2x p1 n l7 (q2e p1 n m1) m2) s46=some r∧tm=fr 52 [(0,.iM q01 p1),(3,.vl 0 t8 0 l7.length),(5,.str s46),(6,.i6 z20)]∧σ=⟨[(0,.vec (List.map cS l7).flatten 9 1 t8)],1⟩) ?_ ?_
 rintro _ _ ⟨s46,hF,rfl,rfl⟩
 unfold q76 at hF
 refine go ?_
 exact lC ⟨true,s46,(IntKind.i64.wrap (z20+1)),hF,rfl,rfl⟩
 refine cF hF (fun h45 hF=>?_) (fun h45 hF=>?_)
 obtain ⟨x47,h48,hF⟩:=q00 hF
 refine go ?_
 refine RS.ix h48 ?_
 refine go ?_
 exact xC ⟨x47.Name,hF,rfl,rfl⟩
 refine go ?_
 exact xC ⟨s19,hF,rfl,rfl⟩
 rcases gB h44 with ⟨h40,h44⟩ | ⟨h40,h44⟩
 exact gy h44
 obtain ⟨x41,h42,h44⟩:=q00 h44
 obtain rfl:=sI h44
 refine go ?_
 refine RS.ix h42 ?_
 refine go ?_
 refine RS.w (u:=.bool (q6i x41.Name s19)) rfl (q9o rfl rfl rfl rfl) ?_
 refine go ?_
 exact xC ⟨rfl,rfl⟩
 obtain ⟨x28,h29,h38⟩:=q00 h38
 obtain ⟨r30,h31,h38⟩:=q00 h38
 rcases gB h38 with ⟨h32,h38⟩ | ⟨h32,h38⟩
 obtain rfl:=sI h38
 refine go ?_
 refine RS.ix h29 ?_
 refine go ?_
 refine RS.cl rfl (vw (q21 n l7 x28.Name r30 h31) (z6r 0 1)) fn126 ?_
 refine go ?_
 exact xC ⟨rfl,rfl⟩
 obtain ⟨x33,h34,h38⟩:=q00 h38
 obtain ⟨r35,h36,h38⟩:=q00 h38
 obtain rfl:=sI h38
 refine go ?_
 refine RS.ix h29 ?_
 refine go ?_
 refine RS.cl rfl (vw (q21 n l7 x28.Name r30 h31) (z6r 0 1)) fn126 ?_
 refine go ?_
 refine RS.ix h34 ?_
 refine go ?_
 refine RS.cl rfl (vw (qqa n x33 l7 r35 h36) (z6r 0 1)) fn149 ?_
 refine go ?_
 exact xC ⟨rfl,rfl⟩
 refine go ?_
 exact xC ⟨b18,s19,hF,rfl,rfl⟩
 refine go ?_
 exact xC ⟨l7,t8,hF,rfl,rfl⟩
def q8i (z15:Int) (rc1:Int→Int→Option (Int)) (z25:Int):Option (Int) :=
 rc1 z25 (IntKind.i64.wrap (z15+1))
def qc8 (p1:List q04) (n:Nat) (z16:Int):Option (Int) :=
 cond (z16 != 1)
  (some 1)
  (q03 (qfr n p1) fun r18 =>
  cond (decide ((r18.length:Int)<(p1.length:Int)))
   (some 6)
   (some 0))
def q4j (p1:List q04) (n:Nat):Nat→Int→Int→Option (Int)
 | 0,_,_=>none
 | m1+1,z14,z15 =>
  cond (decide (z15<(p1.length:Int)))
   (q03 (q0l p1 z15) fun x22 =>
   cond ((x22.Supers.length:Int) == 0)
    (q8i z15 (q4j p1 n m1) (IntKind.i64.wrap (z14+1)))
    (q8i z15 (q4j p1 n m1) z14))
   (qc8 p1 n z14)
def qhq (n:Nat) (p1:List q04):Option (Int) :=
 q03 (qht n p1) fun r2 =>
 cond (r2 != 0)
  (some r2)
  (q03 (qhr n p1) fun r5 =>
  cond (r5 != 0)
   (some r5)
   (q03 (qfs n p1) fun r8 =>
   cond (r8 != 0)
    (some r8)
    (q4j p1 n n 0 0)))
theorem qq8 (n:Nat) (p1:List q04) (r:Int) (hF:qhq n p1=some r):EvU Tryz.prog 94 [.isl false (List.map q01 p1)] ⟨[],0⟩ (fun u _=>u = .int .i64 r∧Bel 0 u):=by
 unfold qhq at hF
 refine bg1 46 fn94 ?_
 obtain ⟨r2,h3,hF⟩:=q00 hF
 refine go ?_
 refine RS.cl rfl (pC (qqb n p1 r2 h3) _) fn121 ?_
 refine go ?_
 refine cF hF (fun h4 hF=>?_) (fun h4 hF=>?_)
 exact gx hF
 obtain ⟨r5,h6,hF⟩:=q00 hF
 refine go ?_
 refine RS.cl rfl (pC (qq9 n p1 r5 h6) _) fn122 ?_
 refine go ?_
 refine cF hF (fun h7 hF=>?_) (fun h7 hF=>?_)
 exact gx hF
 obtain ⟨r8,h9,hF⟩:=q00 hF
 refine go ?_
 refine RS.cl rfl (pC (qo1 n p1 r8 h9) _) fn123 ?_
 refine go ?_
 refine cF hF (fun h10 hF=>?_) (fun h10 hF=>?_)
 exact gx hF
 refine go ?_
 refine gS (l':=[(0,_),(6,_),(7,_)]) ?_
 refine z6o (fun m tm σ=>∃ z14:Int,∃ z15:Int,q4j p1 n m z14 z15=some r∧tm=fr 46 [(0,.iM q01 p1),(6,.i6 z14),(7,.i6 z15)]∧σ=⟨[],0⟩) (fun tm σ=>∃ z16:Int,qc8 p1 n z16=some r∧tm=fr 46 [(0,.iM q01 p1),(6,.i6 z16)]∧σ=⟨[],0⟩) n ⟨0,0,hF,rfl,rfl⟩ ?_ ?_
 rintro _ _ ⟨z16,hF,rfl,rfl⟩
 unfold qc8 at hF
 refine go ?_
 refine cF hF (fun h17 hF=>?_) (fun h17 hF=>?_)
 exact gx hF
 obtain ⟨r18,h19,hF⟩:=q00 hF
 refine go ?_
 refine RS.cl rfl (pC (qo0 n p1 r18 h19) _) fn124 ?_
 refine go ?_
 refine cF hF (fun h20 hF=>?_) (fun h20 hF=>?_)
 exact gx hF
 exact gx hF
 rintro (_|m1) _ _ ⟨z14,z15,hF,rfl,rfl⟩
 cases hF
 unfold q4j at hF
 refine go ?_
 refine cF hF (fun h21 hF=>?_) (fun h21 hF=>?_)
 refine go ?_
 refine WPU.block ?_
 obtain ⟨x22,h23,hF⟩:=q00 hF
 refine go ?_
 refine RS.ix h23 ?_
 refine gn ?_
 refine z6p (fun tm σ=>∃ z25:Int,q8i z15 (q4j p1 n m1) z25=some r∧tm=fr 46 [(0,.iM q01 p1),(6,.i6 z25),(7,.i6 z15)]∧σ=⟨[],0⟩) ?_ ?_
 rintro _ _ ⟨z25,hF,rfl,rfl⟩
 unfold q8i at hF
 refine go ?_
 exact lC ⟨z25,(IntKind.i64.wrap (z15+1)),hF,rfl,rfl⟩
 refine cF hF (fun h24 hF=>?_) (fun h24 hF=>?_)
 refine go ?_
 exact xC ⟨(IntKind.i64.wrap (z14+1)),hF,rfl,rfl⟩
 refine go ?_
 exact xC ⟨z14,hF,rfl,rfl⟩
 refine go ?_
 exact xC ⟨z14,hF,rfl,rfl⟩
def qfq (p1:List (List UInt8)) (p2:List UInt8) (z7:Int):Option ((List (List UInt8))) :=
 q03 (cond (decide (z7<(p1.length:Int)))
  (q03 (q0l p1 z7) fun x9 =>
  some (q1e x9 p2))
  (some false)) fun b11 =>
 cond b11
  (some p1)
  (q03 (z44 p1 0 z7) fun l14 =>
  q0w (l14.length*16≤140737488355328∧l14.length≤140737488355328) (
  q0w ((l14.length+1)*16≤140737488355328∧l14.length+1≤140737488355328) (
  q03 (z44 p1 z7 (p1.length:Int)) fun l20 =>
  q0w (((l14++[p2]).length+l20.length)*16≤140737488355328∧(l14++[p2]).length+l20.length≤140737488355328) (
  some ((l14++[p2])++l20)))))
def qbl (p1:List (List UInt8)) (p2:List UInt8):Nat→Int→Option ((List (List UInt8)))
 | 0,_=>none
 | m1+1,z6 =>
  q03 (cond (decide (z6<(p1.length:Int)))
   (q03 (q0l p1 z6) fun x26 =>
   some (q6i x26 p2))
   (some false)) fun b28 =>
  cond b28
   ((qbl p1 p2 m1) (IntKind.i64.wrap (z6+1)))
   (qfq p1 p2 z6)
def q99 (n:Nat) (p1:List (List UInt8)) (p2:List UInt8):Option ((List (List UInt8))) :=
 qbl p1 p2 n 0
theorem q7w (n:Nat) (p1:List (List UInt8)) (p2:List UInt8) (r:(List (List UInt8))) (hF:q99 n p1 p2=some r):EvU Tryz.prog 116 [.isl false (List.map cS p1),.str p2] ⟨[],0⟩ (fun u _=>u = .isl false (List.map cS r)∧Bel 0 u):=by
 unfold q99 at hF
 refine bg2 48 fn116 ?_
 refine go ?_
 refine gS (l':=[(0,_),(1,_),(5,_),(6,_)]) ?_
 refine z6o (fun m tm σ=>∃ z6:Int,qbl p1 p2 m z6=some r∧tm=fr 48 [(0,.iM cS p1),(1,.str p2),(5,.nils),(6,.i6 z6)]∧σ=⟨[],0⟩) (fun tm σ=>∃ z7:Int,qfq p1 p2 z7=some r∧tm=fr 48 [(0,.iM cS p1),(1,.str p2),(5,.nils),(6,.i6 z7)]∧σ=⟨[],0⟩) n ⟨0,hF,rfl,rfl⟩ ?_ ?_
 rintro _ _ ⟨z7,hF,rfl,rfl⟩
 unfold qfq at hF
 obtain ⟨b11,h12,hF⟩:=q00 hF
 refine gn ?_
 refine z6p (fun tm σ=>tm=fr 48 [(0,.iM cS p1),(1,.str p2),(5,.nils),(6,.i6 z7),(32,.bool b11)]∧σ=⟨[],0⟩) ?_ ?_
 rintro _ _ ⟨rfl,rfl⟩
 refine go ?_
 refine cF hF (fun h13 hF=>?_) (fun h13 hF=>?_)
 exact gx hF
 obtain ⟨l14,h15,hF⟩:=q00 hF
 obtain ⟨h16,h17⟩:=qy6 cS .i64 h15
 obtain ⟨h18,hF⟩:=q06 hF
 refine go ?_
 refine RS.q (u:=.iM cS l14) rfl (qbh rfl qsu (z4a rfl) qsu (qvw cS un80.h (q0i if9.h) qgx h16 h17)) (RS.q (u:=.vl 0 0 0 l14.length) (σ':=⟨[(0,.vec (List.map cS l14).flatten 9 1 0)],1⟩) rfl (qd1 rfl rfl rfl rfl (qt1 cS l14 un80.h un80.h if9.h rfl (qko cS qgx) h18)) ?_)
 obtain ⟨h19,hF⟩:=q06 hF
 refine go ?_
 refine RS.g ?_
 refine RS.g ?_
 obtain ⟨l20,h21,hF⟩:=q00 hF
 obtain ⟨h22,h23⟩:=cut_lo cS .i64 h21
 obtain ⟨h24,hF⟩:=q06 hF
 refine go ?_
 refine RS.q (u:=.iM cS l20) rfl (qbh rfl (z4a rfl) qsu qsu (qvw cS un80.h (q0i if9.h) qgx h22 h23)) ?_
 refine RS.g ?_
 refine go ?_
 obtain rfl:=sI hF
 exact rT (us:=[.vl 0 2 0 (((l14++[p2])++l20).length)]) (u:=.iM cS ((l14++[p2])++l20)) (q1y rfl (q1t)) (fR 0 1)
 rcases gB h12 with ⟨h8,h12⟩ | ⟨h8,h12⟩
 obtain ⟨x9,h10,h12⟩:=q00 h12
 obtain rfl:=sI h12
 refine go ?_
 refine RS.ix h10 ?_
 refine go ?_
 refine RS.w (u:=.bool (q1e x9 p2)) rfl (q9o rfl rfl rfl rfl) ?_
 refine go ?_
 exact xC ⟨rfl,rfl⟩
 exact gy h12
 rintro (_|m1) _ _ ⟨z6,hF,rfl,rfl⟩
 cases hF
 unfold qbl at hF
 obtain ⟨b28,h29,hF⟩:=q00 hF
 refine gn ?_
 refine z6p (fun tm σ=>tm=fr 48 [(0,.iM cS p1),(1,.str p2),(5,.nils),(6,.i6 z6),(18,.bool b28)]∧σ=⟨[],0⟩) ?_ ?_
 rintro _ _ ⟨rfl,rfl⟩
 refine go ?_
 refine cF hF (fun h30 hF=>?_) (fun h30 hF=>?_)
 refine go ?_
 refine WPU.block ?_
 refine go ?_
 exact lC ⟨_,hF,rfl,rfl⟩
 refine go ?_
 exact xC ⟨z6,hF,rfl,rfl⟩
 rcases gB h29 with ⟨h25,h29⟩ | ⟨h25,h29⟩
 obtain ⟨x26,h27,h29⟩:=q00 h29
 obtain rfl:=sI h29
 refine go ?_
 refine RS.ix h27 ?_
 refine go ?_
 refine RS.w (u:=.bool (q6i x26 p2)) rfl (q9o rfl rfl rfl rfl) ?_
 refine go ?_
 exact xC ⟨rfl,rfl⟩
 exact gy h29
def qc9  (l7:List (List UInt8)):Option ((List (List UInt8))) :=
 some l7
def q8j (p1:List q04) (n:Nat):Nat→(List (List UInt8))→Int→Option ((List (List UInt8)))
 | 0,_,_=>none
 | m1+1,l5,z6 =>
  cond (decide (z6<(p1.length:Int)))
   (q03 (q0l p1 z6) fun x9 =>
   q03 (q99 n l5 x9.Name) fun r11 =>
   (q8j p1 n m1) r11 (IntKind.i64.wrap (z6+1)))
   (qc9 l5)
def qe9 (n:Nat) (p1:List q04):Option ((List (List UInt8))) :=
 q8j p1 n n [] 0
theorem qj6 (n:Nat) (p1:List q04) (r:(List (List UInt8))) (hF:qe9 n p1=some r):EvU Tryz.prog 95 [.isl false (List.map q01 p1)] ⟨[],0⟩ (fun u _=>u = .isl false (List.map cS r)∧Bel 0 u):=by
 unfold qe9 at hF
 refine bg1 19 fn95 ?_
 refine gr ?_
 refine gr ?_
 refine gr ?_
 refine WPU.ghost (tm':=fr 19 [(0,.iM q01 p1),(3,.iM cS []),(4,.i6 0)]) (Gh.trans (Gh.sub (l':=[(0,.iM q01 p1),(3,.nils),(4,.i6 0)]) ⟨rfl,rfl,rfl,trivial⟩) (Gh.wkS (l':=[(0,.iM q01 p1),(3,.iM cS []),(4,.i6 0)]) (.cons (.refl _) (.cons (.nil false) (.cons (.refl _) .nil))))) NZ ?_
 refine gS (l':=[(0,_),(3,_),(4,_)]) ?_
 refine z6o (fun m tm σ=>∃ l5:List (List UInt8),∃ z6:Int,q8j p1 n m l5 z6=some r∧tm=fr 19 [(0,.iM q01 p1),(3,.iM cS l5),(4,.i6 z6)]∧σ=⟨[],0⟩) (fun tm σ=>∃ l7:List (List UInt8),qc9 l7=some r∧tm=fr 19 [(3,.iM cS l7)]∧σ=⟨[],0⟩) n ⟨[],0,hF,rfl,rfl⟩ ?_ ?_
 rintro _ _ ⟨l7,hF,rfl,rfl⟩
 unfold qc9 at hF
 exact gx hF
 rintro (_|m1) _ _ ⟨l5,z6,hF,rfl,rfl⟩
 cases hF
 unfold q8j at hF
 refine go ?_
 refine cF hF (fun h8 hF=>?_) (fun h8 hF=>?_)
 refine go ?_
 refine WPU.block ?_
 obtain ⟨x9,h10,hF⟩:=q00 hF
 obtain ⟨r11,h12,hF⟩:=q00 hF
 refine go ?_
 refine RS.ix h10 ?_
 refine go ?_
 refine RS.cl rfl (pC (q7w n l5 x9.Name r11 h12) _) fn116 ?_
 refine go ?_
 exact lC ⟨r11,(IntKind.i64.wrap (z6+1)),hF,rfl,rfl⟩
 refine go ?_
 exact xC ⟨l5,hF,rfl,rfl⟩
def qc6  (l21:List (List UInt8)):Option ((List (List UInt8))) :=
 some l21
def q8h (n:Nat) (l13:List (List UInt8)):Nat→(List (List UInt8))→Int→Option ((List (List UInt8)))
 | 0,_,_=>none
 | m2+1,l19,z20 =>
  cond (decide (z20<(l13.length:Int)))
   (q03 (q0l l13 z20) fun x23 =>
   q03 (q99 n l19 x23) fun r25 =>
   (q8h n l13 m2) r25 (IntKind.i64.wrap (z20+1)))
   (qc6 l19)
def q8g (z33:Int) (rc3:Int→(List (List UInt8))→Option ((List (List UInt8)))) (l53:List (List UInt8)):Option ((List (List UInt8))) :=
 rc3 (IntKind.i64.wrap (z33+1)) l53
def qc7 (z10:Int) (rc1:Int→(List (List UInt8))→Option ((List (List UInt8)))) (l36:List (List UInt8)):Option ((List (List UInt8))) :=
 rc1 (IntKind.i64.wrap (z10+1)) l36
def q4i (p1:List q04) (n:Nat) (z10:Int) (rc1:Int→(List (List UInt8))→Option ((List (List UInt8)))):Nat→Int→(List (List UInt8))→Option ((List (List UInt8)))
 | 0,_,_=>none
 | m3+1,z33,l34 =>
  cond (decide (z33<(p1.length:Int)))
   (q03 (q03 (q0l p1 z33) fun x39 =>
   q03 (q0l l34 z10) fun x41 =>
   q03 (q2w n x39.Supers x41) fun r43 =>
   cond r43
    (q03 (q0l p1 z33) fun x46 =>
    q03 (q2w n l34 x46.Name) fun r48 =>
    some (!r48))
    (some false)) fun b50 =>
   cond b50
    (q03 (q0l p1 z33) fun x55 =>
    q0w ((l34.length+1)*16≤140737488355328∧l34.length+1≤140737488355328) (
    q8g z33 (q4i p1 n z10 rc1 m3) (l34++[x55.Name])))
    (q8g z33 (q4i p1 n z10 rc1 m3) l34))
   (qc7 z10 rc1 l34)
def qc5 (n:Nat) (l13:List (List UInt8)):Option ((List (List UInt8))) :=
 q8h n l13 n [] 0
def q3k (p1:List q04) (n:Nat):Nat→Int→(List (List UInt8))→Option ((List (List UInt8)))
 | 0,_,_=>none
 | m1+1,z10,l11 =>
  cond (decide (z10<(l11.length:Int)))
   (q4i p1 n z10 (q3k p1 n m1) n 0 l11)
   (qc5 n l11)
def qhp (n:Nat) (p1:List q04) (p2:List UInt8):Option ((List (List UInt8))) :=
 q03 (q6q n p1 p2) fun r3 =>
 cond (decide (r3<0))
  (some [])
  (q3k p1 n n 0 ([p2]))
theorem qq7 (n:Nat) (p1:List q04) (p2:List UInt8) (r:(List (List UInt8))) (hF:qhp n p1 p2=some r):EvU Tryz.prog 125 [.isl false (List.map q01 p1),.str p2] ⟨[],0⟩ (fun u _=>u = .isl false (List.map cS r)∧Bel 0 u):=by
 unfold qhp at hF
 refine bg2 69 fn125 ?_
 obtain ⟨r3,h4,hF⟩:=q00 hF
 refine go ?_
 refine RS.cl rfl (pC (q6r n p1 p2 r3 h4) _) fn148 ?_
 refine go ?_
 refine cF hF (fun h5 hF=>?_) (fun h5 hF=>?_)
 refine go ?_
 obtain rfl:=sI hF
 exact rT (us:=[.nils]) (u:=.isl false []) (q1y rfl (q1t)) wR
 refine go ?_
 refine z7c (u:=.vl 0 0 0 ([p2].length)) (σ':=⟨[(0,.vec (List.map cS ([p2])).flatten 9 1 0)],1⟩) rfl (qey.bslv (cs:=(List.map cS [p2]).flatten) Tryz.tb_ok rfl un80.h if9.h rfl rfl rfl rfl rfl rfl rfl rfl) rfl rfl ?_
 refine go ?_
 refine gS (l':=[(0,_),(5,_),(6,_)]) ?_
 refine z6o (fun m tm σ=>∃ z10:Int,∃ l11:List (List UInt8),∃ t12:Nat,q3k p1 n m z10 l11=some r∧tm=fr 69 [(0,.iM q01 p1),(5,.vl 0 t12 0 l11.length),(6,.i6 z10)]∧σ=⟨[(0,.vec (List.map cS l11).flatten 9 1 t12)],1⟩) (fun tm σ=>∃ l13:List (List UInt8),∃ t14:Nat,qc5 n l13=some r∧tm=fr 69 [(5,.vl 0 t14 0 l13.length)]∧σ=⟨[(0,.vec (List.map cS l13).flatten 9 1 t14)],1⟩) n ⟨0,[p2],0,hF,rfl,rfl⟩ ?_ ?_
 rintro _ _ ⟨l13,t14,hF,rfl,rfl⟩
 unfold qc5 at hF
 refine gr ?_
 refine gr ?_
 refine WPU.ghost (tm':=fr 69 [(5,.vl 0 t14 0 l13.length),(8,.iM cS []),(9,.i6 0)]) (Gh.trans (Gh.sub (l':=[(5,.vl 0 t14 0 l13.length),(8,.nils),(9,.i6 0)]) ⟨rfl,rfl,rfl,trivial⟩) (Gh.wkS (l':=[(5,.vl 0 t14 0 l13.length),(8,.iM cS []),(9,.i6 0)]) (.cons (.refl _) (.cons (.nil false) (.cons (.refl _) .nil))))) NZ ?_
 refine gS (l':=[(5,_),(8,_),(9,_)]) ?_
 refine z6o (fun m tm σ=>∃ l19:List (List UInt8),∃ z20:Int,q8h n l13 m l19 z20=some r∧tm=fr 69 [(5,.vl 0 t14 0 l13.length),(8,.iM cS l19),(9,.i6 z20)]∧σ=⟨[(0,.vec (List.map cS l13).flatten 9 1 t14)],1⟩) (fun tm σ=>∃ l21:List (List UInt8),qc6 l21=some r∧tm=fr 69 [(8,.iM cS l21)]∧σ=⟨[(0,.vec (List.map cS l13).flatten 9 1 t14)],1⟩) n ⟨[],0,hF,rfl,rfl⟩ ?_ ?_
 rintro _ _ ⟨l21,hF,rfl,rfl⟩
 unfold qc6 at hF
 exact gx hF
 rintro (_|m2) _ _ ⟨l19,z20,hF,rfl,rfl⟩
 cases hF
 unfold q8h at hF
 refine go ?_
 refine cF hF (fun h22 hF=>?_) (fun h22 hF=>?_)
 refine go ?_
 refine WPU.block ?_
 obtain ⟨x23,h24,hF⟩:=q00 hF
 obtain ⟨r25,h26,hF⟩:=q00 hF
 refine go ?_
 refine RS.q rfl (q2v rfl rfl (q94 cS un80.h (q0i if9.h) (by decide) qgx (vo rfl) h24)) ?_
 refine RS.q rfl (q5v cS (fun x=>.str x) un9.h rfl (fun _=>rfl) rfl rfl h24) (RS.cl rfl (pC (q7w n l19 x23 r25 h26) _) fn116 ?_)
 refine go ?_
 exact lC ⟨r25,(IntKind.i64.wrap (z20+1)),hF,rfl,rfl⟩
 refine go ?_
 exact xC ⟨l19,hF,rfl,rfl⟩
 rintro (_|m1) _ _ ⟨z10,l11,t12,hF,rfl,rfl⟩
 cases hF
 unfold q3k at hF
 refine go ?_
 refine cF hF (fun h27 hF=>?_) (fun h27 hF=>?_)
 refine go ?_
 refine WPU.block ?_
 refine go ?_
 refine gS (l':=[(0,_),(5,_),(6,_),(7,_)]) ?_
 refine z6o (fun m tm σ=>∃ z33:Int,∃ l34:List (List UInt8),∃ t35:Nat,q4i p1 n z10 (q3k p1 n m1) m z33 l34=some r∧tm=fr 69 [(0,.iM q01 p1),(5,.vl 0 t35 0 l34.length),(6,.i6 z10),(7,.i6 z33)]∧σ=⟨[(0,.vec (List.map cS l34).flatten 9 1 t35)],1⟩) (fun tm σ=>∃ l36:List (List UInt8),∃ t37:Nat,qc7 z10 (q3k p1 n m1) l36=some r∧tm=fr 69 [(0,.iM q01 p1),(5,.vl 0 t37 0 l36.length),(6,.i6 z10)]∧σ=⟨[(0,.vec (List.map cS l36).flatten 9 1 t37)],1⟩) n ⟨0,l11,t12,hF,rfl,rfl⟩ ?_ ?_
 rintro _ _ ⟨l36,t37,hF,rfl,rfl⟩
 unfold qc7 at hF
 refine go ?_
 exact lC ⟨_,l36,t37,hF,rfl,rfl⟩
 rintro (_|m3) _ _ ⟨z33,l34,t35,hF,rfl,rfl⟩
 cases hF
 unfold q4i at hF
 refine go ?_
 refine cF hF (fun h38 hF=>?_) (fun h38 hF=>?_)
 refine go ?_
 refine WPU.block ?_
 obtain ⟨b50,h51,hF⟩:=q00 hF
 refine gn ?_
 refine z6p (fun tm σ=>tm=fr 69 [(0,.iM q01 p1),(5,.vl 0 t35 0 l34.length),(6,.i6 z10),(7,.i6 z33),(47,.bool b50)]∧σ=⟨[(0,.vec (List.map cS l34).flatten 9 1 t35)],1⟩) ?_ ?_
 rintro _ _ ⟨rfl,rfl⟩
 refine gn ?_
 refine z6p (fun tm σ=>∃ l53:List (List UInt8),∃ t54:Nat,q8g z33 (q4i p1 n z10 (q3k p1 n m1) m3) l53=some r∧tm=fr 69 [(0,.iM q01 p1),(5,.vl 0 t54 0 l53.length),(6,.i6 z10),(7,.i6 z33)]∧σ=⟨[(0,.vec (List.map cS l53).flatten 9 1 t54)],1⟩) ?_ ?_
 rintro _ _ ⟨l53,t54,hF,rfl,rfl⟩
 unfold q8g at hF
 refine go ?_
 exact lC ⟨_,l53,t54,hF,rfl,rfl⟩
 refine cF hF (fun h52 hF=>?_) (fun h52 hF=>?_)
 obtain ⟨x55,h56,hF⟩:=q00 hF
 obtain ⟨h57,hF⟩:=q06 hF
 refine go ?_
 refine RS.ix h56 ?_
 refine go ?_
 refine RS.g ?_
 refine RS.g ?_
 refine go ?_
 exact xC ⟨(l34++[x55.Name]),(t35+1),hF,rfl,rfl⟩
 refine go ?_
 exact xC ⟨l34,t35,hF,rfl,rfl⟩
 obtain ⟨x39,h40,h51⟩:=q00 h51
 obtain ⟨x41,h42,h51⟩:=q00 h51
 obtain ⟨r43,h44,h51⟩:=q00 h51
 rcases gB h51 with ⟨h45,h51⟩ | ⟨h45,h51⟩
 obtain ⟨x46,h47,h51⟩:=q00 h51
 obtain ⟨r48,h49,h51⟩:=q00 h51
 obtain rfl:=sI h51
 refine z6q Tryz.tb_ok [] (by kernel_rfl) ?_
 refine gd ?_
 refine RD.ix h40 ?_
 refine gd ?_
 refine RD.q rfl (q2v rfl rfl (q94 cS un80.h (q0i if9.h) (by decide) qgx (vo rfl) h42)) ?_
 refine RD.q rfl (q5v cS (fun x=>.str x) un9.h rfl (fun _=>rfl) rfl rfl h42) (z6w rfl (pC (q21 n x39.Supers x41 r43 h44)) fn126 ?_)
 refine gd ?_
 refine RD.ix h47 ?_
 refine gd ?_
 refine RD.call (u:=.bool r48) (args:=[.vl 0 t35 0 l34.length,.str x46.Name]) (z1a rfl rfl rfl h45) (q3s rfl rfl fn126 hb126 rfl rfl) (vw (q21 n l34 x46.Name r48 h49) (z6r 0 1)) rfl rfl ?_
 refine gd ?_
 refine RD.done ⟨by kernel_rfl,trivial,?_⟩
 refine go ?_
 exact xC ⟨rfl,rfl⟩
 obtain rfl:=sI h51
 refine z6q Tryz.tb_ok [] (by kernel_rfl) ?_
 refine gd ?_
 refine RD.ix h40 ?_
 refine gd ?_
 refine RD.q rfl (q2v rfl rfl (q94 cS un80.h (q0i if9.h) (by decide) qgx (vo rfl) h42)) ?_
 refine RD.q rfl (q5v cS (fun x=>.str x) un9.h rfl (fun _=>rfl) rfl rfl h42) (z6w rfl (pC (q21 n x39.Supers x41 r43 h44)) fn126 ?_)
 refine gd ?_
 refine RD.done ⟨by kernel_rfl,trivial,?_⟩
 refine go ?_
 exact xC ⟨rfl,rfl⟩
 refine go ?_
 exact xC ⟨l34,t35,hF,rfl,rfl⟩
 refine go ?_
 exact xC ⟨l11,t12,hF,rfl,rfl⟩
def qat (p1:List Int) (z5:Int):Option ((List Int)) :=
 q03 (z44 p1 0 z5) fun l6 =>
 q0w (l6.length*8≤140737488355328∧l6.length≤140737488355328) (
 some l6)
def q73 (p1:List Int):Nat→Int→Option ((List Int))
 | 0,_=>none
 | m1+1,z4 =>
  q03 (cond (decide (z4 > 0))
   (q03 (q0l p1 (IntKind.i64.wrap (z4 - 1))) fun x12 =>
   some (x12 == 0))
   (some false)) fun b14 =>
  cond b14
   ((q73 p1 m1) (IntKind.i64.wrap (z4 - 1)))
   (qat p1 z4)
def q6p (n:Nat) (p1:List Int):Option ((List Int)) :=
 q73 p1 n (p1.length:Int)
theorem q8a (n:Nat) (p1:List Int) (r:(List Int)) (hF:q6p n p1=some r):EvU Tryz.prog 119 [.isl false (List.map (cI .u64) p1)] ⟨[],0⟩ (fun u _=>u = .isl false (List.map (cI .u64) r)∧Bel 0 u):=by
 unfold q6p at hF
 refine bg1 23 fn119 ?_
 refine go ?_
 refine gS (l':=[(0,_),(3,_)]) ?_
 refine z6o (fun m tm σ=>∃ z4:Int,q73 p1 m z4=some r∧tm=fr 23 [(0,.iM (cI .u64) p1),(3,.i6 z4)]∧σ=⟨[],0⟩) (fun tm σ=>∃ z5:Int,qat p1 z5=some r∧tm=fr 23 [(0,.iM (cI .u64) p1),(3,.i6 z5)]∧σ=⟨[],0⟩) n ⟨(p1.length:Int),hF,rfl,rfl⟩ ?_ ?_
 rintro _ _ ⟨z5,hF,rfl,rfl⟩
 unfold qat at hF
 obtain ⟨l6,h7,hF⟩:=q00 hF
 obtain ⟨h8,h9⟩:=qy6 (cI .u64) .i64 h7
 obtain ⟨h10,hF⟩:=q06 hF
 refine go ?_
 refine RS.q (u:=.sl 0 0 0 0) (σ':=⟨[(0,.row [] 191)],1⟩) rfl (q7q un103.h if191.h rfl rfl rfl rfl rfl rfl rfl) ?_
 refine go ?_
 refine RS.q (u:=.iM (cI .u64) l6) rfl (qbh rfl qsu (z4a rfl) qsu (qvw (cI .u64) un103.h (q0i if191.h) (q6o .u64) h8 h9)) (RS.q (u:=.vl 1 0 0 l6.length) (σ':=⟨[(1,.vec (List.map (cI .u64) l6).flatten 191 1 0),(0,.row [] 191)],2⟩) rfl (qd1 rfl rfl rfl rfl (qt0 (cI .u64) l6 un103.h un103.h if191.h rfl rfl rfl (qko (cI .u64) (q6o .u64)) h10)) ?_)
 refine go ?_
 obtain rfl:=sI hF
 exact rT (us:=[.vl 1 0 0 l6.length]) (u:=.iM (cI .u64) l6) (q1y rfl (q1t)) (fR 1 1)
 rintro (_|m1) _ _ ⟨z4,hF,rfl,rfl⟩
 cases hF
 unfold q73 at hF
 obtain ⟨b14,h15,hF⟩:=q00 hF
 refine gn ?_
 refine z6p (fun tm σ=>tm=fr 23 [(0,.iM (cI .u64) p1),(3,.i6 z4),(15,.bool b14)]∧σ=⟨[],0⟩) ?_ ?_
 rintro _ _ ⟨rfl,rfl⟩
 refine go ?_
 refine cF hF (fun h16 hF=>?_) (fun h16 hF=>?_)
 refine go ?_
 refine WPU.block ?_
 refine go ?_
 exact lC ⟨_,hF,rfl,rfl⟩
 refine go ?_
 exact xC ⟨z4,hF,rfl,rfl⟩
 rcases gB h15 with ⟨h11,h15⟩ | ⟨h11,h15⟩
 obtain ⟨x12,h13,h15⟩:=q00 h15
 obtain rfl:=sI h15
 refine go ?_
 refine RS.ix h13 ?_
 refine go ?_
 exact xC ⟨rfl,rfl⟩
 exact gy h15
def qhn (n:Nat) (l8:List Int):Option ((List Int)×Int) :=
 q0w ((64:Int).toNat=l8.length) (
 q03 (q6p n l8) fun r10 =>
 some (r10,0))
def qe7 (p1:List Int) (n:Nat):Nat→Int→(List Int)→Option ((List Int)×Int)
 | 0,_,_=>none
 | m1+1,z6,l7 =>
  cond (decide (z6<(p1.length:Int)))
   (q03 (q03 (q0l p1 z6) fun x13 =>
   cond (decide (x13<0))
    (some true)
    (q03 (q0l p1 z6) fun x16 =>
    some (decide (x16 > 4095)))) fun b18 =>
   cond b18
    (some ([],2))
    (q03 (q0l p1 z6) fun x21 =>
    q03 (q0l p1 z6) fun x24 =>
    q03 (qjz l7 0 ((64:Int).toNat) (IntKind.i64.wrap (x24.tdiv 64))) fun x27 =>
    q03 (q0l p1 z6) fun x29 =>
    q0w (¬ (IntKind.u64.wrap (x29.tmod 64))<0) (
    q03 (qjz l7 0 ((64:Int).toNat) (IntKind.i64.wrap (x21.tdiv 64))) fun x33 =>
    (qe7 p1 n m1) (IntKind.i64.wrap (z6+1)) (l7.set (IntKind.i64.wrap (x21.tdiv 64)).toNat (orI .u64 x27 (IntKind.u64.wrap (1*(2 ^ (min (IntKind.u64.wrap (x29.tmod 64)).toNat IntKind.u64.bits)))))))))
   (qhn n l7)
def qq5 (n:Nat) (p1:List Int):Option ((List Int)×Int) :=
 q0w (0≤(64:Int)∧8*(64:Int).toNat≤281474976710656∧(64:Int)≤281474976710656) (
 qe7 p1 n n 0 (List.replicate (64:Int).toNat 0))
theorem qx0 (n:Nat) (p1:List Int) (r:(List Int)×Int) (hF:qq5 n p1=some r):EvU Tryz.prog 127 [.isl false (List.map (cI .i64) p1)] ⟨[],0⟩ (fun u _=>u = .tup [.isl false (List.map (cI .u64) r.1),.int .i64 r.2]∧Bel 0 u):=by
 unfold qq5 at hF
 refine bg1 50 fn127 ?_
 obtain ⟨h2,hF⟩:=q06 hF
 refine go ?_
 refine RS.q (u:=.sl 0 0 ((64:Int).toNat) ((64:Int).toNat)) (σ':=⟨[(0,.row (List.map (cI .u64) (List.replicate (64:Int).toNat 0)).flatten 191)],1⟩) rfl (qow (cI .u64) 0 rfl rfl un103.h if191.h rfl rfl rfl rfl h2) ?_
 refine go ?_
 refine gS (l':=[(0,_),(4,_),(5,_)]) ?_
 refine z6o (fun m tm σ=>∃ z6:Int,∃ l7:List Int,qe7 p1 n m z6 l7=some r∧tm=fr 50 [(0,.iM (cI .i64) p1),(4,.sl 0 0 ((64:Int).toNat) ((64:Int).toNat)),(5,.i6 z6)]∧σ=⟨[(0,.row (List.map (cI .u64) l7).flatten 191)],1⟩) (fun tm σ=>∃ l8:List Int,qhn n l8=some r∧tm=fr 50 [(4,.sl 0 0 ((64:Int).toNat) ((64:Int).toNat))]∧σ=⟨[(0,.row (List.map (cI .u64) l8).flatten 191)],1⟩) n ⟨0,(List.replicate (64:Int).toNat 0),hF,rfl,rfl⟩ ?_ ?_
 rintro _ _ ⟨l8,hF,rfl,rfl⟩
 unfold qhn at hF
 obtain ⟨h9,hF⟩:=q06 hF
 refine gn ?_
 refine WPU.ghost (tm':=fr 50 [(4,.iM (cI .u64) l8)]) (σ':=⟨[],1⟩) (Gh.trans (Gh.sub (l':=[(4,.sl 0 0 ((64:Int).toNat) ((64:Int).toNat))]) ⟨rfl,trivial⟩) (Gh.fzS (l':=[(4,.iM (cI .u64) l8)]) (h':=[]) 0 (.row (List.map (cI .u64) l8).flatten 191) 1 rfl (by simp) (by simp only [fzS,ql0,qbr,q67,qih,qf7,qij,qdf,qfa,qf9,qf8,qde,qii,qkw,qig,qik,qnv,qlb,qyv (q6o .u64) h9]) (by simp only [fzH,fzB,ug,Nat.beq,zC,zD,ql0,qbr,q67,qih,qf7,qij,qdf,qfa,qf9,qf8,qde,qii,qkw,qig,qik,qnv,qlb,qyv (q6o .u64) h9]))) NZ ?_
 obtain ⟨r10,h11,hF⟩:=q00 hF
 refine go ?_
 refine RS.cl rfl (pC (q8a n l8 r10 h11) _) fn119 ?_
 refine go ?_
 obtain rfl:=sI hF
 exact rt2 rfl rfl rfl rfl rfl
 rintro (_|m1) _ _ ⟨z6,l7,hF,rfl,rfl⟩
 cases hF
 unfold qe7 at hF
 refine go ?_
 refine cF hF (fun h12 hF=>?_) (fun h12 hF=>?_)
 refine go ?_
 refine WPU.block ?_
 obtain ⟨b18,h19,hF⟩:=q00 hF
 refine gn ?_
 refine z6p (fun tm σ=>tm=fr 50 [(0,.iM (cI .i64) p1),(4,.sl 0 0 ((64:Int).toNat) ((64:Int).toNat)),(5,.i6 z6),(24,.bool b18)]∧σ=⟨[(0,.row (List.map (cI .u64) l7).flatten 191)],1⟩) ?_ ?_
 rintro _ _ ⟨rfl,rfl⟩
 refine go ?_
 refine cF hF (fun h20 hF=>?_) (fun h20 hF=>?_)
 refine go ?_
 obtain rfl:=sI hF
 exact rT (us:=[.nils,.i6 2]) (u:=.tup [.isl false [],.i6 2]) (q1y rfl (q1y rfl (q1t))) wR
 obtain ⟨x21,h22,hF⟩:=q00 hF
 obtain ⟨x24,h25,hF⟩:=q00 hF
 obtain ⟨x27,h28,hF⟩:=q00 hF
 obtain ⟨x29,h30,hF⟩:=q00 hF
 obtain ⟨h32,hF⟩:=q06 hF
 obtain ⟨x33,h34,hF⟩:=q00 hF
 refine go ?_
 refine z6q Tryz.tb_ok [] (by kernel_rfl) ?_
 refine gd ?_
 refine RD.ix h22 ?_
 refine gd ?_
 refine RD.q rfl (qbg rfl rfl (quy _ (by decide)) rfl) ?_
 refine gd ?_
 refine RD.ix h25 ?_
 refine gd ?_
 refine RD.q rfl (qbg rfl rfl (quy _ (by decide)) rfl) ?_
 refine RD.q rfl (q2v rfl rfl (qfc un103.h (q0i if191.h) rfl h28)) (RD.q (u:=.int .u64 x27) rfl (qit (cI .u64) (fun x=>.int .u64 x) un191.h rfl (fun _=>rfl) rfl rfl h28) ?_)
 refine gd ?_
 refine RD.ix h30 ?_
 refine gd ?_
 refine RD.q rfl (qbg rfl rfl (z4j _ (by decide)) rfl) ?_
 refine RD.q (u:=.int .u64 (IntKind.u64.wrap (x29.tmod 64))) rfl (qtq rfl rfl (by simp only [qr5,un3.h,un190.h]<;>rfl) rfl) ?_
 refine RD.q rfl (qbg rfl rfl (ix_shl _ h32) rfl) (RD.q rfl (qbg rfl rfl (ix_or _ _ _) rfl) (RD.q rfl (q2v rfl rfl (qfc un103.h (q0i if191.h) rfl h34)) (RD.actn (u:=.junk) (σ':=⟨[(0,.row (List.map (cI .u64) (l7.set (IntKind.i64.wrap (x21.tdiv 64)).toNat (orI .u64 x27 (IntKind.u64.wrap (1*(2 ^ (min (IntKind.u64.wrap (x29.tmod 64)).toNat IntKind.u64.bits))))))).flatten 191)],1⟩) rfl (qso (cI .u64) (q0i if191.h) (q6o .u64) rfl rfl rfl rfl rfl rfl h34 rfl) rfl ?_)))
 refine RD.done ⟨by kernel_rfl,trivial,?_⟩
 refine go ?_
 exact lC ⟨_,(l7.set (IntKind.i64.wrap (x21.tdiv 64)).toNat (orI .u64 x27 (IntKind.u64.wrap (1*(2 ^ (min (IntKind.u64.wrap (x29.tmod 64)).toNat IntKind.u64.bits)))))),hF,rfl,rfl⟩
 obtain ⟨x13,h14,h19⟩:=q00 h19
 rcases gB h19 with ⟨h15,h19⟩ | ⟨h15,h19⟩
 obtain rfl:=sI h19
 refine go ?_
 refine RS.ix h14 ?_
 refine go ?_
 exact xC ⟨rfl,rfl⟩
 obtain ⟨x16,h17,h19⟩:=q00 h19
 obtain rfl:=sI h19
 refine go ?_
 refine RS.ix h14 ?_
 refine go ?_
 refine RS.ix h17 ?_
 refine go ?_
 exact xC ⟨rfl,rfl⟩
 refine go ?_
 exact xC ⟨l7,hF,rfl,rfl⟩
def qa5 (z11:Int) (rc1:Int→(List Int)→Option ((List Int))) (l24:List Int):Option ((List Int)) :=
 rc1 (IntKind.i64.wrap (z11+1)) l24
def qec (n:Nat) (l14:List Int):Option ((List Int)) :=
 q03 (qq5 n l14) fun r16 =>
 some r16.1
def q5l (p2:List (List UInt8)) (n:Nat) (r4:(List (List UInt8))):Nat→Int→(List Int)→Option ((List Int))
 | 0,_,_=>none
 | m1+1,z11,l12 =>
  cond (decide (z11<(p2.length:Int)))
   (q03 (q0l p2 z11) fun x19 =>
   q03 (q2w n r4 x19) fun r21 =>
   cond r21
    (q0w ((l12.length+1)*8≤140737488355328∧l12.length+1≤140737488355328) (
    qa5 z11 (q5l p2 n r4 m1) (l12++[z11])))
    (qa5 z11 (q5l p2 n r4 m1) l12))
   (qec n l12)
def qkg (n:Nat) (p1:List q04) (p2:List (List UInt8)) (p3:List UInt8):Option ((List Int)) :=
 q03 (qhp n p1 p3) fun r4 =>
 q5l p2 n r4 n 0 ([]:List Int)
theorem qs8 (n:Nat) (p1:List q04) (p2:List (List UInt8)) (p3:List UInt8) (r:(List Int)) (hF:qkg n p1 p2 p3=some r):EvU Tryz.prog 96 [.isl false (List.map q01 p1),.isl false (List.map cS p2),.str p3] ⟨[],0⟩ (fun u _=>u = .isl false (List.map (cI .u64) r)∧Bel 0 u):=by
 unfold qkg at hF
 refine bg3 37 fn96 ?_
 obtain ⟨r4,h5,hF⟩:=q00 hF
 refine go ?_
 refine RS.cl rfl (pC (qq7 n p1 p3 r4 h5) _) fn125 ?_
 refine gr ?_
 refine gr ?_
 refine WPU.ghost (tm':=fr 37 [(1,.iM cS p2),(7,.iM cS r4),(8,.vl 0 0 0 (([]:List Int).length)),(9,.i6 0)]) (σ':=⟨[(0,.vec (List.map (cI .i64) ([]:List Int)).flatten 3 1 0)],1⟩) (Gh.trans (z6u 8 3 1 (by decide) NZ rfl rfl) (z6s ⟨rfl,rfl,rfl,rfl,trivial⟩ rfl)) NZ ?_
 refine gS (l':=[(1,_),(7,_),(8,_),(9,_)]) ?_
 refine z6o (fun m tm σ=>∃ z11:Int,∃ l12:List Int,∃ t13:Nat,q5l p2 n r4 m z11 l12=some r∧tm=fr 37 [(1,.iM cS p2),(7,.iM cS r4),(8,.vl 0 t13 0 l12.length),(9,.i6 z11)]∧σ=⟨[(0,.vec (List.map (cI .i64) l12).flatten 3 1 t13)],1⟩) (fun tm σ=>∃ l14:List Int,∃ t15:Nat,qec n l14=some r∧tm=fr 37 [(8,.vl 0 t15 0 l14.length)]∧σ=⟨[(0,.vec (List.map (cI .i64) l14).flatten 3 1 t15)],1⟩) n ⟨0,([]:List Int),0,hF,rfl,rfl⟩ ?_ ?_
 rintro _ _ ⟨l14,t15,hF,rfl,rfl⟩
 unfold qec at hF
 refine gn ?_
 refine WPU.ghost (tm':=fr 37 [(8,.iM (cI .i64) l14)]) (σ':=⟨[],1⟩) (Gh.trans (Gh.sub (l':=[(8,.vl 0 t15 0 l14.length)]) ⟨rfl,trivial⟩) (z7a 0 1)) NZ ?_
 obtain ⟨r16,h17,hF⟩:=q00 hF
 refine go ?_
 refine RS.cl rfl (pC (qx0 n l14 r16 h17) _) fn127 ?_
 exact gx hF
 rintro (_|m1) _ _ ⟨z11,l12,t13,hF,rfl,rfl⟩
 cases hF
 unfold q5l at hF
 refine go ?_
 refine cF hF (fun h18 hF=>?_) (fun h18 hF=>?_)
 refine go ?_
 refine WPU.block ?_
 obtain ⟨x19,h20,hF⟩:=q00 hF
 obtain ⟨r21,h22,hF⟩:=q00 hF
 refine go ?_
 refine RS.ix h20 ?_
 refine go ?_
 refine RS.cl rfl (pC (q21 n r4 x19 r21 h22) _) fn126 ?_
 refine gn ?_
 refine z6p (fun tm σ=>∃ l24:List Int,∃ t25:Nat,qa5 z11 (q5l p2 n r4 m1) l24=some r∧tm=fr 37 [(1,.iM cS p2),(7,.iM cS r4),(8,.vl 0 t25 0 l24.length),(9,.i6 z11)]∧σ=⟨[(0,.vec (List.map (cI .i64) l24).flatten 3 1 t25)],1⟩) ?_ ?_
 rintro _ _ ⟨l24,t25,hF,rfl,rfl⟩
 unfold qa5 at hF
 refine go ?_
 exact lC ⟨_,l24,t25,hF,rfl,rfl⟩
 refine cF hF (fun h23 hF=>?_) (fun h23 hF=>?_)
 obtain ⟨h26,hF⟩:=q06 hF
 refine go ?_
 refine RS.g ?_
 refine RS.g ?_
 refine go ?_
 exact xC ⟨(l12++[z11]),(t13+1),hF,rfl,rfl⟩
 refine go ?_
 exact xC ⟨l12,t13,hF,rfl,rfl⟩
 refine go ?_
 exact xC ⟨l12,t13,hF,rfl,rfl⟩
def qgg (n:Nat) (p1:List Int) (p2:Int):Option (Int) :=
 cond (decide (p2<(p1.length:Int)))
  (q03 (q0l p1 p2) fun x4 =>
  some x4)
  (some 0)
theorem ql3 (n:Nat) (p1:List Int) (p2:Int) (r:Int) (hF:qgg n p1 p2=some r):EvU Tryz.prog 146 [.isl false (List.map (cI .u64) p1),.int .i64 p2] ⟨[],0⟩ (fun u _=>u = .int .u64 r∧Bel 0 u):=by
 unfold qgg at hF
 refine bg2 13 fn146 ?_
 refine go ?_
 refine cF hF (fun h3 hF=>?_) (fun h3 hF=>?_)
 obtain ⟨x4,h5,hF⟩:=q00 hF
 refine go ?_
 refine RS.ix h5 ?_
 exact gx hF
 exact gx hF
def qfo (n:Nat) (l11:List Int):Option ((List Int)) :=
 q03 (q6p n l11) fun r13 =>
 some r13
def qbk (p1:List Int) (p2:List Int) (n:Nat):Nat→Int→(List Int)→Option ((List Int))
 | 0,_,_=>none
 | m1+1,z8,l9 =>
  cond (decide (z8<(p1.length:Int)))
   (q03 (q0l p1 z8) fun x16 =>
   q03 (qgg n p2 z8) fun r18 =>
   q0w ((l9.length+1)*8≤140737488355328∧l9.length+1≤140737488355328) (
   (qbk p1 p2 n m1) (IntKind.i64.wrap (z8+1)) (l9++[(andI .u64 x16 r18)])))
   (qfo n l9)
def qj3 (n:Nat) (p1:List Int) (p2:List Int):Option ((List Int)) :=
 qbk p1 p2 n n 0 ([]:List Int)
theorem qna (n:Nat) (p1:List Int) (p2:List Int) (r:(List Int)) (hF:qj3 n p1 p2=some r):EvU Tryz.prog 118 [.isl false (List.map (cI .u64) p1),.isl false (List.map (cI .u64) p2)] ⟨[],0⟩ (fun u _=>u = .isl false (List.map (cI .u64) r)∧Bel 0 u):=by
 unfold qj3 at hF
 refine bg2 26 fn118 ?_
 refine gr ?_
 refine gr ?_
 refine gr ?_
 refine WPU.ghost (tm':=fr 26 [(0,.iM (cI .u64) p1),(1,.iM (cI .u64) p2),(5,.vl 0 0 0 (([]:List Int).length)),(6,.i6 0)]) (σ':=⟨[(0,.vec (List.map (cI .u64) ([]:List Int)).flatten 191 1 0)],1⟩) (Gh.trans (z6u 5 191 1 (by decide) NZ rfl rfl) (z6s ⟨rfl,rfl,rfl,rfl,trivial⟩ rfl)) NZ ?_
 refine gS (l':=[(0,_),(1,_),(5,_),(6,_)]) ?_
 refine z6o (fun m tm σ=>∃ z8:Int,∃ l9:List Int,∃ t10:Nat,qbk p1 p2 n m z8 l9=some r∧tm=fr 26 [(0,.iM (cI .u64) p1),(1,.iM (cI .u64) p2),(5,.vl 0 t10 0 l9.length),(6,.i6 z8)]∧σ=⟨[(0,.vec (List.map (cI .u64) l9).flatten 191 1 t10)],1⟩) (fun tm σ=>∃ l11:List Int,∃ t12:Nat,qfo n l11=some r∧tm=fr 26 [(5,.vl 0 t12 0 l11.length)]∧σ=⟨[(0,.vec (List.map (cI .u64) l11).flatten 191 1 t12)],1⟩) n ⟨0,([]:List Int),0,hF,rfl,rfl⟩ ?_ ?_
 rintro _ _ ⟨l11,t12,hF,rfl,rfl⟩
 unfold qfo at hF
 refine gn ?_
 refine WPU.ghost (tm':=fr 26 [(5,.iM (cI .u64) l11)]) (σ':=⟨[],1⟩) (Gh.trans (Gh.sub (l':=[(5,.vl 0 t12 0 l11.length)]) ⟨rfl,trivial⟩) (z7a 0 1)) NZ ?_
 obtain ⟨r13,h14,hF⟩:=q00 hF
 refine go ?_
 refine RS.cl rfl (pC (q8a n l11 r13 h14) _) fn119 ?_
 exact gx hF
 rintro (_|m1) _ _ ⟨z8,l9,t10,hF,rfl,rfl⟩
 cases hF
 unfold qbk at hF
 refine go ?_
 refine cF hF (fun h15 hF=>?_) (fun h15 hF=>?_)
 refine go ?_
 refine WPU.block ?_
 obtain ⟨x16,h17,hF⟩:=q00 hF
 obtain ⟨r18,h19,hF⟩:=q00 hF
 obtain ⟨h20,hF⟩:=q06 hF
 refine go ?_
 refine z6q Tryz.tb_ok [(0,9)] (by kernel_rfl) ?_
 refine gd ?_
 refine RD.ix h17 ?_
 refine gd ?_
 refine z6w rfl (pC (ql3 n p2 z8 r18 h19)) fn146 (RD.q rfl (qbg rfl rfl (z4i _ _ _) rfl) ?_)
 refine RD.g ?_
 refine RD.g ?_
 refine gd ?_
 refine RD.done ⟨by kernel_rfl,⟨q3h rfl,trivial⟩,?_⟩
 refine go ?_
 exact lC ⟨_,(l9++[(andI .u64 x16 r18)]),(t10+1),hF,rfl,rfl⟩
 refine go ?_
 exact xC ⟨l9,t10,hF,rfl,rfl⟩
def qe8   : Option (Bool) :=
 some true
def qa0 (p1:List Int) (p2:List Int):Nat→Int→Option (Bool)
 | 0,_=>none
 | m1+1,z7 =>
  cond (decide (z7<(p1.length:Int)))
   (q03 (q0l p1 z7) fun x9 =>
   q03 (q0l p2 z7) fun x11 =>
   cond (x9 != x11)
    (some false)
    ((qa0 p1 p2 m1) (IntKind.i64.wrap (z7+1))))
   (qe8)
def qgf (n:Nat) (p1:List Int) (p2:List Int):Option (Bool) :=
 cond ((p1.length:Int) != (p2.length:Int))
  (some false)
  (qa0 p1 p2 n 0)
theorem ql2 (n:Nat) (p1:List Int) (p2:List Int) (r:Bool) (hF:qgf n p1 p2=some r):EvU Tryz.prog 120 [.isl false (List.map (cI .u64) p1),.isl false (List.map (cI .u64) p2)] ⟨[],0⟩ (fun u _=>u = .bool r∧Bel 0 u):=by
 unfold qgf at hF
 refine bg2 26 fn120 ?_
 refine go ?_
 refine cF hF (fun h3 hF=>?_) (fun h3 hF=>?_)
 exact gx hF
 refine go ?_
 refine gS (l':=[(0,_),(1,_),(5,_)]) ?_
 refine z6o (fun m tm σ=>∃ z7:Int,qa0 p1 p2 m z7=some r∧tm=fr 26 [(0,.iM (cI .u64) p1),(1,.iM (cI .u64) p2),(5,.i6 z7)]∧σ=⟨[],0⟩) (fun tm σ=>qe8=some r∧tm=fr 26 []∧σ=⟨[],0⟩) n ⟨0,hF,rfl,rfl⟩ ?_ ?_
 rintro _ _ ⟨hF,rfl,rfl⟩
 unfold qe8 at hF
 exact gx hF
 rintro (_|m1) _ _ ⟨z7,hF,rfl,rfl⟩
 cases hF
 unfold qa0 at hF
 refine go ?_
 refine cF hF (fun h8 hF=>?_) (fun h8 hF=>?_)
 refine go ?_
 refine WPU.block ?_
 obtain ⟨x9,h10,hF⟩:=q00 hF
 obtain ⟨x11,h12,hF⟩:=q00 hF
 refine go ?_
 refine z6q Tryz.tb_ok [] (by kernel_rfl) ?_
 refine gd ?_
 refine RD.ix h10 ?_
 refine gd ?_
 refine RD.ix h12 ?_
 refine gd ?_
 refine RD.done ⟨by kernel_rfl,trivial,?_⟩
 refine go ?_
 refine cF hF (fun h13 hF=>?_) (fun h13 hF=>?_)
 exact gx hF
 refine go ?_
 exact lC ⟨_,hF,rfl,rfl⟩
 refine go ?_
 exact xC ⟨hF,rfl,rfl⟩
def qhu   : Option (Bool) :=
 some false
def qed (p1:List (List Int)) (p2:List Int) (n:Nat):Nat→Int→Option (Bool)
 | 0,_=>none
 | m1+1,z6 =>
  cond (decide (z6<(p1.length:Int)))
   (q03 (q0l p1 z6) fun x8 =>
   q03 (qgf n x8 p2) fun r10 =>
   cond r10
    (some true)
    ((qed p1 p2 n m1) (IntKind.i64.wrap (z6+1))))
   (qhu)
def qqc (n:Nat) (p1:List (List Int)) (p2:List Int):Option (Bool) :=
 qed p1 p2 n n 0
theorem qx1 (n:Nat) (p1:List (List Int)) (p2:List Int) (r:Bool) (hF:qqc n p1 p2=some r):EvU Tryz.prog 128 [.isl false (List.map (cL (cI .u64)) p1),.isl false (List.map (cI .u64) p2)] ⟨[],0⟩ (fun u _=>u = .bool r∧Bel 0 u):=by
 unfold qqc at hF
 refine bg2 18 fn128 ?_
 refine go ?_
 refine gS (l':=[(0,_),(1,_),(5,_)]) ?_
 refine z6o (fun m tm σ=>∃ z6:Int,qed p1 p2 n m z6=some r∧tm=fr 18 [(0,.iM (cL (cI .u64)) p1),(1,.iM (cI .u64) p2),(5,.i6 z6)]∧σ=⟨[],0⟩) (fun tm σ=>qhu=some r∧tm=fr 18 []∧σ=⟨[],0⟩) n ⟨0,hF,rfl,rfl⟩ ?_ ?_
 rintro _ _ ⟨hF,rfl,rfl⟩
 unfold qhu at hF
 exact gx hF
 rintro (_|m1) _ _ ⟨z6,hF,rfl,rfl⟩
 cases hF
 unfold qed at hF
 refine go ?_
 refine cF hF (fun h7 hF=>?_) (fun h7 hF=>?_)
 refine go ?_
 refine WPU.block ?_
 obtain ⟨x8,h9,hF⟩:=q00 hF
 obtain ⟨r10,h11,hF⟩:=q00 hF
 refine go ?_
 refine RS.ix h9 ?_
 refine go ?_
 refine RS.cl rfl (pC (ql2 n x8 p2 r10 h11) _) fn120 ?_
 refine go ?_
 refine cF hF (fun h12 hF=>?_) (fun h12 hF=>?_)
 exact gx hF
 refine go ?_
 exact lC ⟨_,hF,rfl,rfl⟩
 refine go ?_
 exact xC ⟨hF,rfl,rfl⟩
def q7a (z19:Int) (rc2:Int→(List (List Int))→Option ((List (List Int)))) (l40:List (List Int)):Option ((List (List Int))) :=
 rc2 (IntKind.i64.wrap (z19+1)) l40
def qb2 (z6:Int) (rc1:Int→(List (List Int))→Option ((List (List Int)))) (l22:List (List Int)):Option ((List (List Int))) :=
 rc1 (IntKind.i64.wrap (z6+1)) l22
def q3v (n:Nat) (z6:Int) (rc1:Int→(List (List Int))→Option ((List (List Int)))):Nat→Int→(List (List Int))→Option ((List (List Int)))
 | 0,_,_=>none
 | m2+1,z19,l20 =>
  q03 (cond (decide (z19<z6))
   (some (decide ((l20.length:Int)≤256)))
   (some false)) fun b25 =>
  cond b25
   (q03 (q0l l20 z6) fun x28 =>
   q03 (q0l l20 z19) fun x30 =>
   q03 (qj3 n x28 x30) fun r32 =>
   q03 (cond (decide ((r32.length:Int) > 0))
    (q03 (qqc n l20 r32) fun r35 =>
    some (!r35))
    (some false)) fun b37 =>
   cond b37
    (q0w ((l20.length+1)*24≤140737488355328∧l20.length+1≤140737488355328) (
    q7a z19 (q3v n z6 rc1 m2) (l20++[r32])))
    (q7a z19 (q3v n z6 rc1 m2) l20))
   (qb2 z6 rc1 l20)
def qb1  (l9:List (List Int)):Option ((List (List Int))) :=
 some l9
def q2y (n:Nat):Nat→Int→(List (List Int))→Option ((List (List Int)))
 | 0,_,_=>none
 | m1+1,z6,l7 =>
  q03 (cond (decide (z6<(l7.length:Int)))
   (some (decide ((l7.length:Int)≤256)))
   (some false)) fun b12 =>
  cond b12
   (q3v n z6 (q2y n m1) n 0 l7)
   (qb1 l7)
def qfv (n:Nat) (p1:List (List Int)):Option ((List (List Int))) :=
 q0w (p1.length*24≤140737488355328∧p1.length≤140737488355328) (
 q2y n n 0 p1)
theorem qo4 (n:Nat) (p1:List (List Int)) (r:(List (List Int))) (hF:qfv n p1=some r):EvU Tryz.prog 97 [.isl false (List.map (cL (cI .u64)) p1)] ⟨[],0⟩ (fun u _=>u = .isl false (List.map (cL (cI .u64)) r)∧Bel 0 u):=by
 unfold qfv at hF
 refine bg1 54 fn97 ?_
 obtain ⟨h2,hF⟩:=q06 hF
 refine go ?_
 refine RS.q (u:=.sl 0 0 0 0) (σ':=⟨[(0,.row [] 103)],1⟩) rfl (q7q un148.h if103.h rfl rfl rfl rfl rfl rfl rfl) ?_
 refine go ?_
 refine RS.q (u:=.vl 1 0 0 p1.length) (σ':=⟨[(1,.vec (List.map (cL (cI .u64)) p1).flatten 103 1 0),(0,.row [] 103)],2⟩) rfl (qd1 rfl rfl rfl rfl (qt0 (cL (cI .u64)) p1 un148.h un148.h if103.h rfl rfl rfl (qko (cL (cI .u64)) (qfd (cI .u64))) h2)) ?_
 refine go ?_
 refine gS (l':=[(3,_),(4,_)]) ?_
 refine z6o (fun m tm σ=>∃ z6:Int,∃ l7:List (List Int),∃ t8:Nat,q2y n m z6 l7=some r∧tm=fr 54 [(3,.vl 1 t8 0 l7.length),(4,.i6 z6)]∧σ=⟨[(1,.vec (List.map (cL (cI .u64)) l7).flatten 103 1 t8),(0,.row [] 103)],2⟩) (fun tm σ=>∃ l9:List (List Int),∃ t10:Nat,qb1 l9=some r∧tm=fr 54 [(3,.vl 1 t10 0 l9.length)]∧σ=⟨[(1,.vec (List.map (cL (cI .u64)) l9).flatten 103 1 t10),(0,.row [] 103)],2⟩) n ⟨0,p1,0,hF,rfl,rfl⟩ ?_ ?_
 rintro _ _ ⟨l9,t10,hF,rfl,rfl⟩
 unfold qb1 at hF
 refine go ?_
 obtain rfl:=sI hF
 exact rT (us:=[.vl 1 t10 0 l9.length]) (u:=.iM (cL (cI .u64)) l9) (q1y rfl (q1t)) (fR 1 1)
 rintro (_|m1) _ _ ⟨z6,l7,t8,hF,rfl,rfl⟩
 cases hF
 unfold q2y at hF
 obtain ⟨b12,h13,hF⟩:=q00 hF
 refine gn ?_
 refine z6p (fun tm σ=>tm=fr 54 [(3,.vl 1 t8 0 l7.length),(4,.i6 z6),(18,.bool b12)]∧σ=⟨[(1,.vec (List.map (cL (cI .u64)) l7).flatten 103 1 t8),(0,.row [] 103)],2⟩) ?_ ?_
 rintro _ _ ⟨rfl,rfl⟩
 refine go ?_
 refine cF hF (fun h14 hF=>?_) (fun h14 hF=>?_)
 refine go ?_
 refine WPU.block ?_
 refine go ?_
 refine gS (l':=[(3,_),(4,_),(5,_)]) ?_
 refine z6o (fun m tm σ=>∃ z19:Int,∃ l20:List (List Int),∃ t21:Nat,q3v n z6 (q2y n m1) m z19 l20=some r∧tm=fr 54 [(3,.vl 1 t21 0 l20.length),(4,.i6 z6),(5,.i6 z19)]∧σ=⟨[(1,.vec (List.map (cL (cI .u64)) l20).flatten 103 1 t21),(0,.row [] 103)],2⟩) (fun tm σ=>∃ l22:List (List Int),∃ t23:Nat,qb2 z6 (q2y n m1) l22=some r∧tm=fr 54 [(3,.vl 1 t23 0 l22.length),(4,.i6 z6)]∧σ=⟨[(1,.vec (List.map (cL (cI .u64)) l22).flatten 103 1 t23),(0,.row [] 103)],2⟩) n ⟨0,l7,t8,hF,rfl,rfl⟩ ?_ ?_
 rintro _ _ ⟨l22,t23,hF,rfl,rfl⟩
 unfold qb2 at hF
 refine go ?_
 exact lC ⟨_,l22,t23,hF,rfl,rfl⟩
 rintro (_|m2) _ _ ⟨z19,l20,t21,hF,rfl,rfl⟩
 cases hF
 unfold q3v at hF
 obtain ⟨b25,h26,hF⟩:=q00 hF
 refine gn ?_
 refine z6p (fun tm σ=>tm=fr 54 [(3,.vl 1 t21 0 l20.length),(4,.i6 z6),(5,.i6 z19),(28,.bool b25)]∧σ=⟨[(1,.vec (List.map (cL (cI .u64)) l20).flatten 103 1 t21),(0,.row [] 103)],2⟩) ?_ ?_
 rintro _ _ ⟨rfl,rfl⟩
 refine go ?_
 refine cF hF (fun h27 hF=>?_) (fun h27 hF=>?_)
 refine go ?_
 refine WPU.block ?_
 obtain ⟨x28,h29,hF⟩:=q00 hF
 obtain ⟨x30,h31,hF⟩:=q00 hF
 obtain ⟨r32,h33,hF⟩:=q00 hF
 refine go ?_
 refine z6q Tryz.tb_ok [] (by kernel_rfl) ?_
 refine gd ?_
 refine RD.q rfl (q2v rfl rfl (q94 (cL (cI .u64)) un148.h (q0i if103.h) (by decide) (qfd (cI .u64)) (vo rfl) h29)) ?_
 refine RD.q rfl (q5v (cL (cI .u64)) (fun x=>.iM (cI .u64) x) un103.h rfl (fun _=>rfl) rfl rfl h29) ?_
 refine gd ?_
 refine RD.q rfl (q2v rfl rfl (q94 (cL (cI .u64)) un148.h (q0i if103.h) (by decide) (qfd (cI .u64)) (vo rfl) h31)) ?_
 refine RD.q rfl (q5v (cL (cI .u64)) (fun x=>.iM (cI .u64) x) un103.h rfl (fun _=>rfl) rfl rfl h31) (z6w rfl (pC (qna n x28 x30 r32 h33)) fn118 ?_)
 refine gd ?_
 refine RD.done ⟨by kernel_rfl,trivial,?_⟩
 obtain ⟨b37,h38,hF⟩:=q00 hF
 refine gn ?_
 refine z6p (fun tm σ=>tm=fr 54 [(3,.vl 1 t21 0 l20.length),(4,.i6 z6),(5,.i6 z19),(6,.iM (cI .u64) r32),(48,.bool b37)]∧σ=⟨[(1,.vec (List.map (cL (cI .u64)) l20).flatten 103 1 t21),(0,.row [] 103)],2⟩) ?_ ?_
 rintro _ _ ⟨rfl,rfl⟩
 refine gn ?_
 refine z6p (fun tm σ=>∃ l40:List (List Int),∃ t41:Nat,q7a z19 (q3v n z6 (q2y n m1) m2) l40=some r∧tm=fr 54 [(3,.vl 1 t41 0 l40.length),(4,.i6 z6),(5,.i6 z19)]∧σ=⟨[(1,.vec (List.map (cL (cI .u64)) l40).flatten 103 1 t41),(0,.row [] 103)],2⟩) ?_ ?_
 rintro _ _ ⟨l40,t41,hF,rfl,rfl⟩
 unfold q7a at hF
 refine go ?_
 exact lC ⟨_,l40,t41,hF,rfl,rfl⟩
 refine cF hF (fun h39 hF=>?_) (fun h39 hF=>?_)
 obtain ⟨h42,hF⟩:=q06 hF
 refine go ?_
 refine RS.g ?_
 refine RS.g ?_
 refine go ?_
 exact xC ⟨(l20++[r32]),(t21+1),hF,rfl,rfl⟩
 refine go ?_
 exact xC ⟨l20,t21,hF,rfl,rfl⟩
 rcases gB h38 with ⟨h34,h38⟩ | ⟨h34,h38⟩
 obtain ⟨r35,h36,h38⟩:=q00 h38
 obtain rfl:=sI h38
 refine go ?_
 refine RS.cl rfl (vw (qx1 n l20 r32 r35 h36) (z6r 1 1)) fn128 ?_
 refine go ?_
 exact xC ⟨rfl,rfl⟩
 exact gy h38
 refine go ?_
 exact xC ⟨l20,t21,hF,rfl,rfl⟩
 rcases gB h26 with ⟨h24,h26⟩ | ⟨h24,h26⟩
 exact gy h26
 exact gy h26
 refine go ?_
 exact xC ⟨l7,t8,hF,rfl,rfl⟩
 rcases gB h13 with ⟨h11,h13⟩ | ⟨h11,h13⟩
 exact gy h13
 exact gy h13
def qc0 (n:Nat) (l11:List Int):Option ((List Int)) :=
 q03 (q6p n l11) fun r13 =>
 some r13
def q89 (p1:List Int) (p2:List Int) (n:Nat):Nat→Int→(List Int)→Option ((List Int))
 | 0,_,_=>none
 | m1+1,z8,l9 =>
  cond (decide (z8<(p1.length:Int)))
   (q03 (q0l p1 z8) fun x16 =>
   q03 (qgg n p2 z8) fun r18 =>
   q0w ((l9.length+1)*8≤140737488355328∧l9.length+1≤140737488355328) (
   (q89 p1 p2 n m1) (IntKind.i64.wrap (z8+1)) (l9++[(qp8 .u64 x16 r18)])))
   (qc0 n l9)
def qhm (n:Nat) (p1:List Int) (p2:List Int):Option ((List Int)) :=
 q89 p1 p2 n n 0 ([]:List Int)
theorem qq4 (n:Nat) (p1:List Int) (p2:List Int) (r:(List Int)) (hF:qhm n p1 p2=some r):EvU Tryz.prog 153 [.isl false (List.map (cI .u64) p1),.isl false (List.map (cI .u64) p2)] ⟨[],0⟩ (fun u _=>u = .isl false (List.map (cI .u64) r)∧Bel 0 u):=by
 unfold qhm at hF
 refine bg2 26 fn153 ?_
 refine gr ?_
 refine gr ?_
 refine gr ?_
 refine WPU.ghost (tm':=fr 26 [(0,.iM (cI .u64) p1),(1,.iM (cI .u64) p2),(5,.vl 0 0 0 (([]:List Int).length)),(6,.i6 0)]) (σ':=⟨[(0,.vec (List.map (cI .u64) ([]:List Int)).flatten 191 1 0)],1⟩) (Gh.trans (z6u 5 191 1 (by decide) NZ rfl rfl) (z6s ⟨rfl,rfl,rfl,rfl,trivial⟩ rfl)) NZ ?_
 refine gS (l':=[(0,_),(1,_),(5,_),(6,_)]) ?_
 refine z6o (fun m tm σ=>∃ z8:Int,∃ l9:List Int,∃ t10:Nat,q89 p1 p2 n m z8 l9=some r∧tm=fr 26 [(0,.iM (cI .u64) p1),(1,.iM (cI .u64) p2),(5,.vl 0 t10 0 l9.length),(6,.i6 z8)]∧σ=⟨[(0,.vec (List.map (cI .u64) l9).flatten 191 1 t10)],1⟩) (fun tm σ=>∃ l11:List Int,∃ t12:Nat,qc0 n l11=some r∧tm=fr 26 [(5,.vl 0 t12 0 l11.length)]∧σ=⟨[(0,.vec (List.map (cI .u64) l11).flatten 191 1 t12)],1⟩) n ⟨0,([]:List Int),0,hF,rfl,rfl⟩ ?_ ?_
 rintro _ _ ⟨l11,t12,hF,rfl,rfl⟩
 unfold qc0 at hF
 refine gn ?_
 refine WPU.ghost (tm':=fr 26 [(5,.iM (cI .u64) l11)]) (σ':=⟨[],1⟩) (Gh.trans (Gh.sub (l':=[(5,.vl 0 t12 0 l11.length)]) ⟨rfl,trivial⟩) (z7a 0 1)) NZ ?_
 obtain ⟨r13,h14,hF⟩:=q00 hF
 refine go ?_
 refine RS.cl rfl (pC (q8a n l11 r13 h14) _) fn119 ?_
 exact gx hF
 rintro (_|m1) _ _ ⟨z8,l9,t10,hF,rfl,rfl⟩
 cases hF
 unfold q89 at hF
 refine go ?_
 refine cF hF (fun h15 hF=>?_) (fun h15 hF=>?_)
 refine go ?_
 refine WPU.block ?_
 obtain ⟨x16,h17,hF⟩:=q00 hF
 obtain ⟨r18,h19,hF⟩:=q00 hF
 obtain ⟨h20,hF⟩:=q06 hF
 refine go ?_
 refine z6q Tryz.tb_ok [(0,9)] (by kernel_rfl) ?_
 refine gd ?_
 refine RD.ix h17 ?_
 refine gd ?_
 refine z6w rfl (pC (ql3 n p2 z8 r18 h19)) fn146 (RD.q rfl (qbg rfl rfl (qz5 _ _ _) rfl) ?_)
 refine RD.g ?_
 refine RD.g ?_
 refine gd ?_
 refine RD.done ⟨by kernel_rfl,⟨q3h rfl,trivial⟩,?_⟩
 refine go ?_
 exact lC ⟨_,(l9++[(qp8 .u64 x16 r18)]),(t10+1),hF,rfl,rfl⟩
 refine go ?_
 exact xC ⟨l9,t10,hF,rfl,rfl⟩
def q98 (n:Nat) (p1:List Int) (p2:List Int):Option (Bool) :=
 q03 (qhm n p1 p2) fun r3 =>
 some ((r3.length:Int) == 0)
theorem q8c (n:Nat) (p1:List Int) (p2:List Int) (r:Bool) (hF:q98 n p1 p2=some r):EvU Tryz.prog 133 [.isl false (List.map (cI .u64) p1),.isl false (List.map (cI .u64) p2)] ⟨[],0⟩ (fun u _=>u = .bool r∧Bel 0 u):=by
 unfold q98 at hF
 refine bg2 10 fn133 ?_
 obtain ⟨r3,h4,hF⟩:=q00 hF
 refine go ?_
 refine RS.cl rfl (pC (qq4 n p1 p2 r3 h4) _) fn153 ?_
 exact gx hF
def qhl (n:Nat) (p1:List Int) (p2:List Int):Option (Bool) :=
 q03 (q03 (q98 n p1 p2) fun r3 =>
 cond r3
  (q03 (q98 n p2 p1) fun r6 =>
  some r6)
  (some false)) fun b8 =>
 some b8
theorem qq3 (n:Nat) (p1:List Int) (p2:List Int) (r:Bool) (hF:qhl n p1 p2=some r):EvU Tryz.prog 129 [.isl false (List.map (cI .u64) p1),.isl false (List.map (cI .u64) p2)] ⟨[],0⟩ (fun u _=>u = .bool r∧Bel 0 u):=by
 unfold qhl at hF
 refine bg2 13 fn129 ?_
 obtain ⟨b8,h9,hF⟩:=q00 hF
 refine gr ?_
 refine z6p (fun tm σ=>tm=fr 13 [(4,.bool b8)]∧σ=⟨[],0⟩) ?_ ?_
 rintro _ _ ⟨rfl,rfl⟩
 exact gx hF
 obtain ⟨r3,h4,h9⟩:=q00 h9
 rcases gB h9 with ⟨h5,h9⟩ | ⟨h5,h9⟩
 obtain ⟨r6,h7,h9⟩:=q00 h9
 obtain rfl:=sI h9
 refine go ?_
 refine RS.cl rfl (pC (q8c n p1 p2 r3 h4) _) fn133 ?_
 refine go ?_
 refine RS.cl rfl (pC (q8c n p2 p1 r6 h7) _) fn133 ?_
 refine go ?_
 exact xC ⟨rfl,rfl⟩
 obtain rfl:=sI h9
 refine go ?_
 refine RS.cl rfl (pC (q8c n p1 p2 r3 h4) _) fn133 ?_
 refine go ?_
 exact xC ⟨rfl,rfl⟩
def qj5 (n:Nat) (p1:List Int) (p2:Int):Option (Bool) :=
 q03 (cond (decide (p2<0))
  (some true)
  (some (decide ((IntKind.i64.wrap (p2.tdiv 64)) ≥ (p1.length:Int))))) fun b5 =>
 cond b5
  (some false)
  (q03 (q0l p1 (IntKind.i64.wrap (p2.tdiv 64))) fun x9 =>
  q0w (¬ (IntKind.u64.wrap (p2.tmod 64))<0) (
  some ((andI .u64 (x9.fdiv (2 ^ (min (IntKind.u64.wrap (p2.tmod 64)).toNat IntKind.u64.bits))) 1) == 1)))
theorem qnb (n:Nat) (p1:List Int) (p2:Int) (r:Bool) (hF:qj5 n p1 p2=some r):EvU Tryz.prog 130 [.isl false (List.map (cI .u64) p1),.int .i64 p2] ⟨[],0⟩ (fun u _=>u = .bool r∧Bel 0 u):=by
 unfold qj5 at hF
 refine bg2 25 fn130 ?_
 obtain ⟨b5,h6,hF⟩:=q00 hF
 refine gr ?_
 refine z6p (fun tm σ=>tm=fr 25 [(0,.iM (cI .u64) p1),(1,.i6 p2),(13,.bool b5)]∧σ=⟨[],0⟩) ?_ ?_
 rintro _ _ ⟨rfl,rfl⟩
 refine go ?_
 refine cF hF (fun h7 hF=>?_) (fun h7 hF=>?_)
 exact gx hF
 obtain ⟨x9,h10,hF⟩:=q00 hF
 obtain ⟨h12,hF⟩:=q06 hF
 refine go ?_
 refine RS.q rfl (qbg rfl rfl (quy _ (by decide)) rfl) ?_
 refine RS.ix h10 ?_
 refine go ?_
 refine RS.q rfl (qbg rfl rfl (z4j _ (by decide)) rfl) ?_
 refine RS.q (u:=.int .u64 (IntKind.u64.wrap (p2.tmod 64))) rfl (qtq rfl rfl (by simp only [qr5,un3.h,un190.h]<;>rfl) rfl) ?_
 refine RS.q rfl (qbg rfl rfl (ix_shr _ h12) rfl) (RS.q rfl (qbg rfl rfl (z4i _ _ _) rfl) ?_)
 exact gx hF
 rcases gB h6 with ⟨h3,h6⟩ | ⟨h3,h6⟩
 exact gy h6
 obtain rfl:=sI h6
 refine go ?_
 refine RS.w rfl (qbg rfl rfl (quy _ (by decide)) rfl) ?_
 refine go ?_
 exact xC ⟨rfl,rfl⟩
def q5k (z8:Int) (rc1:(List (List UInt8))→Int→Option ((List (List UInt8)))) (l16:List (List UInt8)):Option ((List (List UInt8))) :=
 rc1 l16 (IntKind.i64.wrap (z8+1))
def q7x  (l9:List (List UInt8)):Option ((List (List UInt8))) :=
 some l9
def q2t (p1:List q04) (p2:List (List UInt8)) (n:Nat):Nat→(List (List UInt8))→Int→Option ((List (List UInt8)))
 | 0,_,_=>none
 | m1+1,l7,z8 =>
  cond (decide (z8<(p2.length:Int)))
   (q03 (q0l p2 z8) fun x11 =>
   q03 (q6q n p1 x11) fun r13 =>
   cond (decide (r13 ≥ 0))
    (q03 (q0l p2 z8) fun x17 =>
    q03 (q99 n l7 x17) fun r19 =>
    q5k z8 (q2t p1 p2 n m1) r19)
    (q5k z8 (q2t p1 p2 n m1) l7))
   (q7x l7)
def qca (n:Nat) (p1:List q04) (p2:List (List UInt8)):Option ((List (List UInt8))) :=
 q2t p1 p2 n n [] 0
theorem qlg (n:Nat) (p1:List q04) (p2:List (List UInt8)) (r:(List (List UInt8))) (hF:qca n p1 p2=some r):EvU Tryz.prog 150 [.isl false (List.map q01 p1),.isl false (List.map cS p2)] ⟨[],0⟩ (fun u _=>u = .isl false (List.map cS r)∧Bel 0 u):=by
 unfold qca at hF
 refine bg2 27 fn150 ?_
 refine gr ?_
 refine gr ?_
 refine gr ?_
 refine WPU.ghost (tm':=fr 27 [(0,.iM q01 p1),(1,.iM cS p2),(5,.iM cS []),(6,.i6 0)]) (Gh.trans (Gh.sub (l':=[(0,.iM q01 p1),(1,.iM cS p2),(5,.nils),(6,.i6 0)]) ⟨rfl,rfl,rfl,rfl,trivial⟩) (Gh.wkS (l':=[(0,.iM q01 p1),(1,.iM cS p2),(5,.iM cS []),(6,.i6 0)]) (.cons (.refl _) (.cons (.refl _) (.cons (.nil false) (.cons (.refl _) .nil)))))) NZ ?_
 refine gS (l':=[(0,_),(1,_),(5,_),(6,_)]) ?_
 refine z6o (fun m tm σ=>∃ l7:List (List UInt8),∃ z8:Int,q2t p1 p2 n m l7 z8=some r∧tm=fr 27 [(0,.iM q01 p1),(1,.iM cS p2),(5,.iM cS l7),(6,.i6 z8)]∧σ=⟨[],0⟩) (fun tm σ=>∃ l9:List (List UInt8),q7x l9=some r∧tm=fr 27 [(5,.iM cS l9)]∧σ=⟨[],0⟩) n ⟨[],0,hF,rfl,rfl⟩ ?_ ?_
 rintro _ _ ⟨l9,hF,rfl,rfl⟩
 unfold q7x at hF
 exact gx hF
 rintro (_|m1) _ _ ⟨l7,z8,hF,rfl,rfl⟩
 cases hF
 unfold q2t at hF
 refine go ?_
 refine cF hF (fun h10 hF=>?_) (fun h10 hF=>?_)
 refine go ?_
 refine WPU.block ?_
 obtain ⟨x11,h12,hF⟩:=q00 hF
 obtain ⟨r13,h14,hF⟩:=q00 hF
 refine go ?_
 refine RS.ix h12 ?_
 refine go ?_
 refine RS.cl rfl (pC (q6r n p1 x11 r13 h14) _) fn148 ?_
 refine gn ?_
 refine z6p (fun tm σ=>∃ l16:List (List UInt8),q5k z8 (q2t p1 p2 n m1) l16=some r∧tm=fr 27 [(0,.iM q01 p1),(1,.iM cS p2),(5,.iM cS l16),(6,.i6 z8)]∧σ=⟨[],0⟩) ?_ ?_
 rintro _ _ ⟨l16,hF,rfl,rfl⟩
 unfold q5k at hF
 refine go ?_
 exact lC ⟨l16,(IntKind.i64.wrap (z8+1)),hF,rfl,rfl⟩
 refine cF hF (fun h15 hF=>?_) (fun h15 hF=>?_)
 obtain ⟨x17,h18,hF⟩:=q00 hF
 obtain ⟨r19,h20,hF⟩:=q00 hF
 refine go ?_
 refine RS.ix h18 ?_
 refine go ?_
 refine RS.cl rfl (pC (q7w n l7 x17 r19 h20) _) fn116 ?_
 refine go ?_
 exact xC ⟨r19,hF,rfl,rfl⟩
 refine go ?_
 exact xC ⟨l7,hF,rfl,rfl⟩
 refine go ?_
 exact xC ⟨l7,hF,rfl,rfl⟩
def qc2  (l21:List (List UInt8)):Option ((List (List UInt8))) :=
 some l21
def q8e (n:Nat) (l13:List (List UInt8)):Nat→(List (List UInt8))→Int→Option ((List (List UInt8)))
 | 0,_,_=>none
 | m2+1,l19,z20 =>
  cond (decide (z20<(l13.length:Int)))
   (q03 (q0l l13 z20) fun x23 =>
   q03 (q99 n l19 x23) fun r25 =>
   (q8e n l13 m2) r25 (IntKind.i64.wrap (z20+1)))
   (qc2 l19)
def q8d (z40:Int) (rc3:Int→(List (List UInt8))→Option ((List (List UInt8)))) (l51:List (List UInt8)):Option ((List (List UInt8))) :=
 rc3 (IntKind.i64.wrap (z40+1)) l51
def qc3 (z10:Int) (rc1:Int→(List (List UInt8))→Option ((List (List UInt8)))) (l43:List (List UInt8)):Option ((List (List UInt8))) :=
 rc1 (IntKind.i64.wrap (z10+1)) l43
def q4h (n:Nat) (z10:Int) (rc1:Int→(List (List UInt8))→Option ((List (List UInt8)))) (x32:q04):Nat→Int→(List (List UInt8))→Option ((List (List UInt8)))
 | 0,_,_=>none
 | m3+1,z40,l41 =>
  cond (decide (z40<(x32.Supers.length:Int)))
   (q03 (q0l x32.Supers z40) fun x46 =>
   q03 (q2w n l41 x46) fun r48 =>
   cond (!r48)
    (q03 (q0l x32.Supers z40) fun x53 =>
    q0w ((l41.length+1)*16≤140737488355328∧l41.length+1≤140737488355328) (
    q8d z40 (q4h n z10 rc1 x32 m3) (l41++[x53])))
    (q8d z40 (q4h n z10 rc1 x32 m3) l41))
   (qc3 z10 rc1 l41)
def qc1 (n:Nat) (l13:List (List UInt8)):Option ((List (List UInt8))) :=
 q8e n l13 n [] 0
def q3j (p1:List q04) (n:Nat):Nat→Int→(List (List UInt8))→Option ((List (List UInt8)))
 | 0,_,_=>none
 | m1+1,z10,l11 =>
  cond (decide (z10<(l11.length:Int)))
   (q03 (q0l l11 z10) fun x28 =>
   q03 (q6q n p1 x28) fun r30 =>
   q03 (q0l p1 r30) fun x32 =>
   q4h n z10 (q3j p1 n m1) x32 n 0 l11)
   (qc1 n l11)
def qho (n:Nat) (p1:List q04) (p2:List UInt8):Option ((List (List UInt8))) :=
 q03 (q6q n p1 p2) fun r3 =>
 cond (decide (r3<0))
  (some [])
  (q3j p1 n n 0 ([p2]))
theorem qq6 (n:Nat) (p1:List q04) (p2:List UInt8) (r:(List (List UInt8))) (hF:qho n p1 p2=some r):EvU Tryz.prog 151 [.isl false (List.map q01 p1),.str p2] ⟨[],0⟩ (fun u _=>u = .isl false (List.map cS r)∧Bel 0 u):=by
 unfold qho at hF
 refine bg2 66 fn151 ?_
 obtain ⟨r3,h4,hF⟩:=q00 hF
 refine go ?_
 refine RS.cl rfl (pC (q6r n p1 p2 r3 h4) _) fn148 ?_
 refine go ?_
 refine cF hF (fun h5 hF=>?_) (fun h5 hF=>?_)
 refine go ?_
 obtain rfl:=sI hF
 exact rT (us:=[.nils]) (u:=.isl false []) (q1y rfl (q1t)) wR
 refine go ?_
 refine z7c (u:=.vl 0 0 0 ([p2].length)) (σ':=⟨[(0,.vec (List.map cS ([p2])).flatten 9 1 0)],1⟩) rfl (qey.bslv (cs:=(List.map cS [p2]).flatten) Tryz.tb_ok rfl un80.h if9.h rfl rfl rfl rfl rfl rfl rfl rfl) rfl rfl ?_
 refine go ?_
 refine gS (l':=[(0,_),(5,_),(6,_)]) ?_
 refine z6o (fun m tm σ=>∃ z10:Int,∃ l11:List (List UInt8),∃ t12:Nat,q3j p1 n m z10 l11=some r∧tm=fr 66 [(0,.iM q01 p1),(5,.vl 0 t12 0 l11.length),(6,.i6 z10)]∧σ=⟨[(0,.vec (List.map cS l11).flatten 9 1 t12)],1⟩) (fun tm σ=>∃ l13:List (List UInt8),∃ t14:Nat,qc1 n l13=some r∧tm=fr 66 [(5,.vl 0 t14 0 l13.length)]∧σ=⟨[(0,.vec (List.map cS l13).flatten 9 1 t14)],1⟩) n ⟨0,[p2],0,hF,rfl,rfl⟩ ?_ ?_
 rintro _ _ ⟨l13,t14,hF,rfl,rfl⟩
 unfold qc1 at hF
 refine gr ?_
 refine gr ?_
 refine WPU.ghost (tm':=fr 66 [(5,.vl 0 t14 0 l13.length),(9,.iM cS []),(10,.i6 0)]) (Gh.trans (Gh.sub (l':=[(5,.vl 0 t14 0 l13.length),(9,.nils),(10,.i6 0)]) ⟨rfl,rfl,rfl,trivial⟩) (Gh.wkS (l':=[(5,.vl 0 t14 0 l13.length),(9,.iM cS []),(10,.i6 0)]) (.cons (.refl _) (.cons (.nil false) (.cons (.refl _) .nil))))) NZ ?_
 refine gS (l':=[(5,_),(9,_),(10,_)]) ?_
 refine z6o (fun m tm σ=>∃ l19:List (List UInt8),∃ z20:Int,q8e n l13 m l19 z20=some r∧tm=fr 66 [(5,.vl 0 t14 0 l13.length),(9,.iM cS l19),(10,.i6 z20)]∧σ=⟨[(0,.vec (List.map cS l13).flatten 9 1 t14)],1⟩) (fun tm σ=>∃ l21:List (List UInt8),qc2 l21=some r∧tm=fr 66 [(9,.iM cS l21)]∧σ=⟨[(0,.vec (List.map cS l13).flatten 9 1 t14)],1⟩) n ⟨[],0,hF,rfl,rfl⟩ ?_ ?_
 rintro _ _ ⟨l21,hF,rfl,rfl⟩
 unfold qc2 at hF
 exact gx hF
 rintro (_|m2) _ _ ⟨l19,z20,hF,rfl,rfl⟩
 cases hF
 unfold q8e at hF
 refine go ?_
 refine cF hF (fun h22 hF=>?_) (fun h22 hF=>?_)
 refine go ?_
 refine WPU.block ?_
 obtain ⟨x23,h24,hF⟩:=q00 hF
 obtain ⟨r25,h26,hF⟩:=q00 hF
 refine go ?_
 refine RS.q rfl (q2v rfl rfl (q94 cS un80.h (q0i if9.h) (by decide) qgx (vo rfl) h24)) ?_
 refine RS.q rfl (q5v cS (fun x=>.str x) un9.h rfl (fun _=>rfl) rfl rfl h24) (RS.cl rfl (pC (q7w n l19 x23 r25 h26) _) fn116 ?_)
 refine go ?_
 exact lC ⟨r25,(IntKind.i64.wrap (z20+1)),hF,rfl,rfl⟩
 refine go ?_
 exact xC ⟨l19,hF,rfl,rfl⟩
 rintro (_|m1) _ _ ⟨z10,l11,t12,hF,rfl,rfl⟩
 cases hF
 unfold q3j at hF
 refine go ?_
 refine cF hF (fun h27 hF=>?_) (fun h27 hF=>?_)
 refine go ?_
 refine WPU.block ?_
 obtain ⟨x28,h29,hF⟩:=q00 hF
 obtain ⟨r30,h31,hF⟩:=q00 hF
 obtain ⟨x32,h33,hF⟩:=q00 hF
 refine go ?_
 refine RS.q rfl (q2v rfl rfl (q94 cS un80.h (q0i if9.h) (by decide) qgx (vo rfl) h29)) ?_
 refine RS.q rfl (q5v cS (fun x=>.str x) un9.h rfl (fun _=>rfl) rfl rfl h29) (RS.cl rfl (pC (q6r n p1 x28 r30 h31) _) fn148 ?_)
 refine RS.ix h33 ?_
 refine go ?_
 refine gS (l':=[(0,_),(5,_),(6,_),(7,_),(8,_)]) ?_
 refine z6o (fun m tm σ=>∃ z40:Int,∃ l41:List (List UInt8),∃ t42:Nat,q4h n z10 (q3j p1 n m1) x32 m z40 l41=some r∧tm=fr 66 [(0,.iM q01 p1),(5,.vl 0 t42 0 l41.length),(6,.i6 z10),(7,.iM cS x32.Supers),(8,.i6 z40)]∧σ=⟨[(0,.vec (List.map cS l41).flatten 9 1 t42)],1⟩) (fun tm σ=>∃ l43:List (List UInt8),∃ t44:Nat,qc3 z10 (q3j p1 n m1) l43=some r∧tm=fr 66 [(0,.iM q01 p1),(5,.vl 0 t44 0 l43.length),(6,.i6 z10)]∧σ=⟨[(0,.vec (List.map cS l43).flatten 9 1 t44)],1⟩) n ⟨0,l11,t12,hF,rfl,rfl⟩ ?_ ?_
 rintro _ _ ⟨l43,t44,hF,rfl,rfl⟩
 unfold qc3 at hF
 refine go ?_
 exact lC ⟨_,l43,t44,hF,rfl,rfl⟩
 rintro (_|m3) _ _ ⟨z40,l41,t42,hF,rfl,rfl⟩
 cases hF
 unfold q4h at hF
 refine go ?_
 refine cF hF (fun h45 hF=>?_) (fun h45 hF=>?_)
 refine go ?_
 refine WPU.block ?_
 obtain ⟨x46,h47,hF⟩:=q00 hF
 obtain ⟨r48,h49,hF⟩:=q00 hF
 refine go ?_
 refine RS.ix h47 ?_
 refine go ?_
 refine RS.cl rfl (vw (q21 n l41 x46 r48 h49) (z6r 0 1)) fn126 ?_
 refine gn ?_
 refine z6p (fun tm σ=>∃ l51:List (List UInt8),∃ t52:Nat,q8d z40 (q4h n z10 (q3j p1 n m1) x32 m3) l51=some r∧tm=fr 66 [(0,.iM q01 p1),(5,.vl 0 t52 0 l51.length),(6,.i6 z10),(7,.iM cS x32.Supers),(8,.i6 z40)]∧σ=⟨[(0,.vec (List.map cS l51).flatten 9 1 t52)],1⟩) ?_ ?_
 rintro _ _ ⟨l51,t52,hF,rfl,rfl⟩
 unfold q8d at hF
 refine go ?_
 exact lC ⟨_,l51,t52,hF,rfl,rfl⟩
 refine cF hF (fun h50 hF=>?_) (fun h50 hF=>?_)
 obtain ⟨x53,h54,hF⟩:=q00 hF
 obtain ⟨h55,hF⟩:=q06 hF
 refine go ?_
 refine RS.ix h54 ?_
 refine go ?_
 refine RS.g ?_
 refine RS.g ?_
 refine go ?_
 exact xC ⟨(l41++[x53]),(t42+1),hF,rfl,rfl⟩
 refine go ?_
 exact xC ⟨l41,t42,hF,rfl,rfl⟩
 refine go ?_
 exact xC ⟨l41,t42,hF,rfl,rfl⟩
 refine go ?_
 exact xC ⟨l11,t12,hF,rfl,rfl⟩
def q69 (z10:Int) (rc1:Int→(List (List UInt8))→Option ((List (List UInt8)))) (l32:List (List UInt8)):Option ((List (List UInt8))) :=
 rc1 (IntKind.i64.wrap (z10+1)) l32
def q9j (r3:(List (List UInt8))) (z10:Int) (l11:List (List UInt8)) (rc1:Int→(List (List UInt8))→Option ((List (List UInt8)))) (b30:Bool):Option ((List (List UInt8))) :=
 cond b30
  (q03 (q0l r3 z10) fun x34 =>
  q0w ((l11.length+1)*16≤140737488355328∧l11.length+1≤140737488355328) (
  q69 z10 rc1 (l11++[x34])))
  (q69 z10 rc1 l11)
def q6a (n:Nat) (r3:(List (List UInt8))) (z10:Int) (l11:List (List UInt8)) (rc1:Int→(List (List UInt8))→Option ((List (List UInt8)))) (r18:(List (List UInt8))):Nat→Bool→Int→Option ((List (List UInt8)))
 | 0,_,_=>none
 | m2+1,b28,z29 =>
  cond (decide (z29<(r3.length:Int)))
   (q03 (cond b28
    (cond (z29 == z10)
     (some true)
     (q03 (q0l r3 z29) fun x40 =>
     q03 (q2w n r18 x40) fun r42 =>
     some (!r42)))
    (some false)) fun b44 =>
   (q6a n r3 z10 l11 rc1 r18 m2) b44 (IntKind.i64.wrap (z29+1)))
   (q9j r3 z10 l11 rc1 b28)
def q9i  (l13:List (List UInt8)):Option ((List (List UInt8))) :=
 some l13
def q2i (p1:List q04) (n:Nat) (r3:(List (List UInt8))):Nat→Int→(List (List UInt8))→Option ((List (List UInt8)))
 | 0,_,_=>none
 | m1+1,z10,l11 =>
  cond (decide (z10<(r3.length:Int)))
   (q03 (q0l r3 z10) fun x16 =>
   q03 (qho n p1 x16) fun r18 =>
   q6a n r3 z10 l11 (q2i p1 n r3 m1) r18 n true 0)
   (q9i l11)
def qa1 (n:Nat) (p1:List q04) (p2:List (List UInt8)):Option ((List (List UInt8))) :=
 q03 (qca n p1 p2) fun r3 =>
 q2i p1 n r3 n 0 ([]:List (List UInt8))
theorem qfp (n:Nat) (p1:List q04) (p2:List (List UInt8)) (r:(List (List UInt8))) (hF:qa1 n p1 p2=some r):EvU Tryz.prog 131 [.isl false (List.map q01 p1),.isl false (List.map cS p2)] ⟨[],0⟩ (fun u _=>u = .isl false (List.map cS r)∧Bel 0 u):=by
 unfold qa1 at hF
 refine bg2 56 fn131 ?_
 obtain ⟨r3,h4,hF⟩:=q00 hF
 refine go ?_
 refine RS.cl rfl (pC (qlg n p1 p2 r3 h4) _) fn150 ?_
 refine gr ?_
 refine WPU.ghost (tm':=fr 56 [(0,.iM q01 p1),(5,.vl 0 0 0 (([]:List (List UInt8)).length)),(6,.iM cS r3),(7,.i6 0)]) (σ':=⟨[(0,.vec (List.map cS ([]:List (List UInt8))).flatten 9 1 0)],1⟩) (Gh.trans (z6u 5 9 1 (by decide) NZ rfl rfl) (z6s ⟨rfl,rfl,rfl,rfl,trivial⟩ rfl)) NZ ?_
 refine gS (l':=[(0,_),(5,_),(6,_),(7,_)]) ?_
 refine z6o (fun m tm σ=>∃ z10:Int,∃ l11:List (List UInt8),∃ t12:Nat,q2i p1 n r3 m z10 l11=some r∧tm=fr 56 [(0,.iM q01 p1),(5,.vl 0 t12 0 l11.length),(6,.iM cS r3),(7,.i6 z10)]∧σ=⟨[(0,.vec (List.map cS l11).flatten 9 1 t12)],1⟩) (fun tm σ=>∃ l13:List (List UInt8),∃ t14:Nat,q9i l13=some r∧tm=fr 56 [(5,.vl 0 t14 0 l13.length)]∧σ=⟨[(0,.vec (List.map cS l13).flatten 9 1 t14)],1⟩) n ⟨0,([]:List (List UInt8)),0,hF,rfl,rfl⟩ ?_ ?_
 rintro _ _ ⟨l13,t14,hF,rfl,rfl⟩
 unfold q9i at hF
 refine go ?_
 obtain rfl:=sI hF
 exact rT (us:=[.vl 0 t14 0 l13.length]) (u:=.iM cS l13) (q1y rfl (q1t)) (fR 0 1)
 rintro (_|m1) _ _ ⟨z10,l11,t12,hF,rfl,rfl⟩
 cases hF
 unfold q2i at hF
 refine go ?_
 refine cF hF (fun h15 hF=>?_) (fun h15 hF=>?_)
 refine go ?_
 refine WPU.block ?_
 obtain ⟨x16,h17,hF⟩:=q00 hF
 obtain ⟨r18,h19,hF⟩:=q00 hF
 refine go ?_
 refine RS.ix h17 ?_
 refine go ?_
 refine RS.cl rfl (pC (qq6 n p1 x16 r18 h19) _) fn151 ?_
 refine go ?_
 refine gS (l':=[(0,_),(5,_),(6,_),(7,_),(8,_),(9,_),(10,_)]) ?_
 refine z6o (fun m tm σ=>∃ b28:Bool,∃ z29:Int,q6a n r3 z10 l11 (q2i p1 n r3 m1) r18 m b28 z29=some r∧tm=fr 56 [(0,.iM q01 p1),(5,.vl 0 t12 0 l11.length),(6,.iM cS r3),(7,.i6 z10),(8,.iM cS r18),(9,.bool b28),(10,.i6 z29)]∧σ=⟨[(0,.vec (List.map cS l11).flatten 9 1 t12)],1⟩) (fun tm σ=>∃ b30:Bool,q9j r3 z10 l11 (q2i p1 n r3 m1) b30=some r∧tm=fr 56 [(0,.iM q01 p1),(5,.vl 0 t12 0 l11.length),(6,.iM cS r3),(7,.i6 z10),(9,.bool b30)]∧σ=⟨[(0,.vec (List.map cS l11).flatten 9 1 t12)],1⟩) n ⟨true,0,hF,rfl,rfl⟩ ?_ ?_
 rintro _ _ ⟨b30,hF,rfl,rfl⟩
 unfold q9j at hF
 refine gr ?_
 refine z6p (fun tm σ=>∃ l32:List (List UInt8),∃ t33:Nat,q69 z10 (q2i p1 n r3 m1) l32=some r∧tm=fr 56 [(0,.iM q01 p1),(5,.vl 0 t33 0 l32.length),(6,.iM cS r3),(7,.i6 z10)]∧σ=⟨[(0,.vec (List.map cS l32).flatten 9 1 t33)],1⟩) ?_ ?_
 rintro _ _ ⟨l32,t33,hF,rfl,rfl⟩
 unfold q69 at hF
 refine go ?_
 exact lC ⟨_,l32,t33,hF,rfl,rfl⟩
 refine cF hF (fun h31 hF=>?_) (fun h31 hF=>?_)
 obtain ⟨x34,h35,hF⟩:=q00 hF
 obtain ⟨h36,hF⟩:=q06 hF
 refine go ?_
 refine RS.ix h35 ?_
 refine go ?_
 refine RS.g ?_
 refine RS.g ?_
 refine go ?_
 exact xC ⟨(l11++[x34]),(t12+1),hF,rfl,rfl⟩
 refine go ?_
 exact xC ⟨l11,t12,hF,rfl,rfl⟩
 rintro (_|m2) _ _ ⟨b28,z29,hF,rfl,rfl⟩
 cases hF
 unfold q6a at hF
 refine go ?_
 refine cF hF (fun h37 hF=>?_) (fun h37 hF=>?_)
 refine go ?_
 refine WPU.block ?_
 obtain ⟨b44,h45,hF⟩:=q00 hF
 refine gn ?_
 refine z6p (fun tm σ=>tm=fr 56 [(0,.iM q01 p1),(5,.vl 0 t12 0 l11.length),(6,.iM cS r3),(7,.i6 z10),(8,.iM cS r18),(9,.bool b44),(10,.i6 z29)]∧σ=⟨[(0,.vec (List.map cS l11).flatten 9 1 t12)],1⟩) ?_ ?_
 rintro _ _ ⟨rfl,rfl⟩
 refine go ?_
 exact lC ⟨b44,(IntKind.i64.wrap (z29+1)),hF,rfl,rfl⟩
 rcases gB h45 with ⟨h38,h45⟩ | ⟨h38,h45⟩
 rcases gB h45 with ⟨h39,h45⟩ | ⟨h39,h45⟩
 exact gy h45
 obtain ⟨x40,h41,h45⟩:=q00 h45
 obtain ⟨r42,h43,h45⟩:=q00 h45
 obtain rfl:=sI h45
 refine go ?_
 refine RS.ix h41 ?_
 refine go ?_
 refine RS.cl rfl (pC (q21 n r18 x40 r42 h43) _) fn126 ?_
 refine go ?_
 exact xC ⟨rfl,rfl⟩
 obtain rfl:=sI h45
 refine go ?_
 repeat refine RS.no (qlj rfl rfl rfl) rfl rfl ?_
 refine go ?_
 exact xC ⟨rfl,rfl⟩
 refine go ?_
 exact xC ⟨b28,hF,rfl,rfl⟩
 refine go ?_
 exact xC ⟨l11,t12,hF,rfl,rfl⟩
def qa6 (r17:(List (List UInt8))) (z23:Int) (rc2:(List UInt8)→Int→Option ((List UInt8))) (s27:List UInt8):Option ((List UInt8)) :=
 q03 (q0l r17 z23) fun x28 =>
 q0w (s27.length+x28.length≤9223372036854775807) (
 rc2 (s27++x28) (IntKind.i64.wrap (z23+1)))
def qef  (s24:List UInt8):Option ((List UInt8)) :=
 some s24
def q5n (r17:(List (List UInt8))):Nat→(List UInt8)→Int→Option ((List UInt8))
 | 0,_,_=>none
 | m2+1,s22,z23 =>
  cond (decide (z23<(r17.length:Int)))
   (cond (decide (z23 > 0))
    (q0w (s22.length+([38]).length≤9223372036854775807) (
    qa6 r17 z23 (q5n r17 m2) (s22++[38])))
    (qa6 r17 z23 (q5n r17 m2) s22))
   (qef s22)
def qa7 (z12:Int) (rc1:Int→(List (List UInt8))→Option ((List UInt8))) (l43:List (List UInt8)):Option ((List UInt8)) :=
 rc1 (IntKind.i64.wrap (z12+1)) l43
def qee (p1:List q04) (n:Nat) (l15:List (List UInt8)):Option ((List UInt8)) :=
 q03 (qa1 n p1 l15) fun r17 =>
 q5n r17 n [] 0
def q5m (p1:List q04) (p2:List (List UInt8)) (p3:List (List Int)) (p4:List Int) (n:Nat):Nat→Int→(List (List UInt8))→Option ((List UInt8))
 | 0,_,_=>none
 | m1+1,z12,l13 =>
  cond (decide (z12<(p2.length:Int)))
   (q03 (q0l p3 z12) fun x33 =>
   q03 (qhl n x33 p4) fun r35 =>
   cond r35
    (q03 (q0l p2 z12) fun x38 =>
    some x38)
    (q03 (qj5 n p4 z12) fun r40 =>
    cond r40
     (q03 (q0l p2 z12) fun x45 =>
     q0w ((l13.length+1)*16≤140737488355328∧l13.length+1≤140737488355328) (
     qa7 z12 (q5m p1 p2 p3 p4 n m1) (l13++[x45])))
     (qa7 z12 (q5m p1 p2 p3 p4 n m1) l13)))
   (qee p1 n l13)
def qkh (n:Nat) (p1:List q04) (p2:List (List UInt8)) (p3:List (List Int)) (p4:List Int):Option ((List UInt8)) :=
 q5m p1 p2 p3 p4 n n 0 ([]:List (List UInt8))
theorem qs9 (n:Nat) (p1:List q04) (p2:List (List UInt8)) (p3:List (List Int)) (p4:List Int) (r:(List UInt8)) (hF:qkh n p1 p2 p3 p4=some r):EvU Tryz.prog 98 [.isl false (List.map q01 p1),.isl false (List.map cS p2),.isl false (List.map (cL (cI .u64)) p3),.isl false (List.map (cI .u64) p4)] ⟨[],0⟩ (fun u _=>u = .str r∧Bel 0 u):=by
 unfold qkh at hF
 refine bg4 59 fn98 ?_
 refine gr ?_
 refine gr ?_
 refine gr ?_
 refine WPU.ghost (tm':=fr 59 [(0,.iM q01 p1),(1,.iM cS p2),(2,.iM (cL (cI .u64)) p3),(3,.iM (cI .u64) p4),(9,.vl 0 0 0 (([]:List (List UInt8)).length)),(10,.i6 0)]) (σ':=⟨[(0,.vec (List.map cS ([]:List (List UInt8))).flatten 9 1 0)],1⟩) (Gh.trans (z6u 9 9 1 (by decide) NZ rfl rfl) (z6s ⟨rfl,rfl,rfl,rfl,rfl,rfl,trivial⟩ rfl)) NZ ?_
 refine gS (l':=[(0,_),(1,_),(2,_),(3,_),(9,_),(10,_)]) ?_
 refine z6o (fun m tm σ=>∃ z12:Int,∃ l13:List (List UInt8),∃ t14:Nat,q5m p1 p2 p3 p4 n m z12 l13=some r∧tm=fr 59 [(0,.iM q01 p1),(1,.iM cS p2),(2,.iM (cL (cI .u64)) p3),(3,.iM (cI .u64) p4),(9,.vl 0 t14 0 l13.length),(10,.i6 z12)]∧σ=⟨[(0,.vec (List.map cS l13).flatten 9 1 t14)],1⟩) (fun tm σ=>∃ l15:List (List UInt8),∃ t16:Nat,qee p1 n l15=some r∧tm=fr 59 [(0,.iM q01 p1),(9,.vl 0 t16 0 l15.length)]∧σ=⟨[(0,.vec (List.map cS l15).flatten 9 1 t16)],1⟩) n ⟨0,([]:List (List UInt8)),0,hF,rfl,rfl⟩ ?_ ?_
 rintro _ _ ⟨l15,t16,hF,rfl,rfl⟩
 unfold qee at hF
 refine gn ?_
 refine WPU.ghost (tm':=fr 59 [(0,.iM q01 p1),(9,.iM cS l15)]) (σ':=⟨[],1⟩) (Gh.trans (Gh.sub (l':=[(0,.iM q01 p1),(9,.vl 0 t16 0 l15.length)]) ⟨rfl,rfl,trivial⟩) (z7a 0 1)) NZ ?_
 obtain ⟨r17,h18,hF⟩:=q00 hF
 refine go ?_
 refine RS.cl rfl (pC (qfp n p1 l15 r17 h18) _) fn131 ?_
 refine go ?_
 refine gS (l':=[(9,_),(11,_),(12,_)]) ?_
 refine z6o (fun m tm σ=>∃ s22:List UInt8,∃ z23:Int,q5n r17 m s22 z23=some r∧tm=fr 59 [(9,.iM cS r17),(11,.str s22),(12,.i6 z23)]∧σ=⟨[],1⟩) (fun tm σ=>∃ s24:List UInt8,qef s24=some r∧tm=fr 59 [(11,.str s24)]∧σ=⟨[],1⟩) n ⟨[],0,hF,rfl,rfl⟩ ?_ ?_
 rintro _ _ ⟨s24,hF,rfl,rfl⟩
 unfold qef at hF
 exact gx hF
 rintro (_|m2) _ _ ⟨s22,z23,hF,rfl,rfl⟩
 cases hF
 unfold q5n at hF
 refine go ?_
 refine cF hF (fun h25 hF=>?_) (fun h25 hF=>?_)
 refine go ?_
 refine WPU.block ?_
 refine gr ?_
 refine z6p (fun tm σ=>∃ s27:List UInt8,qa6 r17 z23 (q5n r17 m2) s27=some r∧tm=fr 59 [(9,.iM cS r17),(11,.str s27),(12,.i6 z23)]∧σ=⟨[],1⟩) ?_ ?_
 rintro _ _ ⟨s27,hF,rfl,rfl⟩
 unfold qa6 at hF
 obtain ⟨x28,h29,hF⟩:=q00 hF
 obtain ⟨h30,hF⟩:=q06 hF
 refine go ?_
 refine RS.ix h29 ?_
 refine go ?_
 refine RS.q (u:=.str (s27++x28)) rfl (q9o rfl rfl (z4w h30) rfl) ?_
 refine go ?_
 exact lC ⟨(s27++x28),(IntKind.i64.wrap (z23+1)),hF,rfl,rfl⟩
 refine cF hF (fun h26 hF=>?_) (fun h26 hF=>?_)
 obtain ⟨h31,hF⟩:=q06 hF
 refine go ?_
 refine RS.q (u:=.str (s22++[38])) rfl (q9o rfl rfl (z4w h31) rfl) ?_
 refine go ?_
 exact xC ⟨(s22++[38]),hF,rfl,rfl⟩
 refine go ?_
 exact xC ⟨s22,hF,rfl,rfl⟩
 refine go ?_
 exact xC ⟨s22,hF,rfl,rfl⟩
 rintro (_|m1) _ _ ⟨z12,l13,t14,hF,rfl,rfl⟩
 cases hF
 unfold q5m at hF
 refine go ?_
 refine cF hF (fun h32 hF=>?_) (fun h32 hF=>?_)
 refine go ?_
 refine WPU.block ?_
 obtain ⟨x33,h34,hF⟩:=q00 hF
 obtain ⟨r35,h36,hF⟩:=q00 hF
 refine go ?_
 refine RS.ix h34 ?_
 refine go ?_
 refine RS.cl rfl (pC (qq3 n x33 p4 r35 h36) _) fn129 ?_
 refine go ?_
 refine cF hF (fun h37 hF=>?_) (fun h37 hF=>?_)
 obtain ⟨x38,h39,hF⟩:=q00 hF
 refine go ?_
 refine RS.ix h39 ?_
 exact gx hF
 obtain ⟨r40,h41,hF⟩:=q00 hF
 refine go ?_
 refine RS.cl rfl (pC (qnb n p4 z12 r40 h41) _) fn130 ?_
 refine gn ?_
 refine z6p (fun tm σ=>∃ l43:List (List UInt8),∃ t44:Nat,qa7 z12 (q5m p1 p2 p3 p4 n m1) l43=some r∧tm=fr 59 [(0,.iM q01 p1),(1,.iM cS p2),(2,.iM (cL (cI .u64)) p3),(3,.iM (cI .u64) p4),(9,.vl 0 t44 0 l43.length),(10,.i6 z12)]∧σ=⟨[(0,.vec (List.map cS l43).flatten 9 1 t44)],1⟩) ?_ ?_
 rintro _ _ ⟨l43,t44,hF,rfl,rfl⟩
 unfold qa7 at hF
 refine go ?_
 exact lC ⟨_,l43,t44,hF,rfl,rfl⟩
 refine cF hF (fun h42 hF=>?_) (fun h42 hF=>?_)
 obtain ⟨x45,h46,hF⟩:=q00 hF
 obtain ⟨h47,hF⟩:=q06 hF
 refine go ?_
 refine RS.ix h46 ?_
 refine go ?_
 refine RS.g ?_
 refine RS.g ?_
 refine go ?_
 exact xC ⟨(l13++[x45]),(t14+1),hF,rfl,rfl⟩
 refine go ?_
 exact xC ⟨l13,t14,hF,rfl,rfl⟩
 refine go ?_
 exact xC ⟨l13,t14,hF,rfl,rfl⟩
def q9z (z6:Int) (rc1:Int→(List Int)→Option ((List Int))) (l15:List Int):Option ((List Int)) :=
 rc1 (IntKind.i64.wrap (z6+1)) l15
def qe6  (l9:List Int):Option ((List Int)) :=
 some l9
def q5i (p1:List Int) (n:Nat):Nat→Int→(List Int)→Option ((List Int))
 | 0,_,_=>none
 | m1+1,z6,l7 =>
  cond (decide (z6<(IntKind.i64.wrap (64*(p1.length:Int)))))
   (q03 (qj5 n p1 z6) fun r12 =>
   cond r12
    (q0w ((l7.length+1)*8≤140737488355328∧l7.length+1≤140737488355328) (
    q9z z6 (q5i p1 n m1) (l7++[z6])))
    (q9z z6 (q5i p1 n m1) l7))
   (qe6 l7)
def qke (n:Nat) (p1:List Int):Option ((List Int)) :=
 q5i p1 n n 0 ([]:List Int)
theorem qs6 (n:Nat) (p1:List Int) (r:(List Int)) (hF:qke n p1=some r):EvU Tryz.prog 152 [.isl false (List.map (cI .u64) p1)] ⟨[],0⟩ (fun u _=>u = .isl false (List.map (cI .i64) r)∧Bel 0 u):=by
 unfold qke at hF
 refine bg1 20 fn152 ?_
 refine gr ?_
 refine gr ?_
 refine gr ?_
 refine WPU.ghost (tm':=fr 20 [(0,.iM (cI .u64) p1),(3,.vl 0 0 0 (([]:List Int).length)),(4,.i6 0)]) (σ':=⟨[(0,.vec (List.map (cI .i64) ([]:List Int)).flatten 3 1 0)],1⟩) (Gh.trans (z6u 3 3 1 (by decide) NZ rfl rfl) (z6s ⟨rfl,rfl,rfl,trivial⟩ rfl)) NZ ?_
 refine gS (l':=[(0,_),(3,_),(4,_)]) ?_
 refine z6o (fun m tm σ=>∃ z6:Int,∃ l7:List Int,∃ t8:Nat,q5i p1 n m z6 l7=some r∧tm=fr 20 [(0,.iM (cI .u64) p1),(3,.vl 0 t8 0 l7.length),(4,.i6 z6)]∧σ=⟨[(0,.vec (List.map (cI .i64) l7).flatten 3 1 t8)],1⟩) (fun tm σ=>∃ l9:List Int,∃ t10:Nat,qe6 l9=some r∧tm=fr 20 [(3,.vl 0 t10 0 l9.length)]∧σ=⟨[(0,.vec (List.map (cI .i64) l9).flatten 3 1 t10)],1⟩) n ⟨0,([]:List Int),0,hF,rfl,rfl⟩ ?_ ?_
 rintro _ _ ⟨l9,t10,hF,rfl,rfl⟩
 unfold qe6 at hF
 refine go ?_
 obtain rfl:=sI hF
 exact rT (us:=[.vl 0 t10 0 l9.length]) (u:=.iM (cI .i64) l9) (q1y rfl (q1t)) (fR 0 1)
 rintro (_|m1) _ _ ⟨z6,l7,t8,hF,rfl,rfl⟩
 cases hF
 unfold q5i at hF
 refine go ?_
 refine cF hF (fun h11 hF=>?_) (fun h11 hF=>?_)
 refine go ?_
 refine WPU.block ?_
 obtain ⟨r12,h13,hF⟩:=q00 hF
 refine go ?_
 refine RS.cl rfl (pC (qnb n p1 z6 r12 h13) _) fn130 ?_
 refine gn ?_
 refine z6p (fun tm σ=>∃ l15:List Int,∃ t16:Nat,q9z z6 (q5i p1 n m1) l15=some r∧tm=fr 20 [(0,.iM (cI .u64) p1),(3,.vl 0 t16 0 l15.length),(4,.i6 z6)]∧σ=⟨[(0,.vec (List.map (cI .i64) l15).flatten 3 1 t16)],1⟩) ?_ ?_
 rintro _ _ ⟨l15,t16,hF,rfl,rfl⟩
 unfold q9z at hF
 refine go ?_
 exact lC ⟨_,l15,t16,hF,rfl,rfl⟩
 refine cF hF (fun h14 hF=>?_) (fun h14 hF=>?_)
 obtain ⟨h17,hF⟩:=q06 hF
 refine go ?_
 refine RS.g ?_
 refine RS.g ?_
 refine go ?_
 exact xC ⟨(l7++[z6]),(t8+1),hF,rfl,rfl⟩
 refine go ?_
 exact xC ⟨l7,t8,hF,rfl,rfl⟩
 refine go ?_
 exact xC ⟨l7,t8,hF,rfl,rfl⟩
def qe5 (n:Nat) (p1:List Int):Option (Int) :=
 q03 (qke n p1) fun r2 =>
 some (r2.length:Int)
theorem qj4 (n:Nat) (p1:List Int) (r:Int) (hF:qe5 n p1=some r):EvU Tryz.prog 132 [.isl false (List.map (cI .u64) p1)] ⟨[],0⟩ (fun u _=>u = .int .i64 r∧Bel 0 u):=by
 unfold qe5 at hF
 refine bg1 6 fn132 ?_
 obtain ⟨r2,h3,hF⟩:=q00 hF
 refine go ?_
 refine RS.cl rfl (pC (qs6 n p1 r2 h3) _) fn152 ?_
 exact gx hF
def qfu (n:Nat) (p1:q0p) (p2:q0p):Option (Bool) :=
 q03 (qe5 n p1.Code) fun r3 =>
 q03 (qe5 n p2.Code) fun r5 =>
 q03 (cond (decide (r3 > r5))
  (some true)
  (cond (r3 == r5)
   (some (q6i p1.Name p2.Name))
   (some false))) fun b9 =>
 some b9
theorem qo3 (n:Nat) (p1:q0p) (p2:q0p) (r:Bool) (hF:qfu n p1 p2=some r):EvU Tryz.prog 99 [.agg (q0b p1),.agg (q0b p2)] ⟨[],0⟩ (fun u _=>u = .bool r∧Bel 0 u):=by
 unfold qfu at hF
 refine bg2 28 fn99 ?_
 obtain ⟨r3,h4,hF⟩:=q00 hF
 refine go ?_
 refine RS.cl rfl (pC (qj4 n p1.Code r3 h4) _) fn132 ?_
 obtain ⟨r5,h6,hF⟩:=q00 hF
 refine go ?_
 refine RS.cl rfl (pC (qj4 n p2.Code r5 h6) _) fn132 ?_
 obtain ⟨b9,h10,hF⟩:=q00 hF
 refine gn ?_
 refine z6p (fun tm σ=>tm=fr 28 [(4,.bool b9)]∧σ=⟨[(1,.row (q0b p2) 105),(0,.row (q0b p1) 105)],2⟩) ?_ ?_
 rintro _ _ ⟨rfl,rfl⟩
 exact gx hF
 rcases gB h10 with ⟨h7,h10⟩ | ⟨h7,h10⟩
 obtain rfl:=sI h10
 refine go ?_
 repeat refine RS.no (qlj rfl rfl rfl) rfl rfl ?_
 refine go ?_
 exact xC ⟨rfl,rfl⟩
 rcases gB h10 with ⟨h8,h10⟩ | ⟨h8,h10⟩
 obtain rfl:=sI h10
 refine go ?_
 refine RS.w (u:=.bool (q6i p1.Name p2.Name)) rfl (q9o rfl rfl rfl rfl) ?_
 refine go ?_
 exact xC ⟨rfl,rfl⟩
 exact gy h10
def qcg (z27:Int) (l28:List q0p) (rc2:Int→(List q0p)→Option ((List q0p)×Int)) (r35:(List UInt8)) (x37:List Int) (z50:Int):Option ((List q0p)×Int) :=
 q0w ((0:Int)≤z50∧z50≤((l28.length:Nat):Int)) (
 q0w (0+z50.toNat≤l28.length) (
 q0w (((l28.drop 0).take z50.toNat).length*40≤140737488355328∧((l28.drop 0).take z50.toNat).length≤140737488355328) (
 q0w ((((l28.drop 0).take z50.toNat).length+1)*40≤140737488355328∧((l28.drop 0).take z50.toNat).length+1≤140737488355328) (
 q0w ((0:Int)≤z50∧z50≤((l28.length:Nat):Int)) (
 q0w ((0+z50.toNat)+(l28.length - z50.toNat)≤l28.length) (
 q0w (((((l28.drop 0).take z50.toNat)++[(q0p.mk r35 x37)]).length+((l28.drop (0+z50.toNat)).take (l28.length - z50.toNat)).length)*40≤140737488355328∧(((l28.drop 0).take z50.toNat)++[(q0p.mk r35 x37)]).length+((l28.drop (0+z50.toNat)).take (l28.length - z50.toNat)).length≤140737488355328) (
 rc2 (IntKind.i64.wrap (z27+1)) ((((l28.drop 0).take z50.toNat)++[(q0p.mk r35 x37)])++((l28.drop (0+z50.toNat)).take (l28.length - z50.toNat))))))))))
def q8o (n:Nat) (z27:Int) (l28:List q0p) (rc2:Int→(List q0p)→Option ((List q0p)×Int)) (r35:(List UInt8)) (x37:List Int):Nat→Int→Option ((List q0p)×Int)
 | 0,_=>none
 | m3+1,z49 =>
  q03 (cond (decide (z49 > 0))
   (q03 (q0l l28 (IntKind.i64.wrap (z49 - 1))) fun x59 =>
   q03 (qfu n (q0p.mk r35 x37) x59) fun r61 =>
   some r61)
   (some false)) fun b63 =>
  cond b63
   ((q8o n z27 l28 rc2 r35 x37 m3) (IntKind.i64.wrap (z49 - 1)))
   (qcg z27 l28 rc2 r35 x37 z49)
def qcf  (l30:List q0p):Option ((List q0p)×Int) :=
 some (l30,0)
def q4k (p1:List q04) (n:Nat) (r5:(List (List UInt8))) (l15:List (List Int)) (r17:(List (List Int))):Nat→Int→(List q0p)→Option ((List q0p)×Int)
 | 0,_,_=>none
 | m2+1,z27,l28 =>
  cond (decide (z27<(r17.length:Int)))
   (q03 (q0l r17 z27) fun x33 =>
   q03 (qkh n p1 r5 l15 x33) fun r35 =>
   q03 (q0l r17 z27) fun x37 =>
   q8o n z27 l28 (q4k p1 n r5 l15 r17 m2) r35 x37 n (l28.length:Int))
   (qcf l28)
def qce (p1:List q04) (n:Nat) (r5:(List (List UInt8))) (l15:List (List Int)):Option ((List q0p)×Int) :=
 q03 (qfv n l15) fun r17 =>
 cond (decide ((r17.length:Int) > 256))
  (some ([],7))
  (q4k p1 n r5 l15 r17 n 0 ([]:List q0p))
def q8n (p1:List q04) (n:Nat) (r5:(List (List UInt8))):Nat→Int→(List (List Int))→Option ((List q0p)×Int)
 | 0,_,_=>none
 | m1+1,z12,l13 =>
  cond (decide (z12<(r5.length:Int)))
   (q03 (q0l r5 z12) fun x67 =>
   q03 (qkg n p1 r5 x67) fun r69 =>
   q0w ((l13.length+1)*24≤140737488355328∧l13.length+1≤140737488355328) (
   (q8n p1 n r5 m1) (IntKind.i64.wrap (z12+1)) (l13++[r69])))
   (qce p1 n r5 l13)
def q7y (n:Nat) (p1:List q04):Option ((List q0p)×Int) :=
 q03 (qhq n p1) fun r2 =>
 cond (r2 != 0)
  (some ([],r2))
  (q03 (qe9 n p1) fun r5 =>
  q8n p1 n r5 n 0 ([]:List (List Int)))
theorem qa3 (n:Nat) (p1:List q04) (r:(List q0p)×Int) (hF:q7y n p1=some r):EvU Tryz.prog 72 [.isl false (List.map q01 p1)] ⟨[],0⟩ (fun u _=>u = .tup [.isl false (List.map q0b r.1),.int .i64 r.2]∧Bel 0 u):=by
 unfold q7y at hF
 refine bg1 92 fn72 ?_
 obtain ⟨r2,h3,hF⟩:=q00 hF
 refine go ?_
 refine RS.cl rfl (pC (qq8 n p1 r2 h3) _) fn94 ?_
 refine go ?_
 refine cF hF (fun h4 hF=>?_) (fun h4 hF=>?_)
 refine go ?_
 obtain rfl:=sI hF
 exact rT (us:=[.nils,.i6 r2]) (u:=.tup [.isl false [],.i6 r2]) (q1y rfl (q1y rfl (q1t))) wR
 obtain ⟨r5,h6,hF⟩:=q00 hF
 refine go ?_
 refine RS.cl rfl (pC (qj6 n p1 r5 h6) _) fn95 ?_
 refine gr ?_
 refine gr ?_
 refine WPU.ghost (tm':=fr 92 [(0,.iM q01 p1),(5,.iM cS r5),(6,.vl 0 0 0 (([]:List (List Int)).length)),(7,.i6 0)]) (σ':=⟨[(0,.vec (List.map (cL (cI .u64)) ([]:List (List Int))).flatten 103 1 0)],1⟩) (Gh.trans (z6u 6 103 1 (by decide) NZ rfl rfl) (z6s ⟨rfl,rfl,rfl,rfl,trivial⟩ rfl)) NZ ?_
 refine gS (l':=[(0,_),(5,_),(6,_),(7,_)]) ?_
 refine z6o (fun m tm σ=>∃ z12:Int,∃ l13:List (List Int),∃ t14:Nat,q8n p1 n r5 m z12 l13=some r∧tm=fr 92 [(0,.iM q01 p1),(5,.iM cS r5),(6,.vl 0 t14 0 l13.length),(7,.i6 z12)]∧σ=⟨[(0,.vec (List.map (cL (cI .u64)) l13).flatten 103 1 t14)],1⟩) (fun tm σ=>∃ l15:List (List Int),∃ t16:Nat,qce p1 n r5 l15=some r∧tm=fr 92 [(0,.iM q01 p1),(5,.iM cS r5),(6,.vl 0 t16 0 l15.length)]∧σ=⟨[(0,.vec (List.map (cL (cI .u64)) l15).flatten 103 1 t16)],1⟩) n ⟨0,([]:List (List Int)),0,hF,rfl,rfl⟩ ?_ ?_
 rintro _ _ ⟨l15,t16,hF,rfl,rfl⟩
 unfold qce at hF
 refine gn ?_
 refine WPU.ghost (tm':=fr 92 [(0,.iM q01 p1),(5,.iM cS r5),(6,.iM (cL (cI .u64)) l15)]) (σ':=⟨[],1⟩) (Gh.trans (Gh.sub (l':=[(0,.iM q01 p1),(5,.iM cS r5),(6,.vl 0 t16 0 l15.length)]) ⟨rfl,rfl,rfl,trivial⟩) (z7a 0 1)) NZ ?_
 obtain ⟨r17,h18,hF⟩:=q00 hF
 refine go ?_
 refine RS.cl rfl (pC (qo4 n l15 r17 h18) _) fn97 ?_
 refine go ?_
 refine cF hF (fun h19 hF=>?_) (fun h19 hF=>?_)
 refine go ?_
 obtain rfl:=sI hF
 exact rT (us:=[.nils,.i6 7]) (u:=.tup [.isl false [],.i6 7]) (q1y rfl (q1y rfl (q1t))) wR
 refine gr ?_
 refine gr ?_
 refine WPU.ghost (tm':=fr 92 [(0,.iM q01 p1),(5,.iM cS r5),(6,.iM (cL (cI .u64)) l15),(8,.iM (cL (cI .u64)) r17),(9,.vl 1 0 0 (([]:List q0p).length)),(10,.i6 0)]) (σ':=⟨[(1,.vec (List.map q0b ([]:List q0p)).flatten 105 2 0)],2⟩) (Gh.trans (z6u 9 105 2 (by decide) NZ rfl rfl) (z6s ⟨rfl,rfl,rfl,rfl,rfl,rfl,trivial⟩ rfl)) NZ ?_
 refine gS (l':=[(0,_),(5,_),(6,_),(8,_),(9,_),(10,_)]) ?_
 refine z6o (fun m tm σ=>∃ z27:Int,∃ l28:List q0p,∃ t29:Nat,q4k p1 n r5 l15 r17 m z27 l28=some r∧tm=fr 92 [(0,.iM q01 p1),(5,.iM cS r5),(6,.iM (cL (cI .u64)) l15),(8,.iM (cL (cI .u64)) r17),(9,.vl 1 t29 0 l28.length),(10,.i6 z27)]∧σ=⟨[(1,.vec (List.map q0b l28).flatten 105 2 t29)],2⟩) (fun tm σ=>∃ l30:List q0p,∃ t31:Nat,qcf l30=some r∧tm=fr 92 [(9,.vl 1 t31 0 l30.length)]∧σ=⟨[(1,.vec (List.map q0b l30).flatten 105 2 t31)],2⟩) n ⟨0,([]:List q0p),0,hF,rfl,rfl⟩ ?_ ?_
 rintro _ _ ⟨l30,t31,hF,rfl,rfl⟩
 unfold qcf at hF
 refine go ?_
 obtain rfl:=sI hF
 exact rT (us:=[.vl 1 t31 0 l30.length,.i6 0]) (u:=.tup [.iM q0b l30,.i6 0]) (q1y rfl (q1y rfl (q1t))) (fR 1 2)
 rintro (_|m2) _ _ ⟨z27,l28,t29,hF,rfl,rfl⟩
 cases hF
 unfold q4k at hF
 refine go ?_
 refine cF hF (fun h32 hF=>?_) (fun h32 hF=>?_)
 refine go ?_
 refine WPU.block ?_
 obtain ⟨x33,h34,hF⟩:=q00 hF
 obtain ⟨r35,h36,hF⟩:=q00 hF
 obtain ⟨x37,h38,hF⟩:=q00 hF
 refine go ?_
 refine z6q Tryz.tb_ok [(0,13),(1,13),(2,13),(3,13),(4,13),(5,13),(6,13),(8,13),(9,13),(10,13),(11,13),(12,13)] (by kernel_rfl) ?_
 refine gd ?_
 refine RD.ix h34 ?_
 refine gd ?_
 refine z6w rfl (pC (qs9 n p1 r5 l15 x33 r35 h36)) fn98 ?_
 refine gd ?_
 refine RD.ix h38 ?_
 refine gd ?_
 refine RD.g ?_
 refine RD.gz ?_
 refine RD.done ⟨by kernel_rfl,⟨q3h rfl,⟨q3h rfl,⟨q3h rfl,⟨q3h rfl,⟨q3h rfl,⟨q2v rfl rfl (quu (cL (cI .u64)) un148.h (q0i if103.h) (qfd (cI .u64)) h34 rfl),⟨qz9 un103.h rfl rfl rfl,⟨q3h rfl,⟨q3h rfl,⟨q2v rfl rfl (quu (cL (cI .u64)) un148.h (q0i if103.h) (qfd (cI .u64)) h38 rfl),⟨qz9 un103.h rfl rfl rfl,⟨z4n bd105.h rfl rfl rfl,trivial⟩⟩⟩⟩⟩⟩⟩⟩⟩⟩⟩⟩,?_⟩
 refine go ?_
 refine gS (l':=[(0,_),(5,_),(6,_),(8,_),(9,_),(10,_),(11,_),(12,_)]) ?_
 refine z6o (fun m tm σ=>∃ z49:Int,q8o n z27 l28 (q4k p1 n r5 l15 r17 m2) r35 x37 m z49=some r∧tm=fr 92 [(0,.iM q01 p1),(5,.iM cS r5),(6,.iM (cL (cI .u64)) l15),(8,.iM (cL (cI .u64)) r17),(9,.vl 1 t29 0 l28.length),(10,.i6 z27),(11,.ptr 2 0 0),(12,.i6 z49)]∧σ=⟨[(2,.row [.str r35,.iM (cI .u64) x37] 105),(1,.vec (List.map q0b l28).flatten 105 2 t29)],3⟩) (fun tm σ=>∃ z50:Int,qcg z27 l28 (q4k p1 n r5 l15 r17 m2) r35 x37 z50=some r∧tm=fr 92 [(0,.iM q01 p1),(5,.iM cS r5),(6,.iM (cL (cI .u64)) l15),(8,.iM (cL (cI .u64)) r17),(9,.vl 1 t29 0 l28.length),(10,.i6 z27),(11,.ptr 2 0 0),(12,.i6 z50)]∧σ=⟨[(2,.row [.str r35,.iM (cI .u64) x37] 105),(1,.vec (List.map q0b l28).flatten 105 2 t29)],3⟩) n ⟨(l28.length:Int),hF,rfl,rfl⟩ ?_ ?_
 rintro _ _ ⟨z50,hF,rfl,rfl⟩
 unfold qcg at hF
 obtain ⟨h51,hF⟩:=q06 hF
 obtain ⟨h52,hF⟩:=q06 hF
 obtain ⟨h53,hF⟩:=q06 hF
 refine go ?_
 refine RS.q (u:=.vl 1 t29 0 z50.toNat) rfl (qbh rfl qsu (z4a rfl) qsu (z3j q0b un99.h (q0i if105.h) q50 (vo rfl) (Nat.le_of_eq (Nat.zero_add _)) (qxs h51.1 h51.2))) (RS.q (u:=.vl 3 0 0 (((l28.drop 0).take z50.toNat).length)) (σ':=⟨[(3,.vec (List.map q0b ((l28.drop 0).take z50.toNat)).flatten 105 2 0),(2,.row [.str r35,.iM (cI .u64) x37] 105),(1,.vec (List.map q0b l28).flatten 105 2 t29)],4⟩) rfl (qd1 rfl rfl rfl rfl (qt1 q0b ((l28.drop 0).take z50.toNat) un99.h un99.h if105.h rfl (qvx q0b q50 (vo rfl) h52) h53)) ?_)
 obtain ⟨h54,hF⟩:=q06 hF
 refine go ?_
 refine RS.g ?_
 refine RS.g ?_
 obtain ⟨h55,hF⟩:=q06 hF
 obtain ⟨h56,hF⟩:=q06 hF
 obtain ⟨h57,hF⟩:=q06 hF
 refine go ?_
 refine RS.q (u:=.vl 1 t29 (0+z50.toNat) (l28.length - z50.toNat)) rfl (qbh rfl (z4a rfl) qsu qsu (z3j q0b un99.h (q0i if105.h) q50 (vo rfl) (Nat.le_of_eq (Nat.zero_add _)) (qxt h55.1 h55.2))) (RS.q (u:=.vl 3 2 0 (((((l28.drop 0).take z50.toNat)++[(q0p.mk r35 x37)])++((l28.drop (0+z50.toNat)).take (l28.length - z50.toNat))).length)) (σ':=⟨[(4,.row [.str r35,.iM (cI .u64) x37] 105),(3,.vec (List.map q0b ((((l28.drop 0).take z50.toNat)++[(q0p.mk r35 x37)])++((l28.drop (0+z50.toNat)).take (l28.length - z50.toNat)))).flatten 105 2 2),(2,.row [.str r35,.iM (cI .u64) x37] 105),(1,.vec (List.map q0b l28).flatten 105 2 t29)],5⟩) rfl (qd1 rfl rfl rfl rfl (qm4 q0b ((l28.drop (0+z50.toNat)).take (l28.length - z50.toNat)) un99.h un99.h if105.h rfl q50 rfl (qvx q0b q50 (vo rfl) h56) h57)) ?_)
 refine go ?_
 exact ⟨m2,_,_,zN _,⟨(IntKind.i64.wrap (z27+1)),((((l28.drop 0).take z50.toNat)++[(q0p.mk r35 x37)])++((l28.drop (0+z50.toNat)).take (l28.length - z50.toNat))),2,hF,rfl,rfl⟩,NZ,Gh.trans (Gh.sub (l':=[(0,.iM q01 p1),(5,.iM cS r5),(6,.iM (cL (cI .u64)) l15),(8,.iM (cL (cI .u64)) r17),(9,.vl 3 2 0 (((((l28.drop 0).take z50.toNat)++[(q0p.mk r35 x37)])++((l28.drop (0+z50.toNat)).take (l28.length - z50.toNat))).length)),(10,.i6 (IntKind.i64.wrap (z27+1)))]) ⟨rfl,rfl,rfl,rfl,rfl,rfl,trivial⟩) (Gh.trans (Gh.mv (l':=[(0,.iM q01 p1),(5,.iM cS r5),(6,.iM (cL (cI .u64)) l15),(8,.iM (cL (cI .u64)) r17),(9,.vl 1 2 0 (((((l28.drop 0).take z50.toNat)++[(q0p.mk r35 x37)])++((l28.drop (0+z50.toNat)).take (l28.length - z50.toNat))).length)),(10,.i6 (IntKind.i64.wrap (z27+1)))]) (h':=[(4,.row [.str r35,.iM (cI .u64) x37] 105),(1,.vec (List.map q0b ((((l28.drop 0).take z50.toNat)++[(q0p.mk r35 x37)])++((l28.drop (0+z50.toNat)).take (l28.length - z50.toNat)))).flatten 105 2 2),(2,.row [.str r35,.iM (cI .u64) x37] 105)]) 1 3 NZ rfl rfl (by simp only [rS,rU,rUL,qfn,mvN,Nat.beq,zC,zD]) rfl (by simp only [avH,rB,qox,rUL,rU,qfn,qvh,mvN,Nat.beq,zC,zD,and_self])) (Gh.toC (n1:=2) ⟨rfl,rfl,rfl,rfl,rfl,rfl,trivial⟩ rfl NZ (by simp)))⟩
 rintro (_|m3) _ _ ⟨z49,hF,rfl,rfl⟩
 cases hF
 unfold q8o at hF
 obtain ⟨b63,h64,hF⟩:=q00 hF
 refine gn ?_
 refine z6p (fun tm σ=>tm=fr 92 [(0,.iM q01 p1),(5,.iM cS r5),(6,.iM (cL (cI .u64)) l15),(8,.iM (cL (cI .u64)) r17),(9,.vl 1 t29 0 l28.length),(10,.i6 z27),(11,.ptr 2 0 0),(12,.i6 z49),(73,.bool b63)]∧σ=⟨[(2,.row [.str r35,.iM (cI .u64) x37] 105),(1,.vec (List.map q0b l28).flatten 105 2 t29)],3⟩) ?_ ?_
 rintro _ _ ⟨rfl,rfl⟩
 refine go ?_
 refine cF hF (fun h65 hF=>?_) (fun h65 hF=>?_)
 refine go ?_
 refine WPU.block ?_
 refine go ?_
 exact lC ⟨_,hF,rfl,rfl⟩
 refine go ?_
 exact xC ⟨z49,hF,rfl,rfl⟩
 rcases gB h64 with ⟨h58,h64⟩ | ⟨h58,h64⟩
 obtain ⟨x59,h60,h64⟩:=q00 h64
 obtain ⟨r61,h62,h64⟩:=q00 h64
 obtain rfl:=sI h64
 refine z6q Tryz.tb_ok [] (by kernel_rfl) ?_
 refine gd ?_
 refine RD.w rfl (q2v rfl rfl (q94 q0b un99.h (q0i if105.h) (by decide) q50 (vo rfl) h60)) ?_
 refine RD.w (u:=.agg (q0b x59)) rfl (z4k q0b un105.h rfl (q0i if105.h) q50 rfl rfl h60 rfl) (z6w rfl (pC (qo3 n (q0p.mk r35 x37) x59 r61 h62)) fn99 ?_)
 refine gd ?_
 refine RD.done ⟨by kernel_rfl,trivial,?_⟩
 refine go ?_
 exact xC ⟨rfl,rfl⟩
 obtain rfl:=sI h64
 refine z6q Tryz.tb_ok [] (by kernel_rfl) ?_
 refine gd ?_
 refine RD.done ⟨by kernel_rfl,trivial,?_⟩
 refine go ?_
 exact xC ⟨rfl,rfl⟩
 refine go ?_
 exact xC ⟨l28,t29,hF,rfl,rfl⟩
 rintro (_|m1) _ _ ⟨z12,l13,t14,hF,rfl,rfl⟩
 cases hF
 unfold q8n at hF
 refine go ?_
 refine cF hF (fun h66 hF=>?_) (fun h66 hF=>?_)
 refine go ?_
 refine WPU.block ?_
 obtain ⟨x67,h68,hF⟩:=q00 hF
 obtain ⟨r69,h70,hF⟩:=q00 hF
 obtain ⟨h71,hF⟩:=q06 hF
 refine go ?_
 refine RS.ix h68 ?_
 refine go ?_
 refine RS.cl rfl (pC (qs8 n p1 r5 x67 r69 h70) _) fn96 ?_
 refine RS.g ?_
 refine RS.g ?_
 refine go ?_
 exact lC ⟨_,(l13++[r69]),(t14+1),hF,rfl,rfl⟩
 refine go ?_
 exact xC ⟨l13,t14,hF,rfl,rfl⟩
def qcp   : Option ((List UInt8)×Bool) :=
 some ([],false)
def q8t (p1:q04) (p2:List UInt8):Nat→Int→Option ((List UInt8)×Bool)
 | 0,_=>none
 | m1+1,z8 =>
  cond (decide (z8<(p1.Feats.length:Int)))
   (q03 (q0l p1.Feats z8) fun x10 =>
   cond (q1e x10.Feat p2)
    (q03 (q0l p1.Feats z8) fun x13 =>
    some (x13.Value,true))
    ((q8t p1 p2 m1) (IntKind.i64.wrap (z8+1))))
   (qcp)
def qej (n:Nat) (p1:q04) (p2:List UInt8):Option ((List UInt8)×Bool) :=
 q8t p1 p2 n 0
theorem qj9 (n:Nat) (p1:q04) (p2:List UInt8) (r:(List UInt8)×Bool) (hF:qej n p1 p2=some r):EvU Tryz.prog 117 [.agg (q01 p1),.str p2] ⟨[],0⟩ (fun u _=>u = .tup [.str r.1,.bool r.2]∧Bel 0 u):=by
 unfold qej at hF
 refine bg2 28 fn117 ?_
 refine go ?_
 refine gS (l':=[(1,_),(2,_),(6,_)]) ?_
 refine z6o (fun m tm σ=>∃ z8:Int,q8t p1 p2 m z8=some r∧tm=fr 28 [(1,.str p2),(2,.ptr 0 0 0),(6,.i6 z8)]∧σ=⟨[(0,.row (q01 p1) 127)],1⟩) (fun tm σ=>qcp=some r∧tm=fr 28 []∧σ=⟨[(0,.row (q01 p1) 127)],1⟩) n ⟨0,hF,rfl,rfl⟩ ?_ ?_
 rintro _ _ ⟨hF,rfl,rfl⟩
 unfold qcp at hF
 refine go ?_
 obtain rfl:=sI hF
 exact rt2 rfl rfl rfl rfl rfl
 rintro (_|m1) _ _ ⟨z8,hF,rfl,rfl⟩
 cases hF
 unfold q8t at hF
 refine go ?_
 refine cF hF (fun h9 hF=>?_) (fun h9 hF=>?_)
 refine go ?_
 refine WPU.block ?_
 obtain ⟨x10,h11,hF⟩:=q00 hF
 refine go ?_
 refine RS.ix h11 ?_
 refine go ?_
 refine RS.q (u:=.bool (q1e x10.Feat p2)) rfl (q9o rfl rfl rfl rfl) ?_
 refine go ?_
 refine cF hF (fun h12 hF=>?_) (fun h12 hF=>?_)
 obtain ⟨x13,h14,hF⟩:=q00 hF
 refine go ?_
 refine RS.ix h14 ?_
 refine go ?_
 obtain rfl:=sI hF
 exact rt2 rfl rfl rfl rfl rfl
 refine go ?_
 exact lC ⟨_,hF,rfl,rfl⟩
 refine go ?_
 exact xC ⟨hF,rfl,rfl⟩
def q8s (z8:Int) (rc1:(List (List UInt8))→Int→Option ((List UInt8)×Bool)) (l21:List (List UInt8)):Option ((List UInt8)×Bool) :=
 rc1 l21 (IntKind.i64.wrap (z8+1))
def qcn (p1:List q04) (n:Nat) (l9:List (List UInt8)):Option ((List UInt8)×Bool) :=
 q03 (qa1 n p1 l9) fun r10 =>
 cond ((r10.length:Int) != 1)
  (some ([],false))
  (q03 (q0l r10 0) fun x13 =>
  some (x13,true))
def q4o (p1:List q04) (p2:List UInt8) (n:Nat):Nat→(List (List UInt8))→Int→Option ((List UInt8)×Bool)
 | 0,_,_=>none
 | m1+1,l7,z8 =>
  cond (decide (z8<(p1.length:Int)))
   (q03 (q0l p1 z8) fun x16 =>
   q03 (qej n x16 p2) fun r18 =>
   cond r18.2
    (q03 (q0l p1 z8) fun x22 =>
    q03 (q99 n l7 x22.Name) fun r24 =>
    q8s z8 (q4o p1 p2 n m1) r24)
    (q8s z8 (q4o p1 p2 n m1) l7))
   (qcn p1 n l7)
def qei (n:Nat) (p1:List q04) (p2:List UInt8):Option ((List UInt8)×Bool) :=
 q4o p1 p2 n n [] 0
theorem qj8 (n:Nat) (p1:List q04) (p2:List UInt8) (r:(List UInt8)×Bool) (hF:qei n p1 p2=some r):EvU Tryz.prog 101 [.isl false (List.map q01 p1),.str p2] ⟨[],0⟩ (fun u _=>u = .tup [.str r.1,.bool r.2]∧Bel 0 u):=by
 unfold qei at hF
 refine bg2 43 fn101 ?_
 refine gr ?_
 refine gr ?_
 refine gr ?_
 refine WPU.ghost (tm':=fr 43 [(0,.iM q01 p1),(1,.str p2),(6,.iM cS []),(7,.i6 0)]) (Gh.trans (Gh.sub (l':=[(0,.iM q01 p1),(1,.str p2),(6,.nils),(7,.i6 0)]) ⟨rfl,rfl,rfl,rfl,trivial⟩) (Gh.wkS (l':=[(0,.iM q01 p1),(1,.str p2),(6,.iM cS []),(7,.i6 0)]) (.cons (.refl _) (.cons (.refl _) (.cons (.nil false) (.cons (.refl _) .nil)))))) NZ ?_
 refine gS (l':=[(0,_),(1,_),(6,_),(7,_)]) ?_
 refine z6o (fun m tm σ=>∃ l7:List (List UInt8),∃ z8:Int,q4o p1 p2 n m l7 z8=some r∧tm=fr 43 [(0,.iM q01 p1),(1,.str p2),(6,.iM cS l7),(7,.i6 z8)]∧σ=⟨[],0⟩) (fun tm σ=>∃ l9:List (List UInt8),qcn p1 n l9=some r∧tm=fr 43 [(0,.iM q01 p1),(6,.iM cS l9)]∧σ=⟨[],0⟩) n ⟨[],0,hF,rfl,rfl⟩ ?_ ?_
 rintro _ _ ⟨l9,hF,rfl,rfl⟩
 unfold qcn at hF
 obtain ⟨r10,h11,hF⟩:=q00 hF
 refine go ?_
 refine RS.cl rfl (pC (qfp n p1 l9 r10 h11) _) fn131 ?_
 refine go ?_
 refine cF hF (fun h12 hF=>?_) (fun h12 hF=>?_)
 refine go ?_
 obtain rfl:=sI hF
 exact rt2 rfl rfl rfl rfl rfl
 obtain ⟨x13,h14,hF⟩:=q00 hF
 refine go ?_
 refine RS.ix h14 ?_
 refine go ?_
 obtain rfl:=sI hF
 exact rt2 rfl rfl rfl rfl rfl
 rintro (_|m1) _ _ ⟨l7,z8,hF,rfl,rfl⟩
 cases hF
 unfold q4o at hF
 refine go ?_
 refine cF hF (fun h15 hF=>?_) (fun h15 hF=>?_)
 refine go ?_
 refine WPU.block ?_
 obtain ⟨x16,h17,hF⟩:=q00 hF
 obtain ⟨r18,h19,hF⟩:=q00 hF
 refine go ?_
 refine RS.ix h17 ?_
 refine go ?_
 refine RS.cl rfl (pC (qj9 n x16 p2 r18 h19) _) fn117 ?_
 refine gr ?_
 refine z6p (fun tm σ=>∃ l21:List (List UInt8),q8s z8 (q4o p1 p2 n m1) l21=some r∧tm=fr 43 [(0,.iM q01 p1),(1,.str p2),(6,.iM cS l21),(7,.i6 z8)]∧σ=⟨[],0⟩) ?_ ?_
 rintro _ _ ⟨l21,hF,rfl,rfl⟩
 unfold q8s at hF
 refine go ?_
 exact lC ⟨l21,(IntKind.i64.wrap (z8+1)),hF,rfl,rfl⟩
 refine cF hF (fun h20 hF=>?_) (fun h20 hF=>?_)
 obtain ⟨x22,h23,hF⟩:=q00 hF
 obtain ⟨r24,h25,hF⟩:=q00 hF
 refine go ?_
 refine RS.ix h23 ?_
 refine go ?_
 refine RS.cl rfl (pC (q7w n l7 x22.Name r24 h25) _) fn116 ?_
 refine go ?_
 exact xC ⟨r24,hF,rfl,rfl⟩
 refine go ?_
 exact xC ⟨l7,hF,rfl,rfl⟩
 refine go ?_
 exact xC ⟨l7,hF,rfl,rfl⟩
def q55 (n:Nat) (r2:(List (List UInt8))) (x9:q04) (z16:Int) (rc2:Int→Option (Int))  : Option (Int) :=
 q03 (q0l x9.Feats z16) fun x30 =>
 q03 (q2w n r2 x30.Value) fun r32 =>
 cond (!r32)
  (some 5)
  (rc2 (IntKind.i64.wrap (z16+1)))
def q3d (n:Nat) (r2:(List (List UInt8))) (x9:q04) (z16:Int) (rc2:Int→Option (Int)):Nat→Int→Option (Int)
 | 0,_=>none
 | m3+1,z29 =>
  cond (decide (z29<z16))
   (q03 (q0l x9.Feats z29) fun x36 =>
   q03 (q0l x9.Feats z16) fun x38 =>
   cond (q1e x36.Feat x38.Feat)
    (some 4)
    ((q3d n r2 x9 z16 rc2 m3) (IntKind.i64.wrap (z29+1))))
   (q55 n r2 x9 z16 rc2)
def q54 (z7:Int) (rc1:Int→Option (Int))  : Option (Int) :=
 rc1 (IntKind.i64.wrap (z7+1))
def q1w (n:Nat) (r2:(List (List UInt8))) (z7:Int) (rc1:Int→Option (Int)) (x9:q04):Nat→Int→Option (Int)
 | 0,_=>none
 | m2+1,z16 =>
  cond (decide (z16<(x9.Feats.length:Int)))
   (q03 (q0l x9.Feats z16) fun x18 =>
   q03 (qe0 n x18.Feat) fun r20 =>
   cond (!r20)
    (some 1)
    (q3d n r2 x9 z16 (q1w n r2 z7 rc1 x9 m2) n 0))
   (q54 z7 rc1)
def q53   : Option (Int) :=
 some 0
def q14 (p1:List q04) (n:Nat) (r2:(List (List UInt8))):Nat→Int→Option (Int)
 | 0,_=>none
 | m1+1,z7 =>
  cond (decide (z7<(p1.length:Int)))
   (q03 (q0l p1 z7) fun x9 =>
   q1w n r2 z7 (q14 p1 n r2 m1) x9 n 0)
   (q53)
def q7c (n:Nat) (p1:List q04):Option (Int) :=
 q03 (qe9 n p1) fun r2 =>
 q14 p1 n r2 n 0
theorem qgs (n:Nat) (p1:List q04) (r:Int) (hF:q7c n p1=some r):EvU Tryz.prog 115 [.isl false (List.map q01 p1)] ⟨[],0⟩ (fun u _=>u = .int .i64 r∧Bel 0 u):=by
 unfold q7c at hF
 refine bg1 58 fn115 ?_
 obtain ⟨r2,h3,hF⟩:=q00 hF
 refine go ?_
 refine RS.cl rfl (pC (qj6 n p1 r2 h3) _) fn95 ?_
 refine go ?_
 refine gS (l':=[(0,_),(3,_),(4,_)]) ?_
 refine z6o (fun m tm σ=>∃ z7:Int,q14 p1 n r2 m z7=some r∧tm=fr 58 [(0,.iM q01 p1),(3,.iM cS r2),(4,.i6 z7)]∧σ=⟨[],0⟩) (fun tm σ=>q53=some r∧tm=fr 58 []∧σ=⟨[],0⟩) n ⟨0,hF,rfl,rfl⟩ ?_ ?_
 rintro _ _ ⟨hF,rfl,rfl⟩
 unfold q53 at hF
 exact gx hF
 rintro (_|m1) _ _ ⟨z7,hF,rfl,rfl⟩
 cases hF
 unfold q14 at hF
 refine go ?_
 refine cF hF (fun h8 hF=>?_) (fun h8 hF=>?_)
 refine go ?_
 refine WPU.block ?_
 obtain ⟨x9,h10,hF⟩:=q00 hF
 refine go ?_
 refine RS.ix h10 ?_
 refine go ?_
 refine gS (l':=[(0,_),(3,_),(4,_),(5,_),(6,_)]) ?_
 refine z6o (fun m tm σ=>∃ z16:Int,q1w n r2 z7 (q14 p1 n r2 m1) x9 m z16=some r∧tm=fr 58 [(0,.iM q01 p1),(3,.iM cS r2),(4,.i6 z7),(5,.iM q0d x9.Feats),(6,.i6 z16)]∧σ=⟨[],0⟩) (fun tm σ=>q54 z7 (q14 p1 n r2 m1)=some r∧tm=fr 58 [(0,.iM q01 p1),(3,.iM cS r2),(4,.i6 z7)]∧σ=⟨[],0⟩) n ⟨0,hF,rfl,rfl⟩ ?_ ?_
 rintro _ _ ⟨hF,rfl,rfl⟩
 unfold q54 at hF
 refine go ?_
 exact lC ⟨_,hF,rfl,rfl⟩
 rintro (_|m2) _ _ ⟨z16,hF,rfl,rfl⟩
 cases hF
 unfold q1w at hF
 refine go ?_
 refine cF hF (fun h17 hF=>?_) (fun h17 hF=>?_)
 refine go ?_
 refine WPU.block ?_
 obtain ⟨x18,h19,hF⟩:=q00 hF
 obtain ⟨r20,h21,hF⟩:=q00 hF
 refine go ?_
 refine RS.ix h19 ?_
 refine go ?_
 refine RS.cl rfl (pC (qn9 n x18.Feat r20 h21) _) fn57 ?_
 refine go ?_
 refine cF hF (fun h22 hF=>?_) (fun h22 hF=>?_)
 exact gx hF
 refine go ?_
 refine gS (l':=[(0,_),(3,_),(4,_),(5,_),(6,_),(7,_)]) ?_
 refine z6o (fun m tm σ=>∃ z29:Int,q3d n r2 x9 z16 (q1w n r2 z7 (q14 p1 n r2 m1) x9 m2) m z29=some r∧tm=fr 58 [(0,.iM q01 p1),(3,.iM cS r2),(4,.i6 z7),(5,.iM q0d x9.Feats),(6,.i6 z16),(7,.i6 z29)]∧σ=⟨[],0⟩) (fun tm σ=>q55 n r2 x9 z16 (q1w n r2 z7 (q14 p1 n r2 m1) x9 m2)=some r∧tm=fr 58 [(0,.iM q01 p1),(3,.iM cS r2),(4,.i6 z7),(5,.iM q0d x9.Feats),(6,.i6 z16)]∧σ=⟨[],0⟩) n ⟨0,hF,rfl,rfl⟩ ?_ ?_
 rintro _ _ ⟨hF,rfl,rfl⟩
 unfold q55 at hF
 obtain ⟨x30,h31,hF⟩:=q00 hF
 obtain ⟨r32,h33,hF⟩:=q00 hF
 refine go ?_
 refine RS.ix h31 ?_
 refine go ?_
 refine RS.cl rfl (pC (q21 n r2 x30.Value r32 h33) _) fn126 ?_
 refine go ?_
 refine cF hF (fun h34 hF=>?_) (fun h34 hF=>?_)
 exact gx hF
 refine go ?_
 exact lC ⟨_,hF,rfl,rfl⟩
 rintro (_|m3) _ _ ⟨z29,hF,rfl,rfl⟩
 cases hF
 unfold q3d at hF
 refine go ?_
 refine cF hF (fun h35 hF=>?_) (fun h35 hF=>?_)
 refine go ?_
 refine WPU.block ?_
 obtain ⟨x36,h37,hF⟩:=q00 hF
 obtain ⟨x38,h39,hF⟩:=q00 hF
 refine go ?_
 refine z6q Tryz.tb_ok [] (by kernel_rfl) ?_
 refine gd ?_
 refine RD.ix h37 ?_
 refine gd ?_
 refine RD.ix h39 ?_
 refine gd ?_
 refine RD.q (u:=.bool (q1e x36.Feat x38.Feat)) rfl (q9o rfl rfl rfl rfl) ?_
 refine RD.done ⟨by kernel_rfl,trivial,?_⟩
 refine go ?_
 refine cF hF (fun h40 hF=>?_) (fun h40 hF=>?_)
 exact gx hF
 refine go ?_
 exact lC ⟨_,hF,rfl,rfl⟩
 refine go ?_
 exact xC ⟨hF,rfl,rfl⟩
 refine go ?_
 exact xC ⟨hF,rfl,rfl⟩
 refine go ?_
 exact xC ⟨hF,rfl,rfl⟩
def qcm (z6:Int) (rc1:(List (List UInt8))→Int→Option ((List (List UInt8)))) (l15:List (List UInt8)):Option ((List (List UInt8))) :=
 rc1 l15 (IntKind.i64.wrap (z6+1))
def q8r (p1:List q04) (n:Nat) (z6:Int) (rc1:(List (List UInt8))→Int→Option ((List (List UInt8)))):Nat→(List (List UInt8))→Int→Option ((List (List UInt8)))
 | 0,_,_=>none
 | m2+1,l13,z14 =>
  q03 (q0l p1 z6) fun x16 =>
  cond (decide (z14<(x16.Feats.length:Int)))
   (q03 (q0l p1 z6) fun x19 =>
   q03 (q0l x19.Feats z14) fun x21 =>
   q03 (q99 n l13 x21.Feat) fun r23 =>
   (q8r p1 n z6 rc1 m2) r23 (IntKind.i64.wrap (z14+1)))
   (qcm z6 rc1 l13)
def qcl  (l7:List (List UInt8)):Option ((List (List UInt8))) :=
 some l7
def q4n (p1:List q04) (n:Nat):Nat→(List (List UInt8))→Int→Option ((List (List UInt8)))
 | 0,_,_=>none
 | m1+1,l5,z6 =>
  cond (decide (z6<(p1.length:Int)))
   (q8r p1 n z6 (q4n p1 n m1) n l5 0)
   (qcl l5)
def qb5 (n:Nat) (p1:List q04):Option ((List (List UInt8))) :=
 q4n p1 n n [] 0
theorem qeh (n:Nat) (p1:List q04) (r:(List (List UInt8))) (hF:qb5 n p1=some r):EvU Tryz.prog 91 [.isl false (List.map q01 p1)] ⟨[],0⟩ (fun u _=>u = .isl false (List.map cS r)∧Bel 0 u):=by
 unfold qb5 at hF
 refine bg1 34 fn91 ?_
 refine gr ?_
 refine gr ?_
 refine gr ?_
 refine WPU.ghost (tm':=fr 34 [(0,.iM q01 p1),(3,.iM cS []),(4,.i6 0)]) (Gh.trans (Gh.sub (l':=[(0,.iM q01 p1),(3,.nils),(4,.i6 0)]) ⟨rfl,rfl,rfl,trivial⟩) (Gh.wkS (l':=[(0,.iM q01 p1),(3,.iM cS []),(4,.i6 0)]) (.cons (.refl _) (.cons (.nil false) (.cons (.refl _) .nil))))) NZ ?_
 refine gS (l':=[(0,_),(3,_),(4,_)]) ?_
 refine z6o (fun m tm σ=>∃ l5:List (List UInt8),∃ z6:Int,q4n p1 n m l5 z6=some r∧tm=fr 34 [(0,.iM q01 p1),(3,.iM cS l5),(4,.i6 z6)]∧σ=⟨[],0⟩) (fun tm σ=>∃ l7:List (List UInt8),qcl l7=some r∧tm=fr 34 [(3,.iM cS l7)]∧σ=⟨[],0⟩) n ⟨[],0,hF,rfl,rfl⟩ ?_ ?_
 rintro _ _ ⟨l7,hF,rfl,rfl⟩
 unfold qcl at hF
 exact gx hF
 rintro (_|m1) _ _ ⟨l5,z6,hF,rfl,rfl⟩
 cases hF
 unfold q4n at hF
 refine go ?_
 refine cF hF (fun h8 hF=>?_) (fun h8 hF=>?_)
 refine go ?_
 refine WPU.block ?_
 refine go ?_
 refine gS (l':=[(0,_),(3,_),(4,_),(5,_)]) ?_
 refine z6o (fun m tm σ=>∃ l13:List (List UInt8),∃ z14:Int,q8r p1 n z6 (q4n p1 n m1) m l13 z14=some r∧tm=fr 34 [(0,.iM q01 p1),(3,.iM cS l13),(4,.i6 z6),(5,.i6 z14)]∧σ=⟨[],0⟩) (fun tm σ=>∃ l15:List (List UInt8),qcm z6 (q4n p1 n m1) l15=some r∧tm=fr 34 [(0,.iM q01 p1),(3,.iM cS l15),(4,.i6 z6)]∧σ=⟨[],0⟩) n ⟨l5,0,hF,rfl,rfl⟩ ?_ ?_
 rintro _ _ ⟨l15,hF,rfl,rfl⟩
 unfold qcm at hF
 refine go ?_
 exact lC ⟨l15,(IntKind.i64.wrap (z6+1)),hF,rfl,rfl⟩
 rintro (_|m2) _ _ ⟨l13,z14,hF,rfl,rfl⟩
 cases hF
 unfold q8r at hF
 obtain ⟨x16,h17,hF⟩:=q00 hF
 refine go ?_
 refine RS.ix h17 ?_
 refine go ?_
 refine cF hF (fun h18 hF=>?_) (fun h18 hF=>?_)
 refine go ?_
 refine WPU.block ?_
 obtain ⟨x19,h20,hF⟩:=q00 hF
 obtain ⟨x21,h22,hF⟩:=q00 hF
 obtain ⟨r23,h24,hF⟩:=q00 hF
 refine go ?_
 refine RS.ix h20 ?_
 refine go ?_
 refine RS.ix h22 ?_
 refine go ?_
 refine RS.cl rfl (pC (q7w n l13 x21.Feat r23 h24) _) fn116 ?_
 refine go ?_
 exact lC ⟨r23,(IntKind.i64.wrap (z14+1)),hF,rfl,rfl⟩
 refine go ?_
 exact xC ⟨l13,hF,rfl,rfl⟩
 refine go ?_
 exact xC ⟨l5,hF,rfl,rfl⟩
def q4l (n:Nat) (p1:List q0p) (p2:Int) (p3:Int):Option (Bool) :=
 q03 (q0l p1 p3) fun x4 =>
 q03 (q0l p1 p2) fun x6 =>
 q03 (q98 n x4.Code x6.Code) fun r8 =>
 some r8
theorem q47 (n:Nat) (p1:List q0p) (p2:Int) (p3:Int) (r:Bool) (hF:q4l n p1 p2 p3=some r):EvU Tryz.prog 100 [.isl false (List.map q0b p1),.int .i64 p2,.int .i64 p3] ⟨[],0⟩ (fun u _=>u = .bool r∧Bel 0 u):=by
 unfold q4l at hF
 refine bg3 18 fn100 ?_
 obtain ⟨x4,h5,hF⟩:=q00 hF
 obtain ⟨x6,h7,hF⟩:=q00 hF
 obtain ⟨r8,h9,hF⟩:=q00 hF
 refine go ?_
 refine z6q Tryz.tb_ok [] (by kernel_rfl) ?_
 refine gd ?_
 refine RD.ix h5 ?_
 refine gd ?_
 refine RD.ix h7 ?_
 refine gd ?_
 refine z6w rfl (pC (q8c n x4.Code x6.Code r8 h9)) fn133 ?_
 refine gd ?_
 refine RD.done ⟨by kernel_rfl,trivial,?_⟩
 exact gx hF
def qb6   : Option (Int) :=
 some (-1)
def q7f (p1:List q0p) (p2:List UInt8):Nat→Int→Option (Int)
 | 0,_=>none
 | m1+1,z6 =>
  cond (decide (z6<(p1.length:Int)))
   (q03 (q0l p1 z6) fun x8 =>
   cond (q1e x8.Name p2)
    (some z6)
    ((q7f p1 p2 m1) (IntKind.i64.wrap (z6+1))))
   (qb6)
def q9a (n:Nat) (p1:List q0p) (p2:List UInt8):Option (Int) :=
 q7f p1 p2 n 0
theorem qco (n:Nat) (p1:List q0p) (p2:List UInt8) (r:Int) (hF:q9a n p1 p2=some r):EvU Tryz.prog 102 [.isl false (List.map q0b p1),.str p2] ⟨[],0⟩ (fun u _=>u = .int .i64 r∧Bel 0 u):=by
 unfold q9a at hF
 refine bg2 20 fn102 ?_
 refine go ?_
 refine gS (l':=[(0,_),(1,_),(5,_)]) ?_
 refine z6o (fun m tm σ=>∃ z6:Int,q7f p1 p2 m z6=some r∧tm=fr 20 [(0,.iM q0b p1),(1,.str p2),(5,.i6 z6)]∧σ=⟨[],0⟩) (fun tm σ=>qb6=some r∧tm=fr 20 []∧σ=⟨[],0⟩) n ⟨0,hF,rfl,rfl⟩ ?_ ?_
 rintro _ _ ⟨hF,rfl,rfl⟩
 unfold qb6 at hF
 exact gx hF
 rintro (_|m1) _ _ ⟨z6,hF,rfl,rfl⟩
 cases hF
 unfold q7f at hF
 refine go ?_
 refine cF hF (fun h7 hF=>?_) (fun h7 hF=>?_)
 refine go ?_
 refine WPU.block ?_
 obtain ⟨x8,h9,hF⟩:=q00 hF
 refine go ?_
 refine RS.ix h9 ?_
 refine go ?_
 refine RS.q (u:=.bool (q1e x8.Name p2)) rfl (q9o rfl rfl rfl rfl) ?_
 refine go ?_
 refine cF hF (fun h10 hF=>?_) (fun h10 hF=>?_)
 exact gx hF
 refine go ?_
 exact lC ⟨_,hF,rfl,rfl⟩
 refine go ?_
 exact xC ⟨hF,rfl,rfl⟩
def q7e  (b17:Bool) (l18:List Int):Option ((List Int)×Bool) :=
 some (l18,b17)
def q3e (p1:List q04) (p2:List q0p) (p3:Int) (p4:List UInt8) (n:Nat):Nat→Bool→(List Int)→Int→Option ((List Int)×Bool)
 | 0,_,_,_=>none
 | m1+1,b14,l15,z16 =>
  cond (decide (z16<(p1.length:Int)))
   (q03 (q0l p1 z16) fun x20 =>
   q03 (qej n x20 p4) fun r22 =>
   q03 (cond (!r22.2)
    (some true)
    (q03 (q0l p1 z16) fun x25 =>
    q03 (q9a n p2 x25.Name) fun r27 =>
    q03 (q4l n p2 r27 p3) fun r29 =>
    some (!r29))) fun b31 =>
   cond b31
    ((q3e p1 p2 p3 p4 n m1) b14 l15 (IntKind.i64.wrap (z16+1)))
    (q03 (q9a n p2 r22.1) fun r34 =>
    q03 (q0l p2 r34) fun x36 =>
    q03 (qj3 n l15 x36.Code) fun r38 =>
    (q3e p1 p2 p3 p4 n m1) true r38 (IntKind.i64.wrap (z16+1))))
   (q7e b14 l15)
def q7d (n:Nat) (p1:List q04) (p2:List q0p) (p3:Int) (p4:List UInt8):Option ((List Int)×Bool) :=
 q03 (q0l p2 0) fun x5 =>
 q3e p1 p2 p3 p4 n n false x5.Code 0
theorem qd6 (n:Nat) (p1:List q04) (p2:List q0p) (p3:Int) (p4:List UInt8) (r:(List Int)×Bool) (hF:q7d n p1 p2 p3 p4=some r):EvU Tryz.prog 92 [.isl false (List.map q01 p1),.isl false (List.map q0b p2),.int .i64 p3,.str p4] ⟨[],0⟩ (fun u _=>u = .tup [.isl false (List.map (cI .u64) r.1),.bool r.2]∧Bel 0 u):=by
 unfold q7d at hF
 refine bg4 60 fn92 ?_
 obtain ⟨x5,h6,hF⟩:=q00 hF
 refine go ?_
 refine RS.ix h6 ?_
 refine go ?_
 refine gS (l':=[(0,_),(1,_),(2,_),(3,_),(10,_),(11,_),(12,_)]) ?_
 refine z6o (fun m tm σ=>∃ b14:Bool,∃ l15:List Int,∃ z16:Int,q3e p1 p2 p3 p4 n m b14 l15 z16=some r∧tm=fr 60 [(0,.iM q01 p1),(1,.iM q0b p2),(2,.i6 p3),(3,.str p4),(10,.bool b14),(11,.iM (cI .u64) l15),(12,.i6 z16)]∧σ=⟨[],0⟩) (fun tm σ=>∃ b17:Bool,∃ l18:List Int,q7e b17 l18=some r∧tm=fr 60 [(10,.bool b17),(11,.iM (cI .u64) l18)]∧σ=⟨[],0⟩) n ⟨false,x5.Code,0,hF,rfl,rfl⟩ ?_ ?_
 rintro _ _ ⟨b17,l18,hF,rfl,rfl⟩
 unfold q7e at hF
 refine go ?_
 obtain rfl:=sI hF
 exact rt2 rfl rfl rfl rfl rfl
 rintro (_|m1) _ _ ⟨b14,l15,z16,hF,rfl,rfl⟩
 cases hF
 unfold q3e at hF
 refine go ?_
 refine cF hF (fun h19 hF=>?_) (fun h19 hF=>?_)
 refine go ?_
 refine WPU.block ?_
 obtain ⟨x20,h21,hF⟩:=q00 hF
 obtain ⟨r22,h23,hF⟩:=q00 hF
 refine go ?_
 refine RS.ix h21 ?_
 refine go ?_
 refine RS.cl rfl (pC (qj9 n x20 p4 r22 h23) _) fn117 ?_
 obtain ⟨b31,h32,hF⟩:=q00 hF
 refine gn ?_
 refine z6p (fun tm σ=>tm=fr 60 [(0,.iM q01 p1),(1,.iM q0b p2),(2,.i6 p3),(3,.str p4),(10,.bool b14),(11,.iM (cI .u64) l15),(12,.i6 z16),(13,.str r22.1),(48,.bool b31)]∧σ=⟨[],0⟩) ?_ ?_
 rintro _ _ ⟨rfl,rfl⟩
 refine go ?_
 refine cF hF (fun h33 hF=>?_) (fun h33 hF=>?_)
 refine go ?_
 exact lC ⟨b14,l15,(IntKind.i64.wrap (z16+1)),hF,rfl,rfl⟩
 obtain ⟨r34,h35,hF⟩:=q00 hF
 obtain ⟨x36,h37,hF⟩:=q00 hF
 obtain ⟨r38,h39,hF⟩:=q00 hF
 refine go ?_
 refine RS.cl rfl (pC (qco n p2 r22.1 r34 h35) _) fn102 ?_
 refine RS.ix h37 ?_
 refine go ?_
 refine RS.cl rfl (pC (qna n l15 x36.Code r38 h39) _) fn118 ?_
 refine go ?_
 exact lC ⟨true,r38,(IntKind.i64.wrap (z16+1)),hF,rfl,rfl⟩
 rcases gB h32 with ⟨h24,h32⟩ | ⟨h24,h32⟩
 exact gy h32
 obtain ⟨x25,h26,h32⟩:=q00 h32
 obtain ⟨r27,h28,h32⟩:=q00 h32
 obtain ⟨r29,h30,h32⟩:=q00 h32
 obtain rfl:=sI h32
 refine go ?_
 refine RS.ix h26 ?_
 refine go ?_
 refine RS.cl rfl (pC (qco n p2 x25.Name r27 h28) _) fn102 ?_
 refine go ?_
 refine RS.cl rfl (pC (q47 n p2 r27 p3 r29 h30) _) fn100 ?_
 refine go ?_
 exact xC ⟨rfl,rfl⟩
 refine go ?_
 exact xC ⟨b14,l15,hF,rfl,rfl⟩
def qcj (z20:Int) (rc2:Int→Option (Int))  : Option (Int) :=
 rc2 (IntKind.i64.wrap (z20+1))
def q8q (p1:List q04) (n:Nat) (r2:(List q0p)×Int) (r5:(List (List UInt8))) (z20:Int) (rc2:Int→Option (Int)):Nat→Int→Option (Int)
 | 0,_=>none
 | m3+1,z27 =>
  cond (decide (z27<(r5.length:Int)))
   (q03 (q0l r5 z27) fun x29 =>
   q03 (q7d n p1 r2.1 z20 x29) fun r31 =>
   q03 (cond r31.2
    (some ((r31.1.length:Int) == 0))
    (some false)) fun b34 =>
   cond b34
    (some 11)
    ((q8q p1 n r2 r5 z20 rc2 m3) (IntKind.i64.wrap (z27+1))))
   (qcj z20 rc2)
def qci   : Option (Int) :=
 some 0
def q4m (p1:List q04) (n:Nat) (r2:(List q0p)×Int) (r5:(List (List UInt8))):Nat→Int→Option (Int)
 | 0,_=>none
 | m2+1,z20 =>
  cond (decide (z20<(r2.1.length:Int)))
   (q8q p1 n r2 r5 z20 (q4m p1 n r2 r5 m2) n 0)
   (qci)
def qch (p1:List q04) (n:Nat) (r2:(List q0p)×Int) (r5:(List (List UInt8)))  : Option (Int) :=
 q4m p1 n r2 r5 n 0
def q8p (p1:List q04) (n:Nat) (r2:(List q0p)×Int) (r5:(List (List UInt8))):Nat→Int→Option (Int)
 | 0,_=>none
 | m1+1,z15 =>
  cond (decide (z15<(r5.length:Int)))
   (q03 (q0l r5 z15) fun x38 =>
   q03 (qei n p1 x38) fun r40 =>
   cond (!r40.2)
    (some 10)
    ((q8p p1 n r2 r5 m1) (IntKind.i64.wrap (z15+1))))
   (qch p1 n r2 r5)
def qeg (n:Nat) (p1:List q04):Option (Int) :=
 q03 (q7y n p1) fun r2 =>
 cond (r2.2 != 0)
  (some r2.2)
  (q03 (qb5 n p1) fun r5 =>
  cond (decide ((r5.length:Int) > 64))
   (some 7)
   (q03 (q7c n p1) fun r8 =>
   cond (r8 != 0)
    (some r8)
    (q8p p1 n r2 r5 n 0)))
theorem qj7 (n:Nat) (p1:List q04) (r:Int) (hF:qeg n p1=some r):EvU Tryz.prog 90 [.isl false (List.map q01 p1)] ⟨[],0⟩ (fun u _=>u = .int .i64 r∧Bel 0 u):=by
 unfold qeg at hF
 refine bg1 78 fn90 ?_
 obtain ⟨r2,h3,hF⟩:=q00 hF
 refine go ?_
 refine RS.cl rfl (pC (qa3 n p1 r2 h3) _) fn72 ?_
 refine go ?_
 refine cF hF (fun h4 hF=>?_) (fun h4 hF=>?_)
 exact gx hF
 obtain ⟨r5,h6,hF⟩:=q00 hF
 refine go ?_
 refine RS.cl rfl (pC (qeh n p1 r5 h6) _) fn91 ?_
 refine go ?_
 refine cF hF (fun h7 hF=>?_) (fun h7 hF=>?_)
 exact gx hF
 obtain ⟨r8,h9,hF⟩:=q00 hF
 refine go ?_
 refine RS.cl rfl (pC (qgs n p1 r8 h9) _) fn115 ?_
 refine go ?_
 refine cF hF (fun h10 hF=>?_) (fun h10 hF=>?_)
 exact gx hF
 refine go ?_
 refine gS (l':=[(0,_),(3,_),(5,_),(7,_)]) ?_
 refine z6o (fun m tm σ=>∃ z15:Int,q8p p1 n r2 r5 m z15=some r∧tm=fr 78 [(0,.iM q01 p1),(3,.iM q0b r2.1),(5,.iM cS r5),(7,.i6 z15)]∧σ=⟨[],0⟩) (fun tm σ=>qch p1 n r2 r5=some r∧tm=fr 78 [(0,.iM q01 p1),(3,.iM q0b r2.1),(5,.iM cS r5)]∧σ=⟨[],0⟩) n ⟨0,hF,rfl,rfl⟩ ?_ ?_
 rintro _ _ ⟨hF,rfl,rfl⟩
 unfold qch at hF
 refine go ?_
 refine gS (l':=[(0,_),(3,_),(5,_),(10,_)]) ?_
 refine z6o (fun m tm σ=>∃ z20:Int,q4m p1 n r2 r5 m z20=some r∧tm=fr 78 [(0,.iM q01 p1),(3,.iM q0b r2.1),(5,.iM cS r5),(10,.i6 z20)]∧σ=⟨[],0⟩) (fun tm σ=>qci=some r∧tm=fr 78 []∧σ=⟨[],0⟩) n ⟨0,hF,rfl,rfl⟩ ?_ ?_
 rintro _ _ ⟨hF,rfl,rfl⟩
 unfold qci at hF
 exact gx hF
 rintro (_|m2) _ _ ⟨z20,hF,rfl,rfl⟩
 cases hF
 unfold q4m at hF
 refine go ?_
 refine cF hF (fun h21 hF=>?_) (fun h21 hF=>?_)
 refine go ?_
 refine WPU.block ?_
 refine go ?_
 refine gS (l':=[(0,_),(3,_),(5,_),(10,_),(11,_)]) ?_
 refine z6o (fun m tm σ=>∃ z27:Int,q8q p1 n r2 r5 z20 (q4m p1 n r2 r5 m2) m z27=some r∧tm=fr 78 [(0,.iM q01 p1),(3,.iM q0b r2.1),(5,.iM cS r5),(10,.i6 z20),(11,.i6 z27)]∧σ=⟨[],0⟩) (fun tm σ=>qcj z20 (q4m p1 n r2 r5 m2)=some r∧tm=fr 78 [(0,.iM q01 p1),(3,.iM q0b r2.1),(5,.iM cS r5),(10,.i6 z20)]∧σ=⟨[],0⟩) n ⟨0,hF,rfl,rfl⟩ ?_ ?_
 rintro _ _ ⟨hF,rfl,rfl⟩
 unfold qcj at hF
 refine go ?_
 exact lC ⟨_,hF,rfl,rfl⟩
 rintro (_|m3) _ _ ⟨z27,hF,rfl,rfl⟩
 cases hF
 unfold q8q at hF
 refine go ?_
 refine cF hF (fun h28 hF=>?_) (fun h28 hF=>?_)
 refine go ?_
 refine WPU.block ?_
 obtain ⟨x29,h30,hF⟩:=q00 hF
 obtain ⟨r31,h32,hF⟩:=q00 hF
 refine go ?_
 refine RS.ix h30 ?_
 refine go ?_
 refine RS.cl rfl (pC (qd6 n p1 r2.1 z20 x29 r31 h32) _) fn92 ?_
 obtain ⟨b34,h35,hF⟩:=q00 hF
 refine gn ?_
 refine z6p (fun tm σ=>tm=fr 78 [(0,.iM q01 p1),(3,.iM q0b r2.1),(5,.iM cS r5),(10,.i6 z20),(11,.i6 z27),(77,.bool b34)]∧σ=⟨[],0⟩) ?_ ?_
 rintro _ _ ⟨rfl,rfl⟩
 refine go ?_
 refine cF hF (fun h36 hF=>?_) (fun h36 hF=>?_)
 exact gx hF
 refine go ?_
 exact lC ⟨_,hF,rfl,rfl⟩
 rcases gB h35 with ⟨h33,h35⟩ | ⟨h33,h35⟩
 exact gy h35
 exact gy h35
 refine go ?_
 exact xC ⟨hF,rfl,rfl⟩
 refine go ?_
 exact xC ⟨hF,rfl,rfl⟩
 rintro (_|m1) _ _ ⟨z15,hF,rfl,rfl⟩
 cases hF
 unfold q8p at hF
 refine go ?_
 refine cF hF (fun h37 hF=>?_) (fun h37 hF=>?_)
 refine go ?_
 refine WPU.block ?_
 obtain ⟨x38,h39,hF⟩:=q00 hF
 obtain ⟨r40,h41,hF⟩:=q00 hF
 refine go ?_
 refine RS.ix h39 ?_
 refine go ?_
 refine RS.cl rfl (pC (qj8 n p1 x38 r40 h41) _) fn101 ?_
 refine go ?_
 refine cF hF (fun h42 hF=>?_) (fun h42 hF=>?_)
 exact gx hF
 refine go ?_
 exact lC ⟨_,hF,rfl,rfl⟩
 refine go ?_
 exact xC ⟨hF,rfl,rfl⟩
def qeb   : Option (Int) :=
 some (-1)
def qa4 (p1:List q0p) (n:Nat) (r3:(List Int)):Nat→Int→Option (Int)
 | 0,_=>none
 | m1+1,z8 =>
  cond (decide (z8<(p1.length:Int)))
   (q03 (q0l p1 z8) fun x10 =>
   q03 (qgf n x10.Code r3) fun r12 =>
   cond r12
    (some z8)
    ((qa4 p1 n r3 m1) (IntKind.i64.wrap (z8+1))))
   (qeb)
def qkf (n:Nat) (p1:List q0p) (p2:List Int):Option (Int) :=
 q03 (q6p n p2) fun r3 =>
 qa4 p1 n r3 n 0
theorem qs7 (n:Nat) (p1:List q0p) (p2:List Int) (r:Int) (hF:qkf n p1 p2=some r):EvU Tryz.prog 93 [.isl false (List.map q0b p1),.isl false (List.map (cI .u64) p2)] ⟨[],0⟩ (fun u _=>u = .int .i64 r∧Bel 0 u):=by
 unfold qkf at hF
 refine bg2 23 fn93 ?_
 obtain ⟨r3,h4,hF⟩:=q00 hF
 refine go ?_
 refine RS.cl rfl (pC (q8a n p2 r3 h4) _) fn119 ?_
 refine go ?_
 refine gS (l':=[(0,_),(5,_),(6,_)]) ?_
 refine z6o (fun m tm σ=>∃ z8:Int,qa4 p1 n r3 m z8=some r∧tm=fr 23 [(0,.iM q0b p1),(5,.iM (cI .u64) r3),(6,.i6 z8)]∧σ=⟨[],0⟩) (fun tm σ=>qeb=some r∧tm=fr 23 []∧σ=⟨[],0⟩) n ⟨0,hF,rfl,rfl⟩ ?_ ?_
 rintro _ _ ⟨hF,rfl,rfl⟩
 unfold qeb at hF
 exact gx hF
 rintro (_|m1) _ _ ⟨z8,hF,rfl,rfl⟩
 cases hF
 unfold qa4 at hF
 refine go ?_
 refine cF hF (fun h9 hF=>?_) (fun h9 hF=>?_)
 refine go ?_
 refine WPU.block ?_
 obtain ⟨x10,h11,hF⟩:=q00 hF
 obtain ⟨r12,h13,hF⟩:=q00 hF
 refine go ?_
 refine RS.ix h11 ?_
 refine go ?_
 refine RS.cl rfl (pC (ql2 n x10.Code r3 r12 h13) _) fn120 ?_
 refine go ?_
 refine cF hF (fun h14 hF=>?_) (fun h14 hF=>?_)
 exact gx hF
 refine go ?_
 exact lC ⟨_,hF,rfl,rfl⟩
 refine go ?_
 exact xC ⟨hF,rfl,rfl⟩
def q7b (z30:Int) (rc2:Int→(List q0x)→Option ((List (List q0x))×Int)) (l42:List q0x):Option ((List (List q0x))×Int) :=
 rc2 (IntKind.i64.wrap (z30+1)) l42
def qb4 (z15:Int) (l16:List (List q0x)) (rc1:Int→(List (List q0x))→Option ((List (List q0x))×Int)) (l33:List q0x):Option ((List (List q0x))×Int) :=
 q0w ((l16.length+1)*24≤140737488355328∧l16.length+1≤140737488355328) (
 rc1 (IntKind.i64.wrap (z15+1)) (l16++[l33]))
def q3w (p1:List q04) (n:Nat) (r5:(List q0p)×Int) (r7:(List (List UInt8))) (z15:Int) (l16:List (List q0x)) (rc1:Int→(List (List q0x))→Option ((List (List q0x))×Int)):Nat→Int→(List q0x)→Option ((List (List q0x))×Int)
 | 0,_,_=>none
 | m2+1,z30,l31 =>
  cond (decide (z30<(r7.length:Int)))
   (q03 (q0l r7 z30) fun x37 =>
   q03 (q7d n p1 r5.1 z15 x37) fun r39 =>
   cond r39.2
    (q03 (qkf n r5.1 r39.1) fun r44 =>
    q0w ((l31.length+1)*16≤140737488355328∧l31.length+1≤140737488355328) (
    q7b z30 (q3w p1 n r5 r7 z15 l16 rc1 m2) (l31++[(q0x.mk z30 r44)])))
    (q7b z30 (q3w p1 n r5 r7 z15 l16 rc1 m2) l31))
   (qb4 z15 l16 rc1 l31)
def qb3  (l18:List (List q0x)):Option ((List (List q0x))×Int) :=
 some (l18,0)
def q2z (p1:List q04) (n:Nat) (r5:(List q0p)×Int) (r7:(List (List UInt8))):Nat→Int→(List (List q0x))→Option ((List (List q0x))×Int)
 | 0,_,_=>none
 | m1+1,z15,l16 =>
  cond (decide (z15<(r5.1.length:Int)))
   (q3w p1 n r5 r7 z15 l16 (q2z p1 n r5 r7 m1) n 0 ([]:List q0x))
   (qb3 l16)
def qfw (n:Nat) (p1:List q04):Option ((List (List q0x))×Int) :=
 q03 (qeg n p1) fun r2 =>
 cond (r2 != 0)
  (some ([],r2))
  (q03 (q7y n p1) fun r5 =>
  q03 (qb5 n p1) fun r7 =>
  q2z p1 n r5 r7 n 0 ([]:List (List q0x)))
theorem qo5 (n:Nat) (p1:List q04) (r:(List (List q0x))×Int) (hF:qfw n p1=some r):EvU Tryz.prog 71 [.isl false (List.map q01 p1)] ⟨[],0⟩ (fun u _=>u = .tup [.isl false (List.map (cL q1p) r.1),.int .i64 r.2]∧Bel 0 u):=by
 unfold qfw at hF
 refine bg1 63 fn71 ?_
 obtain ⟨r2,h3,hF⟩:=q00 hF
 refine go ?_
 refine RS.cl rfl (pC (qj7 n p1 r2 h3) _) fn90 ?_
 refine go ?_
 refine cF hF (fun h4 hF=>?_) (fun h4 hF=>?_)
 refine go ?_
 obtain rfl:=sI hF
 exact rT (us:=[.nils,.i6 r2]) (u:=.tup [.isl false [],.i6 r2]) (q1y rfl (q1y rfl (q1t))) wR
 obtain ⟨r5,h6,hF⟩:=q00 hF
 refine go ?_
 refine RS.cl rfl (pC (qa3 n p1 r5 h6) _) fn72 ?_
 obtain ⟨r7,h8,hF⟩:=q00 hF
 refine go ?_
 refine RS.cl rfl (pC (qeh n p1 r7 h8) _) fn91 ?_
 refine gr ?_
 refine gr ?_
 refine WPU.ghost (tm':=fr 63 [(0,.iM q01 p1),(5,.iM q0b r5.1),(7,.iM cS r7),(8,.vl 0 0 0 (([]:List (List q0x)).length)),(9,.i6 0)]) (σ':=⟨[(0,.vec (List.map (cL q1p) ([]:List (List q0x))).flatten 107 1 0)],1⟩) (Gh.trans (z6u 8 107 1 (by decide) NZ rfl rfl) (z6s ⟨rfl,rfl,rfl,rfl,rfl,trivial⟩ rfl)) NZ ?_
 refine gS (l':=[(0,_),(5,_),(7,_),(8,_),(9,_)]) ?_
 refine z6o (fun m tm σ=>∃ z15:Int,∃ l16:List (List q0x),∃ t17:Nat,q2z p1 n r5 r7 m z15 l16=some r∧tm=fr 63 [(0,.iM q01 p1),(5,.iM q0b r5.1),(7,.iM cS r7),(8,.vl 0 t17 0 l16.length),(9,.i6 z15)]∧σ=⟨[(0,.vec (List.map (cL q1p) l16).flatten 107 1 t17)],1⟩) (fun tm σ=>∃ l18:List (List q0x),∃ t19:Nat,qb3 l18=some r∧tm=fr 63 [(8,.vl 0 t19 0 l18.length)]∧σ=⟨[(0,.vec (List.map (cL q1p) l18).flatten 107 1 t19)],1⟩) n ⟨0,([]:List (List q0x)),0,hF,rfl,rfl⟩ ?_ ?_
 rintro _ _ ⟨l18,t19,hF,rfl,rfl⟩
 unfold qb3 at hF
 refine go ?_
 obtain rfl:=sI hF
 exact rT (us:=[.vl 0 t19 0 l18.length,.i6 0]) (u:=.tup [.iM (cL q1p) l18,.i6 0]) (q1y rfl (q1y rfl (q1t))) (fR 0 1)
 rintro (_|m1) _ _ ⟨z15,l16,t17,hF,rfl,rfl⟩
 cases hF
 unfold q2z at hF
 refine go ?_
 refine cF hF (fun h20 hF=>?_) (fun h20 hF=>?_)
 refine go ?_
 refine WPU.block ?_
 refine gr ?_
 refine gr ?_
 refine WPU.ghost (tm':=fr 63 [(0,.iM q01 p1),(5,.iM q0b r5.1),(7,.iM cS r7),(8,.vl 0 t17 0 l16.length),(9,.i6 z15),(10,.vl 1 0 0 (([]:List q0x).length)),(11,.i6 0)]) (σ':=⟨[(1,.vec (List.map q1p ([]:List q0x)).flatten 147 2 0),(0,.vec (List.map (cL q1p) l16).flatten 107 1 t17)],2⟩) (Gh.trans (z6u 10 147 2 (by decide) NZ rfl rfl) (z6s ⟨rfl,rfl,rfl,rfl,rfl,rfl,rfl,trivial⟩ rfl)) NZ ?_
 refine gS (l':=[(0,_),(5,_),(7,_),(8,_),(9,_),(10,_),(11,_)]) ?_
 refine z6o (fun m tm σ=>∃ z30:Int,∃ l31:List q0x,∃ t32:Nat,q3w p1 n r5 r7 z15 l16 (q2z p1 n r5 r7 m1) m z30 l31=some r∧tm=fr 63 [(0,.iM q01 p1),(5,.iM q0b r5.1),(7,.iM cS r7),(8,.vl 0 t17 0 l16.length),(9,.i6 z15),(10,.vl 1 t32 0 l31.length),(11,.i6 z30)]∧σ=⟨[(1,.vec (List.map q1p l31).flatten 147 2 t32),(0,.vec (List.map (cL q1p) l16).flatten 107 1 t17)],2⟩) (fun tm σ=>∃ l33:List q0x,∃ t34:Nat,qb4 z15 l16 (q2z p1 n r5 r7 m1) l33=some r∧tm=fr 63 [(0,.iM q01 p1),(5,.iM q0b r5.1),(7,.iM cS r7),(8,.vl 0 t17 0 l16.length),(9,.i6 z15),(10,.vl 1 t34 0 l33.length)]∧σ=⟨[(1,.vec (List.map q1p l33).flatten 147 2 t34),(0,.vec (List.map (cL q1p) l16).flatten 107 1 t17)],2⟩) n ⟨0,([]:List q0x),0,hF,rfl,rfl⟩ ?_ ?_
 rintro _ _ ⟨l33,t34,hF,rfl,rfl⟩
 unfold qb4 at hF
 refine gn ?_
 refine WPU.ghost (tm':=fr 63 [(0,.iM q01 p1),(5,.iM q0b r5.1),(7,.iM cS r7),(8,.vl 0 t17 0 l16.length),(9,.i6 z15),(10,.iM q1p l33)]) (σ':=⟨[(0,.vec (List.map (cL q1p) l16).flatten 107 1 t17)],2⟩) (Gh.trans (Gh.sub (l':=[(0,.iM q01 p1),(5,.iM q0b r5.1),(7,.iM cS r7),(8,.vl 0 t17 0 l16.length),(9,.i6 z15),(10,.vl 1 t34 0 l33.length)]) ⟨rfl,rfl,rfl,rfl,rfl,rfl,trivial⟩) (z7a 1 2)) NZ ?_
 obtain ⟨h35,hF⟩:=q06 hF
 refine go ?_
 refine RS.g ?_
 refine RS.g ?_
 refine go ?_
 exact lC ⟨_,(l16++[l33]),(t17+1),hF,rfl,rfl⟩
 rintro (_|m2) _ _ ⟨z30,l31,t32,hF,rfl,rfl⟩
 cases hF
 unfold q3w at hF
 refine go ?_
 refine cF hF (fun h36 hF=>?_) (fun h36 hF=>?_)
 refine go ?_
 refine WPU.block ?_
 obtain ⟨x37,h38,hF⟩:=q00 hF
 obtain ⟨r39,h40,hF⟩:=q00 hF
 refine go ?_
 refine RS.ix h38 ?_
 refine go ?_
 refine RS.cl rfl (pC (qd6 n p1 r5.1 z15 x37 r39 h40) _) fn92 ?_
 refine gr ?_
 refine z6p (fun tm σ=>∃ l42:List q0x,∃ t43:Nat,q7b z30 (q3w p1 n r5 r7 z15 l16 (q2z p1 n r5 r7 m1) m2) l42=some r∧tm=fr 63 [(0,.iM q01 p1),(5,.iM q0b r5.1),(7,.iM cS r7),(8,.vl 0 t17 0 l16.length),(9,.i6 z15),(10,.vl 1 t43 0 l42.length),(11,.i6 z30)]∧σ=⟨[(1,.vec (List.map q1p l42).flatten 147 2 t43),(0,.vec (List.map (cL q1p) l16).flatten 107 1 t17)],2⟩) ?_ ?_
 rintro _ _ ⟨l42,t43,hF,rfl,rfl⟩
 unfold q7b at hF
 refine go ?_
 exact lC ⟨_,l42,t43,hF,rfl,rfl⟩
 refine cF hF (fun h41 hF=>?_) (fun h41 hF=>?_)
 obtain ⟨r44,h45,hF⟩:=q00 hF
 obtain ⟨h46,hF⟩:=q06 hF
 refine go ?_
 refine RS.cl rfl (pC (qs7 n r5.1 r39.1 r44 h45) _) fn93 ?_
 refine go ?_
 refine RS.g ?_
 refine RS.g ?_
 refine go ?_
 exact xC ⟨(l31++[(q0x.mk z30 r44)]),(t32+1),hF,rfl,rfl⟩
 refine go ?_
 exact xC ⟨l31,t32,hF,rfl,rfl⟩
 refine go ?_
 exact xC ⟨l31,t32,hF,rfl,rfl⟩
 refine go ?_
 exact xC ⟨l16,t17,hF,rfl,rfl⟩
def q78 (z8:Int) (rc1:Int→(List Int)→Option ((List Int))) (l31:List Int):Option ((List Int)) :=
 rc1 (IntKind.i64.wrap (z8+1)) l31
def qb0 (z8:Int) (l9:List Int) (rc1:Int→(List Int)→Option ((List Int))) (b29:Bool):Option ((List Int)) :=
 cond b29
  (q0w ((l9.length+1)*8≤140737488355328∧l9.length+1≤140737488355328) (
  q78 z8 rc1 (l9++[z8])))
  (q78 z8 rc1 l9)
def q79 (p1:List q0p) (p2:Int) (n:Nat) (z8:Int) (l9:List Int) (rc1:Int→(List Int)→Option ((List Int))):Nat→Bool→Int→Option ((List Int))
 | 0,_,_=>none
 | m2+1,b27,z28 =>
  cond (decide (z28<(p1.length:Int)))
   (q03 (cond b27
    (cond (z28 == p2)
     (some true)
     (cond (z28 == z8)
      (some true)
      (q03 (q4l n p1 z8 z28) fun r38 =>
      cond (!r38)
       (some true)
       (q03 (q4l n p1 z28 p2) fun r41 =>
       some (!r41)))))
    (some false)) fun b43 =>
   (q79 p1 p2 n z8 l9 rc1 m2) b43 (IntKind.i64.wrap (z28+1)))
   (qb0 z8 l9 rc1 b27)
def qaz  (l11:List Int):Option ((List Int)) :=
 some l11
def q2f (p1:List q0p) (p2:Int) (n:Nat):Nat→Int→(List Int)→Option ((List Int))
 | 0,_,_=>none
 | m1+1,z8,l9 =>
  cond (decide (z8<(p1.length:Int)))
   (q03 (cond (z8 == p2)
    (some true)
    (q03 (q4l n p1 z8 p2) fun r15 =>
    some (!r15))) fun b17 =>
   cond b17
    ((q2f p1 p2 n m1) (IntKind.i64.wrap (z8+1)) l9)
    (q79 p1 p2 n z8 l9 (q2f p1 p2 n m1) n true 0))
   (qaz l9)
def qft (n:Nat) (p1:List q0p) (p2:Int):Option ((List Int)) :=
 q2f p1 p2 n n 0 ([]:List Int)
theorem qo2 (n:Nat) (p1:List q0p) (p2:Int) (r:(List Int)) (hF:qft n p1 p2=some r):EvU Tryz.prog 73 [.isl false (List.map q0b p1),.int .i64 p2] ⟨[],0⟩ (fun u _=>u = .isl false (List.map (cI .i64) r)∧Bel 0 u):=by
 unfold qft at hF
 refine bg2 62 fn73 ?_
 refine gr ?_
 refine gr ?_
 refine gr ?_
 refine WPU.ghost (tm':=fr 62 [(0,.iM q0b p1),(1,.i6 p2),(5,.vl 0 0 0 (([]:List Int).length)),(6,.i6 0)]) (σ':=⟨[(0,.vec (List.map (cI .i64) ([]:List Int)).flatten 3 1 0)],1⟩) (Gh.trans (z6u 5 3 1 (by decide) NZ rfl rfl) (z6s ⟨rfl,rfl,rfl,rfl,trivial⟩ rfl)) NZ ?_
 refine gS (l':=[(0,_),(1,_),(5,_),(6,_)]) ?_
 refine z6o (fun m tm σ=>∃ z8:Int,∃ l9:List Int,∃ t10:Nat,q2f p1 p2 n m z8 l9=some r∧tm=fr 62 [(0,.iM q0b p1),(1,.i6 p2),(5,.vl 0 t10 0 l9.length),(6,.i6 z8)]∧σ=⟨[(0,.vec (List.map (cI .i64) l9).flatten 3 1 t10)],1⟩) (fun tm σ=>∃ l11:List Int,∃ t12:Nat,qaz l11=some r∧tm=fr 62 [(5,.vl 0 t12 0 l11.length)]∧σ=⟨[(0,.vec (List.map (cI .i64) l11).flatten 3 1 t12)],1⟩) n ⟨0,([]:List Int),0,hF,rfl,rfl⟩ ?_ ?_
 rintro _ _ ⟨l11,t12,hF,rfl,rfl⟩
 unfold qaz at hF
 refine go ?_
 obtain rfl:=sI hF
 exact rT (us:=[.vl 0 t12 0 l11.length]) (u:=.iM (cI .i64) l11) (q1y rfl (q1t)) (fR 0 1)
 rintro (_|m1) _ _ ⟨z8,l9,t10,hF,rfl,rfl⟩
 cases hF
 unfold q2f at hF
 refine go ?_
 refine cF hF (fun h13 hF=>?_) (fun h13 hF=>?_)
 refine go ?_
 refine WPU.block ?_
 obtain ⟨b17,h18,hF⟩:=q00 hF
 refine gn ?_
 refine z6p (fun tm σ=>tm=fr 62 [(0,.iM q0b p1),(1,.i6 p2),(5,.vl 0 t10 0 l9.length),(6,.i6 z8),(24,.bool b17)]∧σ=⟨[(0,.vec (List.map (cI .i64) l9).flatten 3 1 t10)],1⟩) ?_ ?_
 rintro _ _ ⟨rfl,rfl⟩
 refine go ?_
 refine cF hF (fun h19 hF=>?_) (fun h19 hF=>?_)
 refine go ?_
 exact lC ⟨_,l9,t10,hF,rfl,rfl⟩
 refine go ?_
 refine gS (l':=[(0,_),(1,_),(5,_),(6,_),(7,_),(8,_)]) ?_
 refine z6o (fun m tm σ=>∃ b27:Bool,∃ z28:Int,q79 p1 p2 n z8 l9 (q2f p1 p2 n m1) m b27 z28=some r∧tm=fr 62 [(0,.iM q0b p1),(1,.i6 p2),(5,.vl 0 t10 0 l9.length),(6,.i6 z8),(7,.bool b27),(8,.i6 z28)]∧σ=⟨[(0,.vec (List.map (cI .i64) l9).flatten 3 1 t10)],1⟩) (fun tm σ=>∃ b29:Bool,qb0 z8 l9 (q2f p1 p2 n m1) b29=some r∧tm=fr 62 [(0,.iM q0b p1),(1,.i6 p2),(5,.vl 0 t10 0 l9.length),(6,.i6 z8),(7,.bool b29)]∧σ=⟨[(0,.vec (List.map (cI .i64) l9).flatten 3 1 t10)],1⟩) n ⟨true,0,hF,rfl,rfl⟩ ?_ ?_
 rintro _ _ ⟨b29,hF,rfl,rfl⟩
 unfold qb0 at hF
 refine gr ?_
 refine z6p (fun tm σ=>∃ l31:List Int,∃ t32:Nat,q78 z8 (q2f p1 p2 n m1) l31=some r∧tm=fr 62 [(0,.iM q0b p1),(1,.i6 p2),(5,.vl 0 t32 0 l31.length),(6,.i6 z8)]∧σ=⟨[(0,.vec (List.map (cI .i64) l31).flatten 3 1 t32)],1⟩) ?_ ?_
 rintro _ _ ⟨l31,t32,hF,rfl,rfl⟩
 unfold q78 at hF
 refine go ?_
 exact lC ⟨_,l31,t32,hF,rfl,rfl⟩
 refine cF hF (fun h30 hF=>?_) (fun h30 hF=>?_)
 obtain ⟨h33,hF⟩:=q06 hF
 refine go ?_
 refine RS.g ?_
 refine RS.g ?_
 refine go ?_
 exact xC ⟨(l9++[z8]),(t10+1),hF,rfl,rfl⟩
 refine go ?_
 exact xC ⟨l9,t10,hF,rfl,rfl⟩
 rintro (_|m2) _ _ ⟨b27,z28,hF,rfl,rfl⟩
 cases hF
 unfold q79 at hF
 refine go ?_
 refine cF hF (fun h34 hF=>?_) (fun h34 hF=>?_)
 refine go ?_
 refine WPU.block ?_
 obtain ⟨b43,h44,hF⟩:=q00 hF
 refine gn ?_
 refine z6p (fun tm σ=>tm=fr 62 [(0,.iM q0b p1),(1,.i6 p2),(5,.vl 0 t10 0 l9.length),(6,.i6 z8),(7,.bool b43),(8,.i6 z28)]∧σ=⟨[(0,.vec (List.map (cI .i64) l9).flatten 3 1 t10)],1⟩) ?_ ?_
 rintro _ _ ⟨rfl,rfl⟩
 refine go ?_
 exact lC ⟨b43,(IntKind.i64.wrap (z28+1)),hF,rfl,rfl⟩
 rcases gB h44 with ⟨h35,h44⟩ | ⟨h35,h44⟩
 rcases gB h44 with ⟨h36,h44⟩ | ⟨h36,h44⟩
 exact gy h44
 rcases gB h44 with ⟨h37,h44⟩ | ⟨h37,h44⟩
 exact gy h44
 obtain ⟨r38,h39,h44⟩:=q00 h44
 rcases gB h44 with ⟨h40,h44⟩ | ⟨h40,h44⟩
 obtain rfl:=sI h44
 refine go ?_
 refine RS.cl rfl (pC (q47 n p1 z8 z28 r38 h39) _) fn100 ?_
 refine go ?_
 exact xC ⟨rfl,rfl⟩
 obtain ⟨r41,h42,h44⟩:=q00 h44
 obtain rfl:=sI h44
 refine go ?_
 refine RS.cl rfl (pC (q47 n p1 z8 z28 r38 h39) _) fn100 ?_
 refine go ?_
 refine RS.cl rfl (pC (q47 n p1 z28 p2 r41 h42) _) fn100 ?_
 refine go ?_
 exact xC ⟨rfl,rfl⟩
 obtain rfl:=sI h44
 refine go ?_
 repeat refine RS.no (qlj rfl rfl rfl) rfl rfl ?_
 refine go ?_
 repeat refine RS.no (qlj rfl rfl rfl) rfl rfl ?_
 refine go ?_
 repeat refine RS.no (qlj rfl rfl rfl) rfl rfl ?_
 refine go ?_
 exact xC ⟨rfl,rfl⟩
 refine go ?_
 exact xC ⟨b27,hF,rfl,rfl⟩
 rcases gB h18 with ⟨h14,h18⟩ | ⟨h14,h18⟩
 exact gy h18
 obtain ⟨r15,h16,h18⟩:=q00 h18
 obtain rfl:=sI h18
 refine go ?_
 refine RS.cl rfl (pC (q47 n p1 z8 p2 r15 h16) _) fn100 ?_
 refine go ?_
 exact xC ⟨rfl,rfl⟩
 refine go ?_
 exact xC ⟨l9,t10,hF,rfl,rfl⟩
def q7z  (l18:List q1o):Option ((List q1o)×Int) :=
 some (l18,0)
def q5o (p1:List q04) (n:Nat) (r5:(List q0p)×Int) (r7:(List (List UInt8))):Nat→Int→(List q1o)→Option ((List q1o)×Int)
 | 0,_,_=>none
 | m1+1,z15,l16 =>
  cond (decide (z15<(r7.length:Int)))
   (q03 (q0l r7 z15) fun x21 =>
   q03 (qei n p1 x21) fun r23 =>
   q03 (q0l r7 z15) fun x25 =>
   q03 (q9a n r5.1 r23.1) fun r27 =>
   q0w ((l16.length+1)*24≤140737488355328∧l16.length+1≤140737488355328) (
   (q5o p1 n r5 r7 m1) (IntKind.i64.wrap (z15+1)) (l16++[(q1o.mk x25 r27)])))
   (q7z l16)
def qck (n:Nat) (p1:List q04):Option ((List q1o)×Int) :=
 q03 (qeg n p1) fun r2 =>
 cond (r2 != 0)
  (some ([],r2))
  (q03 (q7y n p1) fun r5 =>
  q03 (qb5 n p1) fun r7 =>
  q5o p1 n r5 r7 n 0 ([]:List q1o))
theorem qlh (n:Nat) (p1:List q04) (r:(List q1o)×Int) (hF:qck n p1=some r):EvU Tryz.prog 74 [.isl false (List.map q01 p1)] ⟨[],0⟩ (fun u _=>u = .tup [.isl false (List.map q2u r.1),.int .i64 r.2]∧Bel 0 u):=by
 unfold qck at hF
 refine bg1 51 fn74 ?_
 obtain ⟨r2,h3,hF⟩:=q00 hF
 refine go ?_
 refine RS.cl rfl (pC (qj7 n p1 r2 h3) _) fn90 ?_
 refine go ?_
 refine cF hF (fun h4 hF=>?_) (fun h4 hF=>?_)
 refine go ?_
 obtain rfl:=sI hF
 exact rT (us:=[.nils,.i6 r2]) (u:=.tup [.isl false [],.i6 r2]) (q1y rfl (q1y rfl (q1t))) wR
 obtain ⟨r5,h6,hF⟩:=q00 hF
 refine go ?_
 refine RS.cl rfl (pC (qa3 n p1 r5 h6) _) fn72 ?_
 obtain ⟨r7,h8,hF⟩:=q00 hF
 refine go ?_
 refine RS.cl rfl (pC (qeh n p1 r7 h8) _) fn91 ?_
 refine gr ?_
 refine gr ?_
 refine WPU.ghost (tm':=fr 51 [(0,.iM q01 p1),(5,.iM q0b r5.1),(7,.iM cS r7),(8,.vl 0 0 0 (([]:List q1o).length)),(9,.i6 0)]) (σ':=⟨[(0,.vec (List.map q2u ([]:List q1o)).flatten 82 2 0)],1⟩) (Gh.trans (z6u 8 82 2 (by decide) NZ rfl rfl) (z6s ⟨rfl,rfl,rfl,rfl,rfl,trivial⟩ rfl)) NZ ?_
 refine gS (l':=[(0,_),(5,_),(7,_),(8,_),(9,_)]) ?_
 refine z6o (fun m tm σ=>∃ z15:Int,∃ l16:List q1o,∃ t17:Nat,q5o p1 n r5 r7 m z15 l16=some r∧tm=fr 51 [(0,.iM q01 p1),(5,.iM q0b r5.1),(7,.iM cS r7),(8,.vl 0 t17 0 l16.length),(9,.i6 z15)]∧σ=⟨[(0,.vec (List.map q2u l16).flatten 82 2 t17)],1⟩) (fun tm σ=>∃ l18:List q1o,∃ t19:Nat,q7z l18=some r∧tm=fr 51 [(8,.vl 0 t19 0 l18.length)]∧σ=⟨[(0,.vec (List.map q2u l18).flatten 82 2 t19)],1⟩) n ⟨0,([]:List q1o),0,hF,rfl,rfl⟩ ?_ ?_
 rintro _ _ ⟨l18,t19,hF,rfl,rfl⟩
 unfold q7z at hF
 refine go ?_
 obtain rfl:=sI hF
 exact rT (us:=[.vl 0 t19 0 l18.length,.i6 0]) (u:=.tup [.iM q2u l18,.i6 0]) (q1y rfl (q1y rfl (q1t))) (fR 0 2)
 rintro (_|m1) _ _ ⟨z15,l16,t17,hF,rfl,rfl⟩
 cases hF
 unfold q5o at hF
 refine go ?_
 refine cF hF (fun h20 hF=>?_) (fun h20 hF=>?_)
 refine go ?_
 refine WPU.block ?_
 obtain ⟨x21,h22,hF⟩:=q00 hF
 obtain ⟨r23,h24,hF⟩:=q00 hF
 refine go ?_
 refine RS.ix h22 ?_
 refine go ?_
 refine RS.cl rfl (pC (qj8 n p1 x21 r23 h24) _) fn101 ?_
 obtain ⟨x25,h26,hF⟩:=q00 hF
 obtain ⟨r27,h28,hF⟩:=q00 hF
 obtain ⟨h29,hF⟩:=q06 hF
 refine go ?_
 refine z6q Tryz.tb_ok [(0,9)] (by kernel_rfl) ?_
 refine gd ?_
 refine RD.ix h26 ?_
 refine gd ?_
 refine z6w rfl (pC (qco n r5.1 r23.1 r27 h28)) fn102 ?_
 refine gd ?_
 refine RD.g ?_
 refine RD.g ?_
 refine gd ?_
 refine RD.done ⟨by kernel_rfl,⟨q3h rfl,trivial⟩,?_⟩
 refine go ?_
 exact lC ⟨_,(l16++[(q1o.mk x25 r27)]),(t17+1),hF,rfl,rfl⟩
 refine go ?_
 exact xC ⟨l16,t17,hF,rfl,rfl⟩
def q9k (p1:List q04) (n:Nat) (l16:List qh4):Option (q0r×Int) :=
 q03 (qck n p1) fun r18 =>
 some ((q0r.mk l16 r18.1),0)
def q6b (p1:List q04) (n:Nat) (r2:(List (List q0x))×Int) (r5:(List q0p)×Int):Nat→Int→(List qh4)→Option (q0r×Int)
 | 0,_,_=>none
 | m1+1,z13,l14 =>
  cond (decide (z13<(r5.1.length:Int)))
   (q03 (q0l r5.1 z13) fun x21 =>
   q03 (q0l r5.1 z13) fun x23 =>
   q03 (qft n r5.1 z13) fun r25 =>
   q03 (q0l r2.1 z13) fun x27 =>
   q0w ((l14.length+1)*88≤140737488355328∧l14.length+1≤140737488355328) (
   (q6b p1 n r2 r5 m1) (IntKind.i64.wrap (z13+1)) (l14++[(qh4.mk x21.Name x23.Code r25 x27)])))
   (q9k p1 n l14)
def qek (n:Nat) (p1:List q04):Option (q0r×Int) :=
 q03 (qfw n p1) fun r2 =>
 cond (r2.2 != 0)
  (some ((q0r.mk [] []),r2.2))
  (q03 (q7y n p1) fun r5 =>
  q6b p1 n r2 r5 n 0 ([]:List qh4))
theorem qnc (n:Nat) (p1:List q04) (r:q0r×Int) (hF:qek n p1=some r):EvU Tryz.prog 51 [.isl false (List.map q01 p1)] ⟨[],0⟩ (fun u _=>u = .tup [.agg (q0h r.1),.int .i64 r.2]∧Bel 0 u):=by
 unfold qek at hF
 refine bg1 63 fn51 ?_
 obtain ⟨r2,h3,hF⟩:=q00 hF
 refine go ?_
 refine RS.cl rfl (pC (qo5 n p1 r2 h3) _) fn71 ?_
 refine go ?_
 refine cF hF (fun h4 hF=>?_) (fun h4 hF=>?_)
 refine go ?_
 obtain rfl:=sI hF
 exact rT (us:=[.agg [.nils,.nils],.i6 r2.2]) (u:=.tup [.agg [.isl false [],.isl false []],.i6 r2.2]) (qd9 (q61 un43.h rfl (q0i if43.h) rfl rfl rfl) (q1y rfl (q1t))) wR
 obtain ⟨r5,h6,hF⟩:=q00 hF
 refine go ?_
 refine RS.cl rfl (pC (qa3 n p1 r5 h6) _) fn72 ?_
 refine gr ?_
 refine gr ?_
 refine WPU.ghost (tm':=fr 63 [(0,.iM q01 p1),(2,.ptr 0 0 0),(4,.iM (cL q1p) r2.1),(6,.iM q0b r5.1),(8,.ptr 1 0 0),(9,.i6 0)]) (σ':=⟨[(2,.vec (List.map qf3 ([]:List qh4)).flatten 109 4 0),(1,.row [.vl 2 0 0 (([]:List qh4).length),.nils] 43),(0,.row [.nils,.nils] 43)],3⟩) (Gh.trans (z73 1 0 109 4 (by decide) NZ rfl rfl) (z6s ⟨rfl,rfl,rfl,rfl,rfl,rfl,trivial⟩ rfl)) NZ ?_
 refine gS (l':=[(0,_),(2,_),(4,_),(6,_),(8,_),(9,_)]) ?_
 refine z6o (fun m tm σ=>∃ z13:Int,∃ l14:List qh4,∃ t15:Nat,q6b p1 n r2 r5 m z13 l14=some r∧tm=fr 63 [(0,.iM q01 p1),(2,.ptr 0 0 0),(4,.iM (cL q1p) r2.1),(6,.iM q0b r5.1),(8,.ptr 1 0 0),(9,.i6 z13)]∧σ=⟨[(2,.vec (List.map qf3 l14).flatten 109 4 t15),(1,.row [.vl 2 t15 0 l14.length,.nils] 43),(0,.row [.nils,.nils] 43)],3⟩) (fun tm σ=>∃ l16:List qh4,∃ t17:Nat,q9k p1 n l16=some r∧tm=fr 63 [(0,.iM q01 p1),(2,.ptr 0 0 0),(8,.ptr 1 0 0)]∧σ=⟨[(2,.vec (List.map qf3 l16).flatten 109 4 t17),(1,.row [.vl 2 t17 0 l16.length,.nils] 43),(0,.row [.nils,.nils] 43)],3⟩) n ⟨0,([]:List qh4),0,hF,rfl,rfl⟩ ?_ ?_
 rintro _ _ ⟨l16,t17,hF,rfl,rfl⟩
 unfold q9k at hF
 obtain ⟨r18,h19,hF⟩:=q00 hF
 refine go ?_
 refine RS.cl rfl (pC (qlh n p1 r18 h19) _) fn74 ?_
 refine go ?_
 obtain rfl:=sI hF
 exact rT (us:=[.agg [.vl 2 t17 0 l16.length,.iM q2u r18.1],.i6 0]) (u:=.tup [.agg [.iM qf3 l16,.iM q2u r18.1],.i6 0]) (qd9 (q61 un43.h rfl (q0i if43.h) rfl rfl rfl) (q1y rfl (q1t))) (fR 2 4)
 rintro (_|m1) _ _ ⟨z13,l14,t15,hF,rfl,rfl⟩
 cases hF
 unfold q6b at hF
 refine go ?_
 refine cF hF (fun h20 hF=>?_) (fun h20 hF=>?_)
 refine go ?_
 refine WPU.block ?_
 obtain ⟨x21,h22,hF⟩:=q00 hF
 obtain ⟨x23,h24,hF⟩:=q00 hF
 obtain ⟨r25,h26,hF⟩:=q00 hF
 obtain ⟨x27,h28,hF⟩:=q00 hF
 obtain ⟨h29,hF⟩:=q06 hF
 refine go ?_
 refine z6q Tryz.tb_ok [(0,20),(1,20)] (by kernel_rfl) ?_
 refine gd ?_
 refine RD.ix h22 ?_
 refine gd ?_
 refine RD.ix h24 ?_
 refine gd ?_
 refine z6w rfl (pC (qo2 n r5.1 z13 r25 h26)) fn73 ?_
 refine gd ?_
 refine RD.ix h28 ?_
 refine gd ?_
 refine RD.g ?_
 refine RD.g ?_
 refine gd ?_
 refine RD.gz ?_
 refine RD.done ⟨by kernel_rfl,⟨qbu un43.h rfl (q0i if40.h) rfl rfl rfl,⟨qaq un40.h rfl rfl rfl rfl,trivial⟩⟩,?_⟩
 refine go ?_
 exact lC ⟨_,(l14++[(qh4.mk x21.Name x23.Code r25 x27)]),(t15+1),hF,rfl,rfl⟩
 refine go ?_
 exact xC ⟨l14,t15,hF,rfl,rfl⟩
def qem (p1:List UInt8) (p2:List UInt8) (l15:List q16):Option (q04) :=
 some (q04.mk p1 ([p2]) l15)
def qa8 (p1:List UInt8) (p2:List UInt8) (p3:List (List UInt8)):Nat→Int→(List q16)→Option (q04)
 | 0,_,_=>none
 | m1+1,z12,l13 =>
  cond (decide ((IntKind.i64.wrap (z12+1))<(p3.length:Int)))
   (q03 (q0l p3 z12) fun x18 =>
   q03 (q0l p3 (IntKind.i64.wrap (z12+1))) fun x20 =>
   q0w ((l13.length+1)*32≤140737488355328∧l13.length+1≤140737488355328) (
   (qa8 p1 p2 p3 m1) (IntKind.i64.wrap (z12+2)) (l13++[(q16.mk x18 x20)])))
   (qem p1 p2 l13)
def qen (p1:List UInt8) (l32:List q16):Option (q04) :=
 some (q04.mk p1 [] l32)
def qa9 (p1:List UInt8) (p3:List (List UInt8)):Nat→Int→(List q16)→Option (q04)
 | 0,_,_=>none
 | m2+1,z29,l30 =>
  cond (decide ((IntKind.i64.wrap (z29+1))<(p3.length:Int)))
   (q03 (q0l p3 z29) fun x35 =>
   q03 (q0l p3 (IntKind.i64.wrap (z29+1))) fun x37 =>
   q0w ((l30.length+1)*32≤140737488355328∧l30.length+1≤140737488355328) (
   (qa9 p1 p3 m2) (IntKind.i64.wrap (z29+2)) (l30++[(q16.mk x35 x37)])))
   (qen p1 l30)
def q2a (n:Nat) (p1:List UInt8) (p2:List UInt8) (p3:List (List UInt8)):Option (q04) :=
 cond (!q1e p2 [])
  (qa8 p1 p2 p3 n 0 ([]:List q16))
  (qa9 p1 p3 n 0 ([]:List q16))
theorem q1x (n:Nat) (p1:List UInt8) (p2:List UInt8) (p3:List (List UInt8)) (r:q04) (hF:q2a n p1 p2 p3=some r):EvU Tryz.prog 82 [.str p1,.str p2,.isl false (List.map cS p3)] ⟨[],0⟩ (fun u _=>u = .agg (q01 r)∧Bel 0 u):=by
 unfold q2a at hF
 refine bg3 39 fn82 ?_
 refine go ?_
 refine RS.q (u:=.bool (!q1e p2 [])) rfl (q9o rfl rfl rfl rfl) ?_
 refine go ?_
 refine cF hF (fun h4 hF=>?_) (fun h4 hF=>?_)
 refine go ?_
 refine RS.g ?_
 refine gr ?_
 refine WPU.ghost (tm':=fr 39 [(2,.iM cS p3),(6,.ptr 0 0 0),(7,.ptr 1 0 0),(8,.i6 0)]) (σ':=⟨[(3,.vec (List.map q0d ([]:List q16)).flatten 162 2 0),(2,.row [.str p2] 9),(1,.row [.str p1,.sl 2 0 1 1,.vl 3 0 0 (([]:List q16).length)] 127),(0,.row [.str [],.nils,.nils] 127)],4⟩) (Gh.trans (z73 1 2 162 2 (by decide) NZ rfl rfl) (z6s ⟨rfl,rfl,rfl,rfl,trivial⟩ rfl)) NZ ?_
 refine gS (l':=[(2,_),(6,_),(7,_),(8,_)]) ?_
 refine z6o (fun m tm σ=>∃ z12:Int,∃ l13:List q16,∃ t14:Nat,qa8 p1 p2 p3 m z12 l13=some r∧tm=fr 39 [(2,.iM cS p3),(6,.ptr 0 0 0),(7,.ptr 1 0 0),(8,.i6 z12)]∧σ=⟨[(3,.vec (List.map q0d l13).flatten 162 2 t14),(2,.row [.str p2] 9),(1,.row [.str p1,.sl 2 0 1 1,.vl 3 t14 0 l13.length] 127),(0,.row [.str [],.nils,.nils] 127)],4⟩) (fun tm σ=>∃ l15:List q16,∃ t16:Nat,qem p1 p2 l15=some r∧tm=fr 39 [(6,.ptr 0 0 0),(7,.ptr 1 0 0)]∧σ=⟨[(3,.vec (List.map q0d l15).flatten 162 2 t16),(2,.row [.str p2] 9),(1,.row [.str p1,.sl 2 0 1 1,.vl 3 t16 0 l15.length] 127),(0,.row [.str [],.nils,.nils] 127)],4⟩) n ⟨0,([]:List q16),0,hF,rfl,rfl⟩ ?_ ?_
 rintro _ _ ⟨l15,t16,hF,rfl,rfl⟩
 unfold qem at hF
 refine go ?_
 obtain rfl:=sI hF
 exact ⟨.inr rfl,[.agg [.str p1,.sl 2 0 1 1,.vl 3 t16 0 l15.length]],qd9 (q61 un127.h rfl (q0i if127.h) rfl rfl rfl) (q1t),.agg [.str p1,.iM cS ([p2]),.iM q0d l15],⟨[],0⟩,zF _,Gh.trans (z6r 2 1) (Gh.trans (z6r 3 2) (z6y (.agg [.str p1,.iM cS ([p2]),.iM q0d l15]) rfl)),rfl,BU.h⟩
 rintro (_|m1) _ _ ⟨z12,l13,t14,hF,rfl,rfl⟩
 cases hF
 unfold qa8 at hF
 refine go ?_
 refine cF hF (fun h17 hF=>?_) (fun h17 hF=>?_)
 refine go ?_
 refine WPU.block ?_
 obtain ⟨x18,h19,hF⟩:=q00 hF
 obtain ⟨x20,h21,hF⟩:=q00 hF
 obtain ⟨h22,hF⟩:=q06 hF
 refine go ?_
 refine z6q Tryz.tb_ok [(0,12),(1,12)] (by kernel_rfl) ?_
 refine gd ?_
 refine RD.ix h19 ?_
 refine gd ?_
 refine RD.ix h21 ?_
 refine gd ?_
 refine RD.g ?_
 refine RD.g ?_
 refine gd ?_
 refine RD.gz ?_
 refine RD.done ⟨by kernel_rfl,⟨qbu un127.h rfl (q0i if125.h) rfl rfl rfl,⟨qaq un125.h rfl rfl rfl rfl,trivial⟩⟩,?_⟩
 refine go ?_
 exact lC ⟨_,(l13++[(q16.mk x18 x20)]),(t14+1),hF,rfl,rfl⟩
 refine go ?_
 exact xC ⟨l13,t14,hF,rfl,rfl⟩
 refine gr ?_
 refine WPU.ghost (tm':=fr 39 [(2,.iM cS p3),(6,.ptr 0 0 0),(7,.ptr 1 0 0),(8,.i6 0)]) (σ':=⟨[(2,.vec (List.map q0d ([]:List q16)).flatten 162 2 0),(1,.row [.str p1,.nils,.vl 2 0 0 (([]:List q16).length)] 127),(0,.row [.str [],.nils,.nils] 127)],3⟩) (Gh.trans (z73 1 2 162 2 (by decide) NZ rfl rfl) (z6s ⟨rfl,rfl,rfl,rfl,trivial⟩ rfl)) NZ ?_
 refine gS (l':=[(2,_),(6,_),(7,_),(8,_)]) ?_
 refine z6o (fun m tm σ=>∃ z29:Int,∃ l30:List q16,∃ t31:Nat,qa9 p1 p3 m z29 l30=some r∧tm=fr 39 [(2,.iM cS p3),(6,.ptr 0 0 0),(7,.ptr 1 0 0),(8,.i6 z29)]∧σ=⟨[(2,.vec (List.map q0d l30).flatten 162 2 t31),(1,.row [.str p1,.nils,.vl 2 t31 0 l30.length] 127),(0,.row [.str [],.nils,.nils] 127)],3⟩) (fun tm σ=>∃ l32:List q16,∃ t33:Nat,qen p1 l32=some r∧tm=fr 39 [(6,.ptr 0 0 0),(7,.ptr 1 0 0)]∧σ=⟨[(2,.vec (List.map q0d l32).flatten 162 2 t33),(1,.row [.str p1,.nils,.vl 2 t33 0 l32.length] 127),(0,.row [.str [],.nils,.nils] 127)],3⟩) n ⟨0,([]:List q16),0,hF,rfl,rfl⟩ ?_ ?_
 rintro _ _ ⟨l32,t33,hF,rfl,rfl⟩
 unfold qen at hF
 refine go ?_
 obtain rfl:=sI hF
 exact ⟨.inr rfl,[.agg [.str p1,.nils,.vl 2 t33 0 l32.length]],qd9 (q61 un127.h rfl (q0i if127.h) rfl rfl rfl) (q1t),.agg [.str p1,.isl false [],.iM q0d l32],⟨[],0⟩,zF _,Gh.trans (z6r 2 2) (Gh.trans (Gh.wk (.cons (.agg (.cons (.refl _) (.cons (.nil false) (.cons (.refl _) .nil)))) .nil)) (z6y (.agg [.str p1,.isl false [],.iM q0d l32]) rfl)),rfl,BU.h⟩
 rintro (_|m2) _ _ ⟨z29,l30,t31,hF,rfl,rfl⟩
 cases hF
 unfold qa9 at hF
 refine go ?_
 refine cF hF (fun h34 hF=>?_) (fun h34 hF=>?_)
 refine go ?_
 refine WPU.block ?_
 obtain ⟨x35,h36,hF⟩:=q00 hF
 obtain ⟨x37,h38,hF⟩:=q00 hF
 obtain ⟨h39,hF⟩:=q06 hF
 refine go ?_
 refine z6q Tryz.tb_ok [(0,12),(1,12)] (by kernel_rfl) ?_
 refine gd ?_
 refine RD.ix h36 ?_
 refine gd ?_
 refine RD.ix h38 ?_
 refine gd ?_
 refine RD.g ?_
 refine RD.g ?_
 refine gd ?_
 refine RD.gz ?_
 refine RD.done ⟨by kernel_rfl,⟨qbu un127.h rfl (q0i if125.h) rfl rfl rfl,⟨qaq un125.h rfl rfl rfl rfl,trivial⟩⟩,?_⟩
 refine go ?_
 exact lC ⟨_,(l30++[(q16.mk x35 x37)]),(t31+1),hF,rfl,rfl⟩
 refine go ?_
 exact xC ⟨l30,t31,hF,rfl,rfl⟩
def qel (n:Nat)  : Option ((List q04)) :=
 q03 (q2a n ([116,111,112]) [] []) fun r1 =>
 q03 (q2a n ([108,105,115,116]) ([116,111,112]) []) fun r3 =>
 q03 (q2a n ([99,111,110,115]) ([108,105,115,116]) ([[70,73,82,83,84],[116,111,112],[82,69,83,84],[108,105,115,116]])) fun r5 =>
 q03 (q2a n ([110,117,108,108]) ([108,105,115,116]) []) fun r7 =>
 q03 (q2a n ([100,108,105,115,116]) ([116,111,112]) ([[76,73,83,84],[108,105,115,116],[76,65,83,84],[108,105,115,116]])) fun r9 =>
 q03 (q2a n ([105,110,100,101,120]) ([116,111,112]) []) fun r11 =>
 q03 (q2a n ([104,97,110,100,108,101]) ([105,110,100,101,120]) []) fun r13 =>
 q03 (q2a n ([101,118,101,110,116]) ([105,110,100,101,120]) []) fun r15 =>
 q03 (q2a n ([101,110,116,105,116,121]) ([105,110,100,101,120]) []) fun r17 =>
 q03 (q2a n ([114,101,108]) ([116,111,112]) ([[76,65,66,69,76],[104,97,110,100,108,101]])) fun r19 =>
 q03 (q2a n ([113,101,113]) ([116,111,112]) ([[72,73,71,72],[104,97,110,100,108,101],[76,79,87],[104,97,110,100,108,101]])) fun r21 =>
 q03 (q2a n ([115,101,109]) ([116,111,112]) ([[84,79,80],[104,97,110,100,108,101],[73,78,68,69,88],[105,110,100,101,120],[82,69,76,83],[100,108,105,115,116],[67,79,78,83],[100,108,105,115,116]])) fun r23 =>
 q03 (q2a n ([115,105,103,110]) ([116,111,112]) ([[83,69,77],[115,101,109],[65,82,71,83],[108,105,115,116]])) fun r25 =>
 some ([r1,r3,r5,r7,r9,r11,r13,r15,r17,r19,r21,r23,r25])
theorem qnd (n:Nat)  (r:(List q04)) (hF:qel n  = some r):EvU Tryz.prog 60 [] ⟨[],0⟩ (fun u _=>u = .isl false (List.map q01 r)∧Bel 0 u):=by
 unfold qel at hF
 refine bg0 21 fn60 ?_
 obtain ⟨r1,h2,hF⟩:=q00 hF
 obtain ⟨r3,h4,hF⟩:=q00 hF
 obtain ⟨r5,h6,hF⟩:=q00 hF
 obtain ⟨r7,h8,hF⟩:=q00 hF
 obtain ⟨r9,h10,hF⟩:=q00 hF
 obtain ⟨r11,h12,hF⟩:=q00 hF
 obtain ⟨r13,h14,hF⟩:=q00 hF
 obtain ⟨r15,h16,hF⟩:=q00 hF
 obtain ⟨r17,h18,hF⟩:=q00 hF
 obtain ⟨r19,h20,hF⟩:=q00 hF
 obtain ⟨r21,h22,hF⟩:=q00 hF
 obtain ⟨r23,h24,hF⟩:=q00 hF
 obtain ⟨r25,h26,hF⟩:=q00 hF
 refine go ?_
 refine RS.cl rfl (z6x (args':=[.str ([116,111,112]),.str [],.isl false []]) (.cons (.refl _) (.cons (.refl _) (.cons (.nil false) .nil))) (pC (q1x n ([116,111,112]) [] [] r1 h2)) _) fn82 (RS.cl rfl (z6x (args':=[.str ([108,105,115,116]),.str ([116,111,112]),.isl false []]) (.cons (.refl _) (.cons (.refl _) (.cons (.nil false) .nil))) (pC (q1x n ([108,105,115,116]) ([116,111,112]) [] r3 h4)) _) fn82 ?_)
 refine RS.g ?_
 refine z6v rfl (z6r 0 1) (pC (q1x n ([99,111,110,115]) ([108,105,115,116]) ([[70,73,82,83,84],[116,111,112],[82,69,83,84],[108,105,115,116]]) r5 h6) _) fn82 (RS.cl rfl (z6x (args':=[.str ([110,117,108,108]),.str ([108,105,115,116]),.isl false []]) (.cons (.refl _) (.cons (.refl _) (.cons (.nil false) .nil))) (pC (q1x n ([110,117,108,108]) ([108,105,115,116]) [] r7 h8)) _) fn82 ?_)
 refine RS.g ?_
 refine z6v rfl (z6r 1 1) (pC (q1x n ([100,108,105,115,116]) ([116,111,112]) ([[76,73,83,84],[108,105,115,116],[76,65,83,84],[108,105,115,116]]) r9 h10) _) fn82 (RS.cl rfl (z6x (args':=[.str ([105,110,100,101,120]),.str ([116,111,112]),.isl false []]) (.cons (.refl _) (.cons (.refl _) (.cons (.nil false) .nil))) (pC (q1x n ([105,110,100,101,120]) ([116,111,112]) [] r11 h12)) _) fn82 (RS.cl rfl (z6x (args':=[.str ([104,97,110,100,108,101]),.str ([105,110,100,101,120]),.isl false []]) (.cons (.refl _) (.cons (.refl _) (.cons (.nil false) .nil))) (pC (q1x n ([104,97,110,100,108,101]) ([105,110,100,101,120]) [] r13 h14)) _) fn82 (RS.cl rfl (z6x (args':=[.str ([101,118,101,110,116]),.str ([105,110,100,101,120]),.isl false []]) (.cons (.refl _) (.cons (.refl _) (.cons (.nil false) .nil))) (pC (q1x n ([101,118,101,110,116]) ([105,110,100,101,120]) [] r15 h16)) _) fn82 (RS.cl rfl (z6x (args':=[.str ([101,110,116,105,116,121]),.str ([105,110,100,101,120]),.isl false []]) (.cons (.refl _) (.cons (.refl _) (.cons (.nil false) .nil))) (pC (q1x n ([101,110,116,105,116,121]) ([105,110,100,101,120]) [] r17 h18)) _) fn82 ?_))))
 refine RS.g ?_
 refine z6v rfl (z6r 2 1) (pC (q1x n ([114,101,108]) ([116,111,112]) ([[76,65,66,69,76],[104,97,110,100,108,101]]) r19 h20) _) fn82 ?_
 refine RS.g ?_
 refine z6v rfl (z6r 3 1) (pC (q1x n ([113,101,113]) ([116,111,112]) ([[72,73,71,72],[104,97,110,100,108,101],[76,79,87],[104,97,110,100,108,101]]) r21 h22) _) fn82 (RS.q (u:=.sl 4 0 8 8) (σ':=⟨[(4,.row [.str ([84,79,80]),.str ([104,97,110,100,108,101]),.str ([73,78,68,69,88]),.str ([105,110,100,101,120]),.str ([82,69,76,83]),.str ([100,108,105,115,116]),.str ([67,79,78,83]),.str ([100,108,105,115,116])] 9)],5⟩) rfl (q7q un80.h if9.h rfl rfl rfl rfl rfl rfl rfl) (z6v rfl (z6r 4 1) (pC (q1x n ([115,101,109]) ([116,111,112]) ([[84,79,80],[104,97,110,100,108,101],[73,78,68,69,88],[105,110,100,101,120],[82,69,76,83],[100,108,105,115,116],[67,79,78,83],[100,108,105,115,116]]) r23 h24) _) fn82 ?_))
 refine RS.g ?_
 refine z6v rfl (z6r 5 1) (pC (q1x n ([115,105,103,110]) ([116,111,112]) ([[83,69,77],[115,101,109],[65,82,71,83],[108,105,115,116]]) r25 h26) _) fn82 (RS.q (u:=.sl 6 0 13 13) (σ':=⟨[(6,.row [.str r1.Name,.iM cS r1.Supers,.iM q0d r1.Feats,.str r3.Name,.iM cS r3.Supers,.iM q0d r3.Feats,.str r5.Name,.iM cS r5.Supers,.iM q0d r5.Feats,.str r7.Name,.iM cS r7.Supers,.iM q0d r7.Feats,.str r9.Name,.iM cS r9.Supers,.iM q0d r9.Feats,.str r11.Name,.iM cS r11.Supers,.iM q0d r11.Feats,.str r13.Name,.iM cS r13.Supers,.iM q0d r13.Feats,.str r15.Name,.iM cS r15.Supers,.iM q0d r15.Feats,.str r17.Name,.iM cS r17.Supers,.iM q0d r17.Feats,.str r19.Name,.iM cS r19.Supers,.iM q0d r19.Feats,.str r21.Name,.iM cS r21.Supers,.iM q0d r21.Feats,.str r23.Name,.iM cS r23.Supers,.iM q0d r23.Feats,.str r25.Name,.iM cS r25.Supers,.iM q0d r25.Feats] 127)],7⟩) rfl (q7q un38.h if127.h rfl rfl rfl rfl rfl rfl rfl) ?_)
 refine go ?_
 obtain rfl:=sI hF
 exact rT (us:=[.sl 6 0 13 13]) (u:=.iM q01 ([r1,r3,r5,r7,r9,r11,r13,r15,r17,r19,r21,r23,r25])) (q1y rfl (q1t)) (fR 6 3)
def qdj (n:Nat)  : Option (q0r) :=
 q03 (qel n) fun r1 =>
 q03 (qek n r1) fun r3 =>
 some (q0r.mk r3.1.Types r3.1.Feats)
theorem qmt (n:Nat)  (r:q0r) (hF:qdj n  = some r):EvU Tryz.prog 31 [] ⟨[],0⟩ (fun u _=>u = .agg (q0h r)∧Bel 0 u):=by
 unfold qdj at hF
 refine bg0 9 fn31 ?_
 obtain ⟨r1,h2,hF⟩:=q00 hF
 obtain ⟨r3,h4,hF⟩:=q00 hF
 refine go ?_
 refine RS.cl rfl (pC (qnd n r1 h2) _) fn60 (RS.cl rfl (pC (qnc n r1 r3 h4) _) fn51 ?_)
 refine go ?_
 obtain rfl:=sI hF
 exact rT (qd9 (q61 un43.h rfl (q0i if43.h) rfl rfl rfl) (q1t)) (z6y _ rfl)
def qir (n:Nat) (p1:List q0a):Option (GFS) :=
 some (GFS.mk p1)
theorem q6n (n:Nat) (p1:List q0a) (r:GFS) (hF:qir n p1=some r):EvU Tryz.prog 43 [.isl false (List.map q02 p1)] ⟨[],0⟩ (fun u _=>u = .agg [.isl false (List.map q02 r.Nodes)]∧Bel 0 u):=by
 unfold qir at hF
 refine bg1 5 fn43 ?_
 refine go ?_
 obtain rfl:=sI hF
 exact rT (qd9 (q61 un24.h rfl (q0i if24.h) rfl rfl rfl) (q1t)) (z6y _ rfl)
def qdi (p1:Int) (l12:List q0f):Option (q0a) :=
 some (q0a.mk p1 l12)
def q9s (p1:Int) (p2:List Int):Nat→Int→(List q0f)→Option (q0a)
 | 0,_,_=>none
 | m1+1,z9,l10 =>
  cond (decide ((IntKind.i64.wrap (z9+1))<(p2.length:Int)))
   (q03 (q0l p2 z9) fun x15 =>
   q03 (q0l p2 (IntKind.i64.wrap (z9+1))) fun x17 =>
   q0w ((l10.length+1)*16≤140737488355328∧l10.length+1≤140737488355328) (
   (q9s p1 p2 m1) (IntKind.i64.wrap (z9+2)) (l10++[(q0f.mk x15 x17)])))
   (qdi p1 l10)
def q5b (n:Nat) (p1:Int) (p2:List Int):Option (q0a) :=
 q9s p1 p2 n 0 ([]:List q0f)
theorem q0n (n:Nat) (p1:Int) (p2:List Int) (r:q0a) (hF:q5b n p1 p2=some r):EvU Tryz.prog 44 [.int .i64 p1,.isl false (List.map (cI .i64) p2)] ⟨[],0⟩ (fun u _=>u = .agg (q02 r)∧Bel 0 u):=by
 unfold q5b at hF
 refine bg2 32 fn44 ?_
 refine gr ?_
 refine gr ?_
 refine gr ?_
 refine WPU.ghost (tm':=fr 32 [(1,.iM (cI .i64) p2),(4,.ptr 0 0 0),(5,.ptr 1 0 0),(6,.i6 0)]) (σ':=⟨[(2,.vec (List.map q08 ([]:List q0f)).flatten 66 2 0),(1,.row [.i6 p1,.vl 2 0 0 (([]:List q0f).length)] 54),(0,.row [.i6 0,.nils] 54)],3⟩) (Gh.trans (z73 1 1 66 2 (by decide) NZ rfl rfl) (z6s ⟨rfl,rfl,rfl,rfl,trivial⟩ rfl)) NZ ?_
 refine gS (l':=[(1,_),(4,_),(5,_),(6,_)]) ?_
 refine z6o (fun m tm σ=>∃ z9:Int,∃ l10:List q0f,∃ t11:Nat,q9s p1 p2 m z9 l10=some r∧tm=fr 32 [(1,.iM (cI .i64) p2),(4,.ptr 0 0 0),(5,.ptr 1 0 0),(6,.i6 z9)]∧σ=⟨[(2,.vec (List.map q08 l10).flatten 66 2 t11),(1,.row [.i6 p1,.vl 2 t11 0 l10.length] 54),(0,.row [.i6 0,.nils] 54)],3⟩) (fun tm σ=>∃ l12:List q0f,∃ t13:Nat,qdi p1 l12=some r∧tm=fr 32 [(4,.ptr 0 0 0),(5,.ptr 1 0 0)]∧σ=⟨[(2,.vec (List.map q08 l12).flatten 66 2 t13),(1,.row [.i6 p1,.vl 2 t13 0 l12.length] 54),(0,.row [.i6 0,.nils] 54)],3⟩) n ⟨0,([]:List q0f),0,hF,rfl,rfl⟩ ?_ ?_
 rintro _ _ ⟨l12,t13,hF,rfl,rfl⟩
 unfold qdi at hF
 refine go ?_
 obtain rfl:=sI hF
 exact rT (us:=[.agg [.i6 p1,.vl 2 t13 0 l12.length]]) (u:=.agg [.i6 p1,.iM q08 l12]) (qd9 (q61 un54.h rfl (q0i if54.h) rfl rfl rfl) (q1t)) (fR 2 2)
 rintro (_|m1) _ _ ⟨z9,l10,t11,hF,rfl,rfl⟩
 cases hF
 unfold q9s at hF
 refine go ?_
 refine cF hF (fun h14 hF=>?_) (fun h14 hF=>?_)
 refine go ?_
 refine WPU.block ?_
 obtain ⟨x15,h16,hF⟩:=q00 hF
 obtain ⟨x17,h18,hF⟩:=q00 hF
 obtain ⟨h19,hF⟩:=q06 hF
 refine go ?_
 refine z6q Tryz.tb_ok [(0,12),(1,12)] (by kernel_rfl) ?_
 refine gd ?_
 refine RD.ix h16 ?_
 refine gd ?_
 refine RD.ix h18 ?_
 refine gd ?_
 refine RD.g ?_
 refine RD.g ?_
 refine gd ?_
 refine RD.gz ?_
 refine RD.done ⟨by kernel_rfl,⟨qbu un54.h rfl (q0i if52.h) rfl rfl rfl,⟨qaq un52.h rfl rfl rfl rfl,trivial⟩⟩,?_⟩
 refine go ?_
 exact lC ⟨_,(l10++[(q0f.mk x15 x17)]),(t11+1),hF,rfl,rfl⟩
 refine go ?_
 exact xC ⟨l10,t11,hF,rfl,rfl⟩
def qki (n:Nat) (p1:Int):Option (GFS) :=
 some (GFS.mk ([(q0a.mk p1 [])]))
theorem q6s (n:Nat) (p1:Int) (r:GFS) (hF:qki n p1=some r):EvU Tryz.prog 45 [.int .i64 p1] ⟨[],0⟩ (fun u _=>u = .agg [.isl false (List.map q02 r.Nodes)]∧Bel 0 u):=by
 unfold qki at hF
 refine bg1 7 fn45 ?_
 refine go ?_
 refine RS.g ?_
 refine go ?_
 obtain rfl:=sI hF
 exact ⟨.inr rfl,[.agg [.sl 1 0 1 1]],qd9 (q61 un24.h rfl (q0i if24.h) rfl rfl rfl) (q1t),.agg [.iM q02 ([(q0a.mk p1 [])])],⟨[],0⟩,zF _,Gh.trans (Gh.trans (z7g 1) (z6r 1 2)) (z6y (.agg [.iM q02 ([(q0a.mk p1 [])])]) rfl),rfl,BU.h⟩
def q2h (n:Nat)  : Option (Bool) :=
 q03 (q5b n 1 ([0,1,1,2])) fun r1 =>
 q03 (q5b n 3 ([0,2])) fun r3 =>
 q03 (q5b n 2 []) fun r5 =>
 q03 (qir n ([r1,r3,r5])) fun r7 =>
 q03 (q03 (qge n r7) fun r9 =>
 q03 (qau n r9 ([[],[0],[1]])) fun r11 =>
 cond (!r11)
  (some true)
  (q03 (qdx n r7) fun r14 =>
  q03 (q6e n r14 ([(q0g.mk ([1]) ([0,0]))])) fun r16 =>
  cond (!r16)
   (some true)
   (q03 (q5b n 1 ([5,0])) fun r19 =>
   q03 (qir n ([r19])) fun r21 =>
   q03 (qdx n r21) fun r23 =>
   q03 (q6e n r23 ([(q0g.mk [] ([5]))])) fun r25 =>
   some (!r25)))) fun b27 =>
 cond b27
  (some false)
  (q03 (qn6 n r7 ([0,0])) fun r30 =>
  q03 (qk6 n r7 ([0,1])) fun r32 =>
  q03 (qdj n) fun r34 =>
  q03 (qd3 n r34 ([82,69,83,84,46,70,73,82,83,84])) fun r36 =>
  q03 (qd3 n r34 ([70,46])) fun r38 =>
  q03 (qd3 n r34 ([70,73,82,83,84,46,71])) fun r40 =>
  q03 (cond (r30.1 == 2)
   (cond r30.2
    (cond (!r32.2)
     (q03 (qki n 7) fun r45 =>
     q03 (qd4 n ([3,4]) r45) fun r47 =>
     q03 (q5b n 0 ([3,1])) fun r49 =>
     q03 (q5b n 0 ([4,2])) fun r51 =>
     q03 (q5b n 7 []) fun r53 =>
     q03 (qir n ([r49,r51,r53])) fun r55 =>
     q03 (q56 n r47 r55) fun r57 =>
     cond r57
      (cond (r36.2 == 0)
       (q03 (q8b n r36.1 ([10,2])) fun r61 =>
       cond r61
        (q03 (qk8 n r34 r36.1) fun r64 =>
        cond (q1e r64 ([82,69,83,84,46,70,73,82,83,84]))
         (cond (r38.2 == 8)
          (some (r40.2 == 5))
          (some false))
         (some false))
        (some false))
       (some false))
      (some false))
     (some false))
    (some false))
   (some false)) fun b68 =>
  some b68)
end Go.Proofs
end
