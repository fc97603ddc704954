/-
  Texts of the walk: H4.
-/
import Derived.Test.YtkgbipeaeamohaaGreatDoorP18
set_option linter.unusedSimpArgs false
set_option linter.unusedVariables false
section
namespace Go.Proofs
open Go Go.Rx Go.Vx Tryz
set_option maxRecDepth 20000
set_option maxHeartbeats 4000000
set_option synthInstance.maxSize 4000
set_option synthInstance.maxHeartbeats 200000
theorem q6p (n:Nat) (p1:List Int) (p2:GFS) (r:GFS) (hF:qju n p1 p2=some r):EvU Tryz.prog 22 [.isl false (List.map (cI .i64) p1),.agg [.isl false (List.map q01 p2.Nodes)]] ⟨[],0⟩ (fun u _=>u = .agg [.isl false (List.map q01 r.Nodes)]∧Bel 0 u):=by
 unfold qju at hF
 refine bg2 71 fn22 ?_
 refine go ?_
 refine RS.q (u:=.ptr 0 0 0) (σ':=⟨[(0,.row [.iM q01 p2.Nodes] 24)],1⟩) rfl (q2p rfl rfl rfl) (RS.q (u:=.ptr 1 0 0) (σ':=⟨[(1,.row [.nils] 24),(0,.row [.iM q01 p2.Nodes] 24)],2⟩) rfl (q0v inf24 rfl rfl) ?_)
 refine go ?_
 refine RS.q (u:=.ptr 2 0 0) (σ':=⟨[(2,.row [.nils] 24),(1,.row [.nils] 24),(0,.row [.iM q01 p2.Nodes] 24)],3⟩) rfl (q0v inf24 rfl rfl) ?_
 refine go ?_
 refine RS.q rfl (q0c rfl rfl rfl (q08 (cI .i64) und33)) ?_
 refine gn ?_
 refine WPU.ghost (tm':=fr 71 [(0,.iM (cI .i64) p1),(3,.ptr 0 0 0),(4,.ptr 1 0 0),(5,.ptr 2 0 0),(13,.iM (cI .i64) p1),(14,.i6 (p1.length:Int)),(15,.i6 0)]) (σ':=⟨[(3,.vec (List.map q01 ([]:List q0n)).flatten 54 2 0),(2,.row [.vl 3 0 0 (([]:List q0n).length)] 24),(1,.row [.nils] 24),(0,.row [.iM q01 p2.Nodes] 24)],4⟩) (Gh.trans (z4u 2 0 54 2 (by decide) NZ rfl rfl) (z4l ⟨rfl,rfl,rfl,rfl,rfl,rfl,rfl,trivial⟩ rfl)) NZ ?_
 refine gS (l':=[(0,_),(3,_),(4,_),(5,_),(13,_),(14,_),(15,_)]) ?_
 refine z4g (fun m tm σ=>∃ z10:Int,∃ l11:List q0n,∃ t12:Nat,q9v p1 p2 n m z10 l11=some r∧tm=fr 71 [(0,.iM (cI .i64) p1),(3,.ptr 0 0 0),(4,.ptr 1 0 0),(5,.ptr 2 0 0),(13,.iM (cI .i64) p1),(14,.i6 (p1.length:Int)),(15,.i6 z10)]∧σ=⟨[(3,.vec (List.map q01 l11).flatten 54 2 t12),(2,.row [.vl 3 t12 0 l11.length] 24),(1,.row [.nils] 24),(0,.row [.iM q01 p2.Nodes] 24)],4⟩) (fun tm σ=>∃ l13:List q0n,∃ t14:Nat,qdo p1 p2 n l13=some r∧tm=fr 71 [(0,.iM (cI .i64) p1),(3,.ptr 0 0 0),(4,.ptr 1 0 0),(5,.ptr 2 0 0)]∧σ=⟨[(3,.vec (List.map q01 l13).flatten 54 2 t14),(2,.row [.vl 3 t14 0 l13.length] 24),(1,.row [.nils] 24),(0,.row [.iM q01 p2.Nodes] 24)],4⟩) n ⟨0,([]:List q0n),0,hF,rfl,rfl⟩ ?_ ?_
 rintro _ _ ⟨l13,t14,hF,rfl,rfl⟩
 unfold qdo at hF
 refine go ?_
 refine RS.q rfl (q0w und24 rfl (q03 inf22) rfl rfl rfl) (RS.q rfl (q0i und22 rfl rfl rfl rfl) (RS.q rfl (q0c rfl rfl rfl (q08 q01 und22)) ?_))
 refine go ?_
 refine gS (l':=[(0,_),(4,_),(5,_),(33,_),(34,_),(35,_)]) ?_
 refine z4g (fun m tm σ=>∃ z22:Int,∃ l23:List q0n,∃ t24:Nat,q5k p1 p2 n m z22 l23=some r∧tm=fr 71 [(0,.iM (cI .i64) p1),(4,.ptr 1 0 0),(5,.ptr 2 0 0),(33,.iM q01 p2.Nodes),(34,.i6 (p2.Nodes.length:Int)),(35,.i6 z22)]∧σ=⟨[(3,.vec (List.map q01 l23).flatten 54 2 t24),(2,.row [.vl 3 t24 0 l23.length] 24),(1,.row [.nils] 24),(0,.row [.iM q01 p2.Nodes] 24)],4⟩) (fun tm σ=>∃ l25:List q0n,∃ t26:Nat,qdp l25=some r∧tm=fr 71 [(4,.ptr 1 0 0),(5,.ptr 2 0 0)]∧σ=⟨[(3,.vec (List.map q01 l25).flatten 54 2 t26),(2,.row [.vl 3 t26 0 l25.length] 24),(1,.row [.nils] 24),(0,.row [.iM q01 p2.Nodes] 24)],4⟩) n ⟨0,l13,t14,hF,rfl,rfl⟩ ?_ ?_
 rintro _ _ ⟨l25,t26,hF,rfl,rfl⟩
 unfold qdp at hF
 refine go ?_
 refine RS.q (u:=.agg [.vl 3 t26 0 l25.length]) rfl (q0p und24 rfl (q03 inf24) rfl rfl rfl) ?_
 refine z4k (u:=.junk) (σ':=⟨[(3,.vec (List.map q01 l25).flatten 54 2 t26),(2,.row [.vl 3 t26 0 l25.length] 24),(1,.row [.vl 3 t26 0 l25.length] 24),(0,.row [.iM q01 p2.Nodes] 24)],4⟩) rfl (q0l (q03 inf24) rfl rfl rfl rfl rfl rfl rfl rfl) rfl ?_
 refine go ?_
 obtain rfl:=sI hF
 exact rT (us:=[.agg [.vl 3 t26 0 l25.length]]) (u:=.agg [.iM q01 l25]) (qei (q0p und24 rfl (q03 inf24) rfl rfl rfl) (q2g)) (fR 3 2)
 rintro (_|m2) _ _ ⟨z22,l23,t24,hF,rfl,rfl⟩
 cases hF
 unfold q5k at hF
 refine go ?_
 refine cF hF (fun h27 hF=>?_) (fun h27 hF=>?_)
 refine go ?_
 refine WPU.block ?_
 obtain ⟨x28,h29,hF⟩:=q00 hF
 refine go ?_
 refine RS.q rfl (q0f rfl rfl (q0a q01 und22 (q03 inf54) q1b h29 rfl)) (RS.q (u:=.agg (q01 x28)) rfl (qam und54 rfl (q03 inf54) rfl rfl) (RS.q (u:=.ptr 4 0 0) (σ':=⟨[(4,.row [.i6 0,.nils] 54),(3,.vec (List.map q01 l23).flatten 54 2 t24),(2,.row [.vl 3 t24 0 l23.length] 24),(1,.row [.nils] 24),(0,.row [.iM q01 p2.Nodes] 24)],5⟩) rfl (q0v inf54 rfl rfl) ?_))
 refine z4k (u:=.junk) (σ':=⟨[(4,.row (q01 x28) 54),(3,.vec (List.map q01 l23).flatten 54 2 t24),(2,.row [.vl 3 t24 0 l23.length] 24),(1,.row [.nils] 24),(0,.row [.iM q01 p2.Nodes] 24)],5⟩) rfl (q0l (q03 inf54) rfl rfl rfl rfl rfl rfl rfl rfl) rfl ?_
 refine go ?_
 refine RS.q rfl (q0w und54 rfl (q03 inf3) rfl rfl rfl) (RS.q rfl (q0i und3 rfl rfl rfl rfl) (RS.q (u:=.agg [.i6 x28.Typex,.nils]) rfl (q3l bd54 rfl rfl rfl) (RS.q (u:=.ptr 5 0 0) (σ':=⟨[(5,.row [.i6 0,.nils] 54),(4,.row (q01 x28) 54),(3,.vec (List.map q01 l23).flatten 54 2 t24),(2,.row [.vl 3 t24 0 l23.length] 24),(1,.row [.nils] 24),(0,.row [.iM q01 p2.Nodes] 24)],6⟩) rfl (q0v inf54 rfl rfl) ?_)))
 refine z4k (u:=.junk) (σ':=⟨[(5,.row [.i6 x28.Typex,.nils] 54),(4,.row (q01 x28) 54),(3,.vec (List.map q01 l23).flatten 54 2 t24),(2,.row [.vl 3 t24 0 l23.length] 24),(1,.row [.nils] 24),(0,.row [.iM q01 p2.Nodes] 24)],6⟩) rfl (q0l (q03 inf54) rfl rfl rfl rfl rfl rfl rfl rfl) rfl ?_
 refine go ?_
 refine RS.q rfl (q0w und54 rfl (q03 inf52) rfl rfl rfl) (RS.q rfl (q0i und52 rfl rfl rfl rfl) (RS.q rfl (q0c rfl rfl rfl (q08 q05 und52)) ?_))
 refine gn ?_
 refine WPU.ghost (tm':=fr 71 [(0,.iM (cI .i64) p1),(4,.ptr 1 0 0),(5,.ptr 2 0 0),(10,.ptr 5 0 0),(33,.iM q01 p2.Nodes),(34,.i6 (p2.Nodes.length:Int)),(35,.i6 z22),(43,.iM q05 x28.Arcs),(44,.i6 (x28.Arcs.length:Int)),(45,.i6 0)]) (σ':=⟨[(6,.vec (List.map q05 ([]:List q0s)).flatten 66 2 0),(5,.row [.i6 x28.Typex,.vl 6 0 0 (([]:List q0s).length)] 54),(4,.row (q01 x28) 54),(3,.vec (List.map q01 l23).flatten 54 2 t24),(2,.row [.vl 3 t24 0 l23.length] 24),(1,.row [.nils] 24),(0,.row [.iM q01 p2.Nodes] 24)],7⟩) (Gh.trans (z4u 5 1 66 2 (by decide) NZ rfl rfl) (z4l ⟨rfl,rfl,rfl,rfl,rfl,rfl,rfl,rfl,rfl,rfl,trivial⟩ rfl)) NZ ?_
 refine gS (l':=[(0,_),(4,_),(5,_),(10,_),(33,_),(34,_),(35,_),(43,_),(44,_),(45,_)]) ?_
 refine z4g (fun m tm σ=>∃ z45:Int,∃ l46:List q0s,∃ t47:Nat,q9w p1 z22 l23 (q5k p1 p2 n m2) x28 m z45 l46=some r∧tm=fr 71 [(0,.iM (cI .i64) p1),(4,.ptr 1 0 0),(5,.ptr 2 0 0),(10,.ptr 5 0 0),(33,.iM q01 p2.Nodes),(34,.i6 (p2.Nodes.length:Int)),(35,.i6 z22),(43,.iM q05 x28.Arcs),(44,.i6 (x28.Arcs.length:Int)),(45,.i6 z45)]∧σ=⟨[(6,.vec (List.map q05 l46).flatten 66 2 t47),(5,.row [.i6 x28.Typex,.vl 6 t47 0 l46.length] 54),(4,.row (q01 x28) 54),(3,.vec (List.map q01 l23).flatten 54 2 t24),(2,.row [.vl 3 t24 0 l23.length] 24),(1,.row [.nils] 24),(0,.row [.iM q01 p2.Nodes] 24)],7⟩) (fun tm σ=>∃ l48:List q0s,∃ t49:Nat,qdq z22 l23 (q5k p1 p2 n m2) x28 l48=some r∧tm=fr 71 [(0,.iM (cI .i64) p1),(4,.ptr 1 0 0),(5,.ptr 2 0 0),(10,.ptr 5 0 0),(33,.iM q01 p2.Nodes),(34,.i6 (p2.Nodes.length:Int)),(35,.i6 z22)]∧σ=⟨[(6,.vec (List.map q05 l48).flatten 66 2 t49),(5,.row [.i6 x28.Typex,.vl 6 t49 0 l48.length] 54),(4,.row (q01 x28) 54),(3,.vec (List.map q01 l23).flatten 54 2 t24),(2,.row [.vl 3 t24 0 l23.length] 24),(1,.row [.nils] 24),(0,.row [.iM q01 p2.Nodes] 24)],7⟩) n ⟨0,([]:List q0s),0,hF,rfl,rfl⟩ ?_ ?_
 rintro _ _ ⟨l48,t49,hF,rfl,rfl⟩
 unfold qdq at hF
 refine gn ?_
 refine WPU.ghost (tm':=fr 71 [(0,.iM (cI .i64) p1),(4,.ptr 1 0 0),(5,.ptr 2 0 0),(10,.ptr 5 0 0),(33,.iM q01 p2.Nodes),(34,.i6 (p2.Nodes.length:Int)),(35,.i6 z22)]) (σ':=⟨[(5,.row [.i6 x28.Typex,.iM q05 l48] 54),(4,.row (q01 x28) 54),(3,.vec (List.map q01 l23).flatten 54 2 t24),(2,.row [.vl 3 t24 0 l23.length] 24),(1,.row [.nils] 24),(0,.row [.iM q01 p2.Nodes] 24)],7⟩) (Gh.trans (Gh.sub (l':=[(0,.iM (cI .i64) p1),(4,.ptr 1 0 0),(5,.ptr 2 0 0),(10,.ptr 5 0 0),(33,.iM q01 p2.Nodes),(34,.i6 (p2.Nodes.length:Int)),(35,.i6 z22)]) ⟨rfl,rfl,rfl,rfl,rfl,rfl,rfl,trivial⟩) (z4z 6 2)) NZ ?_
 obtain ⟨h50,hF⟩:=q0b hF
 refine go ?_
 refine RS.q rfl (q0w und24 rfl (q03 inf22) rfl rfl rfl) (RS.q rfl (q0i und22 rfl rfl rfl rfl) (RS.q (u:=.agg [.i6 x28.Typex,.iM q05 l48]) rfl (q0p und54 rfl (q03 inf54) rfl rfl rfl) (RS.q (u:=.sl 7 0 1 1) (σ':=⟨[(7,.row [.i6 x28.Typex,.iM q05 l48] 54),(5,.row [.i6 x28.Typex,.iM q05 l48] 54),(4,.row (q01 x28) 54),(3,.vec (List.map q01 l23).flatten 54 2 t24),(2,.row [.vl 3 t24 0 l23.length] 24),(1,.row [.nils] 24),(0,.row [.iM q01 p2.Nodes] 24)],8⟩) rfl (q0j und22 inf54 rfl rfl rfl rfl rfl rfl rfl) (RS.q (u:=.vl 3 (t24+1) 0 ((l23++[(q0n.mk x28.Typex l48)]).length)) (σ':=⟨[(7,.row [.i6 x28.Typex,.iM q05 l48] 54),(5,.row [.i6 x28.Typex,.iM q05 l48] 54),(4,.row (q01 x28) 54),(3,.vec (List.map q01 (l23++[(q0n.mk x28.Typex l48)])).flatten 54 2 (t24+1)),(2,.row [.vl 3 t24 0 l23.length] 24),(1,.row [.nils] 24),(0,.row [.iM q01 p2.Nodes] 24)],8⟩) rfl (q1u rfl rfl rfl rfl (q2a q01 ([(q0n.mk x28.Typex l48)]) und22 und22 inf54 rfl q1b rfl (q1q q01 [(q0n.mk x28.Typex l48)] rfl rfl rfl rfl) h50)) (RS.q rfl (q0w und24 rfl (q03 inf22) rfl rfl rfl) ?_)))))
 refine z4k (u:=.junk) (σ':=⟨[(7,.row [.i6 x28.Typex,.iM q05 l48] 54),(5,.row [.i6 x28.Typex,.iM q05 l48] 54),(4,.row (q01 x28) 54),(3,.vec (List.map q01 (l23++[(q0n.mk x28.Typex l48)])).flatten 54 2 (t24+1)),(2,.row [.vl 3 (t24+1) 0 ((l23++[(q0n.mk x28.Typex l48)]).length)] 24),(1,.row [.nils] 24),(0,.row [.iM q01 p2.Nodes] 24)],8⟩) rfl (q0l (q03 inf22) rfl rfl rfl rfl rfl rfl rfl rfl) rfl ?_
 refine go ?_
 exact lC ⟨_,(l23++[(q0n.mk x28.Typex l48)]),(t24+1),hF,rfl,rfl⟩
 rintro (_|m3) _ _ ⟨z45,l46,t47,hF,rfl,rfl⟩
 cases hF
 unfold q9w at hF
 refine go ?_
 refine cF hF (fun h51 hF=>?_) (fun h51 hF=>?_)
 refine go ?_
 refine WPU.block ?_
 obtain ⟨x52,h53,hF⟩:=q00 hF
 refine go ?_
 refine RS.q rfl (q0f rfl rfl (q0a q05 und52 (q03 inf66) q0k h53 rfl)) (RS.q (u:=.agg (q05 x52)) rfl (qam und66 rfl (q03 inf66) rfl rfl) (RS.q (u:=.ptr 7 0 0) (σ':=⟨[(7,.row [.i6 0,.i6 0] 66),(6,.vec (List.map q05 l46).flatten 66 2 t47),(5,.row [.i6 x28.Typex,.vl 6 t47 0 l46.length] 54),(4,.row (q01 x28) 54),(3,.vec (List.map q01 l23).flatten 54 2 t24),(2,.row [.vl 3 t24 0 l23.length] 24),(1,.row [.nils] 24),(0,.row [.iM q01 p2.Nodes] 24)],8⟩) rfl (q0v inf66 rfl rfl) ?_))
 refine z4k (u:=.junk) (σ':=⟨[(7,.row (q05 x52) 66),(6,.vec (List.map q05 l46).flatten 66 2 t47),(5,.row [.i6 x28.Typex,.vl 6 t47 0 l46.length] 54),(4,.row (q01 x28) 54),(3,.vec (List.map q01 l23).flatten 54 2 t24),(2,.row [.vl 3 t24 0 l23.length] 24),(1,.row [.nils] 24),(0,.row [.iM q01 p2.Nodes] 24)],8⟩) rfl (q0l (q03 inf66) rfl rfl rfl rfl rfl rfl rfl rfl) rfl ?_
 obtain ⟨h54,hF⟩:=q0b hF
 refine go ?_
 refine RS.q rfl (q0w und54 rfl (q03 inf52) rfl rfl rfl) (RS.q rfl (q0i und52 rfl rfl rfl rfl) (RS.q rfl (q0w und66 rfl (q03 inf3) rfl rfl rfl) (RS.q rfl (q0i und3 rfl rfl rfl rfl) (RS.q rfl (q0w und66 rfl (q03 inf3) rfl rfl rfl) (RS.q rfl (q0i und3 rfl rfl rfl rfl) ?_)))))
 refine go ?_
 refine RS.q rfl (q0c rfl rfl rfl (q08 (cI .i64) und33)) ?_
 refine go ?_
 refine RS.q (u:=.agg [.i6 x52.Feat,.i6 (IntKind.i64.wrap (x52.To+(p1.length:Int)))]) rfl (q3l bd66 rfl rfl rfl) (RS.q (u:=.sl 8 0 1 1) (σ':=⟨[(8,.row [.i6 x52.Feat,.i6 (IntKind.i64.wrap (x52.To+(p1.length:Int)))] 66),(7,.row (q05 x52) 66),(6,.vec (List.map q05 l46).flatten 66 2 t47),(5,.row [.i6 x28.Typex,.vl 6 t47 0 l46.length] 54),(4,.row (q01 x28) 54),(3,.vec (List.map q01 l23).flatten 54 2 t24),(2,.row [.vl 3 t24 0 l23.length] 24),(1,.row [.nils] 24),(0,.row [.iM q01 p2.Nodes] 24)],9⟩) rfl (q0j und52 inf66 rfl rfl rfl rfl rfl rfl rfl) (RS.q (u:=.vl 6 (t47+1) 0 ((l46++[(q0s.mk x52.Feat (IntKind.i64.wrap (x52.To+(p1.length:Int))))]).length)) (σ':=⟨[(8,.row [.i6 x52.Feat,.i6 (IntKind.i64.wrap (x52.To+(p1.length:Int)))] 66),(7,.row (q05 x52) 66),(6,.vec (List.map q05 (l46++[(q0s.mk x52.Feat (IntKind.i64.wrap (x52.To+(p1.length:Int))))])).flatten 66 2 (t47+1)),(5,.row [.i6 x28.Typex,.vl 6 t47 0 l46.length] 54),(4,.row (q01 x28) 54),(3,.vec (List.map q01 l23).flatten 54 2 t24),(2,.row [.vl 3 t24 0 l23.length] 24),(1,.row [.nils] 24),(0,.row [.iM q01 p2.Nodes] 24)],9⟩) rfl (q1u rfl rfl rfl rfl (q2a q05 ([(q0s.mk x52.Feat (IntKind.i64.wrap (x52.To+(p1.length:Int))))]) und52 und52 inf66 rfl q0k rfl (q1q q05 [(q0s.mk x52.Feat (IntKind.i64.wrap (x52.To+(p1.length:Int))))] rfl rfl rfl rfl) h54)) (RS.q rfl (q0w und54 rfl (q03 inf52) rfl rfl rfl) ?_)))
 refine z4k (u:=.junk) (σ':=⟨[(8,.row [.i6 x52.Feat,.i6 (IntKind.i64.wrap (x52.To+(p1.length:Int)))] 66),(7,.row (q05 x52) 66),(6,.vec (List.map q05 (l46++[(q0s.mk x52.Feat (IntKind.i64.wrap (x52.To+(p1.length:Int))))])).flatten 66 2 (t47+1)),(5,.row [.i6 x28.Typex,.vl 6 (t47+1) 0 ((l46++[(q0s.mk x52.Feat (IntKind.i64.wrap (x52.To+(p1.length:Int))))]).length)] 54),(4,.row (q01 x28) 54),(3,.vec (List.map q01 l23).flatten 54 2 t24),(2,.row [.vl 3 t24 0 l23.length] 24),(1,.row [.nils] 24),(0,.row [.iM q01 p2.Nodes] 24)],9⟩) rfl (q0l (q03 inf52) rfl rfl rfl rfl rfl rfl rfl rfl) rfl ?_
 refine go ?_
 exact lC ⟨_,(l46++[(q0s.mk x52.Feat (IntKind.i64.wrap (x52.To+(p1.length:Int))))]),(t47+1),hF,rfl,rfl⟩
 refine go ?_
 exact xC ⟨l46,t47,hF,rfl,rfl⟩
 refine go ?_
 exact xC ⟨l23,t24,hF,rfl,rfl⟩
 rintro (_|m1) _ _ ⟨z10,l11,t12,hF,rfl,rfl⟩
 cases hF
 unfold q9v at hF
 refine go ?_
 refine cF hF (fun h55 hF=>?_) (fun h55 hF=>?_)
 refine go ?_
 refine WPU.block ?_
 obtain ⟨x56,h57,hF⟩:=q00 hF
 refine go ?_
 refine RS.q rfl (q0f rfl rfl (q0a (cI .i64) und33 (q03 inf3) (q18 .i64) h57 rfl)) (RS.q rfl (q0d und3 rfl rfl rfl) ?_)
 obtain ⟨h58,hF⟩:=q0b hF
 refine go ?_
 refine RS.q rfl (q0w und24 rfl (q03 inf22) rfl rfl rfl) (RS.q rfl (q0i und22 rfl rfl rfl rfl) ?_)
 refine go ?_
 refine RS.q (u:=.agg [.i6 x56,.i6 (IntKind.i64.wrap (z10+1))]) rfl (q3l bd66 rfl rfl rfl) ?_
 refine z54 (u:=.iM q05 ([(q0s.mk x56 (IntKind.i64.wrap (z10+1)))])) (σ':=⟨[(3,.vec (List.map q01 l11).flatten 54 2 t12),(2,.row [.vl 3 t12 0 l11.length] 24),(1,.row [.nils] 24),(0,.row [.iM q01 p2.Nodes] 24)],5⟩) rfl (qeq.fz Tryz.tb_ok (u1:=.sl 4 0 1 1) (s1:=⟨[(4,.row [.i6 x56,.i6 (IntKind.i64.wrap (z10+1))] 66),(3,.vec (List.map q01 l11).flatten 54 2 t12),(2,.row [.vl 3 t12 0 l11.length] 24),(1,.row [.nils] 24),(0,.row [.iM q01 p2.Nodes] 24)],5⟩) (q0j und52 inf66 rfl rfl rfl rfl rfl rfl rfl) (z4j 4 2) (Nat.le_refl _) rfl rfl) rfl rfl ?_
 refine RS.q (u:=.agg [.i6 0,.iM q05 ([(q0s.mk x56 (IntKind.i64.wrap (z10+1)))])]) rfl (q3l bd54 rfl rfl rfl) (RS.q (u:=.sl 5 0 1 1) (σ':=⟨[(5,.row [.i6 0,.iM q05 ([(q0s.mk x56 (IntKind.i64.wrap (z10+1)))])] 54),(3,.vec (List.map q01 l11).flatten 54 2 t12),(2,.row [.vl 3 t12 0 l11.length] 24),(1,.row [.nils] 24),(0,.row [.iM q01 p2.Nodes] 24)],6⟩) rfl (q0j und22 inf54 rfl rfl rfl rfl rfl rfl rfl) (RS.q (u:=.vl 3 (t12+1) 0 ((l11++[(q0n.mk 0 ([(q0s.mk x56 (IntKind.i64.wrap (z10+1)))]))]).length)) (σ':=⟨[(5,.row [.i6 0,.iM q05 ([(q0s.mk x56 (IntKind.i64.wrap (z10+1)))])] 54),(3,.vec (List.map q01 (l11++[(q0n.mk 0 ([(q0s.mk x56 (IntKind.i64.wrap (z10+1)))]))])).flatten 54 2 (t12+1)),(2,.row [.vl 3 t12 0 l11.length] 24),(1,.row [.nils] 24),(0,.row [.iM q01 p2.Nodes] 24)],6⟩) rfl (q1u rfl rfl rfl rfl (q2a q01 ([(q0n.mk 0 ([(q0s.mk x56 (IntKind.i64.wrap (z10+1)))]))]) und22 und22 inf54 rfl q1b rfl (q1q q01 [(q0n.mk 0 ([(q0s.mk x56 (IntKind.i64.wrap (z10+1)))]))] rfl rfl rfl rfl) h58)) (RS.q rfl (q0w und24 rfl (q03 inf22) rfl rfl rfl) ?_)))
 refine z4k (u:=.junk) (σ':=⟨[(5,.row [.i6 0,.iM q05 ([(q0s.mk x56 (IntKind.i64.wrap (z10+1)))])] 54),(3,.vec (List.map q01 (l11++[(q0n.mk 0 ([(q0s.mk x56 (IntKind.i64.wrap (z10+1)))]))])).flatten 54 2 (t12+1)),(2,.row [.vl 3 (t12+1) 0 ((l11++[(q0n.mk 0 ([(q0s.mk x56 (IntKind.i64.wrap (z10+1)))]))]).length)] 24),(1,.row [.nils] 24),(0,.row [.iM q01 p2.Nodes] 24)],6⟩) rfl (q0l (q03 inf22) rfl rfl rfl rfl rfl rfl rfl rfl) rfl ?_
 refine go ?_
 exact lC ⟨_,(l11++[(q0n.mk 0 ([(q0s.mk x56 (IntKind.i64.wrap (z10+1)))]))]),(t12+1),hF,rfl,rfl⟩
 refine go ?_
 exact xC ⟨l11,t12,hF,rfl,rfl⟩
def qdl (n:Nat) (l13:List (List UInt8)):Option ((List UInt8)) :=
 q04 (strings_Join n l13 ([46])) fun r15 =>
 some r15
def q9u (p1:q1a) (p2:List Int) (n:Nat):Nat→Int→(List (List UInt8))→Option ((List UInt8))
 | 0,_,_=>none
 | m1+1,z10,l11 =>
  cond (decide (z10<(p2.length:Int)))
   (q04 (q15 p2 z10) fun x18 =>
   q04 (q15 p1.Feats x18) fun x20 =>
   q1i ((l11.length+1)*16≤140737488355328∧l11.length+1≤140737488355328) (
   (q9u p1 p2 n m1) (IntKind.i64.wrap (z10+1)) (l11++[x20.Name])))
   (qdl n l11)
def qjt (n:Nat) (p1:q1a) (p2:List Int):Option ((List UInt8)) :=
 q9u p1 p2 n n 0 ([]:List (List UInt8))
theorem qf8 (n:Nat) (p1:q1a) (p2:List Int) (r:(List UInt8)) (hF:qjt n p1 p2=some r):EvU Tryz.prog 25 [.agg (q07 p1),.isl false (List.map (cI .i64) p2)] ⟨[],0⟩ (fun u _=>u = .str r∧Bel 0 u):=by
 unfold qjt at hF
 refine bg2 26 fn25 ?_
 refine go ?_
 refine RS.q (u:=.ptr 0 0 0) (σ':=⟨[(0,.row (q07 p1) 43)],1⟩) rfl (q2p rfl rfl rfl) ?_
 refine go ?_
 refine RS.q rfl (q0c rfl rfl rfl (q08 (cI .i64) und33)) ?_
 refine gn ?_
 refine WPU.ghost (tm':=fr 26 [(2,.ptr 0 0 0),(5,.vl 1 0 0 (([]:List (List UInt8)).length)),(8,.iM (cI .i64) p2),(9,.i6 (p2.length:Int)),(10,.i6 0)]) (σ':=⟨[(1,.vec (List.map cS ([]:List (List UInt8))).flatten 9 1 0),(0,.row (q07 p1) 43)],2⟩) (Gh.trans (z4n 5 9 1 (by decide) NZ rfl rfl) (z4l ⟨rfl,rfl,rfl,rfl,rfl,trivial⟩ rfl)) NZ ?_
 refine gS (l':=[(2,_),(5,_),(8,_),(9,_),(10,_)]) ?_
 refine z4g (fun m tm σ=>∃ z10:Int,∃ l11:List (List UInt8),∃ t12:Nat,q9u p1 p2 n m z10 l11=some r∧tm=fr 26 [(2,.ptr 0 0 0),(5,.vl 1 t12 0 l11.length),(8,.iM (cI .i64) p2),(9,.i6 (p2.length:Int)),(10,.i6 z10)]∧σ=⟨[(1,.vec (List.map cS l11).flatten 9 1 t12),(0,.row (q07 p1) 43)],2⟩) (fun tm σ=>∃ l13:List (List UInt8),∃ t14:Nat,qdl n l13=some r∧tm=fr 26 [(5,.vl 1 t14 0 l13.length)]∧σ=⟨[(1,.vec (List.map cS l13).flatten 9 1 t14),(0,.row (q07 p1) 43)],2⟩) n ⟨0,([]:List (List UInt8)),0,hF,rfl,rfl⟩ ?_ ?_
 rintro _ _ ⟨l13,t14,hF,rfl,rfl⟩
 unfold qdl at hF
 obtain ⟨r15,h16,hF⟩:=q00 hF
 refine go ?_
 refine RS.cl rfl (vw (qnw n l13 ([46]) r15 h16) (z4j 1 1)) fn52 ?_
 exact gx hF
 rintro (_|m1) _ _ ⟨z10,l11,t12,hF,rfl,rfl⟩
 cases hF
 unfold q9u at hF
 refine go ?_
 refine cF hF (fun h17 hF=>?_) (fun h17 hF=>?_)
 refine go ?_
 refine WPU.block ?_
 obtain ⟨x18,h19,hF⟩:=q00 hF
 refine go ?_
 refine RS.q rfl (q0f rfl rfl (q0a (cI .i64) und33 (q03 inf3) (q18 .i64) h19 rfl)) (RS.q rfl (q0d und3 rfl rfl rfl) ?_)
 obtain ⟨x20,h21,hF⟩:=q00 hF
 obtain ⟨h22,hF⟩:=q0b hF
 refine go ?_
 refine RS.q rfl (q0w und43 rfl (q03 inf41) rfl rfl rfl) (RS.q rfl (q0i und41 rfl rfl rfl rfl) ?_)
 refine go ?_
 refine RS.q rfl (q0f rfl rfl (q0a q1f und41 (q03 inf82) q9q h21 rfl)) (RS.q rfl (q1o und82 rfl (q03 inf9) rfl rfl) (RS.q rfl (q0d und9 rfl rfl rfl) (RS.q (u:=.sl 2 0 1 1) (σ':=⟨[(2,.row [.str x20.Name] 9),(1,.vec (List.map cS l11).flatten 9 1 t12),(0,.row (q07 p1) 43)],3⟩) rfl (q0j und80 inf9 rfl rfl rfl rfl rfl rfl rfl) (RS.q (u:=.vl 1 (t12+1) 0 ((l11++[x20.Name]).length)) (σ':=⟨[(2,.row [.str x20.Name] 9),(1,.vec (List.map cS (l11++[x20.Name])).flatten 9 1 (t12+1)),(0,.row (q07 p1) 43)],3⟩) rfl (q1u rfl rfl rfl rfl (q2a cS ([x20.Name]) und80 und80 inf9 rfl q1s rfl (q1q cS [x20.Name] rfl rfl rfl rfl) h22)) ?_))))
 refine go ?_
 exact lC ⟨_,(l11++[x20.Name]),(t12+1),hF,rfl,rfl⟩
 refine go ?_
 exact xC ⟨l11,t12,hF,rfl,rfl⟩
def qak   : Option (Int) :=
 some (-1)
def q71 (p1:q1a) (p2:List UInt8):Nat→Int→Option (Int)
 | 0,_=>none
 | m1+1,z9 =>
  cond (decide (z9<(p1.Feats.length:Int)))
   (q04 (q15 p1.Feats z9) fun x11 =>
   cond (qcn x11 (q1w.mk p2 x11.Intro))
    (some z9)
    ((q71 p1 p2 m1) (IntKind.i64.wrap (z9+1))))
   (qak)
def qf0 (n:Nat) (p1:q1a) (p2:List UInt8):Option (Int) :=
 q71 p1 p2 n 0
theorem qnl (n:Nat) (p1:q1a) (p2:List UInt8) (r:Int) (hF:qf0 n p1 p2=some r):EvU Tryz.prog 55 [.agg (q07 p1),.str p2] ⟨[],0⟩ (fun u _=>u = .int .i64 r∧Bel 0 u):=by
 unfold qf0 at hF
 refine bg2 23 fn55 ?_
 refine go ?_
 refine RS.q (u:=.ptr 0 0 0) (σ':=⟨[(0,.row (q07 p1) 43)],1⟩) rfl (q2p rfl rfl rfl) ?_
 refine go ?_
 refine RS.q rfl (q0w und43 rfl (q03 inf41) rfl rfl rfl) (RS.q rfl (q0i und41 rfl rfl rfl rfl) (RS.q rfl (q0c rfl rfl rfl (q08 q1f und41)) ?_))
 refine go ?_
 refine gS (l':=[(1,_),(8,_),(9,_),(10,_)]) ?_
 refine z4g (fun m tm σ=>∃ z9:Int,q71 p1 p2 m z9=some r∧tm=fr 23 [(1,.str p2),(8,.iM q1f p1.Feats),(9,.i6 (p1.Feats.length:Int)),(10,.i6 z9)]∧σ=⟨[(0,.row (q07 p1) 43)],1⟩) (fun tm σ=>qak=some r∧tm=fr 23 []∧σ=⟨[(0,.row (q07 p1) 43)],1⟩) n ⟨0,hF,rfl,rfl⟩ ?_ ?_
 rintro _ _ ⟨hF,rfl,rfl⟩
 unfold qak at hF
 exact gx hF
 rintro (_|m1) _ _ ⟨z9,hF,rfl,rfl⟩
 cases hF
 unfold q71 at hF
 refine go ?_
 refine cF hF (fun h10 hF=>?_) (fun h10 hF=>?_)
 refine go ?_
 refine WPU.block ?_
 obtain ⟨x11,h12,hF⟩:=q00 hF
 refine go ?_
 refine RS.q rfl (q0f rfl rfl (q0a q1f und41 (q03 inf82) q9q h12 rfl)) (RS.q (u:=.agg (q1f x11)) rfl (qam und82 rfl (q03 inf82) rfl rfl) (RS.q (u:=.ptr 1 0 0) (σ':=⟨[(1,.row [.str [],.i6 0] 82),(0,.row (q07 p1) 43)],2⟩) rfl (q0v inf82 rfl rfl) ?_))
 refine go ?_
 refine z4k (u:=.junk) (σ':=⟨[(1,.row (q1f x11) 82),(0,.row (q07 p1) 43)],2⟩) rfl (q0l (q03 inf82) rfl rfl rfl rfl rfl rfl rfl rfl) rfl ?_
 refine go ?_
 refine RS.q (u:=.agg (q1f x11)) rfl (q0p und82 rfl (q03 inf82) rfl rfl rfl) ?_
 refine go ?_
 refine RS.q rfl (q0w und82 rfl (q03 inf3) rfl rfl rfl) (RS.q rfl (q0i und3 rfl rfl rfl rfl) (RS.q (u:=.agg [.str p2,.i6 x11.Intro]) rfl (q3l bd82 rfl rfl rfl) (RS.q (u:=.bool (qcn x11 (q1w.mk p2 x11.Intro))) rfl (qan rfl rfl (qwv x11 (q1w.mk p2 x11.Intro))) ?_)))
 refine go ?_
 refine cF hF (fun h13 hF=>?_) (fun h13 hF=>?_)
 exact gx hF
 refine go ?_
 exact lC ⟨_,hF,rfl,rfl⟩
 refine go ?_
 exact xC ⟨hF,rfl,rfl⟩
def qdk  (l24:List Int):Option ((List Int)×Int) :=
 some (l24,0)
def q9t (p1:q1a) (n:Nat) (r4:(List (List UInt8))):Nat→Int→(List Int)→Option ((List Int)×Int)
 | 0,_,_=>none
 | m2+1,z21,l22 =>
  cond (decide (z21<(r4.length:Int)))
   (q04 (q15 r4 z21) fun x27 =>
   q04 (qf0 n p1 x27) fun r29 =>
   cond (decide (r29<0))
    (some ([],5))
    (q1i ((l22.length+1)*8≤140737488355328∧l22.length+1≤140737488355328) (
    (q9t p1 n r4 m2) (IntKind.i64.wrap (z21+1)) (l22++[r29]))))
   (qdk l22)
def qdj (p1:q1a) (n:Nat) (r4:(List (List UInt8)))  : Option ((List Int)×Int) :=
 q9t p1 n r4 n 0 ([]:List Int)
def q9s (p1:q1a) (n:Nat) (r4:(List (List UInt8))):Nat→Int→Option ((List Int)×Int)
 | 0,_=>none
 | m1+1,z13 =>
  cond (decide (z13<(r4.length:Int)))
   (q04 (q15 r4 z13) fun x34 =>
   q04 (qkv n x34) fun r36 =>
   cond (!r36)
    (some ([],8))
    ((q9s p1 n r4 m1) (IntKind.i64.wrap (z13+1))))
   (qdj p1 n r4)
def qcs (n:Nat) (p1:q1a) (p2:List UInt8):Option ((List Int)×Int) :=
 cond (q1x p2 [])
  (some ([],0))
  (q04 (qek n p2 ([46])) fun r4 =>
  cond (decide ((r4.length:Int) > 64))
   (some ([],7))
   (q9s p1 n r4 n 0))
theorem qf7 (n:Nat) (p1:q1a) (p2:List UInt8) (r:(List Int)×Int) (hF:qcs n p1 p2=some r):EvU Tryz.prog 26 [.agg (q07 p1),.str p2] ⟨[],0⟩ (fun u _=>u = .tup [.isl false (List.map (cI .i64) r.1),.int .i64 r.2]∧Bel 0 u):=by
 unfold qcs at hF
 refine bg2 47 fn26 ?_
 refine go ?_
 refine RS.q (u:=.ptr 0 0 0) (σ':=⟨[(0,.row (q07 p1) 43)],1⟩) rfl (q2p rfl rfl rfl) ?_
 refine go ?_
 refine RS.q (u:=.bool (q1x p2 [])) rfl (q9m rfl rfl rfl rfl) ?_
 refine go ?_
 refine cF hF (fun h3 hF=>?_) (fun h3 hF=>?_)
 refine go ?_
 obtain rfl:=sI hF
 exact rT (us:=[.nils,.i6 0]) (u:=.tup [.isl false [],.i6 0]) (q2o rfl (q2o rfl (q2g))) wR
 obtain ⟨r4,h5,hF⟩:=q00 hF
 refine go ?_
 refine RS.cl rfl (ql5 n p2 ([46]) r4 h5 _) fn53 ?_
 refine go ?_
 refine RS.q rfl (q0c rfl rfl rfl (q08 cS und80)) ?_
 refine go ?_
 refine cF hF (fun h6 hF=>?_) (fun h6 hF=>?_)
 refine go ?_
 obtain rfl:=sI hF
 exact rT (us:=[.nils,.i6 7]) (u:=.tup [.isl false [],.i6 7]) (q2o rfl (q2o rfl (q2g))) wR
 refine go ?_
 refine RS.q rfl (q0c rfl rfl rfl (q08 cS und80)) ?_
 refine go ?_
 refine gS (l':=[(2,_),(6,_),(20,_),(21,_),(22,_)]) ?_
 refine z4g (fun m tm σ=>∃ z13:Int,q9s p1 n r4 m z13=some r∧tm=fr 47 [(2,.ptr 0 0 0),(6,.iM cS r4),(20,.iM cS r4),(21,.i6 (r4.length:Int)),(22,.i6 z13)]∧σ=⟨[(0,.row (q07 p1) 43)],1⟩) (fun tm σ=>qdj p1 n r4=some r∧tm=fr 47 [(2,.ptr 0 0 0),(6,.iM cS r4)]∧σ=⟨[(0,.row (q07 p1) 43)],1⟩) n ⟨0,hF,rfl,rfl⟩ ?_ ?_
 rintro _ _ ⟨hF,rfl,rfl⟩
 unfold qdj at hF
 refine go ?_
 refine RS.q rfl (q0c rfl rfl rfl (q08 cS und80)) ?_
 refine gn ?_
 refine WPU.ghost (tm':=fr 47 [(2,.ptr 0 0 0),(9,.vl 1 0 0 (([]:List Int).length)),(30,.iM cS r4),(31,.i6 (r4.length:Int)),(32,.i6 0)]) (σ':=⟨[(1,.vec (List.map (cI .i64) ([]:List Int)).flatten 3 1 0),(0,.row (q07 p1) 43)],2⟩) (Gh.trans (z4n 9 3 1 (by decide) NZ rfl rfl) (z4l ⟨rfl,rfl,rfl,rfl,rfl,trivial⟩ rfl)) NZ ?_
 refine gS (l':=[(2,_),(9,_),(30,_),(31,_),(32,_)]) ?_
 refine z4g (fun m tm σ=>∃ z21:Int,∃ l22:List Int,∃ t23:Nat,q9t p1 n r4 m z21 l22=some r∧tm=fr 47 [(2,.ptr 0 0 0),(9,.vl 1 t23 0 l22.length),(30,.iM cS r4),(31,.i6 (r4.length:Int)),(32,.i6 z21)]∧σ=⟨[(1,.vec (List.map (cI .i64) l22).flatten 3 1 t23),(0,.row (q07 p1) 43)],2⟩) (fun tm σ=>∃ l24:List Int,∃ t25:Nat,qdk l24=some r∧tm=fr 47 [(9,.vl 1 t25 0 l24.length)]∧σ=⟨[(1,.vec (List.map (cI .i64) l24).flatten 3 1 t25),(0,.row (q07 p1) 43)],2⟩) n ⟨0,([]:List Int),0,hF,rfl,rfl⟩ ?_ ?_
 rintro _ _ ⟨l24,t25,hF,rfl,rfl⟩
 unfold qdk at hF
 refine go ?_
 obtain rfl:=sI hF
 exact rT (us:=[.vl 1 t25 0 l24.length,.i6 0]) (u:=.tup [.iM (cI .i64) l24,.i6 0]) (q2o rfl (q2o rfl (q2g))) (fR 1 1)
 rintro (_|m2) _ _ ⟨z21,l22,t23,hF,rfl,rfl⟩
 cases hF
 unfold q9t at hF
 refine go ?_
 refine cF hF (fun h26 hF=>?_) (fun h26 hF=>?_)
 refine go ?_
 refine WPU.block ?_
 obtain ⟨x27,h28,hF⟩:=q00 hF
 refine go ?_
 refine RS.q rfl (q0f rfl rfl (q0a cS und80 (q03 inf9) q1s h28 rfl)) (RS.q rfl (q0d und9 rfl rfl rfl) ?_)
 obtain ⟨r29,h30,hF⟩:=q00 hF
 refine go ?_
 refine RS.q (u:=.agg (q07 p1)) rfl (q0p und43 rfl (q03 inf43) rfl rfl rfl) ?_
 refine go ?_
 refine RS.cl rfl (pC (qnl n p1 x27 r29 h30) _) fn55 ?_
 refine go ?_
 refine cF hF (fun h31 hF=>?_) (fun h31 hF=>?_)
 refine go ?_
 obtain rfl:=sI hF
 exact rT (us:=[.nils,.i6 5]) (u:=.tup [.isl false [],.i6 5]) (q2o rfl (q2o rfl (q2g))) wR
 obtain ⟨h32,hF⟩:=q0b hF
 refine go ?_
 refine RS.q (u:=.sl 2 0 1 1) (σ':=⟨[(2,.row [.i6 r29] 3),(1,.vec (List.map (cI .i64) l22).flatten 3 1 t23),(0,.row (q07 p1) 43)],3⟩) rfl (q0j und33 inf3 rfl rfl rfl rfl rfl rfl rfl) (RS.q (u:=.vl 1 (t23+1) 0 ((l22++[r29]).length)) (σ':=⟨[(2,.row [.i6 r29] 3),(1,.vec (List.map (cI .i64) (l22++[r29])).flatten 3 1 (t23+1)),(0,.row (q07 p1) 43)],3⟩) rfl (q1u rfl rfl rfl rfl (q2a (cI .i64) ([r29]) und33 und33 inf3 rfl (q18 .i64) rfl (q1q (cI .i64) [r29] rfl rfl rfl rfl) h32)) ?_)
 refine go ?_
 exact lC ⟨_,(l22++[r29]),(t23+1),hF,rfl,rfl⟩
 refine go ?_
 exact xC ⟨l22,t23,hF,rfl,rfl⟩
 rintro (_|m1) _ _ ⟨z13,hF,rfl,rfl⟩
 cases hF
 unfold q9s at hF
 refine go ?_
 refine cF hF (fun h33 hF=>?_) (fun h33 hF=>?_)
 refine go ?_
 refine WPU.block ?_
 obtain ⟨x34,h35,hF⟩:=q00 hF
 refine go ?_
 refine RS.q rfl (q0f rfl rfl (q0a cS und80 (q03 inf9) q1s h35 rfl)) (RS.q rfl (q0d und9 rfl rfl rfl) ?_)
 obtain ⟨r36,h37,hF⟩:=q00 hF
 refine go ?_
 refine RS.cl rfl (qn6 n x34 r36 h37 _) fn54 ?_
 refine go ?_
 refine cF hF (fun h38 hF=>?_) (fun h38 hF=>?_)
 refine go ?_
 obtain rfl:=sI hF
 exact rT (us:=[.nils,.i6 8]) (u:=.tup [.isl false [],.i6 8]) (q2o rfl (q2o rfl (q2g))) wR
 refine go ?_
 exact lC ⟨_,hF,rfl,rfl⟩
 refine go ?_
 exact xC ⟨hF,rfl,rfl⟩
def qeh   : Option (Bool) :=
 some true
def qac (p1:List Int) (p2:List Int):Nat→Int→Option (Bool)
 | 0,_=>none
 | m1+1,z7 =>
  cond (decide (z7<(p1.length:Int)))
   (q04 (q15 p1 z7) fun x9 =>
   q04 (q15 p2 z7) fun x11 =>
   cond (x9 != x11)
    (some false)
    ((qac p1 p2 m1) (IntKind.i64.wrap (z7+1))))
   (qeh)
def qg5 (n:Nat) (p1:List Int) (p2:List Int):Option (Bool) :=
 cond ((p1.length:Int) != (p2.length:Int))
  (some false)
  (qac p1 p2 n 0)
theorem qfm (n:Nat) (p1:List Int) (p2:List Int) (r:Bool) (hF:qg5 n p1 p2=some r):EvU Tryz.prog 47 [.isl false (List.map (cI .i64) p1),.isl false (List.map (cI .i64) p2)] ⟨[],0⟩ (fun u _=>u = .bool r∧Bel 0 u):=by
 unfold qg5 at hF
 refine bg2 26 fn47 ?_
 refine go ?_
 refine RS.q rfl (q0c rfl rfl rfl (q08 (cI .i64) und33)) ?_
 refine go ?_
 refine RS.q rfl (q0c rfl rfl rfl (q08 (cI .i64) und33)) ?_
 refine go ?_
 refine cF hF (fun h3 hF=>?_) (fun h3 hF=>?_)
 exact gx hF
 refine go ?_
 refine gS (l':=[(0,_),(1,_),(5,_)]) ?_
 refine z4g (fun m tm σ=>∃ z7:Int,qac p1 p2 m z7=some r∧tm=fr 26 [(0,.iM (cI .i64) p1),(1,.iM (cI .i64) p2),(5,.i6 z7)]∧σ=⟨[],0⟩) (fun tm σ=>qeh=some r∧tm=fr 26 []∧σ=⟨[],0⟩) n ⟨0,hF,rfl,rfl⟩ ?_ ?_
 rintro _ _ ⟨hF,rfl,rfl⟩
 unfold qeh at hF
 exact gx hF
 rintro (_|m1) _ _ ⟨z7,hF,rfl,rfl⟩
 cases hF
 unfold qac at hF
 refine go ?_
 refine RS.q rfl (q0c rfl rfl rfl (q08 (cI .i64) und33)) ?_
 refine go ?_
 refine cF hF (fun h8 hF=>?_) (fun h8 hF=>?_)
 refine go ?_
 refine WPU.block ?_
 obtain ⟨x9,h10,hF⟩:=q00 hF
 obtain ⟨x11,h12,hF⟩:=q00 hF
 refine go ?_
 refine z4i Tryz.tb_ok [] (by kernel_rfl) ?_
 repeat refine RD.mv rfl rfl rfl rfl ?_
 refine RD.q rfl (q0f rfl rfl (q0a (cI .i64) und33 (q03 inf3) (q18 .i64) h10 rfl)) (RD.q rfl (q0d und3 rfl rfl rfl) ?_)
 repeat refine RD.mv rfl rfl rfl rfl ?_
 refine RD.q rfl (q0f rfl rfl (q0a (cI .i64) und33 (q03 inf3) (q18 .i64) h12 rfl)) (RD.q rfl (q0d und3 rfl rfl rfl) (RD.q rfl (q3b rfl rfl (qqs _ _ _) rfl) ?_))
 refine RD.done ⟨by kernel_rfl,trivial,?_⟩
 refine go ?_
 refine cF hF (fun h13 hF=>?_) (fun h13 hF=>?_)
 exact gx hF
 refine go ?_
 exact lC ⟨_,hF,rfl,rfl⟩
 refine go ?_
 exact xC ⟨hF,rfl,rfl⟩
def qgp (p1:q1a) (p2:List Int) (z9:Int) (rc1:(List UInt8)→Int→Option ((List UInt8))) (s13:List UInt8):Option ((List UInt8)) :=
 q04 (q15 p2 z9) fun x14 =>
 q04 (q15 p1.Feats x14) fun x16 =>
 q1i (s13.length+x16.Name.length≤9223372036854775807) (
 rc1 (s13++x16.Name) (IntKind.i64.wrap (z9+1)))
def qnu  (s10:List UInt8):Option ((List UInt8)) :=
 some s10
def qgq (p1:q1a) (p2:List Int):Nat→(List UInt8)→Int→Option ((List UInt8))
 | 0,_,_=>none
 | m1+1,s8,z9 =>
  cond (decide (z9<(p2.length:Int)))
   (cond (decide (z9 > 0))
    (q1i (s8.length+([46]).length≤9223372036854775807) (
    qgp p1 p2 z9 (qgq p1 p2 m1) (s8++[46])))
    (qgp p1 p2 z9 (qgq p1 p2 m1) s8))
   (qnu s8)
def qdt (n:Nat) (p1:Int):Option (Bool) :=
 q04 (cond (decide (p1 ≥ 48))
  (some (decide (p1≤57)))
  (some false)) fun b3 =>
 some b3
theorem q34 (n:Nat) (p1:Int) (r:Bool) (hF:qdt n p1=some r):EvU Tryz.prog 109 [.int .u8 p1] ⟨[],0⟩ (fun u _=>u = .bool r∧Bel 0 u):=by
 unfold qdt at hF
 refine bg1 9 fn109 ?_
 obtain ⟨b3,h4,hF⟩:=q00 hF
 refine gr ?_
 refine z4h (fun tm σ=>tm=fr 9 [(2,.bool b3)]∧σ=⟨[],0⟩) ?_ ?_
 rintro _ _ ⟨rfl,rfl⟩
 exact gx hF
 rcases gB h4 with ⟨h2,h4⟩ | ⟨h2,h4⟩
 exact gy h4
 exact gy h4
def qh6 (n:Nat) (p1:Int):Option (Bool) :=
 q04 (cond (decide (p1 ≥ 65))
  (some (decide (p1≤90)))
  (some false)) fun b3 =>
 some b3
theorem qdw (n:Nat) (p1:Int) (r:Bool) (hF:qh6 n p1=some r):EvU Tryz.prog 140 [.int .u8 p1] ⟨[],0⟩ (fun u _=>u = .bool r∧Bel 0 u):=by
 unfold qh6 at hF
 refine bg1 9 fn140 ?_
 obtain ⟨b3,h4,hF⟩:=q00 hF
 refine gr ?_
 refine z4h (fun tm σ=>tm=fr 9 [(2,.bool b3)]∧σ=⟨[],0⟩) ?_ ?_
 rintro _ _ ⟨rfl,rfl⟩
 exact gx hF
 rcases gB h4 with ⟨h2,h4⟩ | ⟨h2,h4⟩
 exact gy h4
 exact gy h4
def qdu (n:Nat) (p1:Int):Option (Bool) :=
 q04 (cond (decide (p1 ≥ 97))
  (some (decide (p1≤122)))
  (some false)) fun b3 =>
 some b3
theorem qip (n:Nat) (p1:Int) (r:Bool) (hF:qdu n p1=some r):EvU Tryz.prog 141 [.int .u8 p1] ⟨[],0⟩ (fun u _=>u = .bool r∧Bel 0 u):=by
 unfold qdu at hF
 refine bg1 9 fn141 ?_
 obtain ⟨b3,h4,hF⟩:=q00 hF
 refine gr ?_
 refine z4h (fun tm σ=>tm=fr 9 [(2,.bool b3)]∧σ=⟨[],0⟩) ?_ ?_
 rintro _ _ ⟨rfl,rfl⟩
 exact gx hF
 rcases gB h4 with ⟨h2,h4⟩ | ⟨h2,h4⟩
 exact gy h4
 exact gy h4
def qjy (n:Nat) (p1:Int) (p2:Bool):Option (Bool) :=
 q04 (q04 (qdt n p1) fun r3 =>
 cond r3
  (some true)
  (cond (p1 == 45)
   (some true)
   (cond p2
    (q04 (qh6 n p1) fun r8 =>
    cond r8
     (some true)
     (cond (!p2)
      (q04 (qdu n p1) fun r12 =>
      some r12)
      (some false)))
    (cond (!p2)
     (q04 (qdu n p1) fun r15 =>
     some r15)
     (some false))))) fun b17 =>
 some b17
theorem qra (n:Nat) (p1:Int) (p2:Bool) (r:Bool) (hF:qjy n p1 p2=some r):EvU Tryz.prog 110 [.int .u8 p1,.bool p2] ⟨[],0⟩ (fun u _=>u = .bool r∧Bel 0 u):=by
 unfold qjy at hF
 refine bg2 26 fn110 ?_
 obtain ⟨b17,h18,hF⟩:=q00 hF
 refine gr ?_
 refine z4h (fun tm σ=>tm=fr 26 [(4,.bool b17)]∧σ=⟨[],0⟩) ?_ ?_
 rintro _ _ ⟨rfl,rfl⟩
 exact gx hF
 obtain ⟨r3,h4,h18⟩:=q00 h18
 rcases gB h18 with ⟨h5,h18⟩ | ⟨h5,h18⟩
 obtain rfl:=sI h18
 refine go ?_
 refine RS.cl rfl (pC (q34 n p1 r3 h4) _) fn109 ?_
 refine go ?_
 repeat refine RS.no (qn7 rfl rfl rfl) rfl rfl ?_
 refine go ?_
 repeat refine RS.no (qn7 rfl rfl rfl) rfl rfl ?_
 refine go ?_
 exact xC ⟨rfl,rfl⟩
 rcases gB h18 with ⟨h6,h18⟩ | ⟨h6,h18⟩
 obtain rfl:=sI h18
 refine go ?_
 refine RS.cl rfl (pC (q34 n p1 r3 h4) _) fn109 ?_
 refine go ?_
 repeat refine RS.no (qn7 rfl rfl rfl) rfl rfl ?_
 refine go ?_
 repeat refine RS.no (qn7 rfl rfl rfl) rfl rfl ?_
 refine go ?_
 exact xC ⟨rfl,rfl⟩
 rcases gB h18 with ⟨h7,h18⟩ | ⟨h7,h18⟩
 obtain ⟨r8,h9,h18⟩:=q00 h18
 rcases gB h18 with ⟨h10,h18⟩ | ⟨h10,h18⟩
 obtain rfl:=sI h18
 refine go ?_
 refine RS.cl rfl (pC (q34 n p1 r3 h4) _) fn109 ?_
 refine go ?_
 refine RS.cl rfl (pC (qdw n p1 r8 h9) _) fn140 ?_
 refine go ?_
 repeat refine RS.no (qn7 rfl rfl rfl) rfl rfl ?_
 refine go ?_
 exact xC ⟨rfl,rfl⟩
 rcases gB h18 with ⟨h11,h18⟩ | ⟨h11,h18⟩
 obtain ⟨r12,h13,h18⟩:=q00 h18
 obtain rfl:=sI h18
 refine go ?_
 refine RS.cl rfl (pC (q34 n p1 r3 h4) _) fn109 ?_
 refine go ?_
 refine RS.cl rfl (pC (qdw n p1 r8 h9) _) fn140 ?_
 refine go ?_
 refine RS.cl rfl (pC (qip n p1 r12 h13) _) fn141 ?_
 refine go ?_
 exact xC ⟨rfl,rfl⟩
 obtain rfl:=sI h18
 refine go ?_
 refine RS.cl rfl (pC (q34 n p1 r3 h4) _) fn109 ?_
 refine go ?_
 refine RS.cl rfl (pC (qdw n p1 r8 h9) _) fn140 ?_
 refine go ?_
 exact xC ⟨rfl,rfl⟩
 rcases gB h18 with ⟨h14,h18⟩ | ⟨h14,h18⟩
 obtain ⟨r15,h16,h18⟩:=q00 h18
 obtain rfl:=sI h18
 refine go ?_
 refine RS.cl rfl (pC (q34 n p1 r3 h4) _) fn109 ?_
 refine go ?_
 refine RS.cl rfl (pC (qip n p1 r15 h16) _) fn141 ?_
 refine go ?_
 exact xC ⟨rfl,rfl⟩
 obtain rfl:=sI h18
 refine go ?_
 refine RS.cl rfl (pC (q34 n p1 r3 h4) _) fn109 ?_
 refine go ?_
 exact xC ⟨rfl,rfl⟩
def qbr   : Option (Bool) :=
 some true
def q86 (p1:List UInt8) (p2:Bool) (n:Nat):Nat→Int→Option (Bool)
 | 0,_=>none
 | m1+1,z18 =>
  cond (decide (z18<(p1.length:Int)))
   (q04 (qz5 p1 z18) fun x20 =>
   q04 (qjy n x20 p2) fun r22 =>
   cond (!r22)
    (some false)
    ((q86 p1 p2 n m1) (IntKind.i64.wrap (z18+1))))
   (qbr)
def qdv (n:Nat) (p1:List UInt8) (p2:Bool):Option (Bool) :=
 q04 (cond (decide ((p1.length:Int)<1))
  (some true)
  (cond (decide ((p1.length:Int) > 32))
   (some true)
   (q04 (qz5 p1 0) fun x5 =>
   q04 (qdt n x5) fun r7 =>
   cond r7
    (some true)
    (q04 (qz5 p1 0) fun x10 =>
    some (x10 == 45))))) fun b12 =>
 cond b12
  (some false)
  (q86 p1 p2 n n 0)
theorem qiq (n:Nat) (p1:List UInt8) (p2:Bool) (r:Bool) (hF:qdv n p1 p2=some r):EvU Tryz.prog 81 [.str p1,.bool p2] ⟨[],0⟩ (fun u _=>u = .bool r∧Bel 0 u):=by
 unfold qdv at hF
 refine bg2 36 fn81 ?_
 obtain ⟨b12,h13,hF⟩:=q00 hF
 refine gr ?_
 refine z4h (fun tm σ=>tm=fr 36 [(0,.str p1),(1,.bool p2),(23,.bool b12)]∧σ=⟨[],0⟩) ?_ ?_
 rintro _ _ ⟨rfl,rfl⟩
 refine go ?_
 refine cF hF (fun h14 hF=>?_) (fun h14 hF=>?_)
 exact gx hF
 refine go ?_
 refine gS (l':=[(0,_),(1,_),(5,_)]) ?_
 refine z4g (fun m tm σ=>∃ z18:Int,q86 p1 p2 n m z18=some r∧tm=fr 36 [(0,.str p1),(1,.bool p2),(5,.i6 z18)]∧σ=⟨[],0⟩) (fun tm σ=>qbr=some r∧tm=fr 36 []∧σ=⟨[],0⟩) n ⟨0,hF,rfl,rfl⟩ ?_ ?_
 rintro _ _ ⟨hF,rfl,rfl⟩
 unfold qbr at hF
 exact gx hF
 rintro (_|m1) _ _ ⟨z18,hF,rfl,rfl⟩
 cases hF
 unfold q86 at hF
 refine go ?_
 refine RS.q (u:=.i6 (p1.length:Int)) rfl (q0c rfl rfl rfl (by simp only [qrz,und9])) ?_
 refine go ?_
 refine cF hF (fun h19 hF=>?_) (fun h19 hF=>?_)
 refine go ?_
 refine WPU.block ?_
 obtain ⟨x20,h21,hF⟩:=q00 hF
 obtain ⟨r22,h23,hF⟩:=q00 hF
 refine go ?_
 refine RS.q (u:=.int .u8 x20) rfl (qp7 und9 rfl rfl h21) ?_
 refine go ?_
 refine RS.cl rfl (pC (qra n x20 p2 r22 h23) _) fn110 ?_
 refine go ?_
 refine cF hF (fun h24 hF=>?_) (fun h24 hF=>?_)
 exact gx hF
 refine go ?_
 exact lC ⟨_,hF,rfl,rfl⟩
 refine go ?_
 exact xC ⟨hF,rfl,rfl⟩
 rcases gB h13 with ⟨h3,h13⟩ | ⟨h3,h13⟩
 obtain rfl:=sI h13
 refine go ?_
 refine RS.q (u:=.i6 (p1.length:Int)) rfl (q0c rfl rfl rfl (by simp only [qrz,und9])) ?_
 refine go ?_
 exact xC ⟨rfl,rfl⟩
 rcases gB h13 with ⟨h4,h13⟩ | ⟨h4,h13⟩
 obtain rfl:=sI h13
 refine go ?_
 refine RS.q (u:=.i6 (p1.length:Int)) rfl (q0c rfl rfl rfl (by simp only [qrz,und9])) ?_
 refine go ?_
 refine RS.w (u:=.i6 (p1.length:Int)) rfl (q0c rfl rfl rfl (by simp only [qrz,und9])) ?_
 refine go ?_
 exact xC ⟨rfl,rfl⟩
 obtain ⟨x5,h6,h13⟩:=q00 h13
 obtain ⟨r7,h8,h13⟩:=q00 h13
 rcases gB h13 with ⟨h9,h13⟩ | ⟨h9,h13⟩
 obtain rfl:=sI h13
 refine go ?_
 refine RS.q (u:=.i6 (p1.length:Int)) rfl (q0c rfl rfl rfl (by simp only [qrz,und9])) ?_
 refine go ?_
 refine RS.w (u:=.i6 (p1.length:Int)) rfl (q0c rfl rfl rfl (by simp only [qrz,und9])) ?_
 refine go ?_
 refine RS.w (u:=.int .u8 x5) rfl (qp7 und9 rfl rfl h6) (RS.cl rfl (pC (q34 n x5 r7 h8) _) fn109 ?_)
 refine go ?_
 exact xC ⟨rfl,rfl⟩
 obtain ⟨x10,h11,h13⟩:=q00 h13
 obtain rfl:=sI h13
 refine go ?_
 refine RS.q (u:=.i6 (p1.length:Int)) rfl (q0c rfl rfl rfl (by simp only [qrz,und9])) ?_
 refine go ?_
 refine RS.w (u:=.i6 (p1.length:Int)) rfl (q0c rfl rfl rfl (by simp only [qrz,und9])) ?_
 refine go ?_
 refine RS.w (u:=.int .u8 x5) rfl (qp7 und9 rfl rfl h6) (RS.cl rfl (pC (q34 n x5 r7 h8) _) fn109 ?_)
 refine go ?_
 refine RS.w (u:=.int .u8 x10) rfl (qp7 und9 rfl rfl h11) ?_
 refine go ?_
 exact xC ⟨rfl,rfl⟩
def qds (n:Nat) (p1:List UInt8):Option (Bool) :=
 q04 (qdv n p1 true) fun r2 =>
 some r2
theorem qms (n:Nat) (p1:List UInt8) (r:Bool) (hF:qds n p1=some r):EvU Tryz.prog 57 [.str p1] ⟨[],0⟩ (fun u _=>u = .bool r∧Bel 0 u):=by
 unfold qds at hF
 refine bg1 5 fn57 ?_
 obtain ⟨r2,h3,hF⟩:=q00 hF
 refine go ?_
 refine RS.cl rfl (pC (qiq n p1 true r2 h3) _) fn81 ?_
 exact gx hF
def q6l   : Option (Bool) :=
 some true
def q4d (p1:List q0q) (p2:List q0q) (n:Nat):Nat→Int→Option (Bool)
 | 0,_=>none
 | m1+1,z7 =>
  cond (decide (z7<(p1.length:Int)))
   (q04 (q04 (q15 p1 z7) fun x9 =>
   q04 (q15 p2 z7) fun x11 =>
   q04 (qg5 n x9.A x11.A) fun r13 =>
   cond (!r13)
    (some true)
    (q04 (q15 p1 z7) fun x16 =>
    q04 (q15 p2 z7) fun x18 =>
    q04 (qg5 n x16.B x18.B) fun r20 =>
    some (!r20))) fun b22 =>
   cond b22
    (some false)
    ((q4d p1 p2 n m1) (IntKind.i64.wrap (z7+1))))
   (q6l)
def q6g (n:Nat) (p1:List q0q) (p2:List q0q):Option (Bool) :=
 cond ((p1.length:Int) != (p2.length:Int))
  (some false)
  (q4d p1 p2 n n 0)
theorem q7j (n:Nat) (p1:List q0q) (p2:List q0q) (r:Bool) (hF:q6g n p1 p2=some r):EvU Tryz.prog 17 [.isl false (List.map q0r p1),.isl false (List.map q0r p2)] ⟨[],0⟩ (fun u _=>u = .bool r∧Bel 0 u):=by
 unfold q6g at hF
 refine bg2 43 fn17 ?_
 refine go ?_
 refine RS.q rfl (q0c rfl rfl rfl (q08 q0r und31)) ?_
 refine go ?_
 refine RS.q rfl (q0c rfl rfl rfl (q08 q0r und31)) ?_
 refine go ?_
 refine cF hF (fun h3 hF=>?_) (fun h3 hF=>?_)
 exact gx hF
 refine go ?_
 refine gS (l':=[(0,_),(1,_),(5,_)]) ?_
 refine z4g (fun m tm σ=>∃ z7:Int,q4d p1 p2 n m z7=some r∧tm=fr 43 [(0,.iM q0r p1),(1,.iM q0r p2),(5,.i6 z7)]∧σ=⟨[],0⟩) (fun tm σ=>q6l=some r∧tm=fr 43 []∧σ=⟨[],0⟩) n ⟨0,hF,rfl,rfl⟩ ?_ ?_
 rintro _ _ ⟨hF,rfl,rfl⟩
 unfold q6l at hF
 exact gx hF
 rintro (_|m1) _ _ ⟨z7,hF,rfl,rfl⟩
 cases hF
 unfold q4d at hF
 refine go ?_
 refine RS.q rfl (q0c rfl rfl rfl (q08 q0r und31)) ?_
 refine go ?_
 refine cF hF (fun h8 hF=>?_) (fun h8 hF=>?_)
 refine go ?_
 refine WPU.block ?_
 obtain ⟨b22,h23,hF⟩:=q00 hF
 refine gn ?_
 refine z4h (fun tm σ=>tm=fr 43 [(0,.iM q0r p1),(1,.iM q0r p2),(5,.i6 z7),(42,.bool b22)]∧σ=⟨[],0⟩) ?_ ?_
 rintro _ _ ⟨rfl,rfl⟩
 refine go ?_
 refine cF hF (fun h24 hF=>?_) (fun h24 hF=>?_)
 exact gx hF
 refine go ?_
 exact lC ⟨_,hF,rfl,rfl⟩
 obtain ⟨x9,h10,h23⟩:=q00 h23
 obtain ⟨x11,h12,h23⟩:=q00 h23
 obtain ⟨r13,h14,h23⟩:=q00 h23
 rcases gB h23 with ⟨h15,h23⟩ | ⟨h15,h23⟩
 obtain rfl:=sI h23
 refine z4i Tryz.tb_ok [] (by kernel_rfl) ?_
 repeat refine RD.mv rfl rfl rfl rfl ?_
 refine RD.q rfl (q0f rfl rfl (q0a q0r und31 (q03 inf56) q3r h10 rfl)) (RD.q rfl (q1o und56 rfl (q03 inf33) rfl rfl) (RD.q rfl (q0d und33 rfl rfl rfl) ?_))
 repeat refine RD.mv rfl rfl rfl rfl ?_
 refine RD.q rfl (q0f rfl rfl (q0a q0r und31 (q03 inf56) q3r h12 rfl)) (RD.q rfl (q1o und56 rfl (q03 inf33) rfl rfl) (RD.q rfl (q0d und33 rfl rfl rfl) ?_))
 refine z4w rfl (pC (qfm n x9.A x11.A r13 h14)) fn47 ?_
 refine RD.q rfl (qvm rfl rfl rfl rfl) (RD.mv rfl rfl rfl rfl ?_)
 repeat refine RD.no (qvx rfl rfl rfl h15) rfl rfl ?_
 refine RD.q rfl (qil rfl h15 rfl) ?_
 refine RD.done ⟨by kernel_rfl,trivial,?_⟩
 refine go ?_
 exact xC ⟨rfl,rfl⟩
 obtain ⟨x16,h17,h23⟩:=q00 h23
 obtain ⟨x18,h19,h23⟩:=q00 h23
 obtain ⟨r20,h21,h23⟩:=q00 h23
 obtain rfl:=sI h23
 refine z4i Tryz.tb_ok [] (by kernel_rfl) ?_
 repeat refine RD.mv rfl rfl rfl rfl ?_
 refine RD.q rfl (q0f rfl rfl (q0a q0r und31 (q03 inf56) q3r h10 rfl)) (RD.q rfl (q1o und56 rfl (q03 inf33) rfl rfl) (RD.q rfl (q0d und33 rfl rfl rfl) ?_))
 repeat refine RD.mv rfl rfl rfl rfl ?_
 refine RD.q rfl (q0f rfl rfl (q0a q0r und31 (q03 inf56) q3r h12 rfl)) (RD.q rfl (q1o und56 rfl (q03 inf33) rfl rfl) (RD.q rfl (q0d und33 rfl rfl rfl) ?_))
 refine z4w rfl (pC (qfm n x9.A x11.A r13 h14)) fn47 ?_
 refine RD.q rfl (qvm rfl rfl rfl rfl) (RD.mv rfl rfl rfl rfl (RD.w rfl (q27 rfl) (RD.w rfl (q27 rfl) (RD.w rfl (q0f rfl rfl (q0a q0r und31 (q03 inf56) q3r h17 rfl)) (RD.w rfl (q1o und56 rfl (q03 inf33) rfl rfl) (RD.w rfl (q0d und33 rfl rfl rfl) (RD.w rfl (q27 rfl) ?_)))))))
 refine RD.w rfl (q27 rfl) (RD.w rfl (q0f rfl rfl (q0a q0r und31 (q03 inf56) q3r h19 rfl)) (RD.w rfl (q1o und56 rfl (q03 inf33) rfl rfl) (RD.w rfl (q0d und33 rfl rfl rfl) ?_)))
 refine z4w rfl (pC (qfm n x16.B x18.B r20 h21)) fn47 ?_
 refine RD.w rfl (qvm rfl rfl rfl rfl) (RD.q rfl (qik rfl h15 rfl) ?_)
 refine RD.done ⟨by kernel_rfl,trivial,?_⟩
 refine go ?_
 exact xC ⟨rfl,rfl⟩
 refine go ?_
 exact xC ⟨hF,rfl,rfl⟩
def qeg   : Option (Int×Bool) :=
 some (0,false)
def q7k (p3:Int) (x4:q0n):Nat→Int→Option (Int×Bool)
 | 0,_=>none
 | m1+1,z10 =>
  cond (decide (z10<(x4.Arcs.length:Int)))
   (q04 (q15 x4.Arcs z10) fun x12 =>
   cond (x12.Feat == p3)
    (q04 (q15 x4.Arcs z10) fun x15 =>
    some (x15.To,true))
    ((q7k p3 x4 m1) (IntKind.i64.wrap (z10+1))))
   (qeg)
def qah (n:Nat) (p1:GFS) (p2:Int) (p3:Int):Option (Int×Bool) :=
 q04 (q15 p1.Nodes p2) fun x4 =>
 q7k p3 x4 n 0
theorem qrh (n:Nat) (p1:GFS) (p2:Int) (p3:Int) (r:Int×Bool) (hF:qah n p1 p2 p3=some r):EvU Tryz.prog 61 [.agg [.isl false (List.map q01 p1.Nodes)],.int .i64 p2,.int .i64 p3] ⟨[],0⟩ (fun u _=>u = .tup [.int .i64 r.1,.bool r.2]∧Bel 0 u):=by
 unfold qah at hF
 refine bg3 34 fn61 ?_
 refine go ?_
 refine RS.q (u:=.ptr 0 0 0) (σ':=⟨[(0,.row [.iM q01 p1.Nodes] 24)],1⟩) rfl (q2p rfl rfl rfl) ?_
 obtain ⟨x4,h5,hF⟩:=q00 hF
 refine go ?_
 refine RS.q rfl (q0w und24 rfl (q03 inf22) rfl rfl rfl) (RS.q rfl (q0i und22 rfl rfl rfl rfl) ?_)
 refine go ?_
 refine RS.q rfl (q0f rfl rfl (q0a q01 und22 (q03 inf54) q1b h5 rfl)) (RS.q rfl (q1o und54 rfl (q03 inf52) rfl rfl) (RS.q rfl (q0d und52 rfl rfl rfl) ?_))
 refine go ?_
 refine gS (l':=[(2,_),(8,_),(9,_)]) ?_
 refine z4g (fun m tm σ=>∃ z10:Int,q7k p3 x4 m z10=some r∧tm=fr 34 [(2,.i6 p3),(8,.iM q05 x4.Arcs),(9,.i6 z10)]∧σ=⟨[(0,.row [.iM q01 p1.Nodes] 24)],1⟩) (fun tm σ=>qeg=some r∧tm=fr 34 []∧σ=⟨[(0,.row [.iM q01 p1.Nodes] 24)],1⟩) n ⟨0,hF,rfl,rfl⟩ ?_ ?_
 rintro _ _ ⟨hF,rfl,rfl⟩
 unfold qeg at hF
 refine go ?_
 obtain rfl:=sI hF
 exact rt2 rfl rfl rfl rfl rfl
 rintro (_|m1) _ _ ⟨z10,hF,rfl,rfl⟩
 cases hF
 unfold q7k at hF
 refine go ?_
 refine RS.q rfl (q0c rfl rfl rfl (q08 q05 und52)) ?_
 refine go ?_
 refine cF hF (fun h11 hF=>?_) (fun h11 hF=>?_)
 refine go ?_
 refine WPU.block ?_
 obtain ⟨x12,h13,hF⟩:=q00 hF
 refine go ?_
 refine RS.q rfl (q0f rfl rfl (q0a q05 und52 (q03 inf66) q0k h13 rfl)) (RS.q rfl (q1o und66 rfl (q03 inf3) rfl rfl) (RS.q rfl (q0d und3 rfl rfl rfl) ?_))
 refine go ?_
 refine cF hF (fun h14 hF=>?_) (fun h14 hF=>?_)
 obtain ⟨x15,h16,hF⟩:=q00 hF
 refine go ?_
 refine RS.q rfl (q0f rfl rfl (q0a q05 und52 (q03 inf66) q0k h16 rfl)) (RS.q rfl (q1o und66 rfl (q03 inf3) rfl rfl) (RS.q rfl (q0d und3 rfl rfl rfl) ?_))
 refine go ?_
 obtain rfl:=sI hF
 exact rt2 rfl rfl rfl rfl rfl
 refine go ?_
 exact lC ⟨_,hF,rfl,rfl⟩
 refine go ?_
 exact xC ⟨hF,rfl,rfl⟩
def qhh  (z9:Int):Option (Int×Bool) :=
 some (z9,true)
def qb4 (p1:GFS) (p2:List Int) (n:Nat):Nat→Int→Int→Option (Int×Bool)
 | 0,_,_=>none
 | m1+1,z7,z8 =>
  cond (decide (z8<(p2.length:Int)))
   (q04 (q15 p2 z8) fun x11 =>
   q04 (qah n p1 z7 x11) fun r13 =>
   cond (!r13.2)
    (some (0,false))
    ((qb4 p1 p2 n m1) r13.1 (IntKind.i64.wrap (z8+1))))
   (qhh z7)
def qg4 (n:Nat) (p1:GFS) (p2:List Int):Option (Int×Bool) :=
 qb4 p1 p2 n n 0 0
theorem qk4 (n:Nat) (p1:GFS) (p2:List Int) (r:Int×Bool) (hF:qg4 n p1 p2=some r):EvU Tryz.prog 33 [.agg [.isl false (List.map q01 p1.Nodes)],.isl false (List.map (cI .i64) p2)] ⟨[],0⟩ (fun u _=>u = .tup [.int .i64 r.1,.bool r.2]∧Bel 0 u):=by
 unfold qg4 at hF
 refine bg2 30 fn33 ?_
 refine go ?_
 refine RS.q (u:=.ptr 0 0 0) (σ':=⟨[(0,.row [.iM q01 p1.Nodes] 24)],1⟩) rfl (q2p rfl rfl rfl) ?_
 refine go ?_
 refine gS (l':=[(1,_),(2,_),(6,_),(7,_)]) ?_
 refine z4g (fun m tm σ=>∃ z7:Int,∃ z8:Int,qb4 p1 p2 n m z7 z8=some r∧tm=fr 30 [(1,.iM (cI .i64) p2),(2,.ptr 0 0 0),(6,.i6 z7),(7,.i6 z8)]∧σ=⟨[(0,.row [.iM q01 p1.Nodes] 24)],1⟩) (fun tm σ=>∃ z9:Int,qhh z9=some r∧tm=fr 30 [(6,.i6 z9)]∧σ=⟨[(0,.row [.iM q01 p1.Nodes] 24)],1⟩) n ⟨0,0,hF,rfl,rfl⟩ ?_ ?_
 rintro _ _ ⟨z9,hF,rfl,rfl⟩
 unfold qhh at hF
 refine go ?_
 obtain rfl:=sI hF
 exact rt2 rfl rfl rfl rfl rfl
 rintro (_|m1) _ _ ⟨z7,z8,hF,rfl,rfl⟩
 cases hF
 unfold qb4 at hF
 refine go ?_
 refine RS.q rfl (q0c rfl rfl rfl (q08 (cI .i64) und33)) ?_
 refine go ?_
 refine cF hF (fun h10 hF=>?_) (fun h10 hF=>?_)
 refine go ?_
 refine WPU.block ?_
 obtain ⟨x11,h12,hF⟩:=q00 hF
 obtain ⟨r13,h14,hF⟩:=q00 hF
 refine go ?_
 refine z4i Tryz.tb_ok [] (by kernel_rfl) ?_
 refine RD.q (u:=.agg [.iM q01 p1.Nodes]) rfl (q0p und24 rfl (q03 inf24) rfl rfl rfl) ?_
 repeat refine RD.mv rfl rfl rfl rfl ?_
 refine RD.q rfl (q0f rfl rfl (q0a (cI .i64) und33 (q03 inf3) (q18 .i64) h12 rfl)) (RD.q rfl (q0d und3 rfl rfl rfl) ?_)
 refine z4w rfl (pC (qrh n p1 z7 x11 r13 h14)) fn61 ?_
 refine RD.mv rfl rfl rfl rfl (RD.q rfl (qy9 rfl rfl) (RD.q rfl (qy9 rfl rfl) ?_))
 repeat refine RD.as rfl rfl rfl rfl ?_
 refine RD.done ⟨by kernel_rfl,trivial,?_⟩
 refine go ?_
 refine cF hF (fun h15 hF=>?_) (fun h15 hF=>?_)
 refine go ?_
 obtain rfl:=sI hF
 exact rt2 rfl rfl rfl rfl rfl
 refine go ?_
 exact lC ⟨r13.1,(IntKind.i64.wrap (z8+1)),hF,rfl,rfl⟩
 refine go ?_
 exact xC ⟨z7,hF,rfl,rfl⟩
def qfl (n:Nat) (p1:GFS) (p2:List Int):Option (GFS×Bool) :=
 q04 (qg4 n p1 p2) fun r3 =>
 cond (!r3.2)
  (some ((GFS.mk []),false))
  (q04 (qiy n p1 r3.1) fun r6 =>
  some (r6,true))
theorem qsz (n:Nat) (p1:GFS) (p2:List Int) (r:GFS×Bool) (hF:qfl n p1 p2=some r):EvU Tryz.prog 35 [.agg [.isl false (List.map q01 p1.Nodes)],.isl false (List.map (cI .i64) p2)] ⟨[],0⟩ (fun u _=>u = .tup [.agg [.isl false (List.map q01 r.1.Nodes)],.bool r.2]∧Bel 0 u):=by
 unfold qfl at hF
 refine bg2 20 fn35 ?_
 refine go ?_
 refine RS.q (u:=.ptr 0 0 0) (σ':=⟨[(0,.row [.iM q01 p1.Nodes] 24)],1⟩) rfl (q2p rfl rfl rfl) (RS.q (u:=.ptr 1 0 0) (σ':=⟨[(1,.row [.nils] 24),(0,.row [.iM q01 p1.Nodes] 24)],2⟩) rfl (q0v inf24 rfl rfl) ?_)
 obtain ⟨r3,h4,hF⟩:=q00 hF
 refine go ?_
 refine RS.q (u:=.agg [.iM q01 p1.Nodes]) rfl (q0p und24 rfl (q03 inf24) rfl rfl rfl) ?_
 refine go ?_
 refine RS.cl rfl (pC (qk4 n p1 p2 r3 h4) _) fn33 ?_
 refine go ?_
 refine cF hF (fun h5 hF=>?_) (fun h5 hF=>?_)
 refine go ?_
 refine RS.q (u:=.agg [.nils]) rfl (q3l bd24 rfl rfl rfl) ?_
 refine z4k (u:=.junk) (σ':=⟨[(1,.row [.nils] 24),(0,.row [.iM q01 p1.Nodes] 24)],2⟩) rfl (q0l (q03 inf24) rfl rfl rfl rfl rfl rfl rfl rfl) rfl ?_
 refine go ?_
 obtain rfl:=sI hF
 exact rT (us:=[.agg [.nils],.bool false]) (u:=.tup [.agg [.isl false []],.bool false]) (qei (q0p und24 rfl (q03 inf24) rfl rfl rfl) (q2o rfl (q2g))) wR
 obtain ⟨r6,h7,hF⟩:=q00 hF
 refine go ?_
 refine RS.q (u:=.agg [.iM q01 p1.Nodes]) rfl (q0p und24 rfl (q03 inf24) rfl rfl rfl) ?_
 refine go ?_
 refine RS.cl rfl (pC (qsy n p1 r3.1 r6 h7) _) fn63 ?_
 refine z4k (u:=.junk) (σ':=⟨[(1,.row [.iM q01 r6.Nodes] 24),(0,.row [.iM q01 p1.Nodes] 24)],2⟩) rfl (q0l (q03 inf24) rfl rfl rfl rfl rfl rfl rfl rfl) rfl ?_
 refine go ?_
 obtain rfl:=sI hF
 exact rT (qei (q0p und24 rfl (q03 inf24) rfl rfl rfl) (q2o rfl (q2g))) (z4p _ rfl)
def qcy (n:Nat) (p1:GFS) (p2:List Int):Option (Int×Bool) :=
 q04 (qg4 n p1 p2) fun r3 =>
 cond (!r3.2)
  (some (0,false))
  (q04 (q15 p1.Nodes r3.1) fun x6 =>
  some (x6.Typex,true))
theorem qri (n:Nat) (p1:GFS) (p2:List Int) (r:Int×Bool) (hF:qcy n p1 p2=some r):EvU Tryz.prog 37 [.agg [.isl false (List.map q01 p1.Nodes)],.isl false (List.map (cI .i64) p2)] ⟨[],0⟩ (fun u _=>u = .tup [.int .i64 r.1,.bool r.2]∧Bel 0 u):=by
 unfold qcy at hF
 refine bg2 22 fn37 ?_
 refine go ?_
 refine RS.q (u:=.ptr 0 0 0) (σ':=⟨[(0,.row [.iM q01 p1.Nodes] 24)],1⟩) rfl (q2p rfl rfl rfl) ?_
 obtain ⟨r3,h4,hF⟩:=q00 hF
 refine go ?_
 refine RS.q (u:=.agg [.iM q01 p1.Nodes]) rfl (q0p und24 rfl (q03 inf24) rfl rfl rfl) ?_
 refine go ?_
 refine RS.cl rfl (pC (qk4 n p1 p2 r3 h4) _) fn33 ?_
 refine go ?_
 refine cF hF (fun h5 hF=>?_) (fun h5 hF=>?_)
 refine go ?_
 obtain rfl:=sI hF
 exact rt2 rfl rfl rfl rfl rfl
 obtain ⟨x6,h7,hF⟩:=q00 hF
 refine go ?_
 refine RS.q rfl (q0w und24 rfl (q03 inf22) rfl rfl rfl) (RS.q rfl (q0i und22 rfl rfl rfl rfl) ?_)
 refine go ?_
 refine RS.q rfl (q0f rfl rfl (q0a q01 und22 (q03 inf54) q1b h7 rfl)) (RS.q rfl (q1o und54 rfl (q03 inf3) rfl rfl) (RS.q rfl (q0d und3 rfl rfl rfl) ?_))
 refine go ?_
 obtain rfl:=sI hF
 exact rt2 rfl rfl rfl rfl rfl
def q82 (p1:List Int)  : Option (Bool) :=
 some (decide ((p1.length:Int)≤30))
def q4n (p1:List Int):Nat→Int→Option (Bool)
 | 0,_=>none
 | m1+1,z6 =>
  cond (decide (z6<(p1.length:Int)))
   (q04 (q15 p1 z6) fun x8 =>
   q04 (cond (decide (x8<0))
    (some true)
    (some (decide (x8 ≥ 64)))) fun b11 =>
   cond b11
    (some false)
    ((q4n p1 m1) (IntKind.i64.wrap (z6+1))))
   (q82 p1)
def qd8 (n:Nat) (p1:List Int):Option (Bool) :=
 q4n p1 n 0
theorem qp3 (n:Nat) (p1:List Int) (r:Bool) (hF:qd8 n p1=some r):EvU Tryz.prog 20 [.isl false (List.map (cI .i64) p1)] ⟨[],0⟩ (fun u _=>u = .bool r∧Bel 0 u):=by
 unfold qd8 at hF
 refine bg1 21 fn20 ?_
 refine go ?_
 refine RS.q rfl (q0c rfl rfl rfl (q08 (cI .i64) und33)) ?_
 refine go ?_
 refine gS (l':=[(0,_),(5,_),(6,_),(7,_)]) ?_
 refine z4g (fun m tm σ=>∃ z6:Int,q4n p1 m z6=some r∧tm=fr 21 [(0,.iM (cI .i64) p1),(5,.iM (cI .i64) p1),(6,.i6 (p1.length:Int)),(7,.i6 z6)]∧σ=⟨[],0⟩) (fun tm σ=>q82 p1=some r∧tm=fr 21 [(0,.iM (cI .i64) p1)]∧σ=⟨[],0⟩) n ⟨0,hF,rfl,rfl⟩ ?_ ?_
 rintro _ _ ⟨hF,rfl,rfl⟩
 unfold q82 at hF
 refine go ?_
 refine RS.q rfl (q0c rfl rfl rfl (q08 (cI .i64) und33)) ?_
 exact gx hF
 rintro (_|m1) _ _ ⟨z6,hF,rfl,rfl⟩
 cases hF
 unfold q4n at hF
 refine go ?_
 refine cF hF (fun h7 hF=>?_) (fun h7 hF=>?_)
 refine go ?_
 refine WPU.block ?_
 obtain ⟨x8,h9,hF⟩:=q00 hF
 refine go ?_
 refine RS.q rfl (q0f rfl rfl (q0a (cI .i64) und33 (q03 inf3) (q18 .i64) h9 rfl)) (RS.q rfl (q0d und3 rfl rfl rfl) ?_)
 obtain ⟨b11,h12,hF⟩:=q00 hF
 refine gn ?_
 refine z4h (fun tm σ=>tm=fr 21 [(0,.iM (cI .i64) p1),(5,.iM (cI .i64) p1),(6,.i6 (p1.length:Int)),(7,.i6 z6),(16,.bool b11)]∧σ=⟨[],0⟩) ?_ ?_
 rintro _ _ ⟨rfl,rfl⟩
 refine go ?_
 refine cF hF (fun h13 hF=>?_) (fun h13 hF=>?_)
 exact gx hF
 refine go ?_
 exact lC ⟨_,hF,rfl,rfl⟩
 rcases gB h12 with ⟨h10,h12⟩ | ⟨h10,h12⟩
 exact gy h12
 exact gy h12
 refine go ?_
 exact xC ⟨hF,rfl,rfl⟩
def q83   : Option (Bool) :=
 some true
def q4o (p1:GFS):Nat→Int→Option (Bool)
 | 0,_=>none
 | m1+1,z18 =>
  cond (decide (z18<(p1.Nodes.length:Int)))
   (q04 (q15 p1.Nodes z18) fun x20 =>
   q04 (cond (decide (x20.Typex ≥ 256))
    (some true)
    (cond (decide ((x20.Arcs.length:Int) > 0))
     (q04 (q15 x20.Arcs (IntKind.i64.wrap ((x20.Arcs.length:Int) - 1))) fun x24 =>
     some (decide (x24.Feat ≥ 64)))
     (some false))) fun b26 =>
   cond b26
    (some false)
    ((q4o p1 m1) (IntKind.i64.wrap (z18+1))))
   (q83)
def qal (n:Nat) (p1:GFS):Option (Bool) :=
 q04 (qb3 n p1) fun r2 =>
 cond (!r2)
  (some false)
  (q04 (qb2 n p1) fun r5 =>
  q04 (cond (r5.2 != 0)
   (some true)
   (q04 (q6k n p1 (GFS.mk r5.1.Nodes)) fun r8 =>
   some (!r8))) fun b10 =>
  cond b10
   (some false)
   (q4o p1 n 0))
theorem qid (n:Nat) (p1:GFS) (r:Bool) (hF:qal n p1=some r):EvU Tryz.prog 12 [.agg [.isl false (List.map q01 p1.Nodes)]] ⟨[],0⟩ (fun u _=>u = .bool r∧Bel 0 u):=by
 unfold qal at hF
 refine bg1 52 fn12 ?_
 refine go ?_
 refine RS.q (u:=.ptr 0 0 0) (σ':=⟨[(0,.row [.iM q01 p1.Nodes] 24)],1⟩) rfl (q2p rfl rfl rfl) ?_
 obtain ⟨r2,h3,hF⟩:=q00 hF
 refine go ?_
 refine RS.q (u:=.agg [.iM q01 p1.Nodes]) rfl (q0p und24 rfl (q03 inf24) rfl rfl rfl) (RS.cl rfl (pC (qpo n p1 r2 h3) _) fn41 ?_)
 refine go ?_
 refine cF hF (fun h4 hF=>?_) (fun h4 hF=>?_)
 exact gx hF
 obtain ⟨r5,h6,hF⟩:=q00 hF
 refine go ?_
 refine RS.q (u:=.agg [.iM q01 p1.Nodes]) rfl (q0p und24 rfl (q03 inf24) rfl rfl rfl) (RS.cl rfl (pC (qpn n p1 r5 h6) _) fn42 ?_)
 refine go ?_
 refine RS.q (u:=.ptr 1 0 0) (σ':=⟨[(1,.row [.nils] 24),(0,.row [.iM q01 p1.Nodes] 24)],2⟩) rfl (q0v inf24 rfl rfl) ?_
 refine z4k (u:=.junk) (σ':=⟨[(1,.row [.iM q01 r5.1.Nodes] 24),(0,.row [.iM q01 p1.Nodes] 24)],2⟩) rfl (q0l (q03 inf24) rfl rfl rfl rfl rfl rfl rfl rfl) rfl ?_
 obtain ⟨b10,h11,hF⟩:=q00 hF
 refine gn ?_
 refine z4h (fun tm σ=>tm=fr 52 [(1,.ptr 0 0 0),(22,.bool b10)]∧σ=⟨[(1,.row [.iM q01 r5.1.Nodes] 24),(0,.row [.iM q01 p1.Nodes] 24)],2⟩) ?_ ?_
 rintro _ _ ⟨rfl,rfl⟩
 refine go ?_
 refine cF hF (fun h12 hF=>?_) (fun h12 hF=>?_)
 exact gx hF
 refine go ?_
 refine RS.q rfl (q0w und24 rfl (q03 inf22) rfl rfl rfl) (RS.q rfl (q0i und22 rfl rfl rfl rfl) (RS.q rfl (q0c rfl rfl rfl (q08 q01 und22)) ?_))
 refine go ?_
 refine gS (l':=[(24,_),(25,_),(26,_)]) ?_
 refine z4g (fun m tm σ=>∃ z18:Int,q4o p1 m z18=some r∧tm=fr 52 [(24,.iM q01 p1.Nodes),(25,.i6 (p1.Nodes.length:Int)),(26,.i6 z18)]∧σ=⟨[(1,.row [.iM q01 r5.1.Nodes] 24),(0,.row [.iM q01 p1.Nodes] 24)],2⟩) (fun tm σ=>q83=some r∧tm=fr 52 []∧σ=⟨[(1,.row [.iM q01 r5.1.Nodes] 24),(0,.row [.iM q01 p1.Nodes] 24)],2⟩) n ⟨0,hF,rfl,rfl⟩ ?_ ?_
 rintro _ _ ⟨hF,rfl,rfl⟩
 unfold q83 at hF
 exact gx hF
 rintro (_|m1) _ _ ⟨z18,hF,rfl,rfl⟩
 cases hF
 unfold q4o at hF
 refine go ?_
 refine cF hF (fun h19 hF=>?_) (fun h19 hF=>?_)
 refine go ?_
 refine WPU.block ?_
 obtain ⟨x20,h21,hF⟩:=q00 hF
 refine go ?_
 refine RS.q rfl (q0f rfl rfl (q0a q01 und22 (q03 inf54) q1b h21 rfl)) (RS.q (u:=.agg (q01 x20)) rfl (qam und54 rfl (q03 inf54) rfl rfl) (RS.q (u:=.ptr 2 0 0) (σ':=⟨[(2,.row [.i6 0,.nils] 54),(1,.row [.iM q01 r5.1.Nodes] 24),(0,.row [.iM q01 p1.Nodes] 24)],3⟩) rfl (q0v inf54 rfl rfl) ?_))
 refine z4k (u:=.junk) (σ':=⟨[(2,.row (q01 x20) 54),(1,.row [.iM q01 r5.1.Nodes] 24),(0,.row [.iM q01 p1.Nodes] 24)],3⟩) rfl (q0l (q03 inf54) rfl rfl rfl rfl rfl rfl rfl rfl) rfl ?_
 obtain ⟨b26,h27,hF⟩:=q00 hF
 refine gn ?_
 refine z4h (fun tm σ=>tm=fr 52 [(24,.iM q01 p1.Nodes),(25,.i6 (p1.Nodes.length:Int)),(26,.i6 z18),(50,.bool b26)]∧σ=⟨[(2,.row (q01 x20) 54),(1,.row [.iM q01 r5.1.Nodes] 24),(0,.row [.iM q01 p1.Nodes] 24)],3⟩) ?_ ?_
 rintro _ _ ⟨rfl,rfl⟩
 refine go ?_
 refine cF hF (fun h28 hF=>?_) (fun h28 hF=>?_)
 exact gx hF
 refine go ?_
 exact lC ⟨_,hF,rfl,rfl⟩
 rcases gB h27 with ⟨h22,h27⟩ | ⟨h22,h27⟩
 obtain rfl:=sI h27
 refine go ?_
 refine RS.q rfl (q0w und54 rfl (q03 inf3) rfl rfl rfl) (RS.q rfl (q0i und3 rfl rfl rfl rfl) ?_)
 refine go ?_
 repeat refine RS.no (qn7 rfl rfl rfl) rfl rfl ?_
 refine go ?_
 exact xC ⟨rfl,rfl⟩
 rcases gB h27 with ⟨h23,h27⟩ | ⟨h23,h27⟩
 obtain ⟨x24,h25,h27⟩:=q00 h27
 obtain rfl:=sI h27
 refine go ?_
 refine RS.q rfl (q0w und54 rfl (q03 inf3) rfl rfl rfl) (RS.q rfl (q0i und3 rfl rfl rfl rfl) ?_)
 refine go ?_
 refine RS.w rfl (q0w und54 rfl (q03 inf52) rfl rfl rfl) (RS.w rfl (q0i und52 rfl rfl rfl rfl) (RS.w rfl (q0c rfl rfl rfl (q08 q05 und52)) ?_))
 refine go ?_
 refine RS.w rfl (q0w und54 rfl (q03 inf52) rfl rfl rfl) (RS.w rfl (q0i und52 rfl rfl rfl rfl) (RS.w rfl (q0w und54 rfl (q03 inf52) rfl rfl rfl) (RS.w rfl (q0i und52 rfl rfl rfl rfl) (RS.w rfl (q0c rfl rfl rfl (q08 q05 und52)) ?_))))
 refine go ?_
 refine RS.w rfl (q0f rfl rfl (q0a q05 und52 (q03 inf66) q0k h25 rfl)) (RS.w rfl (q1o und66 rfl (q03 inf3) rfl rfl) (RS.w rfl (q0d und3 rfl rfl rfl) ?_))
 refine go ?_
 exact xC ⟨rfl,rfl⟩
 obtain rfl:=sI h27
 refine go ?_
 refine RS.q rfl (q0w und54 rfl (q03 inf3) rfl rfl rfl) (RS.q rfl (q0i und3 rfl rfl rfl rfl) ?_)
 refine go ?_
 refine RS.w rfl (q0w und54 rfl (q03 inf52) rfl rfl rfl) (RS.w rfl (q0i und52 rfl rfl rfl rfl) (RS.w rfl (q0c rfl rfl rfl (q08 q05 und52)) ?_))
 refine go ?_
 exact xC ⟨rfl,rfl⟩
 refine go ?_
 exact xC ⟨hF,rfl,rfl⟩
 rcases gB h11 with ⟨h7,h11⟩ | ⟨h7,h11⟩
 exact gy h11
 obtain ⟨r8,h9,h11⟩:=q00 h11
 obtain rfl:=sI h11
 refine go ?_
 refine RS.w (u:=.agg [.iM q01 p1.Nodes]) rfl (q0p und24 rfl (q03 inf24) rfl rfl rfl) (RS.w (u:=.agg [.iM q01 r5.1.Nodes]) rfl (q0p und24 rfl (q03 inf24) rfl rfl rfl) (RS.cl rfl (pC (q28 n p1 (GFS.mk r5.1.Nodes) r8 h9) _) fn21 ?_))
 refine go ?_
 exact xC ⟨rfl,rfl⟩
def q7t   : Option (Bool) :=
 some true
def q5m (p1:List Int) (p2:List Int):Nat→Int→Option (Bool)
 | 0,_=>none
 | m1+1,z7 =>
  cond (decide (z7<(p1.length:Int)))
   (q04 (q15 p1 z7) fun x9 =>
   q04 (q15 p2 z7) fun x11 =>
   cond (x9 != x11)
    (some false)
    ((q5m p1 p2 m1) (IntKind.i64.wrap (z7+1))))
   (q7t)
def q89 (n:Nat) (p1:List Int) (p2:List Int):Option (Bool) :=
 cond ((p1.length:Int) != (p2.length:Int))
  (some false)
  (q5m p1 p2 n 0)
theorem q4i (n:Nat) (p1:List Int) (p2:List Int) (r:Bool) (hF:q89 n p1 p2=some r):EvU Tryz.prog 28 [.isl false (List.map (cI .i64) p1),.isl false (List.map (cI .i64) p2)] ⟨[],0⟩ (fun u _=>u = .bool r∧Bel 0 u):=by
 unfold q89 at hF
 refine bg2 26 fn28 ?_
 refine go ?_
 refine RS.q rfl (q0c rfl rfl rfl (q08 (cI .i64) und33)) ?_
 refine go ?_
 refine RS.q rfl (q0c rfl rfl rfl (q08 (cI .i64) und33)) ?_
 refine go ?_
 refine cF hF (fun h3 hF=>?_) (fun h3 hF=>?_)
 exact gx hF
 refine go ?_
 refine gS (l':=[(0,_),(1,_),(5,_)]) ?_
 refine z4g (fun m tm σ=>∃ z7:Int,q5m p1 p2 m z7=some r∧tm=fr 26 [(0,.iM (cI .i64) p1),(1,.iM (cI .i64) p2),(5,.i6 z7)]∧σ=⟨[],0⟩) (fun tm σ=>q7t=some r∧tm=fr 26 []∧σ=⟨[],0⟩) n ⟨0,hF,rfl,rfl⟩ ?_ ?_
 rintro _ _ ⟨hF,rfl,rfl⟩
 unfold q7t at hF
 exact gx hF
 rintro (_|m1) _ _ ⟨z7,hF,rfl,rfl⟩
 cases hF
 unfold q5m at hF
 refine go ?_
 refine RS.q rfl (q0c rfl rfl rfl (q08 (cI .i64) und33)) ?_
 refine go ?_
 refine cF hF (fun h8 hF=>?_) (fun h8 hF=>?_)
 refine go ?_
 refine WPU.block ?_
 obtain ⟨x9,h10,hF⟩:=q00 hF
 obtain ⟨x11,h12,hF⟩:=q00 hF
 refine go ?_
 refine z4i Tryz.tb_ok [] (by kernel_rfl) ?_
 repeat refine RD.mv rfl rfl rfl rfl ?_
 refine RD.q rfl (q0f rfl rfl (q0a (cI .i64) und33 (q03 inf3) (q18 .i64) h10 rfl)) (RD.q rfl (q0d und3 rfl rfl rfl) ?_)
 repeat refine RD.mv rfl rfl rfl rfl ?_
 refine RD.q rfl (q0f rfl rfl (q0a (cI .i64) und33 (q03 inf3) (q18 .i64) h12 rfl)) (RD.q rfl (q0d und3 rfl rfl rfl) (RD.q rfl (q3b rfl rfl (qqs _ _ _) rfl) ?_))
 refine RD.done ⟨by kernel_rfl,trivial,?_⟩
 refine go ?_
 refine cF hF (fun h13 hF=>?_) (fun h13 hF=>?_)
 exact gx hF
 refine go ?_
 exact lC ⟨_,hF,rfl,rfl⟩
 refine go ?_
 exact xC ⟨hF,rfl,rfl⟩
def q73   : Option (Bool) :=
 some true
def q55 (p1:List (List Int)) (p2:List (List Int)) (n:Nat):Nat→Int→Option (Bool)
 | 0,_=>none
 | m1+1,z7 =>
  cond (decide (z7<(p1.length:Int)))
   (q04 (q15 p1 z7) fun x9 =>
   q04 (q15 p2 z7) fun x11 =>
   q04 (q89 n x9 x11) fun r13 =>
   cond (!r13)
    (some false)
    ((q55 p1 p2 n m1) (IntKind.i64.wrap (z7+1))))
   (q73)
def qap (n:Nat) (p1:List (List Int)) (p2:List (List Int)):Option (Bool) :=
 cond ((p1.length:Int) != (p2.length:Int))
  (some false)
  (q55 p1 p2 n n 0)
theorem q7u (n:Nat) (p1:List (List Int)) (p2:List (List Int)) (r:Bool) (hF:qap n p1 p2=some r):EvU Tryz.prog 14 [.isl false (List.map (cL (cI .i64)) p1),.isl false (List.map (cL (cI .i64)) p2)] ⟨[],0⟩ (fun u _=>u = .bool r∧Bel 0 u):=by
 unfold qap at hF
 refine bg2 27 fn14 ?_
 refine go ?_
 refine RS.q rfl (q0c rfl rfl rfl (q08 (cL (cI .i64)) und28)) ?_
 refine go ?_
 refine RS.q rfl (q0c rfl rfl rfl (q08 (cL (cI .i64)) und28)) ?_
 refine go ?_
 refine cF hF (fun h3 hF=>?_) (fun h3 hF=>?_)
 exact gx hF
 refine go ?_
 refine gS (l':=[(0,_),(1,_),(5,_)]) ?_
 refine z4g (fun m tm σ=>∃ z7:Int,q55 p1 p2 n m z7=some r∧tm=fr 27 [(0,.iM (cL (cI .i64)) p1),(1,.iM (cL (cI .i64)) p2),(5,.i6 z7)]∧σ=⟨[],0⟩) (fun tm σ=>q73=some r∧tm=fr 27 []∧σ=⟨[],0⟩) n ⟨0,hF,rfl,rfl⟩ ?_ ?_
 rintro _ _ ⟨hF,rfl,rfl⟩
 unfold q73 at hF
 exact gx hF
 rintro (_|m1) _ _ ⟨z7,hF,rfl,rfl⟩
 cases hF
 unfold q55 at hF
 refine go ?_
 refine RS.q rfl (q0c rfl rfl rfl (q08 (cL (cI .i64)) und28)) ?_
 refine go ?_
 refine cF hF (fun h8 hF=>?_) (fun h8 hF=>?_)
 refine go ?_
 refine WPU.block ?_
 obtain ⟨x9,h10,hF⟩:=q00 hF
 obtain ⟨x11,h12,hF⟩:=q00 hF
 obtain ⟨r13,h14,hF⟩:=q00 hF
 refine go ?_
 refine z4i Tryz.tb_ok [] (by kernel_rfl) ?_
 repeat refine RD.mv rfl rfl rfl rfl ?_
 refine RD.q rfl (q0f rfl rfl (q0a (cL (cI .i64)) und28 (q03 inf33) (q4h (cI .i64)) h10 rfl)) (RD.q rfl (q0d und33 rfl rfl rfl) ?_)
 repeat refine RD.mv rfl rfl rfl rfl ?_
 refine RD.q rfl (q0f rfl rfl (q0a (cL (cI .i64)) und28 (q03 inf33) (q4h (cI .i64)) h12 rfl)) (RD.q rfl (q0d und33 rfl rfl rfl) ?_)
 refine z4w rfl (pC (q4i n x9 x11 r13 h14)) fn28 ?_
 refine RD.q rfl (qvm rfl rfl rfl rfl) ?_
 refine RD.done ⟨by kernel_rfl,trivial,?_⟩
 refine go ?_
 refine cF hF (fun h15 hF=>?_) (fun h15 hF=>?_)
 exact gx hF
 refine go ?_
 exact lC ⟨_,hF,rfl,rfl⟩
 refine go ?_
 exact xC ⟨hF,rfl,rfl⟩
def qc5   : Option (Int) :=
 some 0
def q8k (p1:List q06):Nat→Int→Option (Int)
 | 0,_=>none
 | m1+1,z5 =>
  cond (decide (z5<(p1.length:Int)))
   (q04 (q04 (q15 p1 z5) fun x7 =>
   cond (decide ((x7.Supers.length:Int) > 256))
    (some true)
    (q04 (q15 p1 z5) fun x10 =>
    some (decide ((x10.Feats.length:Int) > 256)))) fun b12 =>
   cond b12
    (some 7)
    ((q8k p1 m1) (IntKind.i64.wrap (z5+1))))
   (qc5)
def qhf (n:Nat) (p1:List q06):Option (Int) :=
 cond (decide ((p1.length:Int) > 256))
  (some 7)
  (q8k p1 n 0)
theorem qpl (n:Nat) (p1:List q06) (r:Int) (hF:qhf n p1=some r):EvU Tryz.prog 121 [.isl false (List.map q02 p1)] ⟨[],0⟩ (fun u _=>u = .int .i64 r∧Bel 0 u):=by
 unfold qhf at hF
 refine bg1 29 fn121 ?_
 refine go ?_
 refine RS.q rfl (q0c rfl rfl rfl (q08 q02 und38)) ?_
 refine go ?_
 refine cF hF (fun h2 hF=>?_) (fun h2 hF=>?_)
 exact gx hF
 refine go ?_
 refine gS (l':=[(0,_),(3,_)]) ?_
 refine z4g (fun m tm σ=>∃ z5:Int,q8k p1 m z5=some r∧tm=fr 29 [(0,.iM q02 p1),(3,.i6 z5)]∧σ=⟨[],0⟩) (fun tm σ=>qc5=some r∧tm=fr 29 []∧σ=⟨[],0⟩) n ⟨0,hF,rfl,rfl⟩ ?_ ?_
 rintro _ _ ⟨hF,rfl,rfl⟩
 unfold qc5 at hF
 exact gx hF
 rintro (_|m1) _ _ ⟨z5,hF,rfl,rfl⟩
 cases hF
 unfold q8k at hF
 refine go ?_
 refine RS.q rfl (q0c rfl rfl rfl (q08 q02 und38)) ?_
 refine go ?_
 refine cF hF (fun h6 hF=>?_) (fun h6 hF=>?_)
 refine go ?_
 refine WPU.block ?_
 obtain ⟨b12,h13,hF⟩:=q00 hF
 refine gn ?_
 refine z4h (fun tm σ=>tm=fr 29 [(0,.iM q02 p1),(3,.i6 z5),(28,.bool b12)]∧σ=⟨[],0⟩) ?_ ?_
 rintro _ _ ⟨rfl,rfl⟩
 refine go ?_
 refine cF hF (fun h14 hF=>?_) (fun h14 hF=>?_)
 exact gx hF
 refine go ?_
 exact lC ⟨_,hF,rfl,rfl⟩
 obtain ⟨x7,h8,h13⟩:=q00 h13
 rcases gB h13 with ⟨h9,h13⟩ | ⟨h9,h13⟩
 obtain rfl:=sI h13
 refine go ?_
 refine RS.q rfl (q0f rfl rfl (q0a q02 und38 (q03 inf127) q0m h8 rfl)) (RS.q rfl (q1o und127 rfl (q03 inf80) rfl rfl) (RS.q rfl (q0d und80 rfl rfl rfl) (RS.q rfl (q0c rfl rfl rfl (q08 cS und80)) ?_)))
 refine go ?_
 exact xC ⟨rfl,rfl⟩
 obtain ⟨x10,h11,h13⟩:=q00 h13
 obtain rfl:=sI h13
 refine go ?_
 refine RS.q rfl (q0f rfl rfl (q0a q02 und38 (q03 inf127) q0m h8 rfl)) (RS.q rfl (q1o und127 rfl (q03 inf80) rfl rfl) (RS.q rfl (q0d und80 rfl rfl rfl) (RS.q rfl (q0c rfl rfl rfl (q08 cS und80)) ?_)))
 refine go ?_
 refine RS.w rfl (q0f rfl rfl (q0a q02 und38 (q03 inf127) q0m h11 rfl)) (RS.w rfl (q1o und127 rfl (q03 inf125) rfl rfl) (RS.w rfl (q0d und125 rfl rfl rfl) (RS.w rfl (q0c rfl rfl rfl (q08 q0e und125)) ?_)))
 refine go ?_
 exact xC ⟨rfl,rfl⟩
 refine go ?_
 exact xC ⟨hF,rfl,rfl⟩
def qjx (n:Nat) (p1:List UInt8):Option (Bool) :=
 q04 (qdv n p1 false) fun r2 =>
 some r2
theorem qr9 (n:Nat) (p1:List UInt8) (r:Bool) (hF:qjx n p1=some r):EvU Tryz.prog 147 [.str p1] ⟨[],0⟩ (fun u _=>u = .bool r∧Bel 0 u):=by
 unfold qjx at hF
 refine bg1 5 fn147 ?_
 obtain ⟨r2,h3,hF⟩:=q00 hF
 refine go ?_
 refine RS.cl rfl (pC (qiq n p1 false r2 h3) _) fn81 ?_
 exact gx hF
def qe2   : Option (Int) :=
 some (-1)
def qa0 (p1:List q06) (p2:List UInt8):Nat→Int→Option (Int)
 | 0,_=>none
 | m1+1,z6 =>
  cond (decide (z6<(p1.length:Int)))
   (q04 (q15 p1 z6) fun x8 =>
   cond (q1x x8.Name p2)
    (some z6)
    ((qa0 p1 p2 m1) (IntKind.i64.wrap (z6+1))))
   (qe2)
def q6s (n:Nat) (p1:List q06) (p2:List UInt8):Option (Int) :=
 qa0 p1 p2 n 0
theorem q6t (n:Nat) (p1:List q06) (p2:List UInt8) (r:Int) (hF:q6s n p1 p2=some r):EvU Tryz.prog 148 [.isl false (List.map q02 p1),.str p2] ⟨[],0⟩ (fun u _=>u = .int .i64 r∧Bel 0 u):=by
 unfold q6s at hF
 refine bg2 20 fn148 ?_
 refine go ?_
 refine gS (l':=[(0,_),(1,_),(5,_)]) ?_
 refine z4g (fun m tm σ=>∃ z6:Int,qa0 p1 p2 m z6=some r∧tm=fr 20 [(0,.iM q02 p1),(1,.str p2),(5,.i6 z6)]∧σ=⟨[],0⟩) (fun tm σ=>qe2=some r∧tm=fr 20 []∧σ=⟨[],0⟩) n ⟨0,hF,rfl,rfl⟩ ?_ ?_
 rintro _ _ ⟨hF,rfl,rfl⟩
 unfold qe2 at hF
 exact gx hF
 rintro (_|m1) _ _ ⟨z6,hF,rfl,rfl⟩
 cases hF
 unfold qa0 at hF
 refine go ?_
 refine RS.q rfl (q0c rfl rfl rfl (q08 q02 und38)) ?_
 refine go ?_
 refine cF hF (fun h7 hF=>?_) (fun h7 hF=>?_)
 refine go ?_
 refine WPU.block ?_
 obtain ⟨x8,h9,hF⟩:=q00 hF
 refine go ?_
 refine RS.q rfl (q0f rfl rfl (q0a q02 und38 (q03 inf127) q0m h9 rfl)) (RS.q rfl (q1o und127 rfl (q03 inf9) rfl rfl) (RS.q rfl (q0d und9 rfl rfl rfl) ?_))
 refine go ?_
 refine RS.q (u:=.bool (q1x x8.Name p2)) rfl (q9m rfl rfl rfl rfl) ?_
 refine go ?_
 refine cF hF (fun h10 hF=>?_) (fun h10 hF=>?_)
 exact gx hF
 refine go ?_
 exact lC ⟨_,hF,rfl,rfl⟩
 refine go ?_
 exact xC ⟨hF,rfl,rfl⟩
def qc3   : Option (Int) :=
 some 0
def q8i (p1:List q06) (n:Nat):Nat→Int→Option (Int)
 | 0,_=>none
 | m1+1,z4 =>
  cond (decide (z4<(p1.length:Int)))
   (q04 (q15 p1 z4) fun x6 =>
   q04 (qjx n x6.Name) fun r8 =>
   cond (!r8)
    (some 1)
    (q04 (q15 p1 z4) fun x11 =>
    q04 (q6s n p1 x11.Name) fun r13 =>
    cond (decide (r13<z4))
     (some 4)
     ((q8i p1 n m1) (IntKind.i64.wrap (z4+1)))))
   (qc3)
def qhd (n:Nat) (p1:List q06):Option (Int) :=
 q8i p1 n n 0
theorem qpj (n:Nat) (p1:List q06) (r:Int) (hF:qhd n p1=some r):EvU Tryz.prog 122 [.isl false (List.map q02 p1)] ⟨[],0⟩ (fun u _=>u = .int .i64 r∧Bel 0 u):=by
 unfold qhd at hF
 refine bg1 26 fn122 ?_
 refine go ?_
 refine gS (l':=[(0,_),(3,_)]) ?_
 refine z4g (fun m tm σ=>∃ z4:Int,q8i p1 n m z4=some r∧tm=fr 26 [(0,.iM q02 p1),(3,.i6 z4)]∧σ=⟨[],0⟩) (fun tm σ=>qc3=some r∧tm=fr 26 []∧σ=⟨[],0⟩) n ⟨0,hF,rfl,rfl⟩ ?_ ?_
 rintro _ _ ⟨hF,rfl,rfl⟩
 unfold qc3 at hF
 exact gx hF
 rintro (_|m1) _ _ ⟨z4,hF,rfl,rfl⟩
 cases hF
 unfold q8i at hF
 refine go ?_
 refine RS.q rfl (q0c rfl rfl rfl (q08 q02 und38)) ?_
 refine go ?_
 refine cF hF (fun h5 hF=>?_) (fun h5 hF=>?_)
 refine go ?_
 refine WPU.block ?_
 obtain ⟨x6,h7,hF⟩:=q00 hF
 obtain ⟨r8,h9,hF⟩:=q00 hF
 refine go ?_
 refine RS.q rfl (q0f rfl rfl (q0a q02 und38 (q03 inf127) q0m h7 rfl)) (RS.q rfl (q1o und127 rfl (q03 inf9) rfl rfl) (RS.q rfl (q0d und9 rfl rfl rfl) (RS.cl rfl (pC (qr9 n x6.Name r8 h9) _) fn147 ?_)))
 refine go ?_
 refine cF hF (fun h10 hF=>?_) (fun h10 hF=>?_)
 exact gx hF
 obtain ⟨x11,h12,hF⟩:=q00 hF
 obtain ⟨r13,h14,hF⟩:=q00 hF
 refine go ?_
 refine RS.q rfl (q0f rfl rfl (q0a q02 und38 (q03 inf127) q0m h12 rfl)) (RS.q rfl (q1o und127 rfl (q03 inf9) rfl rfl) (RS.q rfl (q0d und9 rfl rfl rfl) (RS.cl rfl (pC (q6t n p1 x11.Name r13 h14) _) fn148 ?_)))
 refine go ?_
 refine cF hF (fun h15 hF=>?_) (fun h15 hF=>?_)
 exact gx hF
 refine go ?_
 exact lC ⟨_,hF,rfl,rfl⟩
 refine go ?_
 exact xC ⟨hF,rfl,rfl⟩
def qbw   : Option (Bool) :=
 some false
def q8d (p1:List (List UInt8)) (p2:List UInt8):Nat→Int→Option (Bool)
 | 0,_=>none
 | m1+1,z6 =>
  cond (decide (z6<(p1.length:Int)))
   (q04 (q15 p1 z6) fun x8 =>
   cond (q1x x8 p2)
    (some true)
    ((q8d p1 p2 m1) (IntKind.i64.wrap (z6+1))))
   (qbw)
def q3c (n:Nat) (p1:List (List UInt8)) (p2:List UInt8):Option (Bool) :=
 q8d p1 p2 n 0
theorem q2k (n:Nat) (p1:List (List UInt8)) (p2:List UInt8) (r:Bool) (hF:q3c n p1 p2=some r):EvU Tryz.prog 126 [.isl false (List.map cS p1),.str p2] ⟨[],0⟩ (fun u _=>u = .bool r∧Bel 0 u):=by
 unfold q3c at hF
 refine bg2 18 fn126 ?_
 refine go ?_
 refine gS (l':=[(0,_),(1,_),(5,_)]) ?_
 refine z4g (fun m tm σ=>∃ z6:Int,q8d p1 p2 m z6=some r∧tm=fr 18 [(0,.iM cS p1),(1,.str p2),(5,.i6 z6)]∧σ=⟨[],0⟩) (fun tm σ=>qbw=some r∧tm=fr 18 []∧σ=⟨[],0⟩) n ⟨0,hF,rfl,rfl⟩ ?_ ?_
 rintro _ _ ⟨hF,rfl,rfl⟩
 unfold qbw at hF
 exact gx hF
 rintro (_|m1) _ _ ⟨z6,hF,rfl,rfl⟩
 cases hF
 unfold q8d at hF
 refine go ?_
 refine RS.q rfl (q0c rfl rfl rfl (q08 cS und80)) ?_
 refine go ?_
 refine cF hF (fun h7 hF=>?_) (fun h7 hF=>?_)
 refine go ?_
 refine WPU.block ?_
 obtain ⟨x8,h9,hF⟩:=q00 hF
 refine go ?_
 refine RS.q rfl (q0f rfl rfl (q0a cS und80 (q03 inf9) q1s h9 rfl)) (RS.q rfl (q0d und9 rfl rfl rfl) ?_)
 refine go ?_
 refine RS.q (u:=.bool (q1x x8 p2)) rfl (q9m rfl rfl rfl rfl) ?_
 refine go ?_
 refine cF hF (fun h10 hF=>?_) (fun h10 hF=>?_)
 exact gx hF
 refine go ?_
 exact lC ⟨_,hF,rfl,rfl⟩
 refine go ?_
 exact xC ⟨hF,rfl,rfl⟩
def qat (z4:Int) (rc1:Int→Option (Int))  : Option (Int) :=
 rc1 (IntKind.i64.wrap (z4+1))
def q76 (p1:List q06) (n:Nat) (z4:Int) (rc1:Int→Option (Int)) (x6:q06):Nat→Int→Option (Int)
 | 0,_=>none
 | m2+1,z12 =>
  cond (decide (z12<(x6.Supers.length:Int)))
   (q04 (q15 x6.Supers z12) fun x14 =>
   q04 (q6s n p1 x14) fun r16 =>
   cond (decide (r16<0))
    (some 5)
    (q04 (z1p x6.Supers 0 z12) fun l19 =>
    q04 (q15 x6.Supers z12) fun x23 =>
    q04 (q3c n l19 x23) fun r25 =>
    cond r25
     (some 4)
     ((q76 p1 n z4 rc1 x6 m2) (IntKind.i64.wrap (z12+1)))))
   (qat z4 rc1)
def qas   : Option (Int) :=
 some 0
def q46 (p1:List q06) (n:Nat):Nat→Int→Option (Int)
 | 0,_=>none
 | m1+1,z4 =>
  cond (decide (z4<(p1.length:Int)))
   (q04 (q15 p1 z4) fun x6 =>
   q76 p1 n z4 (q46 p1 n m1) x6 n 0)
   (qas)
def qff (n:Nat) (p1:List q06):Option (Int) :=
 q46 p1 n n 0
theorem qnp (n:Nat) (p1:List q06) (r:Int) (hF:qff n p1=some r):EvU Tryz.prog 123 [.isl false (List.map q02 p1)] ⟨[],0⟩ (fun u _=>u = .int .i64 r∧Bel 0 u):=by
 unfold qff at hF
 refine bg1 38 fn123 ?_
 refine go ?_
 refine gS (l':=[(0,_),(3,_)]) ?_
 refine z4g (fun m tm σ=>∃ z4:Int,q46 p1 n m z4=some r∧tm=fr 38 [(0,.iM q02 p1),(3,.i6 z4)]∧σ=⟨[],0⟩) (fun tm σ=>qas=some r∧tm=fr 38 []∧σ=⟨[],0⟩) n ⟨0,hF,rfl,rfl⟩ ?_ ?_
 rintro _ _ ⟨hF,rfl,rfl⟩
 unfold qas at hF
 exact gx hF
 rintro (_|m1) _ _ ⟨z4,hF,rfl,rfl⟩
 cases hF
 unfold q46 at hF
 refine go ?_
 refine RS.q rfl (q0c rfl rfl rfl (q08 q02 und38)) ?_
 refine go ?_
 refine cF hF (fun h5 hF=>?_) (fun h5 hF=>?_)
 refine go ?_
 refine WPU.block ?_
 obtain ⟨x6,h7,hF⟩:=q00 hF
 refine go ?_
 refine RS.q rfl (q0f rfl rfl (q0a q02 und38 (q03 inf127) q0m h7 rfl)) (RS.q rfl (q1o und127 rfl (q03 inf80) rfl rfl) (RS.q rfl (q0d und80 rfl rfl rfl) ?_))
 refine go ?_
 refine gS (l':=[(0,_),(3,_),(4,_),(5,_)]) ?_
 refine z4g (fun m tm σ=>∃ z12:Int,q76 p1 n z4 (q46 p1 n m1) x6 m z12=some r∧tm=fr 38 [(0,.iM q02 p1),(3,.i6 z4),(4,.iM cS x6.Supers),(5,.i6 z12)]∧σ=⟨[],0⟩) (fun tm σ=>qat z4 (q46 p1 n m1)=some r∧tm=fr 38 [(0,.iM q02 p1),(3,.i6 z4)]∧σ=⟨[],0⟩) n ⟨0,hF,rfl,rfl⟩ ?_ ?_
 rintro _ _ ⟨hF,rfl,rfl⟩
 unfold qat at hF
 refine go ?_
 exact lC ⟨_,hF,rfl,rfl⟩
 rintro (_|m2) _ _ ⟨z12,hF,rfl,rfl⟩
 cases hF
 unfold q76 at hF
 refine go ?_
 refine RS.q rfl (q0c rfl rfl rfl (q08 cS und80)) ?_
 refine go ?_
 refine cF hF (fun h13 hF=>?_) (fun h13 hF=>?_)
 refine go ?_
 refine WPU.block ?_
 obtain ⟨x14,h15,hF⟩:=q00 hF
 obtain ⟨r16,h17,hF⟩:=q00 hF
 refine go ?_
 refine RS.q rfl (q0f rfl rfl (q0a cS und80 (q03 inf9) q1s h15 rfl)) (RS.q rfl (q0d und9 rfl rfl rfl) (RS.cl rfl (pC (q6t n p1 x14 r16 h17) _) fn148 ?_))
 refine go ?_
 refine cF hF (fun h18 hF=>?_) (fun h18 hF=>?_)
 exact gx hF
 obtain ⟨l19,h20,hF⟩:=q00 hF
 obtain ⟨h21,h22⟩:=qwp cS .i64 h20
 obtain ⟨x23,h24,hF⟩:=q00 hF
 obtain ⟨r25,h26,hF⟩:=q00 hF
 refine go ?_
 refine z4i Tryz.tb_ok [] (by kernel_rfl) ?_
 repeat refine RD.mv rfl rfl rfl rfl ?_
 refine RD.q (u:=.iM cS l19) rfl (qbb rfl qry (z1s rfl) qry (qur cS und80 (q03 inf9) q1s h21 h22)) ?_
 repeat refine RD.mv rfl rfl rfl rfl ?_
 refine RD.q rfl (q0f rfl rfl (q0a cS und80 (q03 inf9) q1s h24 rfl)) (RD.q rfl (q0d und9 rfl rfl rfl) ?_)
 refine z4w rfl (pC (q2k n l19 x23 r25 h26)) fn126 ?_
 refine RD.done ⟨by kernel_rfl,trivial,?_⟩
 refine go ?_
 refine cF hF (fun h27 hF=>?_) (fun h27 hF=>?_)
 exact gx hF
 refine go ?_
 exact lC ⟨_,hF,rfl,rfl⟩
 refine go ?_
 exact xC ⟨hF,rfl,rfl⟩
 refine go ?_
 exact xC ⟨hF,rfl,rfl⟩
def qc4   : Option (Bool) :=
 some true
def q8j (p1:q06) (p2:List (List UInt8)) (n:Nat):Nat→Int→Option (Bool)
 | 0,_=>none
 | m1+1,z8 =>
  cond (decide (z8<(p1.Supers.length:Int)))
   (q04 (q15 p1.Supers z8) fun x10 =>
   q04 (q3c n p2 x10) fun r12 =>
   cond (!r12)
    (some false)
    ((q8j p1 p2 n m1) (IntKind.i64.wrap (z8+1))))
   (qc4)
def qhe (n:Nat) (p1:q06) (p2:List (List UInt8)):Option (Bool) :=
 q8j p1 p2 n n 0
theorem qpk (n:Nat) (p1:q06) (p2:List (List UInt8)) (r:Bool) (hF:qhe n p1 p2=some r):EvU Tryz.prog 149 [.agg (q02 p1),.isl false (List.map cS p2)] ⟨[],0⟩ (fun u _=>u = .bool r∧Bel 0 u):=by
 unfold qhe at hF
 refine bg2 21 fn149 ?_
 refine go ?_
 refine RS.q (u:=.ptr 0 0 0) (σ':=⟨[(0,.row (q02 p1) 127)],1⟩) rfl (q2p rfl rfl rfl) ?_
 refine go ?_
 refine gS (l':=[(1,_),(2,_),(5,_)]) ?_
 refine z4g (fun m tm σ=>∃ z8:Int,q8j p1 p2 n m z8=some r∧tm=fr 21 [(1,.iM cS p2),(2,.ptr 0 0 0),(5,.i6 z8)]∧σ=⟨[(0,.row (q02 p1) 127)],1⟩) (fun tm σ=>qc4=some r∧tm=fr 21 []∧σ=⟨[(0,.row (q02 p1) 127)],1⟩) n ⟨0,hF,rfl,rfl⟩ ?_ ?_
 rintro _ _ ⟨hF,rfl,rfl⟩
 unfold qc4 at hF
 exact gx hF
 rintro (_|m1) _ _ ⟨z8,hF,rfl,rfl⟩
 cases hF
 unfold q8j at hF
 refine go ?_
 refine RS.q rfl (q0w und127 rfl (q03 inf80) rfl rfl rfl) (RS.q rfl (q0i und80 rfl rfl rfl rfl) (RS.q rfl (q0c rfl rfl rfl (q08 cS und80)) ?_))
 refine go ?_
 refine cF hF (fun h9 hF=>?_) (fun h9 hF=>?_)
 refine go ?_
 refine WPU.block ?_
 obtain ⟨x10,h11,hF⟩:=q00 hF
 obtain ⟨r12,h13,hF⟩:=q00 hF
 refine go ?_
 refine RS.q rfl (q0w und127 rfl (q03 inf80) rfl rfl rfl) (RS.q rfl (q0i und80 rfl rfl rfl rfl) ?_)
 refine go ?_
 refine RS.q rfl (q0f rfl rfl (q0a cS und80 (q03 inf9) q1s h11 rfl)) (RS.q rfl (q0d und9 rfl rfl rfl) (RS.cl rfl (pC (q2k n p2 x10 r12 h13) _) fn126 ?_))
 refine go ?_
 refine cF hF (fun h14 hF=>?_) (fun h14 hF=>?_)
 exact gx hF
 refine go ?_
 exact lC ⟨_,hF,rfl,rfl⟩
 refine go ?_
 exact xC ⟨hF,rfl,rfl⟩
def q74 (rc1:Bool→(List (List UInt8))→Option ((List (List UInt8)))) (b21:Bool) (l24:List (List UInt8)):Option ((List (List UInt8))) :=
 rc1 b21 l24
def q75 (z20:Int) (rc2:Bool→(List UInt8)→Int→Option ((List (List UInt8)))) (s46:List UInt8):Option ((List (List UInt8))) :=
 rc2 true s46 (IntKind.i64.wrap (z20+1))
def qar (l7:List (List UInt8)) (rc1:Bool→(List (List UInt8))→Option ((List (List UInt8)))) (b21:Bool) (s22:List UInt8):Option ((List (List UInt8))) :=
 cond b21
  (q1i ((l7.length+1)*16≤140737488355328∧l7.length+1≤140737488355328) (
  q74 rc1 b21 (l7++[s22])))
  (q74 rc1 b21 l7)
def q3d (p1:List q06) (n:Nat) (l7:List (List UInt8)) (rc1:Bool→(List (List UInt8))→Option ((List (List UInt8)))):Nat→Bool→(List UInt8)→Int→Option ((List (List UInt8)))
 | 0,_,_,_=>none
 | m2+1,b18,s19,z20 =>
  cond (decide (z20<(p1.length:Int)))
   (q04 (q04 (q15 p1 z20) fun x28 =>
   q04 (q3c n l7 x28.Name) fun r30 =>
   cond r30
    (some true)
    (q04 (q15 p1 z20) fun x33 =>
    q04 (qhe n x33 l7) fun r35 =>
    some (!r35))) fun b37 =>
   cond b37
    ((q3d p1 n l7 rc1 m2) b18 s19 (IntKind.i64.wrap (z20+1)))
    (q04 (cond (!b18)
     (some true)
     (q04 (q15 p1 z20) fun x41 =>
     some (q6j x41.Name s19))) fun b43 =>
    cond b43
     (q04 (q15 p1 z20) fun x47 =>
     q75 z20 (q3d p1 n l7 rc1 m2) x47.Name)
     (q75 z20 (q3d p1 n l7 rc1 m2) s19)))
   (qar l7 rc1 b18 s19)
def qaq  (l9:List (List UInt8)):Option ((List (List UInt8))) :=
 some l9
def q2x (p1:List q06) (n:Nat):Nat→Bool→(List (List UInt8))→Option ((List (List UInt8)))
 | 0,_,_=>none
 | m1+1,b6,l7 =>
  cond b6
   (q3d p1 n l7 (q2x p1 n m1) n false [] 0)
   (qaq l7)
def qfe (n:Nat) (p1:List q06):Option ((List (List UInt8))) :=
 q2x p1 n n true ([]:List (List UInt8))
theorem qno (n:Nat) (p1:List q06) (r:(List (List UInt8))) (hF:qfe n p1=some r):EvU Tryz.prog 124 [.isl false (List.map q02 p1)] ⟨[],0⟩ (fun u _=>u = .isl false (List.map cS r)∧Bel 0 u):=by
 unfold qfe at hF
 refine bg1 52 fn124 ?_
 refine gr ?_
 refine gr ?_
 refine gr ?_
 refine WPU.ghost (tm':=fr 52 [(0,.iM q02 p1),(3,.vl 0 0 0 (([]:List (List UInt8)).length)),(4,.bool true)]) (σ':=⟨[(0,.vec (List.map cS ([]:List (List UInt8))).flatten 9 1 0)],1⟩) (Gh.trans (z4n 3 9 1 (by decide) NZ rfl rfl) (z4l ⟨rfl,rfl,rfl,trivial⟩ rfl)) NZ ?_
 refine gS (l':=[(0,_),(3,_),(4,_)]) ?_
 refine z4g (fun m tm σ=>∃ b6:Bool,∃ l7:List (List UInt8),∃ t8:Nat,q2x p1 n m b6 l7=some r∧tm=fr 52 [(0,.iM q02 p1),(3,.vl 0 t8 0 l7.length),(4,.bool b6)]∧σ=⟨[(0,.vec (List.map cS l7).flatten 9 1 t8)],1⟩) (fun tm σ=>∃ l9:List (List UInt8),∃ t10:Nat,qaq l9=some r∧tm=fr 52 [(3,.vl 0 t10 0 l9.length)]∧σ=⟨[(0,.vec (List.map cS l9).flatten 9 1 t10)],1⟩) n ⟨true,([]:List (List UInt8)),0,hF,rfl,rfl⟩ ?_ ?_
 rintro _ _ ⟨l9,t10,hF,rfl,rfl⟩
 unfold qaq at hF
 refine go ?_
 obtain rfl:=sI hF
 exact rT (us:=[.vl 0 t10 0 l9.length]) (u:=.iM cS l9) (q2o rfl (q2g)) (fR 0 1)
 rintro (_|m1) _ _ ⟨b6,l7,t8,hF,rfl,rfl⟩
 cases hF
 unfold q2x at hF
 refine go ?_
 refine cF hF (fun h11 hF=>?_) (fun h11 hF=>?_)
 refine go ?_
 refine WPU.block ?_
 refine go ?_
 refine gS (l':=[(0,_),(3,_),(4,_),(5,_),(6,_)]) ?_
 refine z4g (fun m tm σ=>∃ b18:Bool,∃ s19:List UInt8,∃ z20:Int,q3d p1 n l7 (q2x p1 n m1) m b18 s19 z20=some r∧tm=fr 52 [(0,.iM q02 p1),(3,.vl 0 t8 0 l7.length),(4,.bool b18),(5,.str s19),(6,.i6 z20)]∧σ=⟨[(0,.vec (List.map cS l7).flatten 9 1 t8)],1⟩) (fun tm σ=>∃ b21:Bool,∃ s22:List UInt8,qar l7 (q2x p1 n m1) b21 s22=some r∧tm=fr 52 [(0,.iM q02 p1),(3,.vl 0 t8 0 l7.length),(4,.bool b21),(5,.str s22)]∧σ=⟨[(0,.vec (List.map cS l7).flatten 9 1 t8)],1⟩) n ⟨false,[],0,hF,rfl,rfl⟩ ?_ ?_
 rintro _ _ ⟨b21,s22,hF,rfl,rfl⟩
 unfold qar at hF
 refine gr ?_
 refine z4h (fun tm σ=>∃ l24:List (List UInt8),∃ t25:Nat,q74 (q2x p1 n m1) b21 l24=some r∧tm=fr 52 [(0,.iM q02 p1),(3,.vl 0 t25 0 l24.length),(4,.bool b21)]∧σ=⟨[(0,.vec (List.map cS l24).flatten 9 1 t25)],1⟩) ?_ ?_
 rintro _ _ ⟨l24,t25,hF,rfl,rfl⟩
 unfold q74 at hF
 refine go ?_
 exact lC ⟨b21,l24,t25,hF,rfl,rfl⟩
 refine cF hF (fun h23 hF=>?_) (fun h23 hF=>?_)
 obtain ⟨h26,hF⟩:=q0b hF
 refine go ?_
 refine RS.q (u:=.sl 1 0 1 1) (σ':=⟨[(1,.row [.str s22] 9),(0,.vec (List.map cS l7).flatten 9 1 t8)],2⟩) rfl (q0j und80 inf9 rfl rfl rfl rfl rfl rfl rfl) (RS.q (u:=.vl 0 (t8+1) 0 ((l7++[s22]).length)) (σ':=⟨[(1,.row [.str s22] 9),(0,.vec (List.map cS (l7++[s22])).flatten 9 1 (t8+1))],2⟩) rfl (q1u rfl rfl rfl rfl (q2a cS ([s22]) und80 und80 inf9 rfl q1s rfl (q1q cS [s22] rfl rfl rfl rfl) h26)) ?_)
 refine go ?_
 exact xC ⟨(l7++[s22]),(t8+1),hF,rfl,rfl⟩
 refine go ?_
 exact xC ⟨l7,t8,hF,rfl,rfl⟩
 rintro (_|m2) _ _ ⟨b18,s19,z20,hF,rfl,rfl⟩
 cases hF
 unfold q3d at hF
 refine go ?_
 refine RS.q rfl (q0c rfl rfl rfl (q08 q02 und38)) ?_
 refine go ?_
 refine cF hF (fun h27 hF=>?_) (fun h27 hF=>?_)
 refine go ?_
 refine WPU.block ?_
 obtain ⟨b37,h38,hF⟩:=q00 hF
 refine gn ?_
 refine z4h (fun tm σ=>tm=fr 52 [(0,.iM q02 p1),(3,.vl 0 t8 0 l7.length),(4,.bool b18),(5,.str s19),(6,.i6 z20),(29,.bool b37)]∧σ=⟨[(0,.vec (List.map cS l7).flatten 9 1 t8)],1⟩) ?_ ?_
 rintro _ _ ⟨rfl,rfl⟩
 refine go ?_
 refine cF hF (fun h39 hF=>?_) (fun h39 hF=>?_)
 refine go ?_
 exact lC ⟨b18,s19,(IntKind.i64.wrap (z20+1)),hF,rfl,rfl⟩
 obtain ⟨b43,h44,hF⟩:=q00 hF
 refine gn ?_
 refine z4h (fun tm σ=>tm=fr 52 [(0,.iM q02 p1),(3,.vl 0 t8 0 l7.length),(5,.str s19),(6,.i6 z20),(40,.bool b43)]∧σ=⟨[(0,.vec (List.map cS l7).flatten 9 1 t8)],1⟩) ?_ ?_
 rintro _ _ ⟨rfl,rfl⟩
 refine gn ?_
 refine z4h (fun tm σ=>∃ s46:List UInt8,q75 z20 (q3d p1 n l7 (q2x p1 n m1) m2) s46=some r∧tm=fr 52 [(0,.iM q02 p1),(3,.vl 0 t8 0 l7.length),(5,.str s46),(6,.i6 z20)]∧σ=⟨[(0,.vec (List.map cS l7).flatten 9 1 t8)],1⟩) ?_ ?_
 rintro _ _ ⟨s46,hF,rfl,rfl⟩
 unfold q75 at hF
 refine go ?_
 exact lC ⟨true,s46,(IntKind.i64.wrap (z20+1)),hF,rfl,rfl⟩
 refine cF hF (fun h45 hF=>?_) (fun h45 hF=>?_)
 obtain ⟨x47,h48,hF⟩:=q00 hF
 refine go ?_
 refine RS.q rfl (q0f rfl rfl (q0a q02 und38 (q03 inf127) q0m h48 rfl)) (RS.q rfl (q1o und127 rfl (q03 inf9) rfl rfl) (RS.q rfl (q0d und9 rfl rfl rfl) ?_))
 refine go ?_
 exact xC ⟨x47.Name,hF,rfl,rfl⟩
 refine go ?_
 exact xC ⟨s19,hF,rfl,rfl⟩
 rcases gB h44 with ⟨h40,h44⟩ | ⟨h40,h44⟩
 exact gy h44
 obtain ⟨x41,h42,h44⟩:=q00 h44
 obtain rfl:=sI h44
 refine go ?_
 refine RS.w rfl (q0f rfl rfl (q0a q02 und38 (q03 inf127) q0m h42 rfl)) (RS.w rfl (q1o und127 rfl (q03 inf9) rfl rfl) (RS.w rfl (q0d und9 rfl rfl rfl) ?_))
 refine go ?_
 refine RS.w (u:=.bool (q6j x41.Name s19)) rfl (q9m rfl rfl rfl rfl) ?_
 refine go ?_
 exact xC ⟨rfl,rfl⟩
 obtain ⟨x28,h29,h38⟩:=q00 h38
 obtain ⟨r30,h31,h38⟩:=q00 h38
 rcases gB h38 with ⟨h32,h38⟩ | ⟨h32,h38⟩
 obtain rfl:=sI h38
 refine go ?_
 refine RS.q rfl (q0f rfl rfl (q0a q02 und38 (q03 inf127) q0m h29 rfl)) (RS.q rfl (q1o und127 rfl (q03 inf9) rfl rfl) (RS.q rfl (q0d und9 rfl rfl rfl) (RS.cl rfl (vw (q2k n l7 x28.Name r30 h31) (z4j 0 1)) fn126 ?_)))
 refine go ?_
 exact xC ⟨rfl,rfl⟩
 obtain ⟨x33,h34,h38⟩:=q00 h38
 obtain ⟨r35,h36,h38⟩:=q00 h38
 obtain rfl:=sI h38
 refine go ?_
 refine RS.q rfl (q0f rfl rfl (q0a q02 und38 (q03 inf127) q0m h29 rfl)) (RS.q rfl (q1o und127 rfl (q03 inf9) rfl rfl) (RS.q rfl (q0d und9 rfl rfl rfl) (RS.cl rfl (vw (q2k n l7 x28.Name r30 h31) (z4j 0 1)) fn126 ?_)))
 refine go ?_
 refine RS.w rfl (q0f rfl rfl (q0a q02 und38 (q03 inf127) q0m h34 rfl)) (RS.w (u:=.agg (q02 x33)) rfl (qam und127 rfl (q03 inf127) rfl rfl) ?_)
 refine go ?_
 refine RS.cl rfl (vw (qpk n x33 l7 r35 h36) (z4j 0 1)) fn149 ?_
 refine go ?_
 exact xC ⟨rfl,rfl⟩
 refine go ?_
 exact xC ⟨b18,s19,hF,rfl,rfl⟩
 refine go ?_
 exact xC ⟨l7,t8,hF,rfl,rfl⟩
def q8g (z15:Int) (rc1:Int→Int→Option (Int)) (z25:Int):Option (Int) :=
 rc1 z25 (IntKind.i64.wrap (z15+1))
def qc0 (p1:List q06) (n:Nat) (z16:Int):Option (Int) :=
 cond (z16 != 1)
  (some 1)
  (q04 (qfe n p1) fun r18 =>
  cond (decide ((r18.length:Int)<(p1.length:Int)))
   (some 6)
   (some 0))
def q4s (p1:List q06) (n:Nat):Nat→Int→Int→Option (Int)
 | 0,_,_=>none
 | m1+1,z14,z15 =>
  cond (decide (z15<(p1.length:Int)))
   (q04 (q15 p1 z15) fun x22 =>
   cond ((x22.Supers.length:Int) == 0)
    (q8g z15 (q4s p1 n m1) (IntKind.i64.wrap (z14+1)))
    (q8g z15 (q4s p1 n m1) z14))
   (qc0 p1 n z14)
def qhc (n:Nat) (p1:List q06):Option (Int) :=
 q04 (qhf n p1) fun r2 =>
 cond (r2 != 0)
  (some r2)
  (q04 (qhd n p1) fun r5 =>
  cond (r5 != 0)
   (some r5)
   (q04 (qff n p1) fun r8 =>
   cond (r8 != 0)
    (some r8)
    (q4s p1 n n 0 0)))
theorem qpi (n:Nat) (p1:List q06) (r:Int) (hF:qhc n p1=some r):EvU Tryz.prog 94 [.isl false (List.map q02 p1)] ⟨[],0⟩ (fun u _=>u = .int .i64 r∧Bel 0 u):=by
 unfold qhc at hF
 refine bg1 46 fn94 ?_
 obtain ⟨r2,h3,hF⟩:=q00 hF
 refine go ?_
 refine RS.cl rfl (pC (qpl n p1 r2 h3) _) fn121 ?_
 refine go ?_
 refine cF hF (fun h4 hF=>?_) (fun h4 hF=>?_)
 exact gx hF
 obtain ⟨r5,h6,hF⟩:=q00 hF
 refine go ?_
 refine RS.cl rfl (pC (qpj n p1 r5 h6) _) fn122 ?_
 refine go ?_
 refine cF hF (fun h7 hF=>?_) (fun h7 hF=>?_)
 exact gx hF
 obtain ⟨r8,h9,hF⟩:=q00 hF
 refine go ?_
 refine RS.cl rfl (pC (qnp n p1 r8 h9) _) fn123 ?_
 refine go ?_
 refine cF hF (fun h10 hF=>?_) (fun h10 hF=>?_)
 exact gx hF
 refine go ?_
 refine gS (l':=[(0,_),(6,_),(7,_)]) ?_
 refine z4g (fun m tm σ=>∃ z14:Int,∃ z15:Int,q4s p1 n m z14 z15=some r∧tm=fr 46 [(0,.iM q02 p1),(6,.i6 z14),(7,.i6 z15)]∧σ=⟨[],0⟩) (fun tm σ=>∃ z16:Int,qc0 p1 n z16=some r∧tm=fr 46 [(0,.iM q02 p1),(6,.i6 z16)]∧σ=⟨[],0⟩) n ⟨0,0,hF,rfl,rfl⟩ ?_ ?_
 rintro _ _ ⟨z16,hF,rfl,rfl⟩
 unfold qc0 at hF
 refine go ?_
 refine cF hF (fun h17 hF=>?_) (fun h17 hF=>?_)
 exact gx hF
 obtain ⟨r18,h19,hF⟩:=q00 hF
 refine go ?_
 refine RS.cl rfl (pC (qno n p1 r18 h19) _) fn124 (RS.q rfl (q0c rfl rfl rfl (q08 cS und80)) ?_)
 refine go ?_
 refine RS.q rfl (q0c rfl rfl rfl (q08 q02 und38)) ?_
 refine go ?_
 refine cF hF (fun h20 hF=>?_) (fun h20 hF=>?_)
 exact gx hF
 exact gx hF
 rintro (_|m1) _ _ ⟨z14,z15,hF,rfl,rfl⟩
 cases hF
 unfold q4s at hF
 refine go ?_
 refine RS.q rfl (q0c rfl rfl rfl (q08 q02 und38)) ?_
 refine go ?_
 refine cF hF (fun h21 hF=>?_) (fun h21 hF=>?_)
 refine go ?_
 refine WPU.block ?_
 obtain ⟨x22,h23,hF⟩:=q00 hF
 refine go ?_
 refine RS.q rfl (q0f rfl rfl (q0a q02 und38 (q03 inf127) q0m h23 rfl)) (RS.q rfl (q1o und127 rfl (q03 inf80) rfl rfl) (RS.q rfl (q0d und80 rfl rfl rfl) (RS.q rfl (q0c rfl rfl rfl (q08 cS und80)) ?_)))
 refine gn ?_
 refine z4h (fun tm σ=>∃ z25:Int,q8g z15 (q4s p1 n m1) z25=some r∧tm=fr 46 [(0,.iM q02 p1),(6,.i6 z25),(7,.i6 z15)]∧σ=⟨[],0⟩) ?_ ?_
 rintro _ _ ⟨z25,hF,rfl,rfl⟩
 unfold q8g at hF
 refine go ?_
 exact lC ⟨z25,(IntKind.i64.wrap (z15+1)),hF,rfl,rfl⟩
 refine cF hF (fun h24 hF=>?_) (fun h24 hF=>?_)
 refine go ?_
 exact xC ⟨(IntKind.i64.wrap (z14+1)),hF,rfl,rfl⟩
 refine go ?_
 exact xC ⟨z14,hF,rfl,rfl⟩
 refine go ?_
 exact xC ⟨z14,hF,rfl,rfl⟩
def qfd (p1:List (List UInt8)) (p2:List UInt8) (z7:Int):Option ((List (List UInt8))) :=
 q04 (cond (decide (z7<(p1.length:Int)))
  (q04 (q15 p1 z7) fun x9 =>
  some (q1x x9 p2))
  (some false)) fun b11 =>
 cond b11
  (some p1)
  (q04 (z1p p1 0 z7) fun l14 =>
  q1i (l14.length*16≤140737488355328∧l14.length≤140737488355328) (
  q1i ((l14.length+1)*16≤140737488355328∧l14.length+1≤140737488355328) (
  q04 (z1p p1 z7 (p1.length:Int)) fun l20 =>
  q1i (((l14++[p2]).length+l20.length)*16≤140737488355328∧(l14++[p2]).length+l20.length≤140737488355328) (
  some ((l14++[p2])++l20)))))
def qbf (p1:List (List UInt8)) (p2:List UInt8):Nat→Int→Option ((List (List UInt8)))
 | 0,_=>none
 | m1+1,z6 =>
  q04 (cond (decide (z6<(p1.length:Int)))
   (q04 (q15 p1 z6) fun x26 =>
   some (q6j x26 p2))
   (some false)) fun b28 =>
  cond b28
   ((qbf p1 p2 m1) (IntKind.i64.wrap (z6+1)))
   (qfd p1 p2 z6)
def q95 (n:Nat) (p1:List (List UInt8)) (p2:List UInt8):Option ((List (List UInt8))) :=
 qbf p1 p2 n 0
theorem q7v (n:Nat) (p1:List (List UInt8)) (p2:List UInt8) (r:(List (List UInt8))) (hF:q95 n p1 p2=some r):EvU Tryz.prog 116 [.isl false (List.map cS p1),.str p2] ⟨[],0⟩ (fun u _=>u = .isl false (List.map cS r)∧Bel 0 u):=by
 unfold q95 at hF
 refine bg2 48 fn116 ?_
 refine go ?_
 refine gS (l':=[(0,_),(1,_),(5,_),(6,_)]) ?_
 refine z4g (fun m tm σ=>∃ z6:Int,qbf p1 p2 m z6=some r∧tm=fr 48 [(0,.iM cS p1),(1,.str p2),(5,.nils),(6,.i6 z6)]∧σ=⟨[],0⟩) (fun tm σ=>∃ z7:Int,qfd p1 p2 z7=some r∧tm=fr 48 [(0,.iM cS p1),(1,.str p2),(5,.nils),(6,.i6 z7)]∧σ=⟨[],0⟩) n ⟨0,hF,rfl,rfl⟩ ?_ ?_
 rintro _ _ ⟨z7,hF,rfl,rfl⟩
 unfold qfd at hF
 obtain ⟨b11,h12,hF⟩:=q00 hF
 refine gn ?_
 refine z4h (fun tm σ=>tm=fr 48 [(0,.iM cS p1),(1,.str p2),(5,.nils),(6,.i6 z7),(32,.bool b11)]∧σ=⟨[],0⟩) ?_ ?_
 rintro _ _ ⟨rfl,rfl⟩
 refine go ?_
 refine cF hF (fun h13 hF=>?_) (fun h13 hF=>?_)
 exact gx hF
 obtain ⟨l14,h15,hF⟩:=q00 hF
 obtain ⟨h16,h17⟩:=qwp cS .i64 h15
 obtain ⟨h18,hF⟩:=q0b hF
 refine go ?_
 refine RS.q (u:=.iM cS l14) rfl (qbb rfl qry (z1s rfl) qry (qur cS und80 (q03 inf9) q1s h16 h17)) (RS.q (u:=.vl 0 0 0 l14.length) (σ':=⟨[(0,.vec (List.map cS l14).flatten 9 1 0)],1⟩) rfl (q1u rfl rfl rfl rfl (qs5 cS l14 und80 und80 inf9 rfl (qhl cS q1s) h18)) ?_)
 obtain ⟨h19,hF⟩:=q0b hF
 refine go ?_
 refine RS.q (u:=.sl 1 0 1 1) (σ':=⟨[(1,.row [.str p2] 9),(0,.vec (List.map cS l14).flatten 9 1 0)],2⟩) rfl (q0j und80 inf9 rfl rfl rfl rfl rfl rfl rfl) (RS.q (u:=.vl 0 1 0 ((l14++[p2]).length)) (σ':=⟨[(1,.row [.str p2] 9),(0,.vec (List.map cS (l14++[p2])).flatten 9 1 1)],2⟩) rfl (q1u rfl rfl rfl rfl (q2a cS ([p2]) und80 und80 inf9 rfl q1s rfl (q1q cS [p2] rfl rfl rfl rfl) h19)) ?_)
 obtain ⟨l20,h21,hF⟩:=q00 hF
 obtain ⟨h22,h23⟩:=cut_lo cS .i64 h21
 obtain ⟨h24,hF⟩:=q0b hF
 refine go ?_
 refine RS.q (u:=.iM cS l20) rfl (qbb rfl (z1s rfl) qry qry (qur cS und80 (q03 inf9) q1s h22 h23)) (RS.q (u:=.vl 0 2 0 (((l14++[p2])++l20).length)) (σ':=⟨[(1,.row [.str p2] 9),(0,.vec (List.map cS ((l14++[p2])++l20)).flatten 9 1 2)],2⟩) rfl (q1u rfl rfl rfl rfl (q2a cS l20 und80 und80 inf9 rfl q1s rfl (qhl cS q1s) h24)) ?_)
 refine go ?_
 obtain rfl:=sI hF
 exact rT (us:=[.vl 0 2 0 (((l14++[p2])++l20).length)]) (u:=.iM cS ((l14++[p2])++l20)) (q2o rfl (q2g)) (fR 0 1)
 rcases gB h12 with ⟨h8,h12⟩ | ⟨h8,h12⟩
 obtain ⟨x9,h10,h12⟩:=q00 h12
 obtain rfl:=sI h12
 refine go ?_
 refine RS.q rfl (q0c rfl rfl rfl (q08 cS und80)) ?_
 refine go ?_
 refine RS.w rfl (q0f rfl rfl (q0a cS und80 (q03 inf9) q1s h10 rfl)) (RS.w rfl (q0d und9 rfl rfl rfl) ?_)
 refine go ?_
 refine RS.w (u:=.bool (q1x x9 p2)) rfl (q9m rfl rfl rfl rfl) ?_
 refine go ?_
 exact xC ⟨rfl,rfl⟩
 obtain rfl:=sI h12
 refine go ?_
 refine RS.q rfl (q0c rfl rfl rfl (q08 cS und80)) ?_
 refine go ?_
 exact xC ⟨rfl,rfl⟩
 rintro (_|m1) _ _ ⟨z6,hF,rfl,rfl⟩
 cases hF
 unfold qbf at hF
 obtain ⟨b28,h29,hF⟩:=q00 hF
 refine gn ?_
 refine z4h (fun tm σ=>tm=fr 48 [(0,.iM cS p1),(1,.str p2),(5,.nils),(6,.i6 z6),(18,.bool b28)]∧σ=⟨[],0⟩) ?_ ?_
 rintro _ _ ⟨rfl,rfl⟩
 refine go ?_
 refine cF hF (fun h30 hF=>?_) (fun h30 hF=>?_)
 refine go ?_
 refine WPU.block ?_
 refine go ?_
 exact lC ⟨_,hF,rfl,rfl⟩
 refine go ?_
 exact xC ⟨z6,hF,rfl,rfl⟩
 rcases gB h29 with ⟨h25,h29⟩ | ⟨h25,h29⟩
 obtain ⟨x26,h27,h29⟩:=q00 h29
 obtain rfl:=sI h29
 refine go ?_
 refine RS.q rfl (q0c rfl rfl rfl (q08 cS und80)) ?_
 refine go ?_
 refine RS.w rfl (q0f rfl rfl (q0a cS und80 (q03 inf9) q1s h27 rfl)) (RS.w rfl (q0d und9 rfl rfl rfl) ?_)
 refine go ?_
 refine RS.w (u:=.bool (q6j x26 p2)) rfl (q9m rfl rfl rfl rfl) ?_
 refine go ?_
 exact xC ⟨rfl,rfl⟩
 obtain rfl:=sI h29
 refine go ?_
 refine RS.q rfl (q0c rfl rfl rfl (q08 cS und80)) ?_
 refine go ?_
 exact xC ⟨rfl,rfl⟩
def qc1  (l7:List (List UInt8)):Option ((List (List UInt8))) :=
 some l7
def q8h (p1:List q06) (n:Nat):Nat→(List (List UInt8))→Int→Option ((List (List UInt8)))
 | 0,_,_=>none
 | m1+1,l5,z6 =>
  cond (decide (z6<(p1.length:Int)))
   (q04 (q15 p1 z6) fun x9 =>
   q04 (q95 n l5 x9.Name) fun r11 =>
   (q8h p1 n m1) r11 (IntKind.i64.wrap (z6+1)))
   (qc1 l5)
def qe1 (n:Nat) (p1:List q06):Option ((List (List UInt8))) :=
 q8h p1 n n [] 0
theorem qiu (n:Nat) (p1:List q06) (r:(List (List UInt8))) (hF:qe1 n p1=some r):EvU Tryz.prog 95 [.isl false (List.map q02 p1)] ⟨[],0⟩ (fun u _=>u = .isl false (List.map cS r)∧Bel 0 u):=by
 unfold qe1 at hF
 refine bg1 19 fn95 ?_
 refine gr ?_
 refine gr ?_
 refine gr ?_
 refine WPU.ghost (tm':=fr 19 [(0,.iM q02 p1),(3,.iM cS []),(4,.i6 0)]) (Gh.trans (Gh.sub (l':=[(0,.iM q02 p1),(3,.nils),(4,.i6 0)]) ⟨rfl,rfl,rfl,trivial⟩) (Gh.wkS (l':=[(0,.iM q02 p1),(3,.iM cS []),(4,.i6 0)]) (.cons (.refl _) (.cons (.nil false) (.cons (.refl _) .nil))))) NZ ?_
 refine gS (l':=[(0,_),(3,_),(4,_)]) ?_
 refine z4g (fun m tm σ=>∃ l5:List (List UInt8),∃ z6:Int,q8h p1 n m l5 z6=some r∧tm=fr 19 [(0,.iM q02 p1),(3,.iM cS l5),(4,.i6 z6)]∧σ=⟨[],0⟩) (fun tm σ=>∃ l7:List (List UInt8),qc1 l7=some r∧tm=fr 19 [(3,.iM cS l7)]∧σ=⟨[],0⟩) n ⟨[],0,hF,rfl,rfl⟩ ?_ ?_
 rintro _ _ ⟨l7,hF,rfl,rfl⟩
 unfold qc1 at hF
 exact gx hF
 rintro (_|m1) _ _ ⟨l5,z6,hF,rfl,rfl⟩
 cases hF
 unfold q8h at hF
 refine go ?_
 refine RS.q rfl (q0c rfl rfl rfl (q08 q02 und38)) ?_
 refine go ?_
 refine cF hF (fun h8 hF=>?_) (fun h8 hF=>?_)
 refine go ?_
 refine WPU.block ?_
 obtain ⟨x9,h10,hF⟩:=q00 hF
 obtain ⟨r11,h12,hF⟩:=q00 hF
 refine go ?_
 refine RS.q rfl (q0f rfl rfl (q0a q02 und38 (q03 inf127) q0m h10 rfl)) (RS.q rfl (q1o und127 rfl (q03 inf9) rfl rfl) (RS.q rfl (q0d und9 rfl rfl rfl) (RS.cl rfl (pC (q7v n l5 x9.Name r11 h12) _) fn116 ?_)))
 refine go ?_
 exact lC ⟨r11,(IntKind.i64.wrap (z6+1)),hF,rfl,rfl⟩
 refine go ?_
 exact xC ⟨l5,hF,rfl,rfl⟩
def qby  (l21:List (List UInt8)):Option ((List (List UInt8))) :=
 some l21
def q8f (n:Nat) (l13:List (List UInt8)):Nat→(List (List UInt8))→Int→Option ((List (List UInt8)))
 | 0,_,_=>none
 | m2+1,l19,z20 =>
  cond (decide (z20<(l13.length:Int)))
   (q04 (q15 l13 z20) fun x23 =>
   q04 (q95 n l19 x23) fun r25 =>
   (q8f n l13 m2) r25 (IntKind.i64.wrap (z20+1)))
   (qby l19)
def q8e (z33:Int) (rc3:Int→(List (List UInt8))→Option ((List (List UInt8)))) (l53:List (List UInt8)):Option ((List (List UInt8))) :=
 rc3 (IntKind.i64.wrap (z33+1)) l53
def qbz (z10:Int) (rc1:Int→(List (List UInt8))→Option ((List (List UInt8)))) (l36:List (List UInt8)):Option ((List (List UInt8))) :=
 rc1 (IntKind.i64.wrap (z10+1)) l36
def q4r (p1:List q06) (n:Nat) (z10:Int) (rc1:Int→(List (List UInt8))→Option ((List (List UInt8)))):Nat→Int→(List (List UInt8))→Option ((List (List UInt8)))
 | 0,_,_=>none
 | m3+1,z33,l34 =>
  cond (decide (z33<(p1.length:Int)))
   (q04 (q04 (q15 p1 z33) fun x39 =>
   q04 (q15 l34 z10) fun x41 =>
   q04 (q3c n x39.Supers x41) fun r43 =>
   cond r43
    (q04 (q15 p1 z33) fun x46 =>
    q04 (q3c n l34 x46.Name) fun r48 =>
    some (!r48))
    (some false)) fun b50 =>
   cond b50
    (q04 (q15 p1 z33) fun x55 =>
    q1i ((l34.length+1)*16≤140737488355328∧l34.length+1≤140737488355328) (
    q8e z33 (q4r p1 n z10 rc1 m3) (l34++[x55.Name])))
    (q8e z33 (q4r p1 n z10 rc1 m3) l34))
   (qbz z10 rc1 l34)
def qbx (n:Nat) (l13:List (List UInt8)):Option ((List (List UInt8))) :=
 q8f n l13 n [] 0
def q40 (p1:List q06) (n:Nat):Nat→Int→(List (List UInt8))→Option ((List (List UInt8)))
 | 0,_,_=>none
 | m1+1,z10,l11 =>
  cond (decide (z10<(l11.length:Int)))
   (q4r p1 n z10 (q40 p1 n m1) n 0 l11)
   (qbx n l11)
def qhb (n:Nat) (p1:List q06) (p2:List UInt8):Option ((List (List UInt8))) :=
 q04 (q6s n p1 p2) fun r3 =>
 cond (decide (r3<0))
  (some [])
  (q40 p1 n n 0 ([p2]))
theorem qph (n:Nat) (p1:List q06) (p2:List UInt8) (r:(List (List UInt8))) (hF:qhb n p1 p2=some r):EvU Tryz.prog 125 [.isl false (List.map q02 p1),.str p2] ⟨[],0⟩ (fun u _=>u = .isl false (List.map cS r)∧Bel 0 u):=by
 unfold qhb at hF
 refine bg2 69 fn125 ?_
 obtain ⟨r3,h4,hF⟩:=q00 hF
 refine go ?_
 refine RS.cl rfl (pC (q6t n p1 p2 r3 h4) _) fn148 ?_
 refine go ?_
 refine cF hF (fun h5 hF=>?_) (fun h5 hF=>?_)
 refine go ?_
 obtain rfl:=sI hF
 exact rT (us:=[.nils]) (u:=.isl false []) (q2o rfl (q2g)) wR
 refine go ?_
 refine z54 (u:=.vl 0 0 0 ([p2].length)) (σ':=⟨[(0,.vec (List.map cS ([p2])).flatten 9 1 0)],1⟩) rfl (qeq.bslv (cs:=(List.map cS [p2]).flatten) Tryz.tb_ok rfl und80 inf9 rfl rfl rfl rfl rfl rfl rfl rfl) rfl rfl ?_
 refine go ?_
 refine gS (l':=[(0,_),(5,_),(6,_)]) ?_
 refine z4g (fun m tm σ=>∃ z10:Int,∃ l11:List (List UInt8),∃ t12:Nat,q40 p1 n m z10 l11=some r∧tm=fr 69 [(0,.iM q02 p1),(5,.vl 0 t12 0 l11.length),(6,.i6 z10)]∧σ=⟨[(0,.vec (List.map cS l11).flatten 9 1 t12)],1⟩) (fun tm σ=>∃ l13:List (List UInt8),∃ t14:Nat,qbx n l13=some r∧tm=fr 69 [(5,.vl 0 t14 0 l13.length)]∧σ=⟨[(0,.vec (List.map cS l13).flatten 9 1 t14)],1⟩) n ⟨0,[p2],0,hF,rfl,rfl⟩ ?_ ?_
 rintro _ _ ⟨l13,t14,hF,rfl,rfl⟩
 unfold qbx at hF
 refine gr ?_
 refine gr ?_
 refine WPU.ghost (tm':=fr 69 [(5,.vl 0 t14 0 l13.length),(8,.iM cS []),(9,.i6 0)]) (Gh.trans (Gh.sub (l':=[(5,.vl 0 t14 0 l13.length),(8,.nils),(9,.i6 0)]) ⟨rfl,rfl,rfl,trivial⟩) (Gh.wkS (l':=[(5,.vl 0 t14 0 l13.length),(8,.iM cS []),(9,.i6 0)]) (.cons (.refl _) (.cons (.nil false) (.cons (.refl _) .nil))))) NZ ?_
 refine gS (l':=[(5,_),(8,_),(9,_)]) ?_
 refine z4g (fun m tm σ=>∃ l19:List (List UInt8),∃ z20:Int,q8f n l13 m l19 z20=some r∧tm=fr 69 [(5,.vl 0 t14 0 l13.length),(8,.iM cS l19),(9,.i6 z20)]∧σ=⟨[(0,.vec (List.map cS l13).flatten 9 1 t14)],1⟩) (fun tm σ=>∃ l21:List (List UInt8),qby l21=some r∧tm=fr 69 [(8,.iM cS l21)]∧σ=⟨[(0,.vec (List.map cS l13).flatten 9 1 t14)],1⟩) n ⟨[],0,hF,rfl,rfl⟩ ?_ ?_
 rintro _ _ ⟨l21,hF,rfl,rfl⟩
 unfold qby at hF
 exact gx hF
 rintro (_|m2) _ _ ⟨l19,z20,hF,rfl,rfl⟩
 cases hF
 unfold q8f at hF
 refine go ?_
 refine RS.q rfl (q0c rfl rfl rfl (q6o und80 rfl)) ?_
 refine go ?_
 refine cF hF (fun h22 hF=>?_) (fun h22 hF=>?_)
 refine go ?_
 refine WPU.block ?_
 obtain ⟨x23,h24,hF⟩:=q00 hF
 obtain ⟨r25,h26,hF⟩:=q00 hF
 refine go ?_
 refine RS.q rfl (q0f rfl rfl (q90 cS und80 (q03 inf9) (by decide) q1s (vo rfl) h24)) ?_
 refine RS.q rfl (q60 cS (fun x=>.str x) und9 rfl (fun _=>rfl) rfl rfl h24) (RS.cl rfl (pC (q7v n l19 x23 r25 h26) _) fn116 ?_)
 refine go ?_
 exact lC ⟨r25,(IntKind.i64.wrap (z20+1)),hF,rfl,rfl⟩
 refine go ?_
 exact xC ⟨l19,hF,rfl,rfl⟩
 rintro (_|m1) _ _ ⟨z10,l11,t12,hF,rfl,rfl⟩
 cases hF
 unfold q40 at hF
 refine go ?_
 refine RS.q rfl (q0c rfl rfl rfl (q6o und80 rfl)) ?_
 refine go ?_
 refine cF hF (fun h27 hF=>?_) (fun h27 hF=>?_)
 refine go ?_
 refine WPU.block ?_
 refine go ?_
 refine gS (l':=[(0,_),(5,_),(6,_),(7,_)]) ?_
 refine z4g (fun m tm σ=>∃ z33:Int,∃ l34:List (List UInt8),∃ t35:Nat,q4r p1 n z10 (q40 p1 n m1) m z33 l34=some r∧tm=fr 69 [(0,.iM q02 p1),(5,.vl 0 t35 0 l34.length),(6,.i6 z10),(7,.i6 z33)]∧σ=⟨[(0,.vec (List.map cS l34).flatten 9 1 t35)],1⟩) (fun tm σ=>∃ l36:List (List UInt8),∃ t37:Nat,qbz z10 (q40 p1 n m1) l36=some r∧tm=fr 69 [(0,.iM q02 p1),(5,.vl 0 t37 0 l36.length),(6,.i6 z10)]∧σ=⟨[(0,.vec (List.map cS l36).flatten 9 1 t37)],1⟩) n ⟨0,l11,t12,hF,rfl,rfl⟩ ?_ ?_
 rintro _ _ ⟨l36,t37,hF,rfl,rfl⟩
 unfold qbz at hF
 refine go ?_
 exact lC ⟨_,l36,t37,hF,rfl,rfl⟩
 rintro (_|m3) _ _ ⟨z33,l34,t35,hF,rfl,rfl⟩
 cases hF
 unfold q4r at hF
 refine go ?_
 refine RS.q rfl (q0c rfl rfl rfl (q08 q02 und38)) ?_
 refine go ?_
 refine cF hF (fun h38 hF=>?_) (fun h38 hF=>?_)
 refine go ?_
 refine WPU.block ?_
 obtain ⟨b50,h51,hF⟩:=q00 hF
 refine gn ?_
 refine z4h (fun tm σ=>tm=fr 69 [(0,.iM q02 p1),(5,.vl 0 t35 0 l34.length),(6,.i6 z10),(7,.i6 z33),(47,.bool b50)]∧σ=⟨[(0,.vec (List.map cS l34).flatten 9 1 t35)],1⟩) ?_ ?_
 rintro _ _ ⟨rfl,rfl⟩
 refine gn ?_
 refine z4h (fun tm σ=>∃ l53:List (List UInt8),∃ t54:Nat,q8e z33 (q4r p1 n z10 (q40 p1 n m1) m3) l53=some r∧tm=fr 69 [(0,.iM q02 p1),(5,.vl 0 t54 0 l53.length),(6,.i6 z10),(7,.i6 z33)]∧σ=⟨[(0,.vec (List.map cS l53).flatten 9 1 t54)],1⟩) ?_ ?_
 rintro _ _ ⟨l53,t54,hF,rfl,rfl⟩
 unfold q8e at hF
 refine go ?_
 exact lC ⟨_,l53,t54,hF,rfl,rfl⟩
 refine cF hF (fun h52 hF=>?_) (fun h52 hF=>?_)
 obtain ⟨x55,h56,hF⟩:=q00 hF
 obtain ⟨h57,hF⟩:=q0b hF
 refine go ?_
 refine RS.q rfl (q0f rfl rfl (q0a q02 und38 (q03 inf127) q0m h56 rfl)) (RS.q rfl (q1o und127 rfl (q03 inf9) rfl rfl) (RS.q rfl (q0d und9 rfl rfl rfl) (RS.q (u:=.sl 1 0 1 1) (σ':=⟨[(1,.row [.str x55.Name] 9),(0,.vec (List.map cS l34).flatten 9 1 t35)],2⟩) rfl (q0j und80 inf9 rfl rfl rfl rfl rfl rfl rfl) (RS.q (u:=.vl 0 (t35+1) 0 ((l34++[x55.Name]).length)) (σ':=⟨[(1,.row [.str x55.Name] 9),(0,.vec (List.map cS (l34++[x55.Name])).flatten 9 1 (t35+1))],2⟩) rfl (q1u rfl rfl rfl rfl (q2a cS ([x55.Name]) und80 und80 inf9 rfl q1s rfl (q1q cS [x55.Name] rfl rfl rfl rfl) h57)) ?_))))
 refine go ?_
 exact xC ⟨(l34++[x55.Name]),(t35+1),hF,rfl,rfl⟩
 refine go ?_
 exact xC ⟨l34,t35,hF,rfl,rfl⟩
 obtain ⟨x39,h40,h51⟩:=q00 h51
 obtain ⟨x41,h42,h51⟩:=q00 h51
 obtain ⟨r43,h44,h51⟩:=q00 h51
 rcases gB h51 with ⟨h45,h51⟩ | ⟨h45,h51⟩
 obtain ⟨x46,h47,h51⟩:=q00 h51
 obtain ⟨r48,h49,h51⟩:=q00 h51
 obtain rfl:=sI h51
 refine z4i Tryz.tb_ok [] (by kernel_rfl) ?_
 repeat refine RD.mv rfl rfl rfl rfl ?_
 refine RD.q rfl (q0f rfl rfl (q0a q02 und38 (q03 inf127) q0m h40 rfl)) (RD.q rfl (q1o und127 rfl (q03 inf80) rfl rfl) (RD.q rfl (q0d und80 rfl rfl rfl) ?_))
 repeat refine RD.mv rfl rfl rfl rfl ?_
 refine RD.q rfl (q0f rfl rfl (q90 cS und80 (q03 inf9) (by decide) q1s (vo rfl) h42)) ?_
 refine RD.q rfl (q60 cS (fun x=>.str x) und9 rfl (fun _=>rfl) rfl rfl h42) ?_
 refine z4w rfl (pC (q2k n x39.Supers x41 r43 h44)) fn126 ?_
 refine RD.mv rfl rfl rfl rfl (RD.w rfl (q27 rfl) (RD.w rfl (q27 rfl) (RD.w rfl (q27 rfl) (RD.w rfl (q0f rfl rfl (q0a q02 und38 (q03 inf127) q0m h47 rfl)) (RD.w rfl (q1o und127 rfl (q03 inf9) rfl rfl) (RD.w rfl (q0d und9 rfl rfl rfl) (RD.call (u:=.bool r48) (args:=[.vl 0 t35 0 l34.length,.str x46.Name]) (z4d rfl rfl rfl h45) (q50 rfl rfl fn126 hb126 rfl rfl) (vw (q2k n l34 x46.Name r48 h49) (z4j 0 1)) rfl rfl ?_)))))))
 refine RD.w rfl (qvm rfl rfl rfl rfl) (RD.q rfl (qil rfl h45 rfl) ?_)
 refine RD.done ⟨by kernel_rfl,trivial,?_⟩
 refine go ?_
 exact xC ⟨rfl,rfl⟩
 obtain rfl:=sI h51
 refine z4i Tryz.tb_ok [] (by kernel_rfl) ?_
 repeat refine RD.mv rfl rfl rfl rfl ?_
 refine RD.q rfl (q0f rfl rfl (q0a q02 und38 (q03 inf127) q0m h40 rfl)) (RD.q rfl (q1o und127 rfl (q03 inf80) rfl rfl) (RD.q rfl (q0d und80 rfl rfl rfl) ?_))
 repeat refine RD.mv rfl rfl rfl rfl ?_
 refine RD.q rfl (q0f rfl rfl (q90 cS und80 (q03 inf9) (by decide) q1s (vo rfl) h42)) ?_
 refine RD.q rfl (q60 cS (fun x=>.str x) und9 rfl (fun _=>rfl) rfl rfl h42) ?_
 refine z4w rfl (pC (q2k n x39.Supers x41 r43 h44)) fn126 ?_
 refine RD.mv rfl rfl rfl rfl ?_
 repeat refine RD.no (qvx rfl rfl rfl h45) rfl rfl ?_
 refine RD.q rfl (qik rfl h45 rfl) ?_
 refine RD.done ⟨by kernel_rfl,trivial,?_⟩
 refine go ?_
 exact xC ⟨rfl,rfl⟩
 refine go ?_
 exact xC ⟨l34,t35,hF,rfl,rfl⟩
 refine go ?_
 exact xC ⟨l11,t12,hF,rfl,rfl⟩
def qao (p1:List Int) (z5:Int):Option ((List Int)) :=
 q04 (z1p p1 0 z5) fun l6 =>
 q1i (l6.length*8≤140737488355328∧l6.length≤140737488355328) (
 some l6)
def q72 (p1:List Int):Nat→Int→Option ((List Int))
 | 0,_=>none
 | m1+1,z4 =>
  q04 (cond (decide (z4 > 0))
   (q04 (q15 p1 (IntKind.i64.wrap (z4 - 1))) fun x12 =>
   some (x12 == 0))
   (some false)) fun b14 =>
  cond b14
   ((q72 p1 m1) (IntKind.i64.wrap (z4 - 1)))
   (qao p1 z4)
def q6r (n:Nat) (p1:List Int):Option ((List Int)) :=
 q72 p1 n (p1.length:Int)
theorem q88 (n:Nat) (p1:List Int) (r:(List Int)) (hF:q6r n p1=some r):EvU Tryz.prog 119 [.isl false (List.map (cI .u64) p1)] ⟨[],0⟩ (fun u _=>u = .isl false (List.map (cI .u64) r)∧Bel 0 u):=by
 unfold q6r at hF
 refine bg1 23 fn119 ?_
 refine go ?_
 refine RS.q rfl (q0c rfl rfl rfl (q08 (cI .u64) und103)) ?_
 refine go ?_
 refine gS (l':=[(0,_),(3,_)]) ?_
 refine z4g (fun m tm σ=>∃ z4:Int,q72 p1 m z4=some r∧tm=fr 23 [(0,.iM (cI .u64) p1),(3,.i6 z4)]∧σ=⟨[],0⟩) (fun tm σ=>∃ z5:Int,qao p1 z5=some r∧tm=fr 23 [(0,.iM (cI .u64) p1),(3,.i6 z5)]∧σ=⟨[],0⟩) n ⟨(p1.length:Int),hF,rfl,rfl⟩ ?_ ?_
 rintro _ _ ⟨z5,hF,rfl,rfl⟩
 unfold qao at hF
 obtain ⟨l6,h7,hF⟩:=q00 hF
 obtain ⟨h8,h9⟩:=qwp (cI .u64) .i64 h7
 obtain ⟨h10,hF⟩:=q0b hF
 refine go ?_
 refine RS.q (u:=.sl 0 0 0 0) (σ':=⟨[(0,.row [] 191)],1⟩) rfl (q0j und103 inf191 rfl rfl rfl rfl rfl rfl rfl) ?_
 refine go ?_
 refine RS.q (u:=.iM (cI .u64) l6) rfl (qbb rfl qry (z1s rfl) qry (qur (cI .u64) und103 (q03 inf191) (q18 .u64) h8 h9)) (RS.q (u:=.vl 1 0 0 l6.length) (σ':=⟨[(1,.vec (List.map (cI .u64) l6).flatten 191 1 0),(0,.row [] 191)],2⟩) rfl (q1u rfl rfl rfl rfl (qs4 (cI .u64) l6 und103 und103 inf191 rfl rfl rfl (qhl (cI .u64) (q18 .u64)) h10)) ?_)
 refine go ?_
 obtain rfl:=sI hF
 exact rT (us:=[.vl 1 0 0 l6.length]) (u:=.iM (cI .u64) l6) (q2o rfl (q2g)) (fR 1 1)
 rintro (_|m1) _ _ ⟨z4,hF,rfl,rfl⟩
 cases hF
 unfold q72 at hF
 obtain ⟨b14,h15,hF⟩:=q00 hF
 refine gn ?_
 refine z4h (fun tm σ=>tm=fr 23 [(0,.iM (cI .u64) p1),(3,.i6 z4),(15,.bool b14)]∧σ=⟨[],0⟩) ?_ ?_
 rintro _ _ ⟨rfl,rfl⟩
 refine go ?_
 refine cF hF (fun h16 hF=>?_) (fun h16 hF=>?_)
 refine go ?_
 refine WPU.block ?_
 refine go ?_
 exact lC ⟨_,hF,rfl,rfl⟩
 refine go ?_
 exact xC ⟨z4,hF,rfl,rfl⟩
 rcases gB h15 with ⟨h11,h15⟩ | ⟨h11,h15⟩
 obtain ⟨x12,h13,h15⟩:=q00 h15
 obtain rfl:=sI h15
 refine go ?_
 refine RS.w rfl (q0f rfl rfl (q0a (cI .u64) und103 (q03 inf191) (q18 .u64) h13 rfl)) (RS.w rfl (q0d und191 rfl rfl rfl) ?_)
 refine go ?_
 exact xC ⟨rfl,rfl⟩
 exact gy h15
def qh9 (n:Nat) (l8:List Int):Option ((List Int)×Int) :=
 q1i ((64:Int).toNat=l8.length) (
 q04 (q6r n l8) fun r10 =>
 some (r10,0))
def qdz (p1:List Int) (n:Nat):Nat→Int→(List Int)→Option ((List Int)×Int)
 | 0,_,_=>none
 | m1+1,z6,l7 =>
  cond (decide (z6<(p1.length:Int)))
   (q04 (q04 (q15 p1 z6) fun x13 =>
   cond (decide (x13<0))
    (some true)
    (q04 (q15 p1 z6) fun x16 =>
    some (decide (x16 > 4095)))) fun b18 =>
   cond b18
    (some ([],2))
    (q04 (q15 p1 z6) fun x21 =>
    q04 (q15 p1 z6) fun x24 =>
    q04 (qp1 l7 0 ((64:Int).toNat) (IntKind.i64.wrap (x24.tdiv 64))) fun x27 =>
    q04 (q15 p1 z6) fun x29 =>
    q1i (¬ (IntKind.u64.wrap (x29.tmod 64))<0) (
    q04 (qp1 l7 0 ((64:Int).toNat) (IntKind.i64.wrap (x21.tdiv 64))) fun x33 =>
    (qdz p1 n m1) (IntKind.i64.wrap (z6+1)) (l7.set (IntKind.i64.wrap (x21.tdiv 64)).toNat (orI .u64 x27 (IntKind.u64.wrap (1*(2 ^ (min (IntKind.u64.wrap (x29.tmod 64)).toNat IntKind.u64.bits)))))))))
   (qh9 n l7)
def qpf (n:Nat) (p1:List Int):Option ((List Int)×Int) :=
 q1i (0≤(64:Int)∧8*(64:Int).toNat≤281474976710656∧(64:Int)≤281474976710656) (
 qdz p1 n n 0 (List.replicate (64:Int).toNat 0))
theorem qvp (n:Nat) (p1:List Int) (r:(List Int)×Int) (hF:qpf n p1=some r):EvU Tryz.prog 127 [.isl false (List.map (cI .i64) p1)] ⟨[],0⟩ (fun u _=>u = .tup [.isl false (List.map (cI .u64) r.1),.int .i64 r.2]∧Bel 0 u):=by
 unfold qpf at hF
 refine bg1 50 fn127 ?_
 obtain ⟨h2,hF⟩:=q0b hF
 refine go ?_
 refine RS.q (u:=.sl 0 0 ((64:Int).toNat) ((64:Int).toNat)) (σ':=⟨[(0,.row (List.map (cI .u64) (List.replicate (64:Int).toNat 0)).flatten 191)],1⟩) rfl (qu6 (cI .u64) 0 rfl rfl und103 inf191 rfl rfl rfl rfl h2) ?_
 refine go ?_
 refine gS (l':=[(0,_),(4,_),(5,_)]) ?_
 refine z4g (fun m tm σ=>∃ z6:Int,∃ l7:List Int,qdz p1 n m z6 l7=some r∧tm=fr 50 [(0,.iM (cI .i64) p1),(4,.sl 0 0 ((64:Int).toNat) ((64:Int).toNat)),(5,.i6 z6)]∧σ=⟨[(0,.row (List.map (cI .u64) l7).flatten 191)],1⟩) (fun tm σ=>∃ l8:List Int,qh9 n l8=some r∧tm=fr 50 [(4,.sl 0 0 ((64:Int).toNat) ((64:Int).toNat))]∧σ=⟨[(0,.row (List.map (cI .u64) l8).flatten 191)],1⟩) n ⟨0,(List.replicate (64:Int).toNat 0),hF,rfl,rfl⟩ ?_ ?_
 rintro _ _ ⟨l8,hF,rfl,rfl⟩
 unfold qh9 at hF
 obtain ⟨h9,hF⟩:=q0b hF
 refine gn ?_
 refine WPU.ghost (tm':=fr 50 [(4,.iM (cI .u64) l8)]) (σ':=⟨[],1⟩) (Gh.trans (Gh.sub (l':=[(4,.sl 0 0 ((64:Int).toNat) ((64:Int).toNat))]) ⟨rfl,trivial⟩) (Gh.fzS (l':=[(4,.iM (cI .u64) l8)]) (h':=[]) 0 (.row (List.map (cI .u64) l8).flatten 191) 1 rfl (by simp) (by simp only [fzS,qkl,qbm,q68,qi2,qew,qi4,qd3,qez,qey,qex,qd2,qi3,qkh,qi1,qi5,qni,qkx,qxd (q18 .u64) h9]) (by simp only [fzH,fzB,ug,Nat.beq,cond_true,cond_false,qkl,qbm,q68,qi2,qew,qi4,qd3,qez,qey,qex,qd2,qi3,qkh,qi1,qi5,qni,qkx,qxd (q18 .u64) h9]))) NZ ?_
 obtain ⟨r10,h11,hF⟩:=q00 hF
 refine go ?_
 refine RS.cl rfl (pC (q88 n l8 r10 h11) _) fn119 ?_
 refine go ?_
 obtain rfl:=sI hF
 exact rt2 rfl rfl rfl rfl rfl
 rintro (_|m1) _ _ ⟨z6,l7,hF,rfl,rfl⟩
 cases hF
 unfold qdz at hF
 refine go ?_
 refine RS.q rfl (q0c rfl rfl rfl (q08 (cI .i64) und33)) ?_
 refine go ?_
 refine cF hF (fun h12 hF=>?_) (fun h12 hF=>?_)
 refine go ?_
 refine WPU.block ?_
 obtain ⟨b18,h19,hF⟩:=q00 hF
 refine gn ?_
 refine z4h (fun tm σ=>tm=fr 50 [(0,.iM (cI .i64) p1),(4,.sl 0 0 ((64:Int).toNat) ((64:Int).toNat)),(5,.i6 z6),(24,.bool b18)]∧σ=⟨[(0,.row (List.map (cI .u64) l7).flatten 191)],1⟩) ?_ ?_
 rintro _ _ ⟨rfl,rfl⟩
 refine go ?_
 refine cF hF (fun h20 hF=>?_) (fun h20 hF=>?_)
 refine go ?_
 obtain rfl:=sI hF
 exact rT (us:=[.nils,.i6 2]) (u:=.tup [.isl false [],.i6 2]) (q2o rfl (q2o rfl (q2g))) wR
 obtain ⟨x21,h22,hF⟩:=q00 hF
 obtain ⟨x24,h25,hF⟩:=q00 hF
 obtain ⟨x27,h28,hF⟩:=q00 hF
 obtain ⟨x29,h30,hF⟩:=q00 hF
 obtain ⟨h32,hF⟩:=q0b hF
 obtain ⟨x33,h34,hF⟩:=q00 hF
 refine go ?_
 refine z4i Tryz.tb_ok [] (by kernel_rfl) ?_
 repeat refine RD.mv rfl rfl rfl rfl ?_
 refine RD.q rfl (q0f rfl rfl (q0a (cI .i64) und33 (q03 inf3) (q18 .i64) h22 rfl)) (RD.q rfl (q0d und3 rfl rfl rfl) ?_)
 refine RD.q rfl (q3b rfl rfl (qtu _ (by decide)) rfl) ?_
 repeat refine RD.mv rfl rfl rfl rfl ?_
 refine RD.q rfl (q0f rfl rfl (q0a (cI .i64) und33 (q03 inf3) (q18 .i64) h25 rfl)) (RD.q rfl (q0d und3 rfl rfl rfl) ?_)
 refine RD.q rfl (q3b rfl rfl (qtu _ (by decide)) rfl) ?_
 refine RD.q rfl (q0f rfl rfl (qsf und103 (q03 inf191) rfl h28)) (RD.q (u:=.int .u64 x27) rfl (z2c (cI .u64) (fun x=>.int .u64 x) und191 rfl (fun _=>rfl) rfl rfl h28) ?_)
 repeat refine RD.mv rfl rfl rfl rfl ?_
 refine RD.q rfl (q0f rfl rfl (q0a (cI .i64) und33 (q03 inf3) (q18 .i64) h30 rfl)) (RD.q rfl (q0d und3 rfl rfl rfl) ?_)
 refine RD.q rfl (q3b rfl rfl (z2b _ (by decide)) rfl) ?_
 refine RD.q (u:=.int .u64 (IntKind.u64.wrap (x29.tmod 64))) rfl (qsr rfl rfl (by simp only [qqc,und3,und190]<;>rfl) rfl) ?_
 refine RD.q rfl (q3b rfl rfl (ix_shl _ h32) rfl) (RD.q rfl (q3b rfl rfl (ix_or _ _ _) rfl) (RD.q rfl (q0f rfl rfl (qsf und103 (q03 inf191) rfl h34)) ?_))
 refine z4t (u:=.junk) (σ':=⟨[(0,.row (List.map (cI .u64) (l7.set (IntKind.i64.wrap (x21.tdiv 64)).toNat (orI .u64 x27 (IntKind.u64.wrap (1*(2 ^ (min (IntKind.u64.wrap (x29.tmod 64)).toNat IntKind.u64.bits))))))).flatten 191)],1⟩) rfl (qz3 (cI .u64) (q03 inf191) (q18 .u64) rfl rfl rfl rfl rfl rfl h34 rfl) rfl ?_
 refine RD.done ⟨by kernel_rfl,trivial,?_⟩
 refine go ?_
 exact lC ⟨_,(l7.set (IntKind.i64.wrap (x21.tdiv 64)).toNat (orI .u64 x27 (IntKind.u64.wrap (1*(2 ^ (min (IntKind.u64.wrap (x29.tmod 64)).toNat IntKind.u64.bits)))))),hF,rfl,rfl⟩
 obtain ⟨x13,h14,h19⟩:=q00 h19
 rcases gB h19 with ⟨h15,h19⟩ | ⟨h15,h19⟩
 obtain rfl:=sI h19
 refine go ?_
 refine RS.q rfl (q0f rfl rfl (q0a (cI .i64) und33 (q03 inf3) (q18 .i64) h14 rfl)) (RS.q rfl (q0d und3 rfl rfl rfl) ?_)
 refine go ?_
 exact xC ⟨rfl,rfl⟩
 obtain ⟨x16,h17,h19⟩:=q00 h19
 obtain rfl:=sI h19
 refine go ?_
 refine RS.q rfl (q0f rfl rfl (q0a (cI .i64) und33 (q03 inf3) (q18 .i64) h14 rfl)) (RS.q rfl (q0d und3 rfl rfl rfl) ?_)
 refine go ?_
 refine RS.w rfl (q0f rfl rfl (q0a (cI .i64) und33 (q03 inf3) (q18 .i64) h17 rfl)) (RS.w rfl (q0d und3 rfl rfl rfl) ?_)
 refine go ?_
 exact xC ⟨rfl,rfl⟩
 refine go ?_
 exact xC ⟨l7,hF,rfl,rfl⟩
def qa3 (z11:Int) (rc1:Int→(List Int)→Option ((List Int))) (l24:List Int):Option ((List Int)) :=
 rc1 (IntKind.i64.wrap (z11+1)) l24
def qe4 (n:Nat) (l14:List Int):Option ((List Int)) :=
 q04 (qpf n l14) fun r16 =>
 some r16.1
def q5o (p2:List (List UInt8)) (n:Nat) (r4:(List (List UInt8))):Nat→Int→(List Int)→Option ((List Int))
 | 0,_,_=>none
 | m1+1,z11,l12 =>
  cond (decide (z11<(p2.length:Int)))
   (q04 (q15 p2 z11) fun x19 =>
   q04 (q3c n r4 x19) fun r21 =>
   cond r21
    (q1i ((l12.length+1)*8≤140737488355328∧l12.length+1≤140737488355328) (
    qa3 z11 (q5o p2 n r4 m1) (l12++[z11])))
    (qa3 z11 (q5o p2 n r4 m1) l12))
   (qe4 n l12)
def qk1 (n:Nat) (p1:List q06) (p2:List (List UInt8)) (p3:List UInt8):Option ((List Int)) :=
 q04 (qhb n p1 p3) fun r4 =>
 q5o p2 n r4 n 0 ([]:List Int)
theorem qrd (n:Nat) (p1:List q06) (p2:List (List UInt8)) (p3:List UInt8) (r:(List Int)) (hF:qk1 n p1 p2 p3=some r):EvU Tryz.prog 96 [.isl false (List.map q02 p1),.isl false (List.map cS p2),.str p3] ⟨[],0⟩ (fun u _=>u = .isl false (List.map (cI .u64) r)∧Bel 0 u):=by
 unfold qk1 at hF
 refine bg3 37 fn96 ?_
 obtain ⟨r4,h5,hF⟩:=q00 hF
 refine go ?_
 refine RS.cl rfl (pC (qph n p1 p3 r4 h5) _) fn125 ?_
 refine gr ?_
 refine gr ?_
 refine WPU.ghost (tm':=fr 37 [(1,.iM cS p2),(7,.iM cS r4),(8,.vl 0 0 0 (([]:List Int).length)),(9,.i6 0)]) (σ':=⟨[(0,.vec (List.map (cI .i64) ([]:List Int)).flatten 3 1 0)],1⟩) (Gh.trans (z4n 8 3 1 (by decide) NZ rfl rfl) (z4l ⟨rfl,rfl,rfl,rfl,trivial⟩ rfl)) NZ ?_
 refine gS (l':=[(1,_),(7,_),(8,_),(9,_)]) ?_
 refine z4g (fun m tm σ=>∃ z11:Int,∃ l12:List Int,∃ t13:Nat,q5o p2 n r4 m z11 l12=some r∧tm=fr 37 [(1,.iM cS p2),(7,.iM cS r4),(8,.vl 0 t13 0 l12.length),(9,.i6 z11)]∧σ=⟨[(0,.vec (List.map (cI .i64) l12).flatten 3 1 t13)],1⟩) (fun tm σ=>∃ l14:List Int,∃ t15:Nat,qe4 n l14=some r∧tm=fr 37 [(8,.vl 0 t15 0 l14.length)]∧σ=⟨[(0,.vec (List.map (cI .i64) l14).flatten 3 1 t15)],1⟩) n ⟨0,([]:List Int),0,hF,rfl,rfl⟩ ?_ ?_
 rintro _ _ ⟨l14,t15,hF,rfl,rfl⟩
 unfold qe4 at hF
 refine gn ?_
 refine WPU.ghost (tm':=fr 37 [(8,.iM (cI .i64) l14)]) (σ':=⟨[],1⟩) (Gh.trans (Gh.sub (l':=[(8,.vl 0 t15 0 l14.length)]) ⟨rfl,trivial⟩) (z4z 0 1)) NZ ?_
 obtain ⟨r16,h17,hF⟩:=q00 hF
 refine go ?_
 refine RS.cl rfl (pC (qvp n l14 r16 h17) _) fn127 ?_
 exact gx hF
 rintro (_|m1) _ _ ⟨z11,l12,t13,hF,rfl,rfl⟩
 cases hF
 unfold q5o at hF
 refine go ?_
 refine RS.q rfl (q0c rfl rfl rfl (q08 cS und80)) ?_
 refine go ?_
 refine cF hF (fun h18 hF=>?_) (fun h18 hF=>?_)
 refine go ?_
 refine WPU.block ?_
 obtain ⟨x19,h20,hF⟩:=q00 hF
 obtain ⟨r21,h22,hF⟩:=q00 hF
 refine go ?_
 refine RS.q rfl (q0f rfl rfl (q0a cS und80 (q03 inf9) q1s h20 rfl)) (RS.q rfl (q0d und9 rfl rfl rfl) (RS.cl rfl (pC (q2k n r4 x19 r21 h22) _) fn126 ?_))
 refine gn ?_
 refine z4h (fun tm σ=>∃ l24:List Int,∃ t25:Nat,qa3 z11 (q5o p2 n r4 m1) l24=some r∧tm=fr 37 [(1,.iM cS p2),(7,.iM cS r4),(8,.vl 0 t25 0 l24.length),(9,.i6 z11)]∧σ=⟨[(0,.vec (List.map (cI .i64) l24).flatten 3 1 t25)],1⟩) ?_ ?_
 rintro _ _ ⟨l24,t25,hF,rfl,rfl⟩
 unfold qa3 at hF
 refine go ?_
 exact lC ⟨_,l24,t25,hF,rfl,rfl⟩
 refine cF hF (fun h23 hF=>?_) (fun h23 hF=>?_)
 obtain ⟨h26,hF⟩:=q0b hF
 refine go ?_
 refine RS.q (u:=.sl 1 0 1 1) (σ':=⟨[(1,.row [.i6 z11] 3),(0,.vec (List.map (cI .i64) l12).flatten 3 1 t13)],2⟩) rfl (q0j und33 inf3 rfl rfl rfl rfl rfl rfl rfl) (RS.q (u:=.vl 0 (t13+1) 0 ((l12++[z11]).length)) (σ':=⟨[(1,.row [.i6 z11] 3),(0,.vec (List.map (cI .i64) (l12++[z11])).flatten 3 1 (t13+1))],2⟩) rfl (q1u rfl rfl rfl rfl (q2a (cI .i64) ([z11]) und33 und33 inf3 rfl (q18 .i64) rfl (q1q (cI .i64) [z11] rfl rfl rfl rfl) h26)) ?_)
 refine go ?_
 exact xC ⟨(l12++[z11]),(t13+1),hF,rfl,rfl⟩
 refine go ?_
 exact xC ⟨l12,t13,hF,rfl,rfl⟩
 refine go ?_
 exact xC ⟨l12,t13,hF,rfl,rfl⟩
def qg2 (n:Nat) (p1:List Int) (p2:Int):Option (Int) :=
 cond (decide (p2<(p1.length:Int)))
  (q04 (q15 p1 p2) fun x4 =>
  some x4)
  (some 0)
theorem qko (n:Nat) (p1:List Int) (p2:Int) (r:Int) (hF:qg2 n p1 p2=some r):EvU Tryz.prog 146 [.isl false (List.map (cI .u64) p1),.int .i64 p2] ⟨[],0⟩ (fun u _=>u = .int .u64 r∧Bel 0 u):=by
 unfold qg2 at hF
 refine bg2 13 fn146 ?_
 refine go ?_
 refine RS.q rfl (q0c rfl rfl rfl (q08 (cI .u64) und103)) ?_
 refine go ?_
 refine cF hF (fun h3 hF=>?_) (fun h3 hF=>?_)
 obtain ⟨x4,h5,hF⟩:=q00 hF
 refine go ?_
 refine RS.q rfl (q0f rfl rfl (q0a (cI .u64) und103 (q03 inf191) (q18 .u64) h5 rfl)) (RS.q rfl (q0d und191 rfl rfl rfl) ?_)
 exact gx hF
 exact gx hF
def qfb (n:Nat) (l11:List Int):Option ((List Int)) :=
 q04 (q6r n l11) fun r13 =>
 some r13
def qbe (p1:List Int) (p2:List Int) (n:Nat):Nat→Int→(List Int)→Option ((List Int))
 | 0,_,_=>none
 | m1+1,z8,l9 =>
  cond (decide (z8<(p1.length:Int)))
   (q04 (q15 p1 z8) fun x16 =>
   q04 (qg2 n p2 z8) fun r18 =>
   q1i ((l9.length+1)*8≤140737488355328∧l9.length+1≤140737488355328) (
   (qbe p1 p2 n m1) (IntKind.i64.wrap (z8+1)) (l9++[(qw5 .u64 x16 r18)])))
   (qfb n l9)
def qir (n:Nat) (p1:List Int) (p2:List Int):Option ((List Int)) :=
 qbe p1 p2 n n 0 ([]:List Int)
theorem qmt (n:Nat) (p1:List Int) (p2:List Int) (r:(List Int)) (hF:qir n p1 p2=some r):EvU Tryz.prog 118 [.isl false (List.map (cI .u64) p1),.isl false (List.map (cI .u64) p2)] ⟨[],0⟩ (fun u _=>u = .isl false (List.map (cI .u64) r)∧Bel 0 u):=by
 unfold qir at hF
 refine bg2 26 fn118 ?_
 refine gr ?_
 refine gr ?_
 refine gr ?_
 refine WPU.ghost (tm':=fr 26 [(0,.iM (cI .u64) p1),(1,.iM (cI .u64) p2),(5,.vl 0 0 0 (([]:List Int).length)),(6,.i6 0)]) (σ':=⟨[(0,.vec (List.map (cI .u64) ([]:List Int)).flatten 191 1 0)],1⟩) (Gh.trans (z4n 5 191 1 (by decide) NZ rfl rfl) (z4l ⟨rfl,rfl,rfl,rfl,trivial⟩ rfl)) NZ ?_
 refine gS (l':=[(0,_),(1,_),(5,_),(6,_)]) ?_
 refine z4g (fun m tm σ=>∃ z8:Int,∃ l9:List Int,∃ t10:Nat,qbe p1 p2 n m z8 l9=some r∧tm=fr 26 [(0,.iM (cI .u64) p1),(1,.iM (cI .u64) p2),(5,.vl 0 t10 0 l9.length),(6,.i6 z8)]∧σ=⟨[(0,.vec (List.map (cI .u64) l9).flatten 191 1 t10)],1⟩) (fun tm σ=>∃ l11:List Int,∃ t12:Nat,qfb n l11=some r∧tm=fr 26 [(5,.vl 0 t12 0 l11.length)]∧σ=⟨[(0,.vec (List.map (cI .u64) l11).flatten 191 1 t12)],1⟩) n ⟨0,([]:List Int),0,hF,rfl,rfl⟩ ?_ ?_
 rintro _ _ ⟨l11,t12,hF,rfl,rfl⟩
 unfold qfb at hF
 refine gn ?_
 refine WPU.ghost (tm':=fr 26 [(5,.iM (cI .u64) l11)]) (σ':=⟨[],1⟩) (Gh.trans (Gh.sub (l':=[(5,.vl 0 t12 0 l11.length)]) ⟨rfl,trivial⟩) (z4z 0 1)) NZ ?_
 obtain ⟨r13,h14,hF⟩:=q00 hF
 refine go ?_
 refine RS.cl rfl (pC (q88 n l11 r13 h14) _) fn119 ?_
 exact gx hF
 rintro (_|m1) _ _ ⟨z8,l9,t10,hF,rfl,rfl⟩
 cases hF
 unfold qbe at hF
 refine go ?_
 refine RS.q rfl (q0c rfl rfl rfl (q08 (cI .u64) und103)) ?_
 refine go ?_
 refine cF hF (fun h15 hF=>?_) (fun h15 hF=>?_)
 refine go ?_
 refine WPU.block ?_
 obtain ⟨x16,h17,hF⟩:=q00 hF
 obtain ⟨r18,h19,hF⟩:=q00 hF
 obtain ⟨h20,hF⟩:=q0b hF
 refine go ?_
 refine z4i Tryz.tb_ok [(0,9)] (by kernel_rfl) ?_
 repeat refine RD.mv rfl rfl rfl rfl ?_
 refine RD.q rfl (q0f rfl rfl (q0a (cI .u64) und103 (q03 inf191) (q18 .u64) h17 rfl)) (RD.q rfl (q0d und191 rfl rfl rfl) ?_)
 repeat refine RD.mv rfl rfl rfl rfl ?_
 refine z4w rfl (pC (qko n p2 z8 r18 h19)) fn146 ?_
 refine RD.q rfl (q3b rfl rfl (z1z _ _ _) rfl) (RD.act (u:=.sl 1 0 1 1) (σ':=⟨[(1,.row [.int .u64 (qw5 .u64 x16 r18)] 191),(0,.vec (List.map (cI .u64) l9).flatten 191 1 t10)],2⟩) rfl (q0j und103 inf191 rfl rfl rfl rfl rfl rfl rfl) rfl rfl (RD.act (u:=.vl 0 (t10+1) 0 ((l9++[(qw5 .u64 x16 r18)]).length)) (σ':=⟨[(1,.row [.int .u64 (qw5 .u64 x16 r18)] 191),(0,.vec (List.map (cI .u64) (l9++[(qw5 .u64 x16 r18)])).flatten 191 1 (t10+1))],2⟩) rfl (q1u rfl rfl rfl rfl (q2a (cI .u64) ([(qw5 .u64 x16 r18)]) und103 und103 inf191 rfl (q18 .u64) rfl (q1q (cI .u64) [(qw5 .u64 x16 r18)] rfl rfl rfl rfl) h20)) rfl rfl (RD.as rfl rfl rfl rfl ?_)))
 refine RD.done ⟨by kernel_rfl,⟨q27 rfl,trivial⟩,?_⟩
 refine go ?_
 exact lC ⟨_,(l9++[(qw5 .u64 x16 r18)]),(t10+1),hF,rfl,rfl⟩
 refine go ?_
 exact xC ⟨l9,t10,hF,rfl,rfl⟩
def qe0   : Option (Bool) :=
 some true
def q9y (p1:List Int) (p2:List Int):Nat→Int→Option (Bool)
 | 0,_=>none
 | m1+1,z7 =>
  cond (decide (z7<(p1.length:Int)))
   (q04 (q15 p1 z7) fun x9 =>
   q04 (q15 p2 z7) fun x11 =>
   cond (x9 != x11)
    (some false)
    ((q9y p1 p2 m1) (IntKind.i64.wrap (z7+1))))
   (qe0)
def qg1 (n:Nat) (p1:List Int) (p2:List Int):Option (Bool) :=
 cond ((p1.length:Int) != (p2.length:Int))
  (some false)
  (q9y p1 p2 n 0)
theorem qkn (n:Nat) (p1:List Int) (p2:List Int) (r:Bool) (hF:qg1 n p1 p2=some r):EvU Tryz.prog 120 [.isl false (List.map (cI .u64) p1),.isl false (List.map (cI .u64) p2)] ⟨[],0⟩ (fun u _=>u = .bool r∧Bel 0 u):=by
 unfold qg1 at hF
 refine bg2 26 fn120 ?_
 refine go ?_
 refine RS.q rfl (q0c rfl rfl rfl (q08 (cI .u64) und103)) ?_
 refine go ?_
 refine RS.q rfl (q0c rfl rfl rfl (q08 (cI .u64) und103)) ?_
 refine go ?_
 refine cF hF (fun h3 hF=>?_) (fun h3 hF=>?_)
 exact gx hF
 refine go ?_
 refine gS (l':=[(0,_),(1,_),(5,_)]) ?_
 refine z4g (fun m tm σ=>∃ z7:Int,q9y p1 p2 m z7=some r∧tm=fr 26 [(0,.iM (cI .u64) p1),(1,.iM (cI .u64) p2),(5,.i6 z7)]∧σ=⟨[],0⟩) (fun tm σ=>qe0=some r∧tm=fr 26 []∧σ=⟨[],0⟩) n ⟨0,hF,rfl,rfl⟩ ?_ ?_
 rintro _ _ ⟨hF,rfl,rfl⟩
 unfold qe0 at hF
 exact gx hF
 rintro (_|m1) _ _ ⟨z7,hF,rfl,rfl⟩
 cases hF
 unfold q9y at hF
 refine go ?_
 refine RS.q rfl (q0c rfl rfl rfl (q08 (cI .u64) und103)) ?_
 refine go ?_
 refine cF hF (fun h8 hF=>?_) (fun h8 hF=>?_)
 refine go ?_
 refine WPU.block ?_
 obtain ⟨x9,h10,hF⟩:=q00 hF
 obtain ⟨x11,h12,hF⟩:=q00 hF
 refine go ?_
 refine z4i Tryz.tb_ok [] (by kernel_rfl) ?_
 repeat refine RD.mv rfl rfl rfl rfl ?_
 refine RD.q rfl (q0f rfl rfl (q0a (cI .u64) und103 (q03 inf191) (q18 .u64) h10 rfl)) (RD.q rfl (q0d und191 rfl rfl rfl) ?_)
 repeat refine RD.mv rfl rfl rfl rfl ?_
 refine RD.q rfl (q0f rfl rfl (q0a (cI .u64) und103 (q03 inf191) (q18 .u64) h12 rfl)) (RD.q rfl (q0d und191 rfl rfl rfl) (RD.q rfl (q3b rfl rfl (qqs _ _ _) rfl) ?_))
 refine RD.done ⟨by kernel_rfl,trivial,?_⟩
 refine go ?_
 refine cF hF (fun h13 hF=>?_) (fun h13 hF=>?_)
 exact gx hF
 refine go ?_
 exact lC ⟨_,hF,rfl,rfl⟩
 refine go ?_
 exact xC ⟨hF,rfl,rfl⟩
def qhg   : Option (Bool) :=
 some false
def qe5 (p1:List (List Int)) (p2:List Int) (n:Nat):Nat→Int→Option (Bool)
 | 0,_=>none
 | m1+1,z6 =>
  cond (decide (z6<(p1.length:Int)))
   (q04 (q15 p1 z6) fun x8 =>
   q04 (qg1 n x8 p2) fun r10 =>
   cond r10
    (some true)
    ((qe5 p1 p2 n m1) (IntKind.i64.wrap (z6+1))))
   (qhg)
def qpm (n:Nat) (p1:List (List Int)) (p2:List Int):Option (Bool) :=
 qe5 p1 p2 n n 0
theorem qvq (n:Nat) (p1:List (List Int)) (p2:List Int) (r:Bool) (hF:qpm n p1 p2=some r):EvU Tryz.prog 128 [.isl false (List.map (cL (cI .u64)) p1),.isl false (List.map (cI .u64) p2)] ⟨[],0⟩ (fun u _=>u = .bool r∧Bel 0 u):=by
 unfold qpm at hF
 refine bg2 18 fn128 ?_
 refine go ?_
 refine gS (l':=[(0,_),(1,_),(5,_)]) ?_
 refine z4g (fun m tm σ=>∃ z6:Int,qe5 p1 p2 n m z6=some r∧tm=fr 18 [(0,.iM (cL (cI .u64)) p1),(1,.iM (cI .u64) p2),(5,.i6 z6)]∧σ=⟨[],0⟩) (fun tm σ=>qhg=some r∧tm=fr 18 []∧σ=⟨[],0⟩) n ⟨0,hF,rfl,rfl⟩ ?_ ?_
 rintro _ _ ⟨hF,rfl,rfl⟩
 unfold qhg at hF
 exact gx hF
 rintro (_|m1) _ _ ⟨z6,hF,rfl,rfl⟩
 cases hF
 unfold qe5 at hF
 refine go ?_
 refine RS.q rfl (q0c rfl rfl rfl (q08 (cL (cI .u64)) und148)) ?_
 refine go ?_
 refine cF hF (fun h7 hF=>?_) (fun h7 hF=>?_)
 refine go ?_
 refine WPU.block ?_
 obtain ⟨x8,h9,hF⟩:=q00 hF
 obtain ⟨r10,h11,hF⟩:=q00 hF
 refine go ?_
 refine RS.q rfl (q0f rfl rfl (q0a (cL (cI .u64)) und148 (q03 inf103) (q4h (cI .u64)) h9 rfl)) (RS.q rfl (q0d und103 rfl rfl rfl) ?_)
 refine go ?_
 refine RS.cl rfl (pC (qkn n x8 p2 r10 h11) _) fn120 ?_
 refine go ?_
 refine cF hF (fun h12 hF=>?_) (fun h12 hF=>?_)
 exact gx hF
 refine go ?_
 exact lC ⟨_,hF,rfl,rfl⟩
 refine go ?_
 exact xC ⟨hF,rfl,rfl⟩
def q79 (z19:Int) (rc2:Int→(List (List Int))→Option ((List (List Int)))) (l40:List (List Int)):Option ((List (List Int))) :=
 rc2 (IntKind.i64.wrap (z19+1)) l40
def qax (z6:Int) (rc1:Int→(List (List Int))→Option ((List (List Int)))) (l22:List (List Int)):Option ((List (List Int))) :=
 rc1 (IntKind.i64.wrap (z6+1)) l22
def q47 (n:Nat) (z6:Int) (rc1:Int→(List (List Int))→Option ((List (List Int)))):Nat→Int→(List (List Int))→Option ((List (List Int)))
 | 0,_,_=>none
 | m2+1,z19,l20 =>
  q04 (cond (decide (z19<z6))
   (some (decide ((l20.length:Int)≤256)))
   (some false)) fun b25 =>
  cond b25
   (q04 (q15 l20 z6) fun x28 =>
   q04 (q15 l20 z19) fun x30 =>
   q04 (qir n x28 x30) fun r32 =>
   q04 (cond (decide ((r32.length:Int) > 0))
    (q04 (qpm n l20 r32) fun r35 =>
    some (!r35))
    (some false)) fun b37 =>
   cond b37
    (q1i ((l20.length+1)*24≤140737488355328∧l20.length+1≤140737488355328) (
    q79 z19 (q47 n z6 rc1 m2) (l20++[r32])))
    (q79 z19 (q47 n z6 rc1 m2) l20))
   (qax z6 rc1 l20)
def qaw  (l9:List (List Int)):Option ((List (List Int))) :=
 some l9
def q3e (n:Nat):Nat→Int→(List (List Int))→Option ((List (List Int)))
 | 0,_,_=>none
 | m1+1,z6,l7 =>
  q04 (cond (decide (z6<(l7.length:Int)))
   (some (decide ((l7.length:Int)≤256)))
   (some false)) fun b12 =>
  cond b12
   (q47 n z6 (q3e n m1) n 0 l7)
   (qaw l7)
def qfi (n:Nat) (p1:List (List Int)):Option ((List (List Int))) :=
 q1i (p1.length*24≤140737488355328∧p1.length≤140737488355328) (
 q3e n n 0 p1)
theorem qns (n:Nat) (p1:List (List Int)) (r:(List (List Int))) (hF:qfi n p1=some r):EvU Tryz.prog 97 [.isl false (List.map (cL (cI .u64)) p1)] ⟨[],0⟩ (fun u _=>u = .isl false (List.map (cL (cI .u64)) r)∧Bel 0 u):=by
 unfold qfi at hF
 refine bg1 54 fn97 ?_
 obtain ⟨h2,hF⟩:=q0b hF
 refine go ?_
 refine RS.q (u:=.sl 0 0 0 0) (σ':=⟨[(0,.row [] 103)],1⟩) rfl (q0j und148 inf103 rfl rfl rfl rfl rfl rfl rfl) ?_
 refine go ?_
 refine RS.q (u:=.vl 1 0 0 p1.length) (σ':=⟨[(1,.vec (List.map (cL (cI .u64)) p1).flatten 103 1 0),(0,.row [] 103)],2⟩) rfl (q1u rfl rfl rfl rfl (qs4 (cL (cI .u64)) p1 und148 und148 inf103 rfl rfl rfl (qhl (cL (cI .u64)) (q4h (cI .u64))) h2)) ?_
 refine go ?_
 refine gS (l':=[(3,_),(4,_)]) ?_
 refine z4g (fun m tm σ=>∃ z6:Int,∃ l7:List (List Int),∃ t8:Nat,q3e n m z6 l7=some r∧tm=fr 54 [(3,.vl 1 t8 0 l7.length),(4,.i6 z6)]∧σ=⟨[(1,.vec (List.map (cL (cI .u64)) l7).flatten 103 1 t8),(0,.row [] 103)],2⟩) (fun tm σ=>∃ l9:List (List Int),∃ t10:Nat,qaw l9=some r∧tm=fr 54 [(3,.vl 1 t10 0 l9.length)]∧σ=⟨[(1,.vec (List.map (cL (cI .u64)) l9).flatten 103 1 t10),(0,.row [] 103)],2⟩) n ⟨0,p1,0,hF,rfl,rfl⟩ ?_ ?_
 rintro _ _ ⟨l9,t10,hF,rfl,rfl⟩
 unfold qaw at hF
 refine go ?_
 obtain rfl:=sI hF
 exact rT (us:=[.vl 1 t10 0 l9.length]) (u:=.iM (cL (cI .u64)) l9) (q2o rfl (q2g)) (fR 1 1)
 rintro (_|m1) _ _ ⟨z6,l7,t8,hF,rfl,rfl⟩
 cases hF
 unfold q3e at hF
 obtain ⟨b12,h13,hF⟩:=q00 hF
 refine gn ?_
 refine z4h (fun tm σ=>tm=fr 54 [(3,.vl 1 t8 0 l7.length),(4,.i6 z6),(18,.bool b12)]∧σ=⟨[(1,.vec (List.map (cL (cI .u64)) l7).flatten 103 1 t8),(0,.row [] 103)],2⟩) ?_ ?_
 rintro _ _ ⟨rfl,rfl⟩
 refine go ?_
 refine cF hF (fun h14 hF=>?_) (fun h14 hF=>?_)
 refine go ?_
 refine WPU.block ?_
 refine go ?_
 refine gS (l':=[(3,_),(4,_),(5,_)]) ?_
 refine z4g (fun m tm σ=>∃ z19:Int,∃ l20:List (List Int),∃ t21:Nat,q47 n z6 (q3e n m1) m z19 l20=some r∧tm=fr 54 [(3,.vl 1 t21 0 l20.length),(4,.i6 z6),(5,.i6 z19)]∧σ=⟨[(1,.vec (List.map (cL (cI .u64)) l20).flatten 103 1 t21),(0,.row [] 103)],2⟩) (fun tm σ=>∃ l22:List (List Int),∃ t23:Nat,qax z6 (q3e n m1) l22=some r∧tm=fr 54 [(3,.vl 1 t23 0 l22.length),(4,.i6 z6)]∧σ=⟨[(1,.vec (List.map (cL (cI .u64)) l22).flatten 103 1 t23),(0,.row [] 103)],2⟩) n ⟨0,l7,t8,hF,rfl,rfl⟩ ?_ ?_
 rintro _ _ ⟨l22,t23,hF,rfl,rfl⟩
 unfold qax at hF
 refine go ?_
 exact lC ⟨_,l22,t23,hF,rfl,rfl⟩
 rintro (_|m2) _ _ ⟨z19,l20,t21,hF,rfl,rfl⟩
 cases hF
 unfold q47 at hF
 obtain ⟨b25,h26,hF⟩:=q00 hF
 refine gn ?_
 refine z4h (fun tm σ=>tm=fr 54 [(3,.vl 1 t21 0 l20.length),(4,.i6 z6),(5,.i6 z19),(28,.bool b25)]∧σ=⟨[(1,.vec (List.map (cL (cI .u64)) l20).flatten 103 1 t21),(0,.row [] 103)],2⟩) ?_ ?_
 rintro _ _ ⟨rfl,rfl⟩
 refine go ?_
 refine cF hF (fun h27 hF=>?_) (fun h27 hF=>?_)
 refine go ?_
 refine WPU.block ?_
 obtain ⟨x28,h29,hF⟩:=q00 hF
 obtain ⟨x30,h31,hF⟩:=q00 hF
 obtain ⟨r32,h33,hF⟩:=q00 hF
 refine go ?_
 refine z4i Tryz.tb_ok [] (by kernel_rfl) ?_
 repeat refine RD.mv rfl rfl rfl rfl ?_
 refine RD.q rfl (q0f rfl rfl (q90 (cL (cI .u64)) und148 (q03 inf103) (by decide) (q4h (cI .u64)) (vo rfl) h29)) ?_
 refine RD.q rfl (q60 (cL (cI .u64)) (fun x=>.iM (cI .u64) x) und103 rfl (fun _=>rfl) rfl rfl h29) ?_
 repeat refine RD.mv rfl rfl rfl rfl ?_
 refine RD.q rfl (q0f rfl rfl (q90 (cL (cI .u64)) und148 (q03 inf103) (by decide) (q4h (cI .u64)) (vo rfl) h31)) ?_
 refine RD.q rfl (q60 (cL (cI .u64)) (fun x=>.iM (cI .u64) x) und103 rfl (fun _=>rfl) rfl rfl h31) ?_
 refine z4w rfl (pC (qmt n x28 x30 r32 h33)) fn118 ?_
 refine RD.as rfl rfl rfl rfl ?_
 refine RD.done ⟨by kernel_rfl,trivial,?_⟩
 obtain ⟨b37,h38,hF⟩:=q00 hF
 refine gn ?_
 refine z4h (fun tm σ=>tm=fr 54 [(3,.vl 1 t21 0 l20.length),(4,.i6 z6),(5,.i6 z19),(6,.iM (cI .u64) r32),(48,.bool b37)]∧σ=⟨[(1,.vec (List.map (cL (cI .u64)) l20).flatten 103 1 t21),(0,.row [] 103)],2⟩) ?_ ?_
 rintro _ _ ⟨rfl,rfl⟩
 refine gn ?_
 refine z4h (fun tm σ=>∃ l40:List (List Int),∃ t41:Nat,q79 z19 (q47 n z6 (q3e n m1) m2) l40=some r∧tm=fr 54 [(3,.vl 1 t41 0 l40.length),(4,.i6 z6),(5,.i6 z19)]∧σ=⟨[(1,.vec (List.map (cL (cI .u64)) l40).flatten 103 1 t41),(0,.row [] 103)],2⟩) ?_ ?_
 rintro _ _ ⟨l40,t41,hF,rfl,rfl⟩
 unfold q79 at hF
 refine go ?_
 exact lC ⟨_,l40,t41,hF,rfl,rfl⟩
 refine cF hF (fun h39 hF=>?_) (fun h39 hF=>?_)
 obtain ⟨h42,hF⟩:=q0b hF
 refine go ?_
 refine RS.q (u:=.sl 2 0 1 1) (σ':=⟨[(2,.row [.iM (cI .u64) r32] 103),(1,.vec (List.map (cL (cI .u64)) l20).flatten 103 1 t21),(0,.row [] 103)],3⟩) rfl (q0j und148 inf103 rfl rfl rfl rfl rfl rfl rfl) (RS.q (u:=.vl 1 (t21+1) 0 ((l20++[r32]).length)) (σ':=⟨[(2,.row [.iM (cI .u64) r32] 103),(1,.vec (List.map (cL (cI .u64)) (l20++[r32])).flatten 103 1 (t21+1)),(0,.row [] 103)],3⟩) rfl (q1u rfl rfl rfl rfl (q2a (cL (cI .u64)) ([r32]) und148 und148 inf103 rfl (q4h (cI .u64)) rfl (q1q (cL (cI .u64)) [r32] rfl rfl rfl rfl) h42)) ?_)
 refine go ?_
 exact xC ⟨(l20++[r32]),(t21+1),hF,rfl,rfl⟩
 refine go ?_
 exact xC ⟨l20,t21,hF,rfl,rfl⟩
 rcases gB h38 with ⟨h34,h38⟩ | ⟨h34,h38⟩
 obtain ⟨r35,h36,h38⟩:=q00 h38
 obtain rfl:=sI h38
 refine go ?_
 refine RS.q rfl (q0c rfl rfl rfl (q08 (cI .u64) und103)) ?_
 refine go ?_
 refine RS.cl rfl (vw (qvq n l20 r32 r35 h36) (z4j 1 1)) fn128 ?_
 refine go ?_
 exact xC ⟨rfl,rfl⟩
 obtain rfl:=sI h38
 refine go ?_
 refine RS.q rfl (q0c rfl rfl rfl (q08 (cI .u64) und103)) ?_
 refine go ?_
 exact xC ⟨rfl,rfl⟩
 refine go ?_
 exact xC ⟨l20,t21,hF,rfl,rfl⟩
 rcases gB h26 with ⟨h24,h26⟩ | ⟨h24,h26⟩
 obtain rfl:=sI h26
 refine go ?_
 refine RS.w rfl (q0c rfl rfl rfl (q6o und148 rfl)) ?_
 refine go ?_
 exact xC ⟨rfl,rfl⟩
 exact gy h26
 refine go ?_
 exact xC ⟨l7,t8,hF,rfl,rfl⟩
 rcases gB h13 with ⟨h11,h13⟩ | ⟨h11,h13⟩
 obtain rfl:=sI h13
 refine go ?_
 refine RS.q rfl (q0c rfl rfl rfl (q6o und148 rfl)) ?_
 refine go ?_
 refine RS.w rfl (q0c rfl rfl rfl (q6o und148 rfl)) ?_
 refine go ?_
 exact xC ⟨rfl,rfl⟩
 obtain rfl:=sI h13
 refine go ?_
 refine RS.q rfl (q0c rfl rfl rfl (q6o und148 rfl)) ?_
 refine go ?_
 exact xC ⟨rfl,rfl⟩
def qbs (n:Nat) (l11:List Int):Option ((List Int)) :=
 q04 (q6r n l11) fun r13 =>
 some r13
def q87 (p1:List Int) (p2:List Int) (n:Nat):Nat→Int→(List Int)→Option ((List Int))
 | 0,_,_=>none
 | m1+1,z8,l9 =>
  cond (decide (z8<(p1.length:Int)))
   (q04 (q15 p1 z8) fun x16 =>
   q04 (qg2 n p2 z8) fun r18 =>
   q1i ((l9.length+1)*8≤140737488355328∧l9.length+1≤140737488355328) (
   (q87 p1 p2 n m1) (IntKind.i64.wrap (z8+1)) (l9++[(qbi .u64 x16 r18)])))
   (qbs n l9)
def qh8 (n:Nat) (p1:List Int) (p2:List Int):Option ((List Int)) :=
 q87 p1 p2 n n 0 ([]:List Int)
theorem qpe (n:Nat) (p1:List Int) (p2:List Int) (r:(List Int)) (hF:qh8 n p1 p2=some r):EvU Tryz.prog 153 [.isl false (List.map (cI .u64) p1),.isl false (List.map (cI .u64) p2)] ⟨[],0⟩ (fun u _=>u = .isl false (List.map (cI .u64) r)∧Bel 0 u):=by
 unfold qh8 at hF
 refine bg2 26 fn153 ?_
 refine gr ?_
 refine gr ?_
 refine gr ?_
 refine WPU.ghost (tm':=fr 26 [(0,.iM (cI .u64) p1),(1,.iM (cI .u64) p2),(5,.vl 0 0 0 (([]:List Int).length)),(6,.i6 0)]) (σ':=⟨[(0,.vec (List.map (cI .u64) ([]:List Int)).flatten 191 1 0)],1⟩) (Gh.trans (z4n 5 191 1 (by decide) NZ rfl rfl) (z4l ⟨rfl,rfl,rfl,rfl,trivial⟩ rfl)) NZ ?_
 refine gS (l':=[(0,_),(1,_),(5,_),(6,_)]) ?_
 refine z4g (fun m tm σ=>∃ z8:Int,∃ l9:List Int,∃ t10:Nat,q87 p1 p2 n m z8 l9=some r∧tm=fr 26 [(0,.iM (cI .u64) p1),(1,.iM (cI .u64) p2),(5,.vl 0 t10 0 l9.length),(6,.i6 z8)]∧σ=⟨[(0,.vec (List.map (cI .u64) l9).flatten 191 1 t10)],1⟩) (fun tm σ=>∃ l11:List Int,∃ t12:Nat,qbs n l11=some r∧tm=fr 26 [(5,.vl 0 t12 0 l11.length)]∧σ=⟨[(0,.vec (List.map (cI .u64) l11).flatten 191 1 t12)],1⟩) n ⟨0,([]:List Int),0,hF,rfl,rfl⟩ ?_ ?_
 rintro _ _ ⟨l11,t12,hF,rfl,rfl⟩
 unfold qbs at hF
 refine gn ?_
 refine WPU.ghost (tm':=fr 26 [(5,.iM (cI .u64) l11)]) (σ':=⟨[],1⟩) (Gh.trans (Gh.sub (l':=[(5,.vl 0 t12 0 l11.length)]) ⟨rfl,trivial⟩) (z4z 0 1)) NZ ?_
 obtain ⟨r13,h14,hF⟩:=q00 hF
 refine go ?_
 refine RS.cl rfl (pC (q88 n l11 r13 h14) _) fn119 ?_
 exact gx hF
 rintro (_|m1) _ _ ⟨z8,l9,t10,hF,rfl,rfl⟩
 cases hF
 unfold q87 at hF
 refine go ?_
 refine RS.q rfl (q0c rfl rfl rfl (q08 (cI .u64) und103)) ?_
 refine go ?_
 refine cF hF (fun h15 hF=>?_) (fun h15 hF=>?_)
 refine go ?_
 refine WPU.block ?_
 obtain ⟨x16,h17,hF⟩:=q00 hF
 obtain ⟨r18,h19,hF⟩:=q00 hF
 obtain ⟨h20,hF⟩:=q0b hF
 refine go ?_
 refine z4i Tryz.tb_ok [(0,9)] (by kernel_rfl) ?_
 repeat refine RD.mv rfl rfl rfl rfl ?_
 refine RD.q rfl (q0f rfl rfl (q0a (cI .u64) und103 (q03 inf191) (q18 .u64) h17 rfl)) (RD.q rfl (q0d und191 rfl rfl rfl) ?_)
 repeat refine RD.mv rfl rfl rfl rfl ?_
 refine z4w rfl (pC (qko n p2 z8 r18 h19)) fn146 ?_
 refine RD.q rfl (q3b rfl rfl (qxm _ _ _) rfl) (RD.act (u:=.sl 1 0 1 1) (σ':=⟨[(1,.row [.int .u64 (qbi .u64 x16 r18)] 191),(0,.vec (List.map (cI .u64) l9).flatten 191 1 t10)],2⟩) rfl (q0j und103 inf191 rfl rfl rfl rfl rfl rfl rfl) rfl rfl (RD.act (u:=.vl 0 (t10+1) 0 ((l9++[(qbi .u64 x16 r18)]).length)) (σ':=⟨[(1,.row [.int .u64 (qbi .u64 x16 r18)] 191),(0,.vec (List.map (cI .u64) (l9++[(qbi .u64 x16 r18)])).flatten 191 1 (t10+1))],2⟩) rfl (q1u rfl rfl rfl rfl (q2a (cI .u64) ([(qbi .u64 x16 r18)]) und103 und103 inf191 rfl (q18 .u64) rfl (q1q (cI .u64) [(qbi .u64 x16 r18)] rfl rfl rfl rfl) h20)) rfl rfl (RD.as rfl rfl rfl rfl ?_)))
 refine RD.done ⟨by kernel_rfl,⟨q27 rfl,trivial⟩,?_⟩
 refine go ?_
 exact lC ⟨_,(l9++[(qbi .u64 x16 r18)]),(t10+1),hF,rfl,rfl⟩
 refine go ?_
 exact xC ⟨l9,t10,hF,rfl,rfl⟩
def q94 (n:Nat) (p1:List Int) (p2:List Int):Option (Bool) :=
 q04 (qh8 n p1 p2) fun r3 =>
 some ((r3.length:Int) == 0)
theorem q8a (n:Nat) (p1:List Int) (p2:List Int) (r:Bool) (hF:q94 n p1 p2=some r):EvU Tryz.prog 133 [.isl false (List.map (cI .u64) p1),.isl false (List.map (cI .u64) p2)] ⟨[],0⟩ (fun u _=>u = .bool r∧Bel 0 u):=by
 unfold q94 at hF
 refine bg2 10 fn133 ?_
 obtain ⟨r3,h4,hF⟩:=q00 hF
 refine go ?_
 refine RS.cl rfl (pC (qpe n p1 p2 r3 h4) _) fn153 (RS.q rfl (q0c rfl rfl rfl (q08 (cI .u64) und103)) ?_)
 exact gx hF
def qh7 (n:Nat) (p1:List Int) (p2:List Int):Option (Bool) :=
 q04 (q04 (q94 n p1 p2) fun r3 =>
 cond r3
  (q04 (q94 n p2 p1) fun r6 =>
  some r6)
  (some false)) fun b8 =>
 some b8
theorem qpd (n:Nat) (p1:List Int) (p2:List Int) (r:Bool) (hF:qh7 n p1 p2=some r):EvU Tryz.prog 129 [.isl false (List.map (cI .u64) p1),.isl false (List.map (cI .u64) p2)] ⟨[],0⟩ (fun u _=>u = .bool r∧Bel 0 u):=by
 unfold qh7 at hF
 refine bg2 13 fn129 ?_
 obtain ⟨b8,h9,hF⟩:=q00 hF
 refine gr ?_
 refine z4h (fun tm σ=>tm=fr 13 [(4,.bool b8)]∧σ=⟨[],0⟩) ?_ ?_
 rintro _ _ ⟨rfl,rfl⟩
 exact gx hF
 obtain ⟨r3,h4,h9⟩:=q00 h9
 rcases gB h9 with ⟨h5,h9⟩ | ⟨h5,h9⟩
 obtain ⟨r6,h7,h9⟩:=q00 h9
 obtain rfl:=sI h9
 refine go ?_
 refine RS.cl rfl (pC (q8a n p1 p2 r3 h4) _) fn133 ?_
 refine go ?_
 refine RS.cl rfl (pC (q8a n p2 p1 r6 h7) _) fn133 ?_
 refine go ?_
 exact xC ⟨rfl,rfl⟩
 obtain rfl:=sI h9
 refine go ?_
 refine RS.cl rfl (pC (q8a n p1 p2 r3 h4) _) fn133 ?_
 refine go ?_
 exact xC ⟨rfl,rfl⟩
def qit (n:Nat) (p1:List Int) (p2:Int):Option (Bool) :=
 q04 (cond (decide (p2<0))
  (some true)
  (some (decide ((IntKind.i64.wrap (p2.tdiv 64)) ≥ (p1.length:Int))))) fun b5 =>
 cond b5
  (some false)
  (q04 (q15 p1 (IntKind.i64.wrap (p2.tdiv 64))) fun x9 =>
  q1i (¬ (IntKind.u64.wrap (p2.tmod 64))<0) (
  some ((qw5 .u64 (x9.fdiv (2 ^ (min (IntKind.u64.wrap (p2.tmod 64)).toNat IntKind.u64.bits))) 1) == 1)))
theorem qmu (n:Nat) (p1:List Int) (p2:Int) (r:Bool) (hF:qit n p1 p2=some r):EvU Tryz.prog 130 [.isl false (List.map (cI .u64) p1),.int .i64 p2] ⟨[],0⟩ (fun u _=>u = .bool r∧Bel 0 u):=by
 unfold qit at hF
 refine bg2 25 fn130 ?_
 obtain ⟨b5,h6,hF⟩:=q00 hF
 refine gr ?_
 refine z4h (fun tm σ=>tm=fr 25 [(0,.iM (cI .u64) p1),(1,.i6 p2),(13,.bool b5)]∧σ=⟨[],0⟩) ?_ ?_
 rintro _ _ ⟨rfl,rfl⟩
 refine go ?_
 refine cF hF (fun h7 hF=>?_) (fun h7 hF=>?_)
 exact gx hF
 obtain ⟨x9,h10,hF⟩:=q00 hF
 obtain ⟨h12,hF⟩:=q0b hF
 refine go ?_
 refine RS.q rfl (q3b rfl rfl (qtu _ (by decide)) rfl) ?_
 refine RS.q rfl (q0f rfl rfl (q0a (cI .u64) und103 (q03 inf191) (q18 .u64) h10 rfl)) (RS.q rfl (q0d und191 rfl rfl rfl) ?_)
 refine go ?_
 refine RS.q rfl (q3b rfl rfl (z2b _ (by decide)) rfl) ?_
 refine RS.q (u:=.int .u64 (IntKind.u64.wrap (p2.tmod 64))) rfl (qsr rfl rfl (by simp only [qqc,und3,und190]<;>rfl) rfl) ?_
 refine RS.q rfl (q3b rfl rfl (ix_shr _ h12) rfl) (RS.q rfl (q3b rfl rfl (z1z _ _ _) rfl) ?_)
 exact gx hF
 rcases gB h6 with ⟨h3,h6⟩ | ⟨h3,h6⟩
 exact gy h6
 obtain rfl:=sI h6
 refine go ?_
 refine RS.w rfl (q3b rfl rfl (qtu _ (by decide)) rfl) ?_
 refine go ?_
 refine RS.w rfl (q0c rfl rfl rfl (q08 (cI .u64) und103)) ?_
 refine go ?_
 exact xC ⟨rfl,rfl⟩
def q5n (z8:Int) (rc1:(List (List UInt8))→Int→Option ((List (List UInt8)))) (l16:List (List UInt8)):Option ((List (List UInt8))) :=
 rc1 l16 (IntKind.i64.wrap (z8+1))
def q7w  (l9:List (List UInt8)):Option ((List (List UInt8))) :=
 some l9
def q39 (p1:List q06) (p2:List (List UInt8)) (n:Nat):Nat→(List (List UInt8))→Int→Option ((List (List UInt8)))
 | 0,_,_=>none
 | m1+1,l7,z8 =>
  cond (decide (z8<(p2.length:Int)))
   (q04 (q15 p2 z8) fun x11 =>
   q04 (q6s n p1 x11) fun r13 =>
   cond (decide (r13 ≥ 0))
    (q04 (q15 p2 z8) fun x17 =>
    q04 (q95 n l7 x17) fun r19 =>
    q5n z8 (q39 p1 p2 n m1) r19)
    (q5n z8 (q39 p1 p2 n m1) l7))
   (q7w l7)
def qc2 (n:Nat) (p1:List q06) (p2:List (List UInt8)):Option ((List (List UInt8))) :=
 q39 p1 p2 n n [] 0
theorem ql3 (n:Nat) (p1:List q06) (p2:List (List UInt8)) (r:(List (List UInt8))) (hF:qc2 n p1 p2=some r):EvU Tryz.prog 150 [.isl false (List.map q02 p1),.isl false (List.map cS p2)] ⟨[],0⟩ (fun u _=>u = .isl false (List.map cS r)∧Bel 0 u):=by
 unfold qc2 at hF
 refine bg2 27 fn150 ?_
 refine gr ?_
 refine gr ?_
 refine gr ?_
 refine WPU.ghost (tm':=fr 27 [(0,.iM q02 p1),(1,.iM cS p2),(5,.iM cS []),(6,.i6 0)]) (Gh.trans (Gh.sub (l':=[(0,.iM q02 p1),(1,.iM cS p2),(5,.nils),(6,.i6 0)]) ⟨rfl,rfl,rfl,rfl,trivial⟩) (Gh.wkS (l':=[(0,.iM q02 p1),(1,.iM cS p2),(5,.iM cS []),(6,.i6 0)]) (.cons (.refl _) (.cons (.refl _) (.cons (.nil false) (.cons (.refl _) .nil)))))) NZ ?_
 refine gS (l':=[(0,_),(1,_),(5,_),(6,_)]) ?_
 refine z4g (fun m tm σ=>∃ l7:List (List UInt8),∃ z8:Int,q39 p1 p2 n m l7 z8=some r∧tm=fr 27 [(0,.iM q02 p1),(1,.iM cS p2),(5,.iM cS l7),(6,.i6 z8)]∧σ=⟨[],0⟩) (fun tm σ=>∃ l9:List (List UInt8),q7w l9=some r∧tm=fr 27 [(5,.iM cS l9)]∧σ=⟨[],0⟩) n ⟨[],0,hF,rfl,rfl⟩ ?_ ?_
 rintro _ _ ⟨l9,hF,rfl,rfl⟩
 unfold q7w at hF
 exact gx hF
 rintro (_|m1) _ _ ⟨l7,z8,hF,rfl,rfl⟩
 cases hF
 unfold q39 at hF
 refine go ?_
 refine RS.q rfl (q0c rfl rfl rfl (q08 cS und80)) ?_
 refine go ?_
 refine cF hF (fun h10 hF=>?_) (fun h10 hF=>?_)
 refine go ?_
 refine WPU.block ?_
 obtain ⟨x11,h12,hF⟩:=q00 hF
 obtain ⟨r13,h14,hF⟩:=q00 hF
 refine go ?_
 refine RS.q rfl (q0f rfl rfl (q0a cS und80 (q03 inf9) q1s h12 rfl)) (RS.q rfl (q0d und9 rfl rfl rfl) (RS.cl rfl (pC (q6t n p1 x11 r13 h14) _) fn148 ?_))
 refine gn ?_
 refine z4h (fun tm σ=>∃ l16:List (List UInt8),q5n z8 (q39 p1 p2 n m1) l16=some r∧tm=fr 27 [(0,.iM q02 p1),(1,.iM cS p2),(5,.iM cS l16),(6,.i6 z8)]∧σ=⟨[],0⟩) ?_ ?_
 rintro _ _ ⟨l16,hF,rfl,rfl⟩
 unfold q5n at hF
 refine go ?_
 exact lC ⟨l16,(IntKind.i64.wrap (z8+1)),hF,rfl,rfl⟩
 refine cF hF (fun h15 hF=>?_) (fun h15 hF=>?_)
 obtain ⟨x17,h18,hF⟩:=q00 hF
 obtain ⟨r19,h20,hF⟩:=q00 hF
 refine go ?_
 refine RS.q rfl (q0f rfl rfl (q0a cS und80 (q03 inf9) q1s h18 rfl)) (RS.q rfl (q0d und9 rfl rfl rfl) (RS.cl rfl (pC (q7v n l7 x17 r19 h20) _) fn116 ?_))
 refine go ?_
 exact xC ⟨r19,hF,rfl,rfl⟩
 refine go ?_
 exact xC ⟨l7,hF,rfl,rfl⟩
 refine go ?_
 exact xC ⟨l7,hF,rfl,rfl⟩
def qbu  (l21:List (List UInt8)):Option ((List (List UInt8))) :=
 some l21
def q8c (n:Nat) (l13:List (List UInt8)):Nat→(List (List UInt8))→Int→Option ((List (List UInt8)))
 | 0,_,_=>none
 | m2+1,l19,z20 =>
  cond (decide (z20<(l13.length:Int)))
   (q04 (q15 l13 z20) fun x23 =>
   q04 (q95 n l19 x23) fun r25 =>
   (q8c n l13 m2) r25 (IntKind.i64.wrap (z20+1)))
   (qbu l19)
def q8b (z40:Int) (rc3:Int→(List (List UInt8))→Option ((List (List UInt8)))) (l51:List (List UInt8)):Option ((List (List UInt8))) :=
 rc3 (IntKind.i64.wrap (z40+1)) l51
def qbv (z10:Int) (rc1:Int→(List (List UInt8))→Option ((List (List UInt8)))) (l43:List (List UInt8)):Option ((List (List UInt8))) :=
 rc1 (IntKind.i64.wrap (z10+1)) l43
def q4q (n:Nat) (z10:Int) (rc1:Int→(List (List UInt8))→Option ((List (List UInt8)))) (x32:q06):Nat→Int→(List (List UInt8))→Option ((List (List UInt8)))
 | 0,_,_=>none
 | m3+1,z40,l41 =>
  cond (decide (z40<(x32.Supers.length:Int)))
   (q04 (q15 x32.Supers z40) fun x46 =>
   q04 (q3c n l41 x46) fun r48 =>
   cond (!r48)
    (q04 (q15 x32.Supers z40) fun x53 =>
    q1i ((l41.length+1)*16≤140737488355328∧l41.length+1≤140737488355328) (
    q8b z40 (q4q n z10 rc1 x32 m3) (l41++[x53])))
    (q8b z40 (q4q n z10 rc1 x32 m3) l41))
   (qbv z10 rc1 l41)
def qbt (n:Nat) (l13:List (List UInt8)):Option ((List (List UInt8))) :=
 q8c n l13 n [] 0
def q3z (p1:List q06) (n:Nat):Nat→Int→(List (List UInt8))→Option ((List (List UInt8)))
 | 0,_,_=>none
 | m1+1,z10,l11 =>
  cond (decide (z10<(l11.length:Int)))
   (q04 (q15 l11 z10) fun x28 =>
   q04 (q6s n p1 x28) fun r30 =>
   q04 (q15 p1 r30) fun x32 =>
   q4q n z10 (q3z p1 n m1) x32 n 0 l11)
   (qbt n l11)
def qha (n:Nat) (p1:List q06) (p2:List UInt8):Option ((List (List UInt8))) :=
 q04 (q6s n p1 p2) fun r3 =>
 cond (decide (r3<0))
  (some [])
  (q3z p1 n n 0 ([p2]))
theorem qpg (n:Nat) (p1:List q06) (p2:List UInt8) (r:(List (List UInt8))) (hF:qha n p1 p2=some r):EvU Tryz.prog 151 [.isl false (List.map q02 p1),.str p2] ⟨[],0⟩ (fun u _=>u = .isl false (List.map cS r)∧Bel 0 u):=by
 unfold qha at hF
 refine bg2 66 fn151 ?_
 obtain ⟨r3,h4,hF⟩:=q00 hF
 refine go ?_
 refine RS.cl rfl (pC (q6t n p1 p2 r3 h4) _) fn148 ?_
 refine go ?_
 refine cF hF (fun h5 hF=>?_) (fun h5 hF=>?_)
 refine go ?_
 obtain rfl:=sI hF
 exact rT (us:=[.nils]) (u:=.isl false []) (q2o rfl (q2g)) wR
 refine go ?_
 refine z54 (u:=.vl 0 0 0 ([p2].length)) (σ':=⟨[(0,.vec (List.map cS ([p2])).flatten 9 1 0)],1⟩) rfl (qeq.bslv (cs:=(List.map cS [p2]).flatten) Tryz.tb_ok rfl und80 inf9 rfl rfl rfl rfl rfl rfl rfl rfl) rfl rfl ?_
 refine go ?_
 refine gS (l':=[(0,_),(5,_),(6,_)]) ?_
 refine z4g (fun m tm σ=>∃ z10:Int,∃ l11:List (List UInt8),∃ t12:Nat,q3z p1 n m z10 l11=some r∧tm=fr 66 [(0,.iM q02 p1),(5,.vl 0 t12 0 l11.length),(6,.i6 z10)]∧σ=⟨[(0,.vec (List.map cS l11).flatten 9 1 t12)],1⟩) (fun tm σ=>∃ l13:List (List UInt8),∃ t14:Nat,qbt n l13=some r∧tm=fr 66 [(5,.vl 0 t14 0 l13.length)]∧σ=⟨[(0,.vec (List.map cS l13).flatten 9 1 t14)],1⟩) n ⟨0,[p2],0,hF,rfl,rfl⟩ ?_ ?_
 rintro _ _ ⟨l13,t14,hF,rfl,rfl⟩
 unfold qbt at hF
 refine gr ?_
 refine gr ?_
 refine WPU.ghost (tm':=fr 66 [(5,.vl 0 t14 0 l13.length),(9,.iM cS []),(10,.i6 0)]) (Gh.trans (Gh.sub (l':=[(5,.vl 0 t14 0 l13.length),(9,.nils),(10,.i6 0)]) ⟨rfl,rfl,rfl,trivial⟩) (Gh.wkS (l':=[(5,.vl 0 t14 0 l13.length),(9,.iM cS []),(10,.i6 0)]) (.cons (.refl _) (.cons (.nil false) (.cons (.refl _) .nil))))) NZ ?_
 refine gS (l':=[(5,_),(9,_),(10,_)]) ?_
 refine z4g (fun m tm σ=>∃ l19:List (List UInt8),∃ z20:Int,q8c n l13 m l19 z20=some r∧tm=fr 66 [(5,.vl 0 t14 0 l13.length),(9,.iM cS l19),(10,.i6 z20)]∧σ=⟨[(0,.vec (List.map cS l13).flatten 9 1 t14)],1⟩) (fun tm σ=>∃ l21:List (List UInt8),qbu l21=some r∧tm=fr 66 [(9,.iM cS l21)]∧σ=⟨[(0,.vec (List.map cS l13).flatten 9 1 t14)],1⟩) n ⟨[],0,hF,rfl,rfl⟩ ?_ ?_
 rintro _ _ ⟨l21,hF,rfl,rfl⟩
 unfold qbu at hF
 exact gx hF
 rintro (_|m2) _ _ ⟨l19,z20,hF,rfl,rfl⟩
 cases hF
 unfold q8c at hF
 refine go ?_
 refine RS.q rfl (q0c rfl rfl rfl (q6o und80 rfl)) ?_
 refine go ?_
 refine cF hF (fun h22 hF=>?_) (fun h22 hF=>?_)
 refine go ?_
 refine WPU.block ?_
 obtain ⟨x23,h24,hF⟩:=q00 hF
 obtain ⟨r25,h26,hF⟩:=q00 hF
 refine go ?_
 refine RS.q rfl (q0f rfl rfl (q90 cS und80 (q03 inf9) (by decide) q1s (vo rfl) h24)) ?_
 refine RS.q rfl (q60 cS (fun x=>.str x) und9 rfl (fun _=>rfl) rfl rfl h24) (RS.cl rfl (pC (q7v n l19 x23 r25 h26) _) fn116 ?_)
 refine go ?_
 exact lC ⟨r25,(IntKind.i64.wrap (z20+1)),hF,rfl,rfl⟩
 refine go ?_
 exact xC ⟨l19,hF,rfl,rfl⟩
 rintro (_|m1) _ _ ⟨z10,l11,t12,hF,rfl,rfl⟩
 cases hF
 unfold q3z at hF
 refine go ?_
 refine RS.q rfl (q0c rfl rfl rfl (q6o und80 rfl)) ?_
 refine go ?_
 refine cF hF (fun h27 hF=>?_) (fun h27 hF=>?_)
 refine go ?_
 refine WPU.block ?_
 obtain ⟨x28,h29,hF⟩:=q00 hF
 obtain ⟨r30,h31,hF⟩:=q00 hF
 obtain ⟨x32,h33,hF⟩:=q00 hF
 refine go ?_
 refine RS.q rfl (q0f rfl rfl (q90 cS und80 (q03 inf9) (by decide) q1s (vo rfl) h29)) ?_
 refine RS.q rfl (q60 cS (fun x=>.str x) und9 rfl (fun _=>rfl) rfl rfl h29) (RS.cl rfl (pC (q6t n p1 x28 r30 h31) _) fn148 (RS.q rfl (q0f rfl rfl (q0a q02 und38 (q03 inf127) q0m h33 rfl)) (RS.q rfl (q1o und127 rfl (q03 inf80) rfl rfl) (RS.q rfl (q0d und80 rfl rfl rfl) ?_))))
 refine go ?_
 refine gS (l':=[(0,_),(5,_),(6,_),(7,_),(8,_)]) ?_
 refine z4g (fun m tm σ=>∃ z40:Int,∃ l41:List (List UInt8),∃ t42:Nat,q4q n z10 (q3z p1 n m1) x32 m z40 l41=some r∧tm=fr 66 [(0,.iM q02 p1),(5,.vl 0 t42 0 l41.length),(6,.i6 z10),(7,.iM cS x32.Supers),(8,.i6 z40)]∧σ=⟨[(0,.vec (List.map cS l41).flatten 9 1 t42)],1⟩) (fun tm σ=>∃ l43:List (List UInt8),∃ t44:Nat,qbv z10 (q3z p1 n m1) l43=some r∧tm=fr 66 [(0,.iM q02 p1),(5,.vl 0 t44 0 l43.length),(6,.i6 z10)]∧σ=⟨[(0,.vec (List.map cS l43).flatten 9 1 t44)],1⟩) n ⟨0,l11,t12,hF,rfl,rfl⟩ ?_ ?_
 rintro _ _ ⟨l43,t44,hF,rfl,rfl⟩
 unfold qbv at hF
 refine go ?_
 exact lC ⟨_,l43,t44,hF,rfl,rfl⟩
 rintro (_|m3) _ _ ⟨z40,l41,t42,hF,rfl,rfl⟩
 cases hF
 unfold q4q at hF
 refine go ?_
 refine RS.q rfl (q0c rfl rfl rfl (q08 cS und80)) ?_
 refine go ?_
 refine cF hF (fun h45 hF=>?_) (fun h45 hF=>?_)
 refine go ?_
 refine WPU.block ?_
 obtain ⟨x46,h47,hF⟩:=q00 hF
 obtain ⟨r48,h49,hF⟩:=q00 hF
 refine go ?_
 refine RS.q rfl (q0f rfl rfl (q0a cS und80 (q03 inf9) q1s h47 rfl)) (RS.q rfl (q0d und9 rfl rfl rfl) (RS.cl rfl (vw (q2k n l41 x46 r48 h49) (z4j 0 1)) fn126 ?_))
 refine gn ?_
 refine z4h (fun tm σ=>∃ l51:List (List UInt8),∃ t52:Nat,q8b z40 (q4q n z10 (q3z p1 n m1) x32 m3) l51=some r∧tm=fr 66 [(0,.iM q02 p1),(5,.vl 0 t52 0 l51.length),(6,.i6 z10),(7,.iM cS x32.Supers),(8,.i6 z40)]∧σ=⟨[(0,.vec (List.map cS l51).flatten 9 1 t52)],1⟩) ?_ ?_
 rintro _ _ ⟨l51,t52,hF,rfl,rfl⟩
 unfold q8b at hF
 refine go ?_
 exact lC ⟨_,l51,t52,hF,rfl,rfl⟩
 refine cF hF (fun h50 hF=>?_) (fun h50 hF=>?_)
 obtain ⟨x53,h54,hF⟩:=q00 hF
 obtain ⟨h55,hF⟩:=q0b hF
 refine go ?_
 refine RS.q rfl (q0f rfl rfl (q0a cS und80 (q03 inf9) q1s h54 rfl)) (RS.q rfl (q0d und9 rfl rfl rfl) (RS.q (u:=.sl 1 0 1 1) (σ':=⟨[(1,.row [.str x53] 9),(0,.vec (List.map cS l41).flatten 9 1 t42)],2⟩) rfl (q0j und80 inf9 rfl rfl rfl rfl rfl rfl rfl) (RS.q (u:=.vl 0 (t42+1) 0 ((l41++[x53]).length)) (σ':=⟨[(1,.row [.str x53] 9),(0,.vec (List.map cS (l41++[x53])).flatten 9 1 (t42+1))],2⟩) rfl (q1u rfl rfl rfl rfl (q2a cS ([x53]) und80 und80 inf9 rfl q1s rfl (q1q cS [x53] rfl rfl rfl rfl) h55)) ?_)))
 refine go ?_
 exact xC ⟨(l41++[x53]),(t42+1),hF,rfl,rfl⟩
 refine go ?_
 exact xC ⟨l41,t42,hF,rfl,rfl⟩
 refine go ?_
 exact xC ⟨l41,t42,hF,rfl,rfl⟩
 refine go ?_
 exact xC ⟨l11,t12,hF,rfl,rfl⟩
def q6b (z10:Int) (rc1:Int→(List (List UInt8))→Option ((List (List UInt8)))) (l32:List (List UInt8)):Option ((List (List UInt8))) :=
 rc1 (IntKind.i64.wrap (z10+1)) l32
def q9f (r3:(List (List UInt8))) (z10:Int) (l11:List (List UInt8)) (rc1:Int→(List (List UInt8))→Option ((List (List UInt8)))) (b30:Bool):Option ((List (List UInt8))) :=
 cond b30
  (q04 (q15 r3 z10) fun x34 =>
  q1i ((l11.length+1)*16≤140737488355328∧l11.length+1≤140737488355328) (
  q6b z10 rc1 (l11++[x34])))
  (q6b z10 rc1 l11)
def q6c (n:Nat) (r3:(List (List UInt8))) (z10:Int) (l11:List (List UInt8)) (rc1:Int→(List (List UInt8))→Option ((List (List UInt8)))) (r18:(List (List UInt8))):Nat→Bool→Int→Option ((List (List UInt8)))
 | 0,_,_=>none
 | m2+1,b28,z29 =>
  cond (decide (z29<(r3.length:Int)))
   (q04 (cond b28
    (cond (z29 == z10)
     (some true)
     (q04 (q15 r3 z29) fun x40 =>
     q04 (q3c n r18 x40) fun r42 =>
     some (!r42)))
    (some false)) fun b44 =>
   (q6c n r3 z10 l11 rc1 r18 m2) b44 (IntKind.i64.wrap (z29+1)))
   (q9f r3 z10 l11 rc1 b28)
def q9e  (l13:List (List UInt8)):Option ((List (List UInt8))) :=
 some l13
def q30 (p1:List q06) (n:Nat) (r3:(List (List UInt8))):Nat→Int→(List (List UInt8))→Option ((List (List UInt8)))
 | 0,_,_=>none
 | m1+1,z10,l11 =>
  cond (decide (z10<(r3.length:Int)))
   (q04 (q15 r3 z10) fun x16 =>
   q04 (qha n p1 x16) fun r18 =>
   q6c n r3 z10 l11 (q30 p1 n r3 m1) r18 n true 0)
   (q9e l11)
def q9z (n:Nat) (p1:List q06) (p2:List (List UInt8)):Option ((List (List UInt8))) :=
 q04 (qc2 n p1 p2) fun r3 =>
 q30 p1 n r3 n 0 ([]:List (List UInt8))
theorem qfc (n:Nat) (p1:List q06) (p2:List (List UInt8)) (r:(List (List UInt8))) (hF:q9z n p1 p2=some r):EvU Tryz.prog 131 [.isl false (List.map q02 p1),.isl false (List.map cS p2)] ⟨[],0⟩ (fun u _=>u = .isl false (List.map cS r)∧Bel 0 u):=by
 unfold q9z at hF
 refine bg2 56 fn131 ?_
 obtain ⟨r3,h4,hF⟩:=q00 hF
 refine go ?_
 refine RS.cl rfl (pC (ql3 n p1 p2 r3 h4) _) fn150 ?_
 refine gr ?_
 refine WPU.ghost (tm':=fr 56 [(0,.iM q02 p1),(5,.vl 0 0 0 (([]:List (List UInt8)).length)),(6,.iM cS r3),(7,.i6 0)]) (σ':=⟨[(0,.vec (List.map cS ([]:List (List UInt8))).flatten 9 1 0)],1⟩) (Gh.trans (z4n 5 9 1 (by decide) NZ rfl rfl) (z4l ⟨rfl,rfl,rfl,rfl,trivial⟩ rfl)) NZ ?_
 refine gS (l':=[(0,_),(5,_),(6,_),(7,_)]) ?_
 refine z4g (fun m tm σ=>∃ z10:Int,∃ l11:List (List UInt8),∃ t12:Nat,q30 p1 n r3 m z10 l11=some r∧tm=fr 56 [(0,.iM q02 p1),(5,.vl 0 t12 0 l11.length),(6,.iM cS r3),(7,.i6 z10)]∧σ=⟨[(0,.vec (List.map cS l11).flatten 9 1 t12)],1⟩) (fun tm σ=>∃ l13:List (List UInt8),∃ t14:Nat,q9e l13=some r∧tm=fr 56 [(5,.vl 0 t14 0 l13.length)]∧σ=⟨[(0,.vec (List.map cS l13).flatten 9 1 t14)],1⟩) n ⟨0,([]:List (List UInt8)),0,hF,rfl,rfl⟩ ?_ ?_
 rintro _ _ ⟨l13,t14,hF,rfl,rfl⟩
 unfold q9e at hF
 refine go ?_
 obtain rfl:=sI hF
 exact rT (us:=[.vl 0 t14 0 l13.length]) (u:=.iM cS l13) (q2o rfl (q2g)) (fR 0 1)
 rintro (_|m1) _ _ ⟨z10,l11,t12,hF,rfl,rfl⟩
 cases hF
 unfold q30 at hF
 refine go ?_
 refine RS.q rfl (q0c rfl rfl rfl (q08 cS und80)) ?_
 refine go ?_
 refine cF hF (fun h15 hF=>?_) (fun h15 hF=>?_)
 refine go ?_
 refine WPU.block ?_
 obtain ⟨x16,h17,hF⟩:=q00 hF
 obtain ⟨r18,h19,hF⟩:=q00 hF
 refine go ?_
 refine RS.q rfl (q0f rfl rfl (q0a cS und80 (q03 inf9) q1s h17 rfl)) (RS.q rfl (q0d und9 rfl rfl rfl) (RS.cl rfl (pC (qpg n p1 x16 r18 h19) _) fn151 ?_))
 refine go ?_
 refine gS (l':=[(0,_),(5,_),(6,_),(7,_),(8,_),(9,_),(10,_)]) ?_
 refine z4g (fun m tm σ=>∃ b28:Bool,∃ z29:Int,q6c n r3 z10 l11 (q30 p1 n r3 m1) r18 m b28 z29=some r∧tm=fr 56 [(0,.iM q02 p1),(5,.vl 0 t12 0 l11.length),(6,.iM cS r3),(7,.i6 z10),(8,.iM cS r18),(9,.bool b28),(10,.i6 z29)]∧σ=⟨[(0,.vec (List.map cS l11).flatten 9 1 t12)],1⟩) (fun tm σ=>∃ b30:Bool,q9f r3 z10 l11 (q30 p1 n r3 m1) b30=some r∧tm=fr 56 [(0,.iM q02 p1),(5,.vl 0 t12 0 l11.length),(6,.iM cS r3),(7,.i6 z10),(9,.bool b30)]∧σ=⟨[(0,.vec (List.map cS l11).flatten 9 1 t12)],1⟩) n ⟨true,0,hF,rfl,rfl⟩ ?_ ?_
 rintro _ _ ⟨b30,hF,rfl,rfl⟩
 unfold q9f at hF
 refine gr ?_
 refine z4h (fun tm σ=>∃ l32:List (List UInt8),∃ t33:Nat,q6b z10 (q30 p1 n r3 m1) l32=some r∧tm=fr 56 [(0,.iM q02 p1),(5,.vl 0 t33 0 l32.length),(6,.iM cS r3),(7,.i6 z10)]∧σ=⟨[(0,.vec (List.map cS l32).flatten 9 1 t33)],1⟩) ?_ ?_
 rintro _ _ ⟨l32,t33,hF,rfl,rfl⟩
 unfold q6b at hF
 refine go ?_
 exact lC ⟨_,l32,t33,hF,rfl,rfl⟩
 refine cF hF (fun h31 hF=>?_) (fun h31 hF=>?_)
 obtain ⟨x34,h35,hF⟩:=q00 hF
 obtain ⟨h36,hF⟩:=q0b hF
 refine go ?_
 refine RS.q rfl (q0f rfl rfl (q0a cS und80 (q03 inf9) q1s h35 rfl)) (RS.q rfl (q0d und9 rfl rfl rfl) (RS.q (u:=.sl 1 0 1 1) (σ':=⟨[(1,.row [.str x34] 9),(0,.vec (List.map cS l11).flatten 9 1 t12)],2⟩) rfl (q0j und80 inf9 rfl rfl rfl rfl rfl rfl rfl) (RS.q (u:=.vl 0 (t12+1) 0 ((l11++[x34]).length)) (σ':=⟨[(1,.row [.str x34] 9),(0,.vec (List.map cS (l11++[x34])).flatten 9 1 (t12+1))],2⟩) rfl (q1u rfl rfl rfl rfl (q2a cS ([x34]) und80 und80 inf9 rfl q1s rfl (q1q cS [x34] rfl rfl rfl rfl) h36)) ?_)))
 refine go ?_
 exact xC ⟨(l11++[x34]),(t12+1),hF,rfl,rfl⟩
 refine go ?_
 exact xC ⟨l11,t12,hF,rfl,rfl⟩
 rintro (_|m2) _ _ ⟨b28,z29,hF,rfl,rfl⟩
 cases hF
 unfold q6c at hF
 refine go ?_
 refine RS.q rfl (q0c rfl rfl rfl (q08 cS und80)) ?_
 refine go ?_
 refine cF hF (fun h37 hF=>?_) (fun h37 hF=>?_)
 refine go ?_
 refine WPU.block ?_
 obtain ⟨b44,h45,hF⟩:=q00 hF
 refine gn ?_
 refine z4h (fun tm σ=>tm=fr 56 [(0,.iM q02 p1),(5,.vl 0 t12 0 l11.length),(6,.iM cS r3),(7,.i6 z10),(8,.iM cS r18),(9,.bool b44),(10,.i6 z29)]∧σ=⟨[(0,.vec (List.map cS l11).flatten 9 1 t12)],1⟩) ?_ ?_
 rintro _ _ ⟨rfl,rfl⟩
 refine go ?_
 exact lC ⟨b44,(IntKind.i64.wrap (z29+1)),hF,rfl,rfl⟩
 rcases gB h45 with ⟨h38,h45⟩ | ⟨h38,h45⟩
 rcases gB h45 with ⟨h39,h45⟩ | ⟨h39,h45⟩
 exact gy h45
 obtain ⟨x40,h41,h45⟩:=q00 h45
 obtain ⟨r42,h43,h45⟩:=q00 h45
 obtain rfl:=sI h45
 refine go ?_
 refine RS.w rfl (q0f rfl rfl (q0a cS und80 (q03 inf9) q1s h41 rfl)) (RS.w rfl (q0d und9 rfl rfl rfl) (RS.cl rfl (pC (q2k n r18 x40 r42 h43) _) fn126 ?_))
 refine go ?_
 exact xC ⟨rfl,rfl⟩
 obtain rfl:=sI h45
 refine go ?_
 repeat refine RS.no (qn7 rfl rfl rfl) rfl rfl ?_
 refine go ?_
 exact xC ⟨rfl,rfl⟩
 refine go ?_
 exact xC ⟨b28,hF,rfl,rfl⟩
 refine go ?_
 exact xC ⟨l11,t12,hF,rfl,rfl⟩
def qa4 (r17:(List (List UInt8))) (z23:Int) (rc2:(List UInt8)→Int→Option ((List UInt8))) (s27:List UInt8):Option ((List UInt8)) :=
 q04 (q15 r17 z23) fun x28 =>
 q1i (s27.length+x28.length≤9223372036854775807) (
 rc2 (s27++x28) (IntKind.i64.wrap (z23+1)))
def qe7  (s24:List UInt8):Option ((List UInt8)) :=
 some s24
def q5q (r17:(List (List UInt8))):Nat→(List UInt8)→Int→Option ((List UInt8))
 | 0,_,_=>none
 | m2+1,s22,z23 =>
  cond (decide (z23<(r17.length:Int)))
   (cond (decide (z23 > 0))
    (q1i (s22.length+([38]).length≤9223372036854775807) (
    qa4 r17 z23 (q5q r17 m2) (s22++[38])))
    (qa4 r17 z23 (q5q r17 m2) s22))
   (qe7 s22)
def qa5 (z12:Int) (rc1:Int→(List (List UInt8))→Option ((List UInt8))) (l43:List (List UInt8)):Option ((List UInt8)) :=
 rc1 (IntKind.i64.wrap (z12+1)) l43
def qe6 (p1:List q06) (n:Nat) (l15:List (List UInt8)):Option ((List UInt8)) :=
 q04 (q9z n p1 l15) fun r17 =>
 q5q r17 n [] 0
def q5p (p1:List q06) (p2:List (List UInt8)) (p3:List (List Int)) (p4:List Int) (n:Nat):Nat→Int→(List (List UInt8))→Option ((List UInt8))
 | 0,_,_=>none
 | m1+1,z12,l13 =>
  cond (decide (z12<(p2.length:Int)))
   (q04 (q15 p3 z12) fun x33 =>
   q04 (qh7 n x33 p4) fun r35 =>
   cond r35
    (q04 (q15 p2 z12) fun x38 =>
    some x38)
    (q04 (qit n p4 z12) fun r40 =>
    cond r40
     (q04 (q15 p2 z12) fun x45 =>
     q1i ((l13.length+1)*16≤140737488355328∧l13.length+1≤140737488355328) (
     qa5 z12 (q5p p1 p2 p3 p4 n m1) (l13++[x45])))
     (qa5 z12 (q5p p1 p2 p3 p4 n m1) l13)))
   (qe6 p1 n l13)
def qk2 (n:Nat) (p1:List q06) (p2:List (List UInt8)) (p3:List (List Int)) (p4:List Int):Option ((List UInt8)) :=
 q5p p1 p2 p3 p4 n n 0 ([]:List (List UInt8))
theorem qre (n:Nat) (p1:List q06) (p2:List (List UInt8)) (p3:List (List Int)) (p4:List Int) (r:(List UInt8)) (hF:qk2 n p1 p2 p3 p4=some r):EvU Tryz.prog 98 [.isl false (List.map q02 p1),.isl false (List.map cS p2),.isl false (List.map (cL (cI .u64)) p3),.isl false (List.map (cI .u64) p4)] ⟨[],0⟩ (fun u _=>u = .str r∧Bel 0 u):=by
 unfold qk2 at hF
 refine bg4 59 fn98 ?_
 refine gr ?_
 refine gr ?_
 refine gr ?_
 refine WPU.ghost (tm':=fr 59 [(0,.iM q02 p1),(1,.iM cS p2),(2,.iM (cL (cI .u64)) p3),(3,.iM (cI .u64) p4),(9,.vl 0 0 0 (([]:List (List UInt8)).length)),(10,.i6 0)]) (σ':=⟨[(0,.vec (List.map cS ([]:List (List UInt8))).flatten 9 1 0)],1⟩) (Gh.trans (z4n 9 9 1 (by decide) NZ rfl rfl) (z4l ⟨rfl,rfl,rfl,rfl,rfl,rfl,trivial⟩ rfl)) NZ ?_
 refine gS (l':=[(0,_),(1,_),(2,_),(3,_),(9,_),(10,_)]) ?_
 refine z4g (fun m tm σ=>∃ z12:Int,∃ l13:List (List UInt8),∃ t14:Nat,q5p p1 p2 p3 p4 n m z12 l13=some r∧tm=fr 59 [(0,.iM q02 p1),(1,.iM cS p2),(2,.iM (cL (cI .u64)) p3),(3,.iM (cI .u64) p4),(9,.vl 0 t14 0 l13.length),(10,.i6 z12)]∧σ=⟨[(0,.vec (List.map cS l13).flatten 9 1 t14)],1⟩) (fun tm σ=>∃ l15:List (List UInt8),∃ t16:Nat,qe6 p1 n l15=some r∧tm=fr 59 [(0,.iM q02 p1),(9,.vl 0 t16 0 l15.length)]∧σ=⟨[(0,.vec (List.map cS l15).flatten 9 1 t16)],1⟩) n ⟨0,([]:List (List UInt8)),0,hF,rfl,rfl⟩ ?_ ?_
 rintro _ _ ⟨l15,t16,hF,rfl,rfl⟩
 unfold qe6 at hF
 refine gn ?_
 refine WPU.ghost (tm':=fr 59 [(0,.iM q02 p1),(9,.iM cS l15)]) (σ':=⟨[],1⟩) (Gh.trans (Gh.sub (l':=[(0,.iM q02 p1),(9,.vl 0 t16 0 l15.length)]) ⟨rfl,rfl,trivial⟩) (z4z 0 1)) NZ ?_
 obtain ⟨r17,h18,hF⟩:=q00 hF
 refine go ?_
 refine RS.cl rfl (pC (qfc n p1 l15 r17 h18) _) fn131 ?_
 refine go ?_
 refine gS (l':=[(9,_),(11,_),(12,_)]) ?_
 refine z4g (fun m tm σ=>∃ s22:List UInt8,∃ z23:Int,q5q r17 m s22 z23=some r∧tm=fr 59 [(9,.iM cS r17),(11,.str s22),(12,.i6 z23)]∧σ=⟨[],1⟩) (fun tm σ=>∃ s24:List UInt8,qe7 s24=some r∧tm=fr 59 [(11,.str s24)]∧σ=⟨[],1⟩) n ⟨[],0,hF,rfl,rfl⟩ ?_ ?_
 rintro _ _ ⟨s24,hF,rfl,rfl⟩
 unfold qe7 at hF
 exact gx hF
 rintro (_|m2) _ _ ⟨s22,z23,hF,rfl,rfl⟩
 cases hF
 unfold q5q at hF
 refine go ?_
 refine RS.q rfl (q0c rfl rfl rfl (q08 cS und80)) ?_
 refine go ?_
 refine cF hF (fun h25 hF=>?_) (fun h25 hF=>?_)
 refine go ?_
 refine WPU.block ?_
 refine gr ?_
 refine z4h (fun tm σ=>∃ s27:List UInt8,qa4 r17 z23 (q5q r17 m2) s27=some r∧tm=fr 59 [(9,.iM cS r17),(11,.str s27),(12,.i6 z23)]∧σ=⟨[],1⟩) ?_ ?_
 rintro _ _ ⟨s27,hF,rfl,rfl⟩
 unfold qa4 at hF
 obtain ⟨x28,h29,hF⟩:=q00 hF
 obtain ⟨h30,hF⟩:=q0b hF
 refine go ?_
 refine RS.q rfl (q0f rfl rfl (q0a cS und80 (q03 inf9) q1s h29 rfl)) (RS.q rfl (q0d und9 rfl rfl rfl) (RS.q (u:=.str (s27++x28)) rfl (q9m rfl rfl (z2o h30) rfl) ?_))
 refine go ?_
 exact lC ⟨(s27++x28),(IntKind.i64.wrap (z23+1)),hF,rfl,rfl⟩
 refine cF hF (fun h26 hF=>?_) (fun h26 hF=>?_)
 obtain ⟨h31,hF⟩:=q0b hF
 refine go ?_
 refine RS.q (u:=.str (s22++[38])) rfl (q9m rfl rfl (z2o h31) rfl) ?_
 refine go ?_
 exact xC ⟨(s22++[38]),hF,rfl,rfl⟩
 refine go ?_
 exact xC ⟨s22,hF,rfl,rfl⟩
 refine go ?_
 exact xC ⟨s22,hF,rfl,rfl⟩
 rintro (_|m1) _ _ ⟨z12,l13,t14,hF,rfl,rfl⟩
 cases hF
 unfold q5p at hF
 refine go ?_
 refine RS.q rfl (q0c rfl rfl rfl (q08 cS und80)) ?_
 refine go ?_
 refine cF hF (fun h32 hF=>?_) (fun h32 hF=>?_)
 refine go ?_
 refine WPU.block ?_
 obtain ⟨x33,h34,hF⟩:=q00 hF
 obtain ⟨r35,h36,hF⟩:=q00 hF
 refine go ?_
 refine RS.q rfl (q0f rfl rfl (q0a (cL (cI .u64)) und148 (q03 inf103) (q4h (cI .u64)) h34 rfl)) (RS.q rfl (q0d und103 rfl rfl rfl) ?_)
 refine go ?_
 refine RS.cl rfl (pC (qpd n x33 p4 r35 h36) _) fn129 ?_
 refine go ?_
 refine cF hF (fun h37 hF=>?_) (fun h37 hF=>?_)
 obtain ⟨x38,h39,hF⟩:=q00 hF
 refine go ?_
 refine RS.q rfl (q0f rfl rfl (q0a cS und80 (q03 inf9) q1s h39 rfl)) (RS.q rfl (q0d und9 rfl rfl rfl) ?_)
 exact gx hF
 obtain ⟨r40,h41,hF⟩:=q00 hF
 refine go ?_
 refine RS.cl rfl (pC (qmu n p4 z12 r40 h41) _) fn130 ?_
 refine gn ?_
 refine z4h (fun tm σ=>∃ l43:List (List UInt8),∃ t44:Nat,qa5 z12 (q5p p1 p2 p3 p4 n m1) l43=some r∧tm=fr 59 [(0,.iM q02 p1),(1,.iM cS p2),(2,.iM (cL (cI .u64)) p3),(3,.iM (cI .u64) p4),(9,.vl 0 t44 0 l43.length),(10,.i6 z12)]∧σ=⟨[(0,.vec (List.map cS l43).flatten 9 1 t44)],1⟩) ?_ ?_
 rintro _ _ ⟨l43,t44,hF,rfl,rfl⟩
 unfold qa5 at hF
 refine go ?_
 exact lC ⟨_,l43,t44,hF,rfl,rfl⟩
 refine cF hF (fun h42 hF=>?_) (fun h42 hF=>?_)
 obtain ⟨x45,h46,hF⟩:=q00 hF
 obtain ⟨h47,hF⟩:=q0b hF
 refine go ?_
 refine RS.q rfl (q0f rfl rfl (q0a cS und80 (q03 inf9) q1s h46 rfl)) (RS.q rfl (q0d und9 rfl rfl rfl) (RS.q (u:=.sl 1 0 1 1) (σ':=⟨[(1,.row [.str x45] 9),(0,.vec (List.map cS l13).flatten 9 1 t14)],2⟩) rfl (q0j und80 inf9 rfl rfl rfl rfl rfl rfl rfl) (RS.q (u:=.vl 0 (t14+1) 0 ((l13++[x45]).length)) (σ':=⟨[(1,.row [.str x45] 9),(0,.vec (List.map cS (l13++[x45])).flatten 9 1 (t14+1))],2⟩) rfl (q1u rfl rfl rfl rfl (q2a cS ([x45]) und80 und80 inf9 rfl q1s rfl (q1q cS [x45] rfl rfl rfl rfl) h47)) ?_)))
 refine go ?_
 exact xC ⟨(l13++[x45]),(t14+1),hF,rfl,rfl⟩
 refine go ?_
 exact xC ⟨l13,t14,hF,rfl,rfl⟩
 refine go ?_
 exact xC ⟨l13,t14,hF,rfl,rfl⟩
def q9x (z6:Int) (rc1:Int→(List Int)→Option ((List Int))) (l15:List Int):Option ((List Int)) :=
 rc1 (IntKind.i64.wrap (z6+1)) l15
def qdy  (l9:List Int):Option ((List Int)) :=
 some l9
def q5l (p1:List Int) (n:Nat):Nat→Int→(List Int)→Option ((List Int))
 | 0,_,_=>none
 | m1+1,z6,l7 =>
  cond (decide (z6<(IntKind.i64.wrap (64*(p1.length:Int)))))
   (q04 (qit n p1 z6) fun r12 =>
   cond r12
    (q1i ((l7.length+1)*8≤140737488355328∧l7.length+1≤140737488355328) (
    q9x z6 (q5l p1 n m1) (l7++[z6])))
    (q9x z6 (q5l p1 n m1) l7))
   (qdy l7)
def qjz (n:Nat) (p1:List Int):Option ((List Int)) :=
 q5l p1 n n 0 ([]:List Int)
theorem qrb (n:Nat) (p1:List Int) (r:(List Int)) (hF:qjz n p1=some r):EvU Tryz.prog 152 [.isl false (List.map (cI .u64) p1)] ⟨[],0⟩ (fun u _=>u = .isl false (List.map (cI .i64) r)∧Bel 0 u):=by
 unfold qjz at hF
 refine bg1 20 fn152 ?_
 refine gr ?_
 refine gr ?_
 refine gr ?_
 refine WPU.ghost (tm':=fr 20 [(0,.iM (cI .u64) p1),(3,.vl 0 0 0 (([]:List Int).length)),(4,.i6 0)]) (σ':=⟨[(0,.vec (List.map (cI .i64) ([]:List Int)).flatten 3 1 0)],1⟩) (Gh.trans (z4n 3 3 1 (by decide) NZ rfl rfl) (z4l ⟨rfl,rfl,rfl,trivial⟩ rfl)) NZ ?_
 refine gS (l':=[(0,_),(3,_),(4,_)]) ?_
 refine z4g (fun m tm σ=>∃ z6:Int,∃ l7:List Int,∃ t8:Nat,q5l p1 n m z6 l7=some r∧tm=fr 20 [(0,.iM (cI .u64) p1),(3,.vl 0 t8 0 l7.length),(4,.i6 z6)]∧σ=⟨[(0,.vec (List.map (cI .i64) l7).flatten 3 1 t8)],1⟩) (fun tm σ=>∃ l9:List Int,∃ t10:Nat,qdy l9=some r∧tm=fr 20 [(3,.vl 0 t10 0 l9.length)]∧σ=⟨[(0,.vec (List.map (cI .i64) l9).flatten 3 1 t10)],1⟩) n ⟨0,([]:List Int),0,hF,rfl,rfl⟩ ?_ ?_
 rintro _ _ ⟨l9,t10,hF,rfl,rfl⟩
 unfold qdy at hF
 refine go ?_
 obtain rfl:=sI hF
 exact rT (us:=[.vl 0 t10 0 l9.length]) (u:=.iM (cI .i64) l9) (q2o rfl (q2g)) (fR 0 1)
 rintro (_|m1) _ _ ⟨z6,l7,t8,hF,rfl,rfl⟩
 cases hF
 unfold q5l at hF
 refine go ?_
 refine RS.q rfl (q0c rfl rfl rfl (q08 (cI .u64) und103)) ?_
 refine go ?_
 refine cF hF (fun h11 hF=>?_) (fun h11 hF=>?_)
 refine go ?_
 refine WPU.block ?_
 obtain ⟨r12,h13,hF⟩:=q00 hF
 refine go ?_
 refine RS.cl rfl (pC (qmu n p1 z6 r12 h13) _) fn130 ?_
 refine gn ?_
 refine z4h (fun tm σ=>∃ l15:List Int,∃ t16:Nat,q9x z6 (q5l p1 n m1) l15=some r∧tm=fr 20 [(0,.iM (cI .u64) p1),(3,.vl 0 t16 0 l15.length),(4,.i6 z6)]∧σ=⟨[(0,.vec (List.map (cI .i64) l15).flatten 3 1 t16)],1⟩) ?_ ?_
 rintro _ _ ⟨l15,t16,hF,rfl,rfl⟩
 unfold q9x at hF
 refine go ?_
 exact lC ⟨_,l15,t16,hF,rfl,rfl⟩
 refine cF hF (fun h14 hF=>?_) (fun h14 hF=>?_)
 obtain ⟨h17,hF⟩:=q0b hF
 refine go ?_
 refine RS.q (u:=.sl 1 0 1 1) (σ':=⟨[(1,.row [.i6 z6] 3),(0,.vec (List.map (cI .i64) l7).flatten 3 1 t8)],2⟩) rfl (q0j und33 inf3 rfl rfl rfl rfl rfl rfl rfl) (RS.q (u:=.vl 0 (t8+1) 0 ((l7++[z6]).length)) (σ':=⟨[(1,.row [.i6 z6] 3),(0,.vec (List.map (cI .i64) (l7++[z6])).flatten 3 1 (t8+1))],2⟩) rfl (q1u rfl rfl rfl rfl (q2a (cI .i64) ([z6]) und33 und33 inf3 rfl (q18 .i64) rfl (q1q (cI .i64) [z6] rfl rfl rfl rfl) h17)) ?_)
 refine go ?_
 exact xC ⟨(l7++[z6]),(t8+1),hF,rfl,rfl⟩
 refine go ?_
 exact xC ⟨l7,t8,hF,rfl,rfl⟩
 refine go ?_
 exact xC ⟨l7,t8,hF,rfl,rfl⟩
def qdx (n:Nat) (p1:List Int):Option (Int) :=
 q04 (qjz n p1) fun r2 =>
 some (r2.length:Int)
theorem qis (n:Nat) (p1:List Int) (r:Int) (hF:qdx n p1=some r):EvU Tryz.prog 132 [.isl false (List.map (cI .u64) p1)] ⟨[],0⟩ (fun u _=>u = .int .i64 r∧Bel 0 u):=by
 unfold qdx at hF
 refine bg1 6 fn132 ?_
 obtain ⟨r2,h3,hF⟩:=q00 hF
 refine go ?_
 refine RS.cl rfl (pC (qrb n p1 r2 h3) _) fn152 (RS.q rfl (q0c rfl rfl rfl (q08 (cI .i64) und33)) ?_)
 exact gx hF
def qfh (n:Nat) (p1:q13) (p2:q13):Option (Bool) :=
 q04 (qdx n p1.Code) fun r3 =>
 q04 (qdx n p2.Code) fun r5 =>
 q04 (cond (decide (r3 > r5))
  (some true)
  (cond (r3 == r5)
   (some (q6j p1.Name p2.Name))
   (some false))) fun b9 =>
 some b9
theorem qnr (n:Nat) (p1:q13) (p2:q13) (r:Bool) (hF:qfh n p1 p2=some r):EvU Tryz.prog 99 [.agg (q0h p1),.agg (q0h p2)] ⟨[],0⟩ (fun u _=>u = .bool r∧Bel 0 u):=by
 unfold qfh at hF
 refine bg2 28 fn99 ?_
 refine go ?_
 refine RS.q (u:=.ptr 0 0 0) (σ':=⟨[(0,.row (q0h p1) 105)],1⟩) rfl (q2p rfl rfl rfl) (RS.q (u:=.ptr 1 0 0) (σ':=⟨[(1,.row (q0h p2) 105),(0,.row (q0h p1) 105)],2⟩) rfl (q2p rfl rfl rfl) ?_)
 obtain ⟨r3,h4,hF⟩:=q00 hF
 refine go ?_
 refine RS.q rfl (q0w und105 rfl (q03 inf103) rfl rfl rfl) (RS.q rfl (q0i und103 rfl rfl rfl rfl) (RS.cl rfl (pC (qis n p1.Code r3 h4) _) fn132 ?_))
 obtain ⟨r5,h6,hF⟩:=q00 hF
 refine go ?_
 refine RS.q rfl (q0w und105 rfl (q03 inf103) rfl rfl rfl) (RS.q rfl (q0i und103 rfl rfl rfl rfl) (RS.cl rfl (pC (qis n p2.Code r5 h6) _) fn132 ?_))
 obtain ⟨b9,h10,hF⟩:=q00 hF
 refine gn ?_
 refine z4h (fun tm σ=>tm=fr 28 [(4,.bool b9)]∧σ=⟨[(1,.row (q0h p2) 105),(0,.row (q0h p1) 105)],2⟩) ?_ ?_
 rintro _ _ ⟨rfl,rfl⟩
 exact gx hF
 rcases gB h10 with ⟨h7,h10⟩ | ⟨h7,h10⟩
 obtain rfl:=sI h10
 refine go ?_
 repeat refine RS.no (qn7 rfl rfl rfl) rfl rfl ?_
 refine go ?_
 exact xC ⟨rfl,rfl⟩
 rcases gB h10 with ⟨h8,h10⟩ | ⟨h8,h10⟩
 obtain rfl:=sI h10
 refine go ?_
 refine RS.w rfl (q0w und105 rfl (q03 inf9) rfl rfl rfl) (RS.w rfl (q0i und9 rfl rfl rfl rfl) (RS.w rfl (q0w und105 rfl (q03 inf9) rfl rfl rfl) (RS.w rfl (q0i und9 rfl rfl rfl rfl) (RS.w (u:=.bool (q6j p1.Name p2.Name)) rfl (q9m rfl rfl rfl rfl) ?_))))
 refine go ?_
 exact xC ⟨rfl,rfl⟩
 exact gy h10
def qc8 (z27:Int) (l28:List q13) (rc2:Int→(List q13)→Option ((List q13)×Int)) (r35:(List UInt8)) (x37:List Int) (z50:Int):Option ((List q13)×Int) :=
 q1i ((0:Int)≤z50∧z50≤((l28.length:Nat):Int)) (
 q1i (0+z50.toNat≤l28.length) (
 q1i (((l28.drop 0).take z50.toNat).length*40≤140737488355328∧((l28.drop 0).take z50.toNat).length≤140737488355328) (
 q1i ((((l28.drop 0).take z50.toNat).length+1)*40≤140737488355328∧((l28.drop 0).take z50.toNat).length+1≤140737488355328) (
 q1i ((0:Int)≤z50∧z50≤((l28.length:Nat):Int)) (
 q1i ((0+z50.toNat)+(l28.length - z50.toNat)≤l28.length) (
 q1i (((((l28.drop 0).take z50.toNat)++[(q13.mk r35 x37)]).length+((l28.drop (0+z50.toNat)).take (l28.length - z50.toNat)).length)*40≤140737488355328∧(((l28.drop 0).take z50.toNat)++[(q13.mk r35 x37)]).length+((l28.drop (0+z50.toNat)).take (l28.length - z50.toNat)).length≤140737488355328) (
 rc2 (IntKind.i64.wrap (z27+1)) ((((l28.drop 0).take z50.toNat)++[(q13.mk r35 x37)])++((l28.drop (0+z50.toNat)).take (l28.length - z50.toNat))))))))))
def q8m (n:Nat) (z27:Int) (l28:List q13) (rc2:Int→(List q13)→Option ((List q13)×Int)) (r35:(List UInt8)) (x37:List Int):Nat→Int→Option ((List q13)×Int)
 | 0,_=>none
 | m3+1,z49 =>
  q04 (cond (decide (z49 > 0))
   (q04 (q15 l28 (IntKind.i64.wrap (z49 - 1))) fun x59 =>
   q04 (qfh n (q13.mk r35 x37) x59) fun r61 =>
   some r61)
   (some false)) fun b63 =>
  cond b63
   ((q8m n z27 l28 rc2 r35 x37 m3) (IntKind.i64.wrap (z49 - 1)))
   (qc8 z27 l28 rc2 r35 x37 z49)
def qc7  (l30:List q13):Option ((List q13)×Int) :=
 some (l30,0)
def q4t (p1:List q06) (n:Nat) (r5:(List (List UInt8))) (l15:List (List Int)) (r17:(List (List Int))):Nat→Int→(List q13)→Option ((List q13)×Int)
 | 0,_,_=>none
 | m2+1,z27,l28 =>
  cond (decide (z27<(r17.length:Int)))
   (q04 (q15 r17 z27) fun x33 =>
   q04 (qk2 n p1 r5 l15 x33) fun r35 =>
   q04 (q15 r17 z27) fun x37 =>
   q8m n z27 l28 (q4t p1 n r5 l15 r17 m2) r35 x37 n (l28.length:Int))
   (qc7 l28)
def qc6 (p1:List q06) (n:Nat) (r5:(List (List UInt8))) (l15:List (List Int)):Option ((List q13)×Int) :=
 q04 (qfi n l15) fun r17 =>
 cond (decide ((r17.length:Int) > 256))
  (some ([],7))
  (q4t p1 n r5 l15 r17 n 0 ([]:List q13))
def q8l (p1:List q06) (n:Nat) (r5:(List (List UInt8))):Nat→Int→(List (List Int))→Option ((List q13)×Int)
 | 0,_,_=>none
 | m1+1,z12,l13 =>
  cond (decide (z12<(r5.length:Int)))
   (q04 (q15 r5 z12) fun x67 =>
   q04 (qk1 n p1 r5 x67) fun r69 =>
   q1i ((l13.length+1)*24≤140737488355328∧l13.length+1≤140737488355328) (
   (q8l p1 n r5 m1) (IntKind.i64.wrap (z12+1)) (l13++[r69])))
   (qc6 p1 n r5 l13)
def q7x (n:Nat) (p1:List q06):Option ((List q13)×Int) :=
 q04 (qhc n p1) fun r2 =>
 cond (r2 != 0)
  (some ([],r2))
  (q04 (qe1 n p1) fun r5 =>
  q8l p1 n r5 n 0 ([]:List (List Int)))
end Go.Proofs
end
