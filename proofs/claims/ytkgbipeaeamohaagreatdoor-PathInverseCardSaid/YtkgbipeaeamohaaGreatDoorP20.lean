/-
  Texts of the walk: H4 PlA MpA H5 H6 H7 H11 H9 H10 Q1 Q4.
-/
import Derived.Test.YtkgbipeaeamohaaGreatDoorP19
set_option linter.unusedSimpArgs false
set_option linter.unusedVariables false
section
namespace Go.Proofs
open Go Go.Rx Go.Vx Tryz
set_option maxRecDepth 20000
set_option maxHeartbeats 4000000
set_option synthInstance.maxSize 4000
set_option synthInstance.maxHeartbeats 200000
theorem q9n (n:Nat)  (r:Bool) (hF:q2h n  = some r):EvU Tryz.prog 13 [] ⟨[],0⟩ (fun u _=>u = .bool r∧Bel 0 u):=by
 unfold q2h at hF
 refine bg0 122 fn13 ?_
 obtain ⟨r1,h2,hF⟩:=q00 hF
 obtain ⟨r3,h4,hF⟩:=q00 hF
 obtain ⟨r5,h6,hF⟩:=q00 hF
 obtain ⟨r7,h8,hF⟩:=q00 hF
 refine go ?_
 refine RS.g ?_
 refine z6v rfl (z6r 0 1) (pC (q0n n 1 ([0,1,1,2]) r1 h2) _) fn44 ?_
 refine RS.g ?_
 refine z6v rfl (z6r 1 1) (pC (q0n n 3 ([0,2]) r3 h4) _) fn44 (RS.cl rfl (z6x (args':=[.i6 2,.isl false []]) (.cons (.refl _) (.cons (.nil false) .nil)) (pC (q0n n 2 [] r5 h6)) _) fn44 (RS.q (u:=.sl 2 0 3 3) (σ':=⟨[(2,.row [.i6 r1.Typex,.iM q08 r1.Arcs,.i6 r3.Typex,.iM q08 r3.Arcs,.i6 r5.Typex,.iM q08 r5.Arcs] 54)],3⟩) rfl (q7q un22.h if54.h rfl rfl rfl rfl rfl rfl rfl) (z6v rfl (z6r 2 2) (pC (q6n n ([r1,r3,r5]) r7 h8) _) fn43 ?_)))
 obtain ⟨b27,h28,hF⟩:=q00 hF
 refine gn ?_
 refine z6p (fun tm σ=>tm=fr 122 [(1,.ptr 3 0 0),(48,.bool b27)]∧σ=⟨[(6,.row [.nils,.sl 4 0 1 1,.sl 5 0 1 1] 33),(5,.row [.i6 1] 3),(4,.row [.i6 0] 3),(3,.row [.iM q02 r7.Nodes] 24)],7⟩) ?_ ?_
 rintro _ _ ⟨rfl,rfl⟩
 refine go ?_
 refine cF hF (fun h29 hF=>?_) (fun h29 hF=>?_)
 exact gx hF
 obtain ⟨r30,h31,hF⟩:=q00 hF
 refine go ?_
 refine RS.g ?_
 refine RS.cl rfl (EvU.viewT (qtr n r7 ([0,0]) r30 h31) BUL.h (by simp only [toV,qp4,okL,okC,zC]<;>rfl) (fun m=>by simp [ren,q0m]) (z6r 7 1)) fn36 ?_
 obtain ⟨r32,h33,hF⟩:=q00 hF
 refine go ?_
 refine RS.g ?_
 refine RS.cl rfl (EvU.viewT (qn5 n r7 ([0,1]) r32 h33) BUL.h (by simp only [toV,qp4,okL,okC,zC]<;>rfl) (fun m=>by simp [ren,q0m]) (z6r 8 1)) fn30 ?_
 obtain ⟨r34,h35,hF⟩:=q00 hF
 refine go ?_
 refine RS.cl rfl (pC (qmt n r34 h35) _) fn31 ?_
 obtain ⟨r36,h37,hF⟩:=q00 hF
 refine go ?_
 refine RS.cl rfl (pC (qfk n r34 ([82,69,83,84,46,70,73,82,83,84]) r36 h37) _) fn26 ?_
 obtain ⟨r38,h39,hF⟩:=q00 hF
 refine go ?_
 refine RS.cl rfl (pC (qfk n r34 ([70,46]) r38 h39) _) fn26 ?_
 obtain ⟨r40,h41,hF⟩:=q00 hF
 refine go ?_
 refine RS.cl rfl (pC (qfk n r34 ([70,73,82,83,84,46,71]) r40 h41) _) fn26 ?_
 obtain ⟨b68,h69,hF⟩:=q00 hF
 refine gn ?_
 refine z6p (fun tm σ=>tm=fr 122 [(0,.bool b68)]∧σ=⟨[(9,.row (q0h r34) 43),(8,.row [.i6 0,.i6 1] 3),(7,.row [.i6 0,.i6 0] 3),(6,.row [.nils,.sl 4 0 1 1,.sl 5 0 1 1] 33),(5,.row [.i6 1] 3),(4,.row [.i6 0] 3),(3,.row [.iM q02 r7.Nodes] 24)],10⟩) ?_ ?_
 rintro _ _ ⟨rfl,rfl⟩
 exact gx hF
 rcases gB h69 with ⟨h42,h69⟩ | ⟨h42,h69⟩
 rcases gB h69 with ⟨h43,h69⟩ | ⟨h43,h69⟩
 rcases gB h69 with ⟨h44,h69⟩ | ⟨h44,h69⟩
 obtain ⟨r45,h46,h69⟩:=q00 h69
 obtain ⟨r47,h48,h69⟩:=q00 h69
 obtain ⟨r49,h50,h69⟩:=q00 h69
 obtain ⟨r51,h52,h69⟩:=q00 h69
 obtain ⟨r53,h54,h69⟩:=q00 h69
 obtain ⟨r55,h56,h69⟩:=q00 h69
 obtain ⟨r57,h58,h69⟩:=q00 h69
 rcases gB h69 with ⟨h59,h69⟩ | ⟨h59,h69⟩
 rcases gB h69 with ⟨h60,h69⟩ | ⟨h60,h69⟩
 obtain ⟨r61,h62,h69⟩:=q00 h69
 rcases gB h69 with ⟨h63,h69⟩ | ⟨h63,h69⟩
 obtain ⟨r64,h65,h69⟩:=q00 h69
 rcases gB h69 with ⟨h66,h69⟩ | ⟨h66,h69⟩
 rcases gB h69 with ⟨h67,h69⟩ | ⟨h67,h69⟩
 obtain rfl:=sI h69
 refine go ?_
 refine RS.g ?_
 refine RS.cl rfl (pC (q6s n 7 r45 h46) _) fn45 (z6v rfl (z6r 10 1) (pC (q51 n ([3,4]) r45 r47 h48) _) fn22 ?_)
 refine RS.g ?_
 refine z6v rfl (z6r 11 1) (pC (q0n n 0 ([3,1]) r49 h50) _) fn44 ?_
 refine RS.g ?_
 refine z6v rfl (z6r 12 1) (pC (q0n n 0 ([4,2]) r51 h52) _) fn44 (RS.cl rfl (z6x (args':=[.i6 7,.isl false []]) (.cons (.refl _) (.cons (.nil false) .nil)) (pC (q0n n 7 [] r53 h54)) _) fn44 (RS.w (u:=.sl 13 0 3 3) (σ':=⟨[(13,.row [.i6 r49.Typex,.iM q08 r49.Arcs,.i6 r51.Typex,.iM q08 r51.Arcs,.i6 r53.Typex,.iM q08 r53.Arcs] 54),(9,.row (q0h r34) 43),(8,.row [.i6 0,.i6 1] 3),(7,.row [.i6 0,.i6 0] 3),(6,.row [.nils,.sl 4 0 1 1,.sl 5 0 1 1] 33),(5,.row [.i6 1] 3),(4,.row [.i6 0] 3),(3,.row [.iM q02 r7.Nodes] 24)],14⟩) rfl (q7q un22.h if54.h rfl rfl rfl rfl rfl rfl rfl) (z6v rfl (z6r 13 2) (pC (q6n n ([r49,r51,r53]) r55 h56) _) fn43 (RS.cl rfl (pC (q0v n r47 r55 r57 h58) _) fn21 ?_))))
 refine go ?_
 refine RS.g ?_
 refine RS.cl rfl (vw (q46 n r36.1 ([10,2]) r61 h62) (z6r 14 1)) fn28 ?_
 refine go ?_
 refine RS.cl rfl (pC (qfl n r34 r36.1 r64 h65) _) fn25 (RS.w (u:=.bool (q1e r64 ([82,69,83,84,46,70,73,82,83,84]))) rfl (q9o rfl rfl rfl rfl) ?_)
 refine go ?_
 exact xC ⟨rfl,rfl⟩
 obtain rfl:=sI h69
 refine go ?_
 refine RS.g ?_
 refine RS.cl rfl (pC (q6s n 7 r45 h46) _) fn45 (z6v rfl (z6r 10 1) (pC (q51 n ([3,4]) r45 r47 h48) _) fn22 ?_)
 refine RS.g ?_
 refine z6v rfl (z6r 11 1) (pC (q0n n 0 ([3,1]) r49 h50) _) fn44 ?_
 refine RS.g ?_
 refine z6v rfl (z6r 12 1) (pC (q0n n 0 ([4,2]) r51 h52) _) fn44 (RS.cl rfl (z6x (args':=[.i6 7,.isl false []]) (.cons (.refl _) (.cons (.nil false) .nil)) (pC (q0n n 7 [] r53 h54)) _) fn44 (RS.w (u:=.sl 13 0 3 3) (σ':=⟨[(13,.row [.i6 r49.Typex,.iM q08 r49.Arcs,.i6 r51.Typex,.iM q08 r51.Arcs,.i6 r53.Typex,.iM q08 r53.Arcs] 54),(9,.row (q0h r34) 43),(8,.row [.i6 0,.i6 1] 3),(7,.row [.i6 0,.i6 0] 3),(6,.row [.nils,.sl 4 0 1 1,.sl 5 0 1 1] 33),(5,.row [.i6 1] 3),(4,.row [.i6 0] 3),(3,.row [.iM q02 r7.Nodes] 24)],14⟩) rfl (q7q un22.h if54.h rfl rfl rfl rfl rfl rfl rfl) (z6v rfl (z6r 13 2) (pC (q6n n ([r49,r51,r53]) r55 h56) _) fn43 (RS.cl rfl (pC (q0v n r47 r55 r57 h58) _) fn21 ?_))))
 refine go ?_
 refine RS.g ?_
 refine RS.cl rfl (vw (q46 n r36.1 ([10,2]) r61 h62) (z6r 14 1)) fn28 ?_
 refine go ?_
 refine RS.cl rfl (pC (qfl n r34 r36.1 r64 h65) _) fn25 (RS.w (u:=.bool (q1e r64 ([82,69,83,84,46,70,73,82,83,84]))) rfl (q9o rfl rfl rfl rfl) ?_)
 refine go ?_
 exact xC ⟨rfl,rfl⟩
 obtain rfl:=sI h69
 refine go ?_
 refine RS.g ?_
 refine RS.cl rfl (pC (q6s n 7 r45 h46) _) fn45 (z6v rfl (z6r 10 1) (pC (q51 n ([3,4]) r45 r47 h48) _) fn22 ?_)
 refine RS.g ?_
 refine z6v rfl (z6r 11 1) (pC (q0n n 0 ([3,1]) r49 h50) _) fn44 ?_
 refine RS.g ?_
 refine z6v rfl (z6r 12 1) (pC (q0n n 0 ([4,2]) r51 h52) _) fn44 (RS.cl rfl (z6x (args':=[.i6 7,.isl false []]) (.cons (.refl _) (.cons (.nil false) .nil)) (pC (q0n n 7 [] r53 h54)) _) fn44 (RS.w (u:=.sl 13 0 3 3) (σ':=⟨[(13,.row [.i6 r49.Typex,.iM q08 r49.Arcs,.i6 r51.Typex,.iM q08 r51.Arcs,.i6 r53.Typex,.iM q08 r53.Arcs] 54),(9,.row (q0h r34) 43),(8,.row [.i6 0,.i6 1] 3),(7,.row [.i6 0,.i6 0] 3),(6,.row [.nils,.sl 4 0 1 1,.sl 5 0 1 1] 33),(5,.row [.i6 1] 3),(4,.row [.i6 0] 3),(3,.row [.iM q02 r7.Nodes] 24)],14⟩) rfl (q7q un22.h if54.h rfl rfl rfl rfl rfl rfl rfl) (z6v rfl (z6r 13 2) (pC (q6n n ([r49,r51,r53]) r55 h56) _) fn43 (RS.cl rfl (pC (q0v n r47 r55 r57 h58) _) fn21 ?_))))
 refine go ?_
 refine RS.g ?_
 refine RS.cl rfl (vw (q46 n r36.1 ([10,2]) r61 h62) (z6r 14 1)) fn28 ?_
 refine go ?_
 refine RS.cl rfl (pC (qfl n r34 r36.1 r64 h65) _) fn25 (RS.w (u:=.bool (q1e r64 ([82,69,83,84,46,70,73,82,83,84]))) rfl (q9o rfl rfl rfl rfl) ?_)
 refine go ?_
 exact xC ⟨rfl,rfl⟩
 obtain rfl:=sI h69
 refine go ?_
 refine RS.g ?_
 refine RS.cl rfl (pC (q6s n 7 r45 h46) _) fn45 (z6v rfl (z6r 10 1) (pC (q51 n ([3,4]) r45 r47 h48) _) fn22 ?_)
 refine RS.g ?_
 refine z6v rfl (z6r 11 1) (pC (q0n n 0 ([3,1]) r49 h50) _) fn44 ?_
 refine RS.g ?_
 refine z6v rfl (z6r 12 1) (pC (q0n n 0 ([4,2]) r51 h52) _) fn44 (RS.cl rfl (z6x (args':=[.i6 7,.isl false []]) (.cons (.refl _) (.cons (.nil false) .nil)) (pC (q0n n 7 [] r53 h54)) _) fn44 (RS.w (u:=.sl 13 0 3 3) (σ':=⟨[(13,.row [.i6 r49.Typex,.iM q08 r49.Arcs,.i6 r51.Typex,.iM q08 r51.Arcs,.i6 r53.Typex,.iM q08 r53.Arcs] 54),(9,.row (q0h r34) 43),(8,.row [.i6 0,.i6 1] 3),(7,.row [.i6 0,.i6 0] 3),(6,.row [.nils,.sl 4 0 1 1,.sl 5 0 1 1] 33),(5,.row [.i6 1] 3),(4,.row [.i6 0] 3),(3,.row [.iM q02 r7.Nodes] 24)],14⟩) rfl (q7q un22.h if54.h rfl rfl rfl rfl rfl rfl rfl) (z6v rfl (z6r 13 2) (pC (q6n n ([r49,r51,r53]) r55 h56) _) fn43 (RS.cl rfl (pC (q0v n r47 r55 r57 h58) _) fn21 ?_))))
 refine go ?_
 refine RS.g ?_
 refine RS.cl rfl (vw (q46 n r36.1 ([10,2]) r61 h62) (z6r 14 1)) fn28 ?_
 refine go ?_
 exact xC ⟨rfl,rfl⟩
 obtain rfl:=sI h69
 refine go ?_
 refine RS.g ?_
 refine RS.cl rfl (pC (q6s n 7 r45 h46) _) fn45 (z6v rfl (z6r 10 1) (pC (q51 n ([3,4]) r45 r47 h48) _) fn22 ?_)
 refine RS.g ?_
 refine z6v rfl (z6r 11 1) (pC (q0n n 0 ([3,1]) r49 h50) _) fn44 ?_
 refine RS.g ?_
 refine z6v rfl (z6r 12 1) (pC (q0n n 0 ([4,2]) r51 h52) _) fn44 (RS.cl rfl (z6x (args':=[.i6 7,.isl false []]) (.cons (.refl _) (.cons (.nil false) .nil)) (pC (q0n n 7 [] r53 h54)) _) fn44 (RS.w (u:=.sl 13 0 3 3) (σ':=⟨[(13,.row [.i6 r49.Typex,.iM q08 r49.Arcs,.i6 r51.Typex,.iM q08 r51.Arcs,.i6 r53.Typex,.iM q08 r53.Arcs] 54),(9,.row (q0h r34) 43),(8,.row [.i6 0,.i6 1] 3),(7,.row [.i6 0,.i6 0] 3),(6,.row [.nils,.sl 4 0 1 1,.sl 5 0 1 1] 33),(5,.row [.i6 1] 3),(4,.row [.i6 0] 3),(3,.row [.iM q02 r7.Nodes] 24)],14⟩) rfl (q7q un22.h if54.h rfl rfl rfl rfl rfl rfl rfl) (z6v rfl (z6r 13 2) (pC (q6n n ([r49,r51,r53]) r55 h56) _) fn43 (RS.cl rfl (pC (q0v n r47 r55 r57 h58) _) fn21 ?_))))
 refine go ?_
 exact xC ⟨rfl,rfl⟩
 obtain rfl:=sI h69
 refine go ?_
 refine RS.g ?_
 refine RS.cl rfl (pC (q6s n 7 r45 h46) _) fn45 (z6v rfl (z6r 10 1) (pC (q51 n ([3,4]) r45 r47 h48) _) fn22 ?_)
 refine RS.g ?_
 refine z6v rfl (z6r 11 1) (pC (q0n n 0 ([3,1]) r49 h50) _) fn44 ?_
 refine RS.g ?_
 refine z6v rfl (z6r 12 1) (pC (q0n n 0 ([4,2]) r51 h52) _) fn44 (RS.cl rfl (z6x (args':=[.i6 7,.isl false []]) (.cons (.refl _) (.cons (.nil false) .nil)) (pC (q0n n 7 [] r53 h54)) _) fn44 (RS.w (u:=.sl 13 0 3 3) (σ':=⟨[(13,.row [.i6 r49.Typex,.iM q08 r49.Arcs,.i6 r51.Typex,.iM q08 r51.Arcs,.i6 r53.Typex,.iM q08 r53.Arcs] 54),(9,.row (q0h r34) 43),(8,.row [.i6 0,.i6 1] 3),(7,.row [.i6 0,.i6 0] 3),(6,.row [.nils,.sl 4 0 1 1,.sl 5 0 1 1] 33),(5,.row [.i6 1] 3),(4,.row [.i6 0] 3),(3,.row [.iM q02 r7.Nodes] 24)],14⟩) rfl (q7q un22.h if54.h rfl rfl rfl rfl rfl rfl rfl) (z6v rfl (z6r 13 2) (pC (q6n n ([r49,r51,r53]) r55 h56) _) fn43 (RS.cl rfl (pC (q0v n r47 r55 r57 h58) _) fn21 ?_))))
 refine go ?_
 exact xC ⟨rfl,rfl⟩
 exact gy h69
 exact gy h69
 exact gy h69
 obtain ⟨r9,h10,h28⟩:=q00 h28
 obtain ⟨r11,h12,h28⟩:=q00 h28
 rcases gB h28 with ⟨h13,h28⟩ | ⟨h13,h28⟩
 obtain rfl:=sI h28
 refine go ?_
 refine RS.cl rfl (pC (qbj n r7 r9 h10) _) fn15 ?_
 refine RS.g ?_
 refine RS.g ?_
 refine RS.g ?_
 refine RS.cl rfl (vw (q7v n r9 ([[],[0],[1]]) r11 h12) (Gh.trans (z6r 4 1) (Gh.trans (z6r 5 1) (Gh.trans (z7g 6) (z6r 6 1))))) fn14 ?_
 refine go ?_
 exact xC ⟨rfl,rfl⟩
 obtain ⟨r14,h15,h28⟩:=q00 h28
 obtain ⟨r16,h17,h28⟩:=q00 h28
 rcases gB h28 with ⟨h18,h28⟩ | ⟨h18,h28⟩
 obtain rfl:=sI h28
 refine go ?_
 refine RS.cl rfl (pC (qbj n r7 r9 h10) _) fn15 ?_
 refine RS.g ?_
 refine RS.g ?_
 refine RS.g ?_
 refine RS.cl rfl (vw (q7v n r9 ([[],[0],[1]]) r11 h12) (Gh.trans (z6r 4 1) (Gh.trans (z6r 5 1) (Gh.trans (z7g 6) (z6r 6 1))))) fn14 ?_
 refine go ?_
 refine RS.cl rfl (pC (qdy n r7 r14 h15) _) fn18 ?_
 refine RS.g ?_
 refine RS.g ?_
 refine go ?_
 refine RS.g ?_
 refine RS.cl rfl (vw (q7k n r14 ([(q0g.mk ([1]) ([0,0]))]) r16 h17) (Gh.trans (z6r 7 1) (Gh.trans (z6r 8 1) (z6r 9 2)))) fn17 ?_
 refine go ?_
 exact xC ⟨rfl,rfl⟩
 obtain ⟨r19,h20,h28⟩:=q00 h28
 obtain ⟨r21,h22,h28⟩:=q00 h28
 obtain ⟨r23,h24,h28⟩:=q00 h28
 obtain ⟨r25,h26,h28⟩:=q00 h28
 obtain rfl:=sI h28
 refine go ?_
 refine RS.cl rfl (pC (qbj n r7 r9 h10) _) fn15 ?_
 refine RS.g ?_
 refine RS.g ?_
 refine RS.g ?_
 refine RS.cl rfl (vw (q7v n r9 ([[],[0],[1]]) r11 h12) (Gh.trans (z6r 4 1) (Gh.trans (z6r 5 1) (Gh.trans (z7g 6) (z6r 6 1))))) fn14 ?_
 refine go ?_
 refine RS.cl rfl (pC (qdy n r7 r14 h15) _) fn18 ?_
 refine RS.g ?_
 refine RS.g ?_
 refine go ?_
 refine RS.g ?_
 refine RS.cl rfl (vw (q7k n r14 ([(q0g.mk ([1]) ([0,0]))]) r16 h17) (Gh.trans (z6r 7 1) (Gh.trans (z6r 8 1) (z6r 9 2)))) fn17 ?_
 refine go ?_
 refine RS.g ?_
 refine z6v rfl (z6r 10 1) (pC (q0n n 1 ([5,0]) r19 h20) _) fn44 (RS.w (u:=.sl 11 0 1 1) (σ':=⟨[(11,.row (q02 r19) 54),(9,.row [.sl 7 0 1 1,.sl 8 0 2 2] 56),(8,.row [.i6 0,.i6 0] 3),(7,.row [.i6 1] 3),(6,.row [.nils,.sl 4 0 1 1,.sl 5 0 1 1] 33),(5,.row [.i6 1] 3),(4,.row [.i6 0] 3),(3,.row [.iM q02 r7.Nodes] 24)],12⟩) rfl (q7q un22.h if54.h rfl rfl rfl rfl rfl rfl rfl) (z6v rfl (z6r 11 2) (pC (q6n n ([r19]) r21 h22) _) fn43 (RS.cl rfl (pC (qdy n r21 r23 h24) _) fn18 ?_)))
 refine RS.g ?_
 refine go ?_
 refine RS.g ?_
 refine RS.cl rfl (vw (q7k n r23 ([(q0g.mk [] ([5]))]) r25 h26) (Gh.trans (z6r 12 1) (Gh.trans (z7g 13) (z6r 13 2)))) fn17 ?_
 refine go ?_
 exact xC ⟨rfl,rfl⟩
def q5a (n:Nat) (p1:List Int) (p2:GFS):Option (Bool) :=
 q03 (q03 (qap n p2) fun r3 =>
 cond (!r3)
  (some true)
  (q03 (qdk n p1) fun r6 =>
  some (!r6))) fun b8 =>
 cond b8
  (q03 (q2h n) fun r11 =>
  some r11)
  (q03 (qd4 n p1 p2) fun r13 =>
  q03 (qiz n r13 p1) fun r15 =>
  q03 (qam n r13) fun r17 =>
  q03 (cond r15.2
   (q03 (q56 n p2 (GFS.mk r15.1.Nodes)) fun r20 =>
   cond r20
    (cond (r17.2 == 0)
     (q03 (q56 n r13 (GFS.mk r17.1.Nodes)) fun r24 =>
     cond r24
      (q03 (q6m n r13) fun r27 =>
      q03 (q6m n p2) fun r29 =>
      cond (r27 == r29)
       (cond ((r13.Nodes.length:Int) == (IntKind.i64.wrap ((p1.length:Int)+(p2.Nodes.length:Int))))
        (q03 (q2h n) fun r33 =>
        some r33)
        (some false))
       (some false))
      (some false))
     (some false))
    (some false))
   (some false)) fun b35 =>
  some b35)
theorem qhg (n:Nat) (p1:List Int) (p2:GFS) (r:Bool) (hF:q5a n p1 p2=some r):EvU Tryz.prog 11 [.isl false (List.map (cI .i64) p1),.agg [.isl false (List.map q02 p2.Nodes)]] ⟨[],0⟩ (fun u _=>u = .bool r∧Bel 0 u):=by
 unfold q5a at hF
 refine bg2 70 fn11 ?_
 obtain ⟨b8,h9,hF⟩:=q00 hF
 refine gr ?_
 refine z6p (fun tm σ=>tm=fr 70 [(0,.iM (cI .i64) p1),(3,.ptr 0 0 0),(17,.bool b8)]∧σ=⟨[(0,.row [.iM q02 p2.Nodes] 24)],1⟩) ?_ ?_
 rintro _ _ ⟨rfl,rfl⟩
 refine go ?_
 refine cF hF (fun h10 hF=>?_) (fun h10 hF=>?_)
 obtain ⟨r11,h12,hF⟩:=q00 hF
 refine go ?_
 refine RS.cl rfl (pC (q9n n r11 h12) _) fn13 ?_
 exact gx hF
 obtain ⟨r13,h14,hF⟩:=q00 hF
 refine go ?_
 refine RS.cl rfl (pC (q51 n p1 p2 r13 h14) _) fn22 ?_
 obtain ⟨r15,h16,hF⟩:=q00 hF
 refine go ?_
 refine RS.cl rfl (pC (qww n r13 p1 r15 h16) _) fn34 ?_
 obtain ⟨r17,h18,hF⟩:=q00 hF
 refine go ?_
 refine RS.cl rfl (pC (qpm n r13 r17 h18) _) fn39 ?_
 obtain ⟨b35,h36,hF⟩:=q00 hF
 refine gn ?_
 refine z6p (fun tm σ=>tm=fr 70 [(4,.bool b35)]∧σ=⟨[(3,.row [.iM q02 r17.1.Nodes] 24),(2,.row [.iM q02 r15.1.Nodes] 24),(1,.row [.iM q02 r13.Nodes] 24),(0,.row [.iM q02 p2.Nodes] 24)],4⟩) ?_ ?_
 rintro _ _ ⟨rfl,rfl⟩
 exact gx hF
 rcases gB h36 with ⟨h19,h36⟩ | ⟨h19,h36⟩
 obtain ⟨r20,h21,h36⟩:=q00 h36
 rcases gB h36 with ⟨h22,h36⟩ | ⟨h22,h36⟩
 rcases gB h36 with ⟨h23,h36⟩ | ⟨h23,h36⟩
 obtain ⟨r24,h25,h36⟩:=q00 h36
 rcases gB h36 with ⟨h26,h36⟩ | ⟨h26,h36⟩
 obtain ⟨r27,h28,h36⟩:=q00 h36
 obtain ⟨r29,h30,h36⟩:=q00 h36
 rcases gB h36 with ⟨h31,h36⟩ | ⟨h31,h36⟩
 rcases gB h36 with ⟨h32,h36⟩ | ⟨h32,h36⟩
 obtain ⟨r33,h34,h36⟩:=q00 h36
 obtain rfl:=sI h36
 refine z6q Tryz.tb_ok [] (by kernel_rfl) ?_
 refine gd ?_
 refine z6w rfl (pC (q0v n p2 (GFS.mk r15.1.Nodes) r20 h21)) fn21 ?_
 refine gd ?_
 refine z6w rfl (pC (q0v n r13 (GFS.mk r17.1.Nodes) r24 h25)) fn21 ?_
 refine gd ?_
 refine z6w rfl (pC (q4d n r13 r27 h28)) fn40 ?_
 refine gd ?_
 refine z6w rfl (pC (q4d n p2 r29 h30)) fn40 ?_
 refine RD.w (u:=.bool (r27 == r29)) rfl (qov rfl rfl (by simp only [g2,toV,ql9,q7p,eqv,zC,ofV,un4.h])) ?_
 refine gd ?_
 refine z6w rfl (pC (q9n n r33 h34)) fn13 ?_
 refine gd ?_
 refine RD.done ⟨by kernel_rfl,trivial,?_⟩
 refine go ?_
 exact xC ⟨rfl,rfl⟩
 obtain rfl:=sI h36
 refine z6q Tryz.tb_ok [] (by kernel_rfl) ?_
 refine gd ?_
 refine z6w rfl (pC (q0v n p2 (GFS.mk r15.1.Nodes) r20 h21)) fn21 ?_
 refine gd ?_
 refine z6w rfl (pC (q0v n r13 (GFS.mk r17.1.Nodes) r24 h25)) fn21 ?_
 refine gd ?_
 refine z6w rfl (pC (q4d n r13 r27 h28)) fn40 ?_
 refine gd ?_
 refine z6w rfl (pC (q4d n p2 r29 h30)) fn40 ?_
 refine RD.w (u:=.bool (r27 == r29)) rfl (qov rfl rfl (by simp only [g2,toV,ql9,q7p,eqv,zC,ofV,un4.h])) ?_
 refine gd ?_
 refine RD.done ⟨by kernel_rfl,trivial,?_⟩
 refine go ?_
 exact xC ⟨rfl,rfl⟩
 obtain rfl:=sI h36
 refine z6q Tryz.tb_ok [] (by kernel_rfl) ?_
 refine gd ?_
 refine z6w rfl (pC (q0v n p2 (GFS.mk r15.1.Nodes) r20 h21)) fn21 ?_
 refine gd ?_
 refine z6w rfl (pC (q0v n r13 (GFS.mk r17.1.Nodes) r24 h25)) fn21 ?_
 refine gd ?_
 refine z6w rfl (pC (q4d n r13 r27 h28)) fn40 ?_
 refine gd ?_
 refine z6w rfl (pC (q4d n p2 r29 h30)) fn40 ?_
 refine RD.w (u:=.bool (r27 == r29)) rfl (qov rfl rfl (by simp only [g2,toV,ql9,q7p,eqv,zC,ofV,un4.h])) ?_
 refine gd ?_
 refine RD.done ⟨by kernel_rfl,trivial,?_⟩
 refine go ?_
 exact xC ⟨rfl,rfl⟩
 obtain rfl:=sI h36
 refine z6q Tryz.tb_ok [] (by kernel_rfl) ?_
 refine gd ?_
 refine z6w rfl (pC (q0v n p2 (GFS.mk r15.1.Nodes) r20 h21)) fn21 ?_
 refine gd ?_
 refine z6w rfl (pC (q0v n r13 (GFS.mk r17.1.Nodes) r24 h25)) fn21 ?_
 refine gd ?_
 refine RD.done ⟨by kernel_rfl,trivial,?_⟩
 refine go ?_
 exact xC ⟨rfl,rfl⟩
 obtain rfl:=sI h36
 refine z6q Tryz.tb_ok [] (by kernel_rfl) ?_
 refine gd ?_
 refine z6w rfl (pC (q0v n p2 (GFS.mk r15.1.Nodes) r20 h21)) fn21 ?_
 refine gd ?_
 refine RD.done ⟨by kernel_rfl,trivial,?_⟩
 refine go ?_
 exact xC ⟨rfl,rfl⟩
 obtain rfl:=sI h36
 refine z6q Tryz.tb_ok [] (by kernel_rfl) ?_
 refine gd ?_
 refine z6w rfl (pC (q0v n p2 (GFS.mk r15.1.Nodes) r20 h21)) fn21 ?_
 refine gd ?_
 refine RD.done ⟨by kernel_rfl,trivial,?_⟩
 refine go ?_
 exact xC ⟨rfl,rfl⟩
 obtain rfl:=sI h36
 refine z6q Tryz.tb_ok [] (by kernel_rfl) ?_
 refine gd ?_
 refine RD.done ⟨by kernel_rfl,trivial,?_⟩
 refine go ?_
 exact xC ⟨rfl,rfl⟩
 obtain ⟨r3,h4,h9⟩:=q00 h9
 rcases gB h9 with ⟨h5,h9⟩ | ⟨h5,h9⟩
 obtain rfl:=sI h9
 refine go ?_
 refine RS.cl rfl (pC (qis n p2 r3 h4) _) fn12 ?_
 refine go ?_
 exact xC ⟨rfl,rfl⟩
 obtain ⟨r6,h7,h9⟩:=q00 h9
 obtain rfl:=sI h9
 refine go ?_
 refine RS.cl rfl (pC (qis n p2 r3 h4) _) fn12 ?_
 refine go ?_
 refine RS.cl rfl (pC (qpq n p1 r6 h7) _) fn20 ?_
 refine go ?_
 exact xC ⟨rfl,rfl⟩
end Go.Proofs
end
section
namespace Go.Proofs
open Go Go.Rx Go.Vx Go.Shelf Go.Sort
theorem q09 {α β:Type} (a:α) (k:α→Option β):q03 (some a) k=k a:=rfl
theorem wr {z:Int} (h1 : -9223372036854775808≤z) (h2:z≤9223372036854775807):IntKind.i64.wrap z=z:=qm0 (by omega) (by omega)
theorem wr1 {i len:Nat} (h:i<len) (hl:len≤9223372036854775807):IntKind.i64.wrap ((i:Int)+1)=((i+1:Nat):Int):=by rw [wr (by omega) (by omega)]; simp
theorem wrn {z:Int} {k:Nat} (h:z=k) (h2:k≤9223372036854775807):IntKind.i64.wrap z=(k:Int):=by subst h; exact wr (by omega) (by omega)
theorem q2k {α:Type} {l:List α} {i:Nat} (h:i<l.length):∃ x,l[i]? = some x∧x∈l:=⟨l[i],by simp [h],by simp⟩
theorem q4a {α:Type} {l:List α} {i:Nat} {x:α} (h:l[i]? = some x):l.take (i+1)=l.take i++[x]:=by rw [List.take_add_one,h]; rfl
theorem drop_cons' {α:Type} {l:List α} {i:Nat} {x:α} (h:l[i]? = some x):l.drop i=x::l.drop (i+1):=by
 have hlt:i<l.length:=(zG.1 h).1
 rw [List.drop_eq_getElem_cons hlt]
 congr 1
 rw [List.getElem?_eq_getElem hlt] at h
 exact Option.some.inj h
theorem dlt {i n:Nat} (h:i<n):decide ((i:Int)<(n:Int))=true:=by simp; omega
theorem qjm {i n:Nat} (h:¬ i<n):decide ((i:Int)<(n:Int))=false:=by simp; omega
theorem drop_nil' {α:Type} {l:List α} {i:Nat} (h:¬ i<l.length):l.drop i=[]:=List.drop_eq_nil_of_le (by omega)
structure Cmp {α:Type} (c:α→α→Int):Prop where
 val:∀ x y,c x y = -1∨c x y=0∨c x y=1
 anti:∀ x y,c y x = - c x y
 trans:∀ x y z,c x y≤0→c y z≤0→c x z≤0
theorem Cmp.self {α:Type} {c:α→α→Int} (h:Cmp c) (x:α):c x x=0:=by have:=h.anti x x; omega
theorem Cmp.congr {α:Type} {c:α→α→Int} (h:Cmp c) {x y:α} (hxy:c x y=0) (z:α):c x z=c y z:=by
 have h1:=h.val x z
 have h2:=h.val y z
 have a1:=h.anti x y
 have a2:=h.anti x z
 have a3:=h.anti y z
 have t1:=h.trans x y z
 have t2:=h.trans y x z
 have t3:=h.trans z x y
 have t4:=h.trans z y x
 omega
theorem Cmp.congr' {α:Type} {c:α→α→Int} (h:Cmp c) {x y:α} (hxy:c x y=0) (z:α):c z x=c z y:=by
 have h1:=h.congr hxy z
 have a2:=h.anti x z
 have a3:=h.anti y z
 omega
theorem Cmp.lt_of {α:Type} {c:α→α→Int} (h:Cmp c) {x y z:α} (h1:c x y<0) (h2:c y z≤0):c x z<0:=by
 have t1:=h.trans x y z (by omega) h2
 rcases Int.lt_or_eq_of_le t1 with h3 | h3
 ·exact h3
 ·have:=h.congr h3 y
  have a3:=h.anti y z
  omega
def qx9 {α:Type} (c d:α→α→Int) (x y:α):Int:=if c x y≠0 then c x y else d x y
theorem Cmp.lex {α:Type} {c d:α→α→Int} (hc:Cmp c) (hd:Cmp d):Cmp (qx9 c d) where
 val x y:=by unfold qx9; split; exact hc.val x y; exact hd.val x y
 anti x y:=by
  unfold qx9
  have a1:=hc.anti x y
  have a2:=hd.anti x y
  by_cases h:c x y=0
  ·have:c y x=0:=by omega
   simp [h,this,a2]
  ·have:¬ c y x=0:=by omega
   simp [h,this,a1]
 trans x y z h1 h2:=by
  unfold qx9 at *
  by_cases h:c x y=0
  ·have e:=hc.congr h z
   simp only [h,ne_eq,not_true,if_false] at h1
   rw [e]
   by_cases h':c y z=0
   ·simp only [h',ne_eq,not_true,if_false] at h2 ⊢
    exact hd.trans x y z h1 h2
   ·simp only [h',ne_eq,not_false_eq_true,if_true] at h2 ⊢
    exact h2
  ·simp only [h,ne_eq,not_false_eq_true,if_true] at h1
   have h1':c x y<0:=by omega
   by_cases h':c y z=0
   ·have e:=hc.congr' h' x
    rw [← e]
    simp only [h,ne_eq,not_false_eq_true,if_true]
    exact h1
   ·simp only [h',ne_eq,not_false_eq_true,if_true] at h2
    have:=hc.lt_of h1' h2
    have hne:¬ c x z=0:=by omega
    simp only [hne,ne_eq,not_false_eq_true,if_true]
    omega
theorem qmv {α:Type} {c d:α→α→Int} {x y:α}:qx9 c d x y=0↔c x y=0∧d x y=0:=by
 unfold qx9
 by_cases h:c x y=0<;>simp [h]
theorem Cmp.pull {α β:Type} {c:α→α→Int} (h:Cmp c) (f:β→α):Cmp (fun x y=>c (f x) (f y)):=⟨fun x y=>h.val _ _,fun x y=>h.anti _ _,fun x y z=>h.trans _ _ _⟩
def cmpI (a b:Int):Int:=if a<b then -1 else if b<a then 1 else 0
theorem qcv {a b : Int} : cmpI a b = 0 ↔ a = b := by unfold cmpI; split; · omega
                                                     split <;> omega
theorem qjt : Cmp cmpI where
  val x y := by unfold cmpI; split; · simp
                split <;> simp
  anti x y := by unfold cmpI; split <;> split <;> (try split) <;> omega
  trans x y z := by
    unfold cmpI
    intro h1 h2
    split at h1 <;> split at h2 <;> (try split at h1) <;> (try split at h2) <;> (try split) <;> (try split) <;> omega
theorem z2y {α:Type} (c:α→α→Int) (x y:α):ltOf c x y=true↔c x y<0:=by simp [ltOf]
theorem Cmp.swo {α:Type} {c:α→α→Int} (h:Cmp c):SWO (ltOf c) where
 irrefl x:=by have:=h.self x; simp [ltOf,this]
 trans x y z h1 h2:=by rw [z2y] at *; exact h.lt_of h1 (by omega)
 ntrans x y z h1 h2:=by
  have e:∀ a b,ltOf c a b=false↔c b a≤0:=fun a b=>by have:=h.anti a b; simp [ltOf]; omega
  rw [e] at *
  exact h.trans z y x h2 h1
section
variable {α:Type} {c:α→α→Int}
theorem srt_le (hc:Cmp c) (l:List α):(srt (ltOf c) l).Pairwise (fun x y=>c x y≤0):=by
 have:=z0n hc.swo l
 refine List.Pairwise.imp ?_ this
 intro x y h
 have:=hc.anti x y
 simp [ltOf] at h
 omega
end
end Go.Proofs
end
section
namespace Go.Vx
open Go Go.Rx
section
variable {K V:Type} [DecidableEq K]
def qnr (k:K):List (K×V×Nat)→Option V
 | []=>none
 | e::es=>if k=e.1 then some e.2.1 else qnr k es
variable {eq:K→K→Bool} (he:∀ a b,eq a b=true↔a=b)
include he
omit [DecidableEq K] in
theorem eq_f {a b:K} (h:¬ a=b):eq a b=false:=by
 cases h':eq a b with
 | false=>rfl
 | true=>exact absurd ((he a b).1 h') h
theorem qpj (k:K):∀ (es:List (K×V×Nat)) (i:Nat),(q95 eq k es i).map (fun x=>x.2.1)=qnr k es
 | [],i=>rfl
 | e::es,i=>by
  simp only [q95,qnr]
  by_cases h:k=e.1
  ·rw [(he k e.1).2 h,if_pos h]; rfl
  ·rw [eq_f he h,if_neg h]; exact qpj k es (i+1)
theorem qv5 (m:q66 K V) (k:K):qor eq m k=qnr k m.es:=qpj he k m.es 0
theorem qyx (k:K) (v:V):∀ {es:List (K×V×Nat)} {i j:Nat} {q:V×Nat},q95 eq k es i=some (j,q)→i≤j∧∀ x,qnr x (qgr v es (j - i))=if x=k then some v else qnr x es
 | [],i,j,q,h=>by cases h
 | e::es,i,j,q,h=>by
  simp only [q95] at h
  by_cases hk:k=e.1
  ·rw [(he k e.1).2 hk] at h
   simp only [zC,zA,zB] at h
   obtain ⟨rfl,_⟩:=h
   refine ⟨zF _,fun x=>?_⟩
   simp only [Nat.sub_self,qgr,qnr,hk]
   split<;>rfl
  ·rw [eq_f he hk] at h
   simp only [zD] at h
   obtain ⟨h1,h2⟩:=qyx k v h
   refine ⟨by omega,fun x=>?_⟩
   rw [show j - i=(j - (i+1))+1 by omega]
   simp only [qgr,qnr,h2]
   by_cases hx:x=e.1
   ·have:¬ x=k:=fun h=>hk (h ▸ hx)
    simp [hx]
    intro h; exact absurd h.symm hk
   ·simp [hx]
omit he [DecidableEq K] in
theorem qvt (v:V):∀ (es:List (K×V×Nat)) (i:Nat),(qgr v es i).map (fun e=>e.1)=es.map (fun e=>e.1)∧(qgr v es i).map (fun e=>e.2.2)=es.map (fun e=>e.2.2)
 | [],i=>by simp [qgr]
 | e::es,0=>by simp [qgr]
 | e::es,i+1=>by simp [qgr,qvt v es i]
omit he in
theorem qyw (x k:K) (v:V) (b:Nat):∀ es:List (K×V×Nat),qnr x (es++[(k,v,b)])=if qnr x es=none then (if x=k then some v else none) else qnr x es
 | []=>by simp [qnr]
 | e::es=>by
  simp only [List.cons_append,qnr]
  by_cases hx:x=e.1
  ·simp [hx]
  ·simp only [hx,if_false]; exact qyw x k v b es
structure MInv (m:q66 K V):Prop where
 keys:(m.es.map (fun e=>e.1)).Nodup
 borns:(m.es.map (fun e=>e.2.2)).Nodup
 lt:∀ e∈m.es,e.2.2<m.cl
omit he in
theorem MInv.app {m:q66 K V} (h:MInv m) {k:K} (hf:qnr k m.es=none) (v:V):MInv (⟨m.es++[(k,v,m.cl)],m.cl+1⟩:q66 K V):=by
 refine ⟨?_,?_,?_⟩
 ·simp only [List.map_append,zQ,List.map_nil]
  rw [List.nodup_append]
  refine ⟨h.keys,by simp,?_⟩
  intro a ha b hb hab
  simp only [List.mem_singleton] at hb
  subst hab hb
  clear h
  generalize m.es=es at *
  induction es with
  | nil=>simp at ha
  | cons e es ih =>
   simp only [qnr] at hf
   by_cases hx:a=e.1
   ·simp [hx] at hf
   ·simp only [hx,if_false] at hf
    simp only [zQ,zI,hx,false_or] at ha
    exact ih ha hf
 ·simp only [List.map_append,zQ,List.map_nil]
  rw [List.nodup_append]
  refine ⟨h.borns,by simp,?_⟩
  intro a ha b hb hab
  simp only [List.mem_singleton] at hb
  obtain ⟨e,he,rfl⟩:=List.mem_map.1 ha
  have:=h.lt e he
  omega
 ·intro e he
  rcases List.mem_append.1 he with he | he
  ·have:=h.lt e he; simp only; omega
  ·simp only [List.mem_singleton] at he; subst he; simp
omit he [DecidableEq K] in
theorem MInv.set {m:q66 K V} (h:MInv m) (v:V) (i:Nat):MInv (⟨qgr v m.es i,m.cl⟩:q66 K V):=by
 obtain ⟨h1,h2⟩:=qvt v m.es i
 refine ⟨by simp only [h1]; exact h.keys,by simp only [h2]; exact h.borns,fun e he=>?_⟩
 have:e.2.2∈(qgr v m.es i).map (fun e=>e.2.2):=List.mem_map.2 ⟨e,he,rfl⟩
 rw [h2] at this
 obtain ⟨e',g1,g2⟩:=List.mem_map.1 this
 have:=h.lt e' g1
 simp only at g2 ⊢
 omega
theorem z58 {m:q66 K V} (h:MInv m) (k:K) (v:V):MInv (qos eq m k v)∧∀ x,qnr x (qos eq m k v).es=if x=k then some v else qnr x m.es:=by
 unfold qos
 cases hf:q95 eq k m.es 0 with
 | none =>
  have hg:qnr k m.es=none:=by rw [← qpj he k m.es 0,hf]; rfl
  refine ⟨h.app hg v,fun x=>?_⟩
  simp only [qyw]
  by_cases hx:x=k
  ·simp [hx,hg]
  ·simp only [hx,if_false]; split<;>simp_all
 | some q =>
  obtain ⟨j,q⟩:=q
  have:=(qyx he k v hf).2
  exact ⟨h.set v j,fun x=>by simpa using this x⟩
end
end Go.Vx
end
section
namespace Go.Proofs
open Go Go.Rx Go.Vx Go.Shelf Go.Sort
set_option maxRecDepth 10000
theorem qy4 (n:Nat) (a b:Int):q3p n a b=some (cmpI a b):=by
 have e1:(a != a)=false:=by simp
 have e2:(b != b)=false:=by simp
 simp only [q3p,q58,q09,e1,e2,zD,cmpI]
 by_cases h1:a<b
 ·simp [h1]
 ·by_cases h2:b<a<;>simp [h1,h2]
def qiu {α:Type} (c:α→α→Int):List α→List α→Int
 | [],[]=>0
 | [],_::_=>-1
 | _::_,[]=>1
 | x::xs,y::ys=>if c x y≠0 then c x y else qiu c xs ys
theorem Cmp.list {α:Type} {c:α→α→Int} (h:Cmp c):Cmp (qiu c) where
 val:=by
  intro x
  induction x with
  | nil=>intro y; cases y<;>simp [qiu]
  | cons a x ih =>
   intro y
   cases y with
   | nil=>simp [qiu]
   | cons b y=>simp only [qiu]; split; exact h.val a b; exact ih y
 anti:=by
  intro x
  induction x with
  | nil=>intro y; cases y<;>simp [qiu]
  | cons a x ih =>
   intro y
   cases y with
   | nil=>simp [qiu]
   | cons b y =>
    simp only [qiu]
    have a1:=h.anti a b
    have a2:=ih y
    by_cases e:c a b=0
    ·have:c b a=0:=by omega
     simp [e,this,a2]
    ·have:¬ c b a=0:=by omega
     simp [e,this,a1]
 trans:=by
  intro x
  induction x with
  | nil =>
   intro y z h1 h2
   cases z<;>simp [qiu]
  | cons a x ih =>
   intro y z h1 h2
   cases y with
   | nil=>simp [qiu] at h1
   | cons b y =>
    cases z with
    | nil=>simp [qiu] at h2
    | cons d z =>
     simp only [qiu] at *
     by_cases e:c a b=0
     ·have e2:=h.congr e d
      simp only [e,ne_eq,not_true,if_false] at h1
      rw [e2]
      by_cases e3:c b d=0
      ·simp only [e3,ne_eq,not_true,if_false] at h2 ⊢
       exact ih y z h1 h2
      ·simp only [e3,ne_eq,not_false_eq_true,if_true] at h2 ⊢
       exact h2
     ·simp only [e,ne_eq,not_false_eq_true,if_true] at h1
      have h1':c a b<0:=by omega
      by_cases e3:c b d=0
      ·have e4:=h.congr' e3 a
       rw [← e4]
       simp only [e,ne_eq,not_false_eq_true,if_true]
       exact h1
      ·simp only [e3,ne_eq,not_false_eq_true,if_true] at h2
       have:=h.lt_of h1' h2
       have hne:¬ c a d=0:=by omega
       simp only [hne,ne_eq,not_false_eq_true,if_true]
       omega
theorem qmw {α:Type} {c:α→α→Int}:∀ {xs ys:List α},(∀ x∈xs,∀ y,c x y=0→x=y)→qiu c xs ys=0→xs=ys
 | [],[],_,_=>rfl
 | [],_::_,_,h=>by simp [qiu] at h
 | _::_,[],_,h=>by simp [qiu] at h
 | x::xs,y::ys,hc,h=>by
  simp only [qiu] at h
  by_cases e:c x y=0
  ·simp only [e,ne_eq,not_true,if_false] at h
   rw [hc x (by simp) y e,qmw (fun a ha=>hc a (by simp [ha])) h]
  ·simp [e] at h
def ccA:q0f→q0f→Int:=qx9 (fun x y=>cmpI x.Feat y.Feat) (fun x y=>cmpI x.To y.To)
theorem ccA_ok:Cmp ccA:=(qjt.pull _).lex (qjt.pull _)
theorem z1y {x y:q0f} (h:ccA x y=0):x=y:=by
 simp only [ccA,qmv,qcv] at h
 cases x; cases y; simp only at h; obtain ⟨rfl,rfl⟩:=h; rfl
def ccN:q0a→q0a→Int:=qx9 (qx9 (fun x y=>cmpI x.Typex y.Typex) (fun x y=>cmpI x.Arcs.length y.Arcs.length)) (fun x y=>qiu ccA x.Arcs y.Arcs)
theorem ccN_ok:Cmp ccN:=((qjt.pull _).lex (qjt.pull (fun x:q0a=>(x.Arcs.length:Int)))).lex (ccA_ok.list.pull _)
theorem z2a {x y:q0a} (h:ccN x y=0):x=y:=by
 simp only [ccN,qmv,qcv] at h
 have:=qmw (fun a _ b h=>z1y h) h.2
 cases x; cases y; simp only at h this; obtain ⟨⟨rfl,_⟩,_⟩:=h; subst this; rfl
def ccG:GFS→GFS→Int:=qx9 (fun x y=>cmpI x.Nodes.length y.Nodes.length) (fun x y=>qiu ccN x.Nodes y.Nodes)
theorem z43:Cmp ccG:=(qjt.pull (fun x:GFS=>(x.Nodes.length:Int))).lex (ccN_ok.list.pull _)
theorem z1z {x y:GFS}:ccG x y=0↔x=y:=⟨fun h=>by
 simp only [ccG,qmv,qcv] at h
 have:=qmw (fun a _ b h=>z2a h) h.2
 cases x; cases y; simp only at this; subst this; rfl,fun h=>by subst h; exact z43.self x⟩
structure Small (f:GFS) (k:Nat):Prop where
 nodes:f.Nodes.length≤k
 arcs:∀ x∈f.Nodes,x.Arcs.length≤k
def z1d (l:List q0f):List Int:=l.flatMap fun a=>[a.Feat,a.To]
def qrw (x:q0a):List Int:=[x.Typex,(x.Arcs.length:Int)]++z1d x.Arcs
def qzm (f:GFS):List Int:=(f.Nodes.length:Int)::f.Nodes.flatMap qrw
theorem qpb:∀ l:List q0f,(z1d l).length=2*l.length
 | []=>rfl
 | a::l=>by have:=qpb l; simp only [z1d,List.flatMap_cons,List.length_append,zO,zS] at *; omega
theorem qzo {x:q0a} {i:Int} {rc:Int→List Int→Option (List Int)} (hx:x.Arcs.length≤1000000):∀ (m k:Nat) (acc:List Int),x.Arcs.length - k<m→k≤x.Arcs.length→acc.length+2*(x.Arcs.length - k)≤1000000000 →
  q38 i rc x m k acc=rc (IntKind.i64.wrap (i+1)) (acc++z1d (x.Arcs.drop k))
 | 0,k,acc,hm,_,_=>by omega
 | m+1,k,acc,hm,hk,ha=>by
  unfold q38
  by_cases hlt:k<x.Arcs.length
  ·obtain ⟨a,h1,_⟩:=q2k hlt
   have hn:(acc.length+2)*8≤140737488355328∧acc.length+2≤140737488355328:=by omega
   simp only [dlt hlt,zC,q1d,h1,q09,q0w,hn,and_self,if_true,wr1 hlt (show x.Arcs.length≤9223372036854775807 by omega)]
   rw [qzo hx m (k+1) _ (by omega) (by omega) (by simp only [List.length_append,zO,zS]; omega),drop_cons' h1]
   simp [z1d]
  ·simp only [qjm hlt,zD,q6d,drop_nil' hlt,z1d,List.flatMap_nil,List.append_nil]
theorem qzn {f:GFS} {n:Nat} (hf:Small f 1000) (hn:1001≤n):∀ (m i:Nat) (acc:List Int),f.Nodes.length - i<m→i≤f.Nodes.length→acc.length+2002*(f.Nodes.length - i)≤900000000 →
  q1q f n m i acc=some (acc++(f.Nodes.drop i).flatMap qrw)
 | 0,i,acc,hm,_,_=>by omega
 | m+1,i,acc,hm,hi,ha=>by
  unfold q1q
  have hl:=hf.nodes
  by_cases hlt:i<f.Nodes.length
  ·obtain ⟨x,hx,hxm⟩:=q2k hlt
   have h2:=hf.arcs x hxm
   have hn:(acc.length+2)*8≤140737488355328∧acc.length+2≤140737488355328:=by omega
   have h0:=qzo (i:=(i:Int)) (rc:=q1q f n m) (x:=x) (by omega) n 0 (acc++[x.Typex,(x.Arcs.length:Int)]) (by omega) (by omega) (by simp only [List.length_append,zO,zS]; omega)
   rw [Int.ofNat_zero,List.drop_zero] at h0
   simp only [dlt hlt,zC,q1d,hx,q09,q0w,hn,and_self,if_true,h0,wr1 hlt (show f.Nodes.length≤9223372036854775807 by omega)]
   rw [qzn hf (by omega) m (i+1) _ (by omega) (by omega) (by simp only [List.length_append,zO,zS,qpb]; omega),drop_cons' hx]
   simp [qrw]
  ·simp only [qjm hlt,zD,q6c,drop_nil' hlt,List.flatMap_nil,List.append_nil]
theorem qzp {f:GFS} {n:Nat} (hf:Small f 1000) (hn:1001≤n):q5s n f=some (qzm f):=by
 have hl:=hf.nodes
 have:=qzn hf hn n 0 [(f.Nodes.length:Int)] (by omega) (by omega) (by simp only [zO,zS]; omega)
 rw [Int.ofNat_zero,List.drop_zero] at this
 simp only [q5s,this,qzm,List.singleton_append]
def qth:List Int→List Int→Int
 | x::xs,y::ys=>if cmpI x y≠0 then cmpI x y else qth xs ys
 | _,_=>0
theorem qvm {l m:List Int} (hl:l.length≤1000000000):∀ (n i:Nat),l.length - i<n→i≤l.length→q37 l m n i=some (qth (l.drop i) (m.drop i))
 | 0,i,hn,_=>by omega
 | n+1,i,hn,hi=>by
  unfold q37
  by_cases h1:i<l.length
  ·obtain ⟨x,hx,_⟩:=q2k h1
   by_cases h2:i<m.length
   ·obtain ⟨y,hy,_⟩:=q2k h2
    simp only [dlt h1,dlt h2,zC,q09,q1d,hx,hy,wr1 h1 (show l.length≤9223372036854775807 by omega),drop_cons' hx,drop_cons' hy,qth,cmpI]
    by_cases h3:x<y
    ·simp [h3]
    ·by_cases h4:y<x
     ·simp [h3,h4]
     ·simp only [h3,h4,decide_false,zD,if_false,ne_eq,not_true,gt_iff_lt]
      exact qvm hl n (i+1) (by omega) (by omega)
   ·simp only [dlt h1,qjm h2,zC,zD,q09,q48,drop_cons' hx,drop_nil' h2,qth]
  ·simp only [qjm h1,zD,q09,q48,drop_nil' h1,qth]
theorem z35 {f:GFS} {k:Nat} (hf:Small f k):(qzm f).length≤1+f.Nodes.length*(2+2*k):=by
 have:∀ l:List q0a,(∀ x∈l,x.Arcs.length≤k)→(l.flatMap qrw).length≤l.length*(2+2*k):=by
  intro l
  induction l with
  | nil=>intro _; simp
  | cons x l ih =>
   intro h
   have h1:=ih fun y hy=>h y (List.mem_cons_of_mem _ hy)
   have h2:=h x (by simp)
   have h3:(l.length+1)*(2+2*k)=l.length*(2+2*k)+(2+2*k):=by rw [Nat.add_mul,Nat.one_mul]
   simp only [List.flatMap_cons,List.length_append,qrw,zO,zS,qpb]
   rw [h3]
   omega
 have:=this f.Nodes hf.arcs
 simp only [qzm,zO]
 omega
theorem z03 {f g:GFS} {n:Nat} (hf:Small f 1000) (hg:Small g 1000) (hn:3000000≤n):q7g n f g=some (qth (qzm f) (qzm g)):=by
 have h1:=z35 hf
 have h2:=hf.nodes
 have h3:f.Nodes.length*(2+2*1000)≤1000*(2+2*1000):=Nat.mul_le_mul_right _ h2
 have:=qvm (l:=qzm f) (m:=qzm g) (by omega) n 0 (by omega) (by omega)
 rw [Int.ofNat_zero,List.drop_zero,List.drop_zero] at this
 simp only [q7g,qzp hf (show 1001≤n by omega),qzp hg (show 1001≤n by omega),q09,this]
theorem qrp {c d:List Int}:∀ {xs ys:List q0f},xs.length=ys.length→qth (z1d xs++c) (z1d ys++d)=if qiu ccA xs ys≠0 then qiu ccA xs ys else qth c d
 | [],[],_=>by simp [z1d,qiu]
 | [],_::_,h=>by simp at h
 | _::_,[],h=>by simp at h
 | x::xs,y::ys,h=>by
  simp only [zO,Nat.add_right_cancel_iff] at h
  have ih:=qrp (c:=c) (d:=d) h
  simp only [z1d,List.flatMap_cons,List.cons_append,List.nil_append,qth,qiu] at ih ⊢
  rw [ih]
  unfold ccA qx9
  by_cases e:cmpI x.Feat y.Feat=0
  ·by_cases e2:cmpI x.To y.To=0<;>simp [e,e2]
  ·simp [e]
theorem qoo {c d:List Int}:∀ {xs ys:List q0a},xs.length=ys.length→qth (xs.flatMap qrw++c) (ys.flatMap qrw++d)=if qiu ccN xs ys≠0 then qiu ccN xs ys else qth c d
 | [],[],_=>by simp [qiu]
 | [],_::_,h=>by simp at h
 | _::_,[],h=>by simp at h
 | x::xs,y::ys,h=>by
  simp only [zO,Nat.add_right_cancel_iff] at h
  have ih:=qoo (c:=c) (d:=d) h
  simp only [List.flatMap_cons,qrw,zT,List.cons_append,List.nil_append,qth,qiu]
  have hN:ccN x y=(if (if cmpI x.Typex y.Typex≠0 then cmpI x.Typex y.Typex else cmpI (x.Arcs.length:Int) y.Arcs.length)≠0 then (if cmpI x.Typex y.Typex≠0 then cmpI x.Typex y.Typex else cmpI (x.Arcs.length:Int) y.Arcs.length) else qiu ccA x.Arcs y.Arcs):=rfl
  simp only [hN]
  by_cases e:cmpI x.Typex y.Typex=0
  ·by_cases e2:cmpI (x.Arcs.length:Int) y.Arcs.length=0
   ·have hl:x.Arcs.length=y.Arcs.length:=by have:=qcv.1 e2; omega
    simp only [e,e2,ne_eq,not_true,if_false]
    rw [qrp hl,ih]
    by_cases e3:qiu ccA x.Arcs y.Arcs=0<;>simp [e3]
   ·simp [e,e2]
  ·simp [e]
theorem z5j (f g:GFS):qth (qzm f) (qzm g)=ccG f g:=by
 simp only [qzm,qth,ccG]
 unfold qx9
 by_cases e:cmpI (f.Nodes.length:Int) g.Nodes.length=0
 ·have hl:f.Nodes.length=g.Nodes.length:=by have:=qcv.1 e; omega
  have:=qoo (c:=[]) (d:=[]) hl
  simp only [List.append_nil,qth] at this
  simp only [e,ne_eq,not_true,if_false,this]
  by_cases e2:qiu ccN f.Nodes g.Nodes=0<;>simp [e2]
 ·simp [e]
theorem qqf {f g:GFS} {n:Nat} (hf:Small f 1000) (hg:Small g 1000) (hn:3000000≤n):q56 n f g=some (ccG f g == 0):=by
 simp only [q56,z03 hf hg hn,q09,z5j]
theorem qv1 {f:GFS} (hl:f.Nodes.length≤12):∀ (m i:Nat),f.Nodes.length - i<m→i≤f.Nodes.length→∃ b,q4p f m i=some b∧(b=true→∀ x∈f.Nodes.drop i,x.Arcs.length≤12)
 | 0,i,hm,_=>by omega
 | m+1,i,hm,hi=>by
  unfold q4p
  by_cases hlt:i<f.Nodes.length
  ·obtain ⟨x,hx,_⟩:=q2k hlt
   simp only [dlt hlt,zC,q1d,hx,q09,wr1 hlt (show f.Nodes.length≤9223372036854775807 by omega)]
   by_cases h:(x.Arcs.length:Int) > 12
   ·simp only [h,decide_true,zC]; exact ⟨false,rfl,fun h=>by cases h⟩
   ·simp only [h,decide_false,zD]
    obtain ⟨b,h1,h2⟩:=qv1 hl m (i+1) (by omega) (by omega)
    refine ⟨b,h1,fun hb=>?_⟩
    rw [drop_cons' hx]
    intro y hy
    rcases zI.1 hy with rfl | hy
    ·omega
    ·exact h2 hb y hy
  ·simp only [qjm hlt,zD,q8u,drop_nil' hlt]
   exact ⟨true,rfl,fun _ x hx=>by cases hx⟩
theorem z2w (f:GFS) {n:Nat} (hn:20≤n):∃ b,qb8 n f=some b∧(b=true→Small f 12):=by
 unfold qb8
 by_cases h:(f.Nodes.length:Int) > 12
 ·simp only [h,decide_true,zC]; exact ⟨false,rfl,fun h=>by cases h⟩
 ·simp only [h,decide_false,zD]
  obtain ⟨b,h1,h2⟩:=qv1 (f:=f) (by omega) n 0 (by omega) (by omega)
  rw [Int.ofNat_zero] at h1
  rw [List.drop_zero] at h2
  exact ⟨b,h1,fun hb=>⟨by omega,h2 hb⟩⟩
theorem Small.up {f:GFS} {k k':Nat} (h:Small f k) (hk:k≤k'):Small f k':=⟨by have:=h.nodes; omega,fun x hx=>by have:=h.arcs x hx; omega⟩
end Go.Proofs
end
section
namespace Go.Proofs
open Go Go.Rx Go.Vx Go.Shelf Go.Sort
set_option maxRecDepth 10000
theorem qon {α:Type} {lt lt':α→α→Bool} (x:α):∀ {l:List α},(∀ y∈l,lt y x=lt' y x)→qwn lt x l=qwn lt' x l
 | [],_=>rfl
 | y::l,h=>by
  have ih:=qon (lt:=lt) (lt':=lt') x (l:=l) fun z hz=>h z (List.mem_cons_of_mem _ hz)
  simp only [qwn,h y (by simp),ih]
theorem qsn {α:Type} {lt lt':α→α→Bool}:∀ {l:List α},(∀ x∈l,∀ y∈l,lt x y=lt' x y)→srt lt l=srt lt' l
 | [],_=>rfl
 | x::l,h=>by
  simp only [srt]
  rw [qsn fun a ha b hb=>h a (by simp [ha]) b (by simp [hb])]
  exact qon x fun y hy=>h y (by simp [(qgn lt' l).mem_iff.1 hy]) x (by simp)
theorem qzr {α:Type} {eq:α→α→Bool} (heq:∀ x,eq x x=true) {f:α→α→Option Int} {c:α→α→Int} (hc:Cmp c) {ds:List α} (hf:∀ x∈ds,∀ y∈ds,f x y=some (c x y)) (hz:∀ x∈ds,∀ y∈ds,c x y=0→x=y):qn2 eq f ds=true:=by
 have hlt:∀ x∈ds,∀ y∈ds,fLt f x y=ltOf c x y:=fun x hx y hy=>by simp [fLt,hf x hx y hy,ltOf]
 have hs:=hc.swo
 unfold qn2
 rw [List.all_eq_true]
 intro x hx
 rw [Bool.and_eq_true,Bool.not_eq_true',List.all_eq_true]
 refine ⟨by rw [hlt x hx x hx]; exact hs.irrefl x,fun y hy=>?_⟩
 rw [Bool.and_eq_true,Bool.and_eq_true,List.all_eq_true]
 refine ⟨by rw [hf x hx y hy]; rfl,?_,fun z hzm=>?_⟩
 ·rw [hlt x hx y hy,hlt y hy x hx]
  cases h1:ltOf c x y with
  | true=>rfl
  | false =>
   cases h2:ltOf c y x with
   | true=>rfl
   | false =>
    have a:=hc.anti x y
    simp [ltOf] at h1 h2
    have:=hz x hx y hy (by omega)
    subst this
    simp [heq]
 ·rw [hlt x hx y hy,hlt y hy z hzm,hlt x hx z hzm]
  cases h1:ltOf c x y with
  | true =>
   cases h2:ltOf c y z with
   | true=>simp [hs.trans x y z h1 h2]
   | false=>simp
  | false =>
   cases h2:ltOf c y z with
   | true=>simp
   | false=>simp [hs.ntrans x y z h1 h2]
theorem z3l {α:Type} {eq:α→α→Bool} (heq:∀ x,eq x x=true) {f:α→α→Option Int} {c:α→α→Int} (hc:Cmp c) {ds:List α} (hl:ds.length≤1000000) (hf:∀ x∈ds,∀ y∈ds,f x y=some (c x y)) (hz:∀ x∈ds,∀ y∈ds,c x y=0→x=y):qsl eq f ds=some (srt (ltOf c) ds):=by
 unfold qsl
 have hb:Nat.ble ds.length 1000000=true:=by rw [Nat.ble_eq]; exact hl
 rw [qzr heq hc hf hz,hb]
 simp only [Bool.and_self,zC]
 have e:srt (fLt f) ds=srt (ltOf c) ds:=qsn fun x hx y hy=>by simp [fLt,hf x hx y hy,ltOf]
 rw [e]
def cF (a b:q0f):Int:=cmpI a.Feat b.Feat
theorem cF_ok:Cmp cF:=qjt.pull q0f.Feat
def qp1 (l:List q0f):List q0f:=srt (ltOf cF) l
theorem q57 (l:List q0f):(qp1 l).Perm l:=qgn _ l
def Dis (l:List q0f):Prop:=l.Pairwise (fun a b=>a.Feat≠b.Feat)
theorem Dis.perm {l m:List q0f} (h:l.Perm m) (hd:Dis l):Dis m:=(h.pairwise_iff (fun {a b} h=>Ne.symm h)).1 hd
theorem Dis.eq:∀ {l:List q0f},Dis l→∀ x∈l,∀ y∈l,x.Feat=y.Feat→x=y
 | [],_,x,hx,_,_,_=>by cases hx
 | a::l,h,x,hx,y,hy,e=>by
  obtain ⟨h1,h2⟩:=List.pairwise_cons.1 h
  rcases zI.1 hx with e1 | hx'
  ·rcases zI.1 hy with e2 | hy'
   ·rw [e1,e2]
   ·subst e1; exact absurd e (h1 y hy')
  ·rcases zI.1 hy with e2 | hy'
   ·subst e2; exact absurd e.symm (h1 x hx')
   ·exact Dis.eq h2 x hx' y hy' e
def UpA (l:List q0f):Prop:=l.Pairwise (fun a b=>a.Feat<b.Feat)
theorem cF_le {a b:q0f}:cF a b≤0↔a.Feat≤b.Feat:=by
 unfold cF cmpI
 by_cases h1:a.Feat<b.Feat
 ·simp [h1]; omega
 ·by_cases h2:b.Feat<a.Feat
  ·simp [h1,h2]
  ·simp [h1,h2]; omega
theorem qqm {l:List q0f} (h:Dis l):UpA (qp1 l):=by
 have h1:=srt_le cF_ok l
 have h2:Dis (qp1 l):=h.perm (q57 l).symm
 refine (List.Pairwise.and h1 h2).imp fun {a b} h=>?_
 have:=cF_le.1 h.1
 have:=h.2
 omega
theorem qw2:∀ {a b:List q0f},UpA a→UpA b→a.Perm b→a=b
 | [],b,_,_,h=>(List.nil_perm.1 h).symm
 | x::a,[],_,_,h=>by have:=h.length_eq; simp at this
 | x::a,y::b,ha,hb,h=>by
  obtain ⟨h1,h2⟩:=List.pairwise_cons.1 ha
  obtain ⟨h3,h4⟩:=List.pairwise_cons.1 hb
  have hxy:x=y:=by
   rcases zI.1 (h.mem_iff.1 (List.mem_cons_self)) with hx | hx
   ·exact hx
   ·rcases zI.1 (h.mem_iff.2 (List.mem_cons_self)) with hy | hy
    ·exact hy.symm
    ·have h5:=h1 y hy; have h6:=h3 x hx; omega
  subst hxy
  rw [qw2 h2 h4 (h.cons_inv)]
theorem z0m {l m:List q0f} (hd:Dis l) (h:m.Perm l) (hm:UpA m):qp1 l=m:=qw2 (qqm hd) hm ((q57 l).trans h.symm)
theorem UpA.dis {l:List q0f} (h:UpA l):Dis l:=h.imp fun {a b} h=>by omega
theorem qua {l:List q0f} (hl:l.length≤1000000):∀ (m i:Nat),l.length - i<m→i≤l.length→q0s l m i (l.take i)=some l
 | 0,i,hm,_=>by omega
 | m+1,i,hm,hi=>by
  unfold q0s
  by_cases hlt:i<l.length
  ·obtain ⟨x,hx,_⟩:=q2k hlt
   have hn:((l.take i).length+1)*16≤140737488355328∧(l.take i).length+1≤140737488355328:=by rw [List.length_take]; omega
   simp only [dlt hlt,zC,q1d,hx,q09,q0w,hn,and_self,if_true,q28,wr1 hlt (show l.length≤9223372036854775807 by omega),← q4a hx]
   exact qua hl m (i+1) (by omega) (by omega)
  ·simp only [qjm hlt,zD,q27]
   rw [List.take_of_length_le (by omega)]
theorem byF_ok (n:Nat) (a b:q0f):q1f n a b=some (cF a b):=by simp [q1f,qy4,q09,cF]
theorem z2i (x:q0f):eqA x x=true:=by simp [eqA]
theorem qsm {l:List q0f} (hl:l.length≤1000000) (hd:Dis l) {n:Nat} (hn:l.length<n):q1c n l=some (qp1 l):=by
 have h1:=qua hl n 0 (by omega) (by omega)
 rw [Int.ofNat_zero,List.take_zero] at h1
 have h2:=z3l z2i (f:=fun a b=>q1f n a b) cF_ok hl (fun x _ y _=>byF_ok n x y) (fun x hx y hy h=>hd.eq x hx y hy (qcv.1 h))
 simp only [q1c,q3g,q2r,h1,q09,h2,qp1]
structure NOk (x:q0a) (N:Nat):Prop where
 ty:0≤x.Typex
 dis:Dis x.Arcs
 arc:∀ a∈x.Arcs,0≤a.Feat∧0≤a.To∧a.To<N
def GOK (f:GFS):Prop:=∀ x∈f.Nodes,NOk x f.Nodes.length
def nd (f:GFS) (v:Int):q0a:=(f.Nodes[v.toNat]?).getD (q0a.mk 0 [])
def InG (f:GFS) (v:Int):Prop:=0≤v∧v<f.Nodes.length
theorem qb9 {f:GFS} {v:Int} (h:InG f v):q0l f.Nodes v=some (nd f v)∧nd f v∈f.Nodes:=by
 have hv:v.toNat<f.Nodes.length:=by have:=h.1; have:=h.2; omega
 have h1:0≤v∧v<(f.Nodes.length:Int):=h
 simp [q0l,h1,nd,hv]
def sar (f:GFS) (v:Int):List q0f:=qp1 (nd f v).Arcs
theorem q80 {f:GFS} {v:Int} {a:q0f}:a∈sar f v↔a∈(nd f v).Arcs:=(q57 _).mem_iff
def qdd (g:List Int→Int→List Int) (o:List Int) (a:q0f):List Int:=if a.To∈o then o else g o a.To
def dfs (f:GFS):Nat→List Int→Int→List Int
 | 0,o,_=>o
 | k+1,o,v=>(sar f v).foldl (qdd (dfs f k)) (o++[v])
structure Seen (f:GFS) (o:List Int):Prop where
 nd:o.Nodup
 ing:∀ v∈o,InG f v
theorem qhj:∀ (N:Nat) {o:List Int},o.Nodup→(∀ v∈o,0≤v∧v<N)→o.length≤N
 | 0,o,_,h=>by
  cases o with
  | nil=>simp
  | cons v o=>have:=h v (by simp); omega
 | N+1,o,hn,h=>by
  have h1:=qhj N (o:=o.filter (fun v=>v != (N:Int))) (hn.filter _) fun v hv=>by
   rw [List.mem_filter] at hv
   have:=h v hv.1
   have h2:=hv.2
   simp at h2
   omega
  have h2:o.length≤(o.filter (fun v=>v != (N:Int))).length+1:=by
   clear h1 h
   induction o with
   | nil=>simp
   | cons x o ih =>
    obtain ⟨h3,h4⟩:=List.nodup_cons.1 hn
    have:=ih h4
    by_cases e:x=N
    ·subst e
     have:o.filter (fun v=>v != (N:Int))=o:=List.filter_eq_self.2 fun v hv=>by
      simp only [bne_iff_ne,ne_eq]
      intro e; subst e; exact h3 hv
     simp [this]
    ·have e2:(x != (N:Int))=true:=by simpa using e
     rw [List.filter_cons_of_pos (by simpa using e)]
     simp only [zO]
     omega
  omega
theorem Seen.len {f:GFS} {o:List Int} (h:Seen f o):o.length≤f.Nodes.length:=qhj _ h.nd h.ing
theorem Seen.snoc {f:GFS} {o:List Int} (h:Seen f o) {v:Int} (hv:InG f v) (hn:v ∉ o):Seen f (o++[v]):=⟨by
 rw [List.nodup_append]
 refine ⟨h.nd,by simp,?_⟩
 intro a ha b hb
 simp at hb
 subst hb
 intro e; subst e; exact hn ha,fun u hu=>by
 rcases List.mem_append.1 hu with hu | hu
 ·exact h.ing u hu
 ·simp at hu; subst hu; exact hv⟩
theorem quk {f:GFS} (hg:GOK f):∀ (k:Nat) (o:List Int) (v:Int),Seen f o→InG f v→v ∉ o→f.Nodes.length - o.length≤k →
  Seen f (dfs f k o v)∧(∃ t,dfs f k o v=o++v::t)∧(∀ u∈dfs f k o v,u ∉ o→∀ a∈(nd f u).Arcs,a.To∈dfs f k o v)∧(∀ k',f.Nodes.length - o.length≤k'→dfs f k' o v=dfs f k o v)
 | 0,o,v,hs,hv,hn,hk=>by
  have h1:=(hs.snoc hv hn).len
  simp only [List.length_append,zO,zS] at h1
  omega
 | k+1,o,v,hs,hv,hn,hk=>by
  have hs1:=hs.snoc hv hn
  have hl1:=hs1.len
  simp only [List.length_append,zO,zS] at hl1
  have key:∀ (l:List q0f),(∀ a∈l,InG f a.To)→∀ (p:List Int),Seen f p→(∃ t,p=o++v::t)→(∀ u∈p,u ∉ o→u≠v→∀ a∈(nd f u).Arcs,a.To∈p) →
    Seen f (l.foldl (qdd (dfs f k)) p)∧(∃ t,l.foldl (qdd (dfs f k)) p=p++t)∧(∀ u∈l.foldl (qdd (dfs f k)) p,u ∉ o→u≠v→∀ a∈(nd f u).Arcs,a.To∈l.foldl (qdd (dfs f k)) p)∧(∀ a∈l,a.To∈l.foldl (qdd (dfs f k)) p) ∧
     (∀ k',f.Nodes.length - (o.length+1)≤k'→l.foldl (qdd (dfs f k')) p=l.foldl (qdd (dfs f k)) p):=by
   intro l
   induction l with
   | nil=>intro _ p hp hpre hcl; exact ⟨hp,⟨[],by simp⟩,hcl,⟨fun a ha=>(List.not_mem_nil ha).elim,fun _ _=>rfl⟩⟩
   | cons a l ih =>
    intro hl p hp hpre hcl
    have hla:=hl a (by simp)
    have hll:=fun b hb=>hl b (List.mem_cons_of_mem a hb)
    simp only [List.foldl_cons]
    by_cases hm:a.To∈p
    ·have e:∀ k',qdd (dfs f k') p a=p:=fun k'=>by simp [qdd,hm]
     simp only [e]
     obtain ⟨g1,⟨t,g2⟩,g3,g4,g5⟩:=ih hll p hp hpre hcl
     refine ⟨g1,⟨t,g2⟩,g3,fun b hb=>?_,g5⟩
     rcases zI.1 hb with rfl | hb
     ·rw [g2]; exact List.mem_append_left _ hm
     ·exact g4 b hb
    ·have e:∀ k',qdd (dfs f k') p a=dfs f k' p a.To:=fun k'=>by simp [qdd,hm]
     obtain ⟨t0,hpre⟩:=hpre
     have hpl:o.length+1≤p.length:=by rw [hpre]; simp
     obtain ⟨d1,⟨t1,d2⟩,d3,d4⟩:=quk hg k p a.To hp hla hm (by omega)
     have hsub:∀ u∈p,u∈dfs f k p a.To:=fun u hu=>by rw [d2]; exact List.mem_append_left _ hu
     obtain ⟨g1,⟨t,g2⟩,g3,g4,g5⟩:=ih hll (dfs f k p a.To) d1 ⟨t0++a.To::t1,by rw [d2,hpre]; simp⟩ (fun u hu h1 h2 b hb=>by
      by_cases hup:u∈p
      ·exact hsub _ (hcl u hup h1 h2 b hb)
      ·exact d3 u hu hup b hb)
     rw [e k]
     refine ⟨g1,⟨a.To::t1++t,by rw [g2,d2]; simp⟩,g3,fun b hb=>?_,fun k' hk'=>?_⟩
     ·rcases zI.1 hb with rfl | hb
      ·rw [g2,d2]; simp
      ·exact g4 b hb
     ·rw [e k',d4 k' (by omega)]; exact g5 k' hk'
  have hla:∀ a∈sar f v,InG f a.To:=fun a ha=>by
   have h1:=(hg _ (qb9 hv).2).arc a (q80.1 ha)
   exact ⟨h1.2.1,h1.2.2⟩
  obtain ⟨g1,⟨t,g2⟩,g3,g4,g5⟩:=key (sar f v) hla (o++[v]) hs1 ⟨[],rfl⟩ (fun u hu h1 h2=>by
   rcases List.mem_append.1 hu with hu | hu
   ·exact absurd hu h1
   ·simp at hu; exact absurd hu h2)
  refine ⟨g1,⟨t,by show (sar f v).foldl _ _=_; rw [g2]; simp⟩,fun u hu h1 a ha=>?_,fun k' hk'=>?_⟩
  ·by_cases e:u=v
   ·subst e; exact g4 a (q80.2 ha)
   ·exact g3 u hu h1 e a ha
  ·cases k' with
   | zero=>omega
   | succ k'=>exact g5 k' (by omega)
def qba (f:GFS) (r:Int):List Int:=dfs f f.Nodes.length [] r
theorem Seen.nil (f:GFS):Seen f []:=⟨List.nodup_nil,fun v hv=>by cases hv⟩
structure z5b (f:GFS) (r:Int) (o:List Int):Prop where
 seen:Seen f o
 head:∃ t,o=r::t
 clo:∀ u∈o,∀ a∈(nd f u).Arcs,a.To∈o
theorem qbv {f:GFS} (hg:GOK f) {r:Int} (hr:InG f r):z5b f r (qba f r)∧∀ k,f.Nodes.length≤k→dfs f k [] r=qba f r:=by
 obtain ⟨h1,⟨t,h2⟩,h3,h4⟩:=quk hg f.Nodes.length [] r (Seen.nil f) hr (by simp) (by simp)
 exact ⟨⟨h1,⟨t,by have h5:=h2; rw [List.nil_append] at h5; exact h5⟩,fun u hu=>h3 u hu (by simp)⟩,fun k hk=>h4 k (by simpa using hk)⟩
def qi0 (o:List Int) (a:q0f):q0f:=⟨a.Feat,(o.idxOf a.To:Int)⟩
def q6j (f:GFS) (o:List Int) (v:Int):q0a:=⟨(nd f v).Typex,(sar f v).map (qi0 o)⟩
def q2c (f:GFS) (r:Int):GFS:=⟨(qba f r).map (q6j f (qba f r))⟩
structure Rep (w:q66 Int Int) (o:List Int):Prop where
 inv:MInv w
 get:∀ x,qnr x w.es=if x∈o then some (o.idxOf x:Int) else none
theorem beqI (a b:Int):(a == b)=true↔a=b:=by simp
theorem Rep.nil:Rep (qnt:q66 Int Int) []:=⟨⟨by simp [qnt],by simp [qnt],by simp [qnt]⟩,fun x=>by simp [qnt,qnr]⟩
theorem Rep.snoc {w:q66 Int Int} {o:List Int} (h:Rep w o) {v:Int} (hv:v ∉ o):Rep (qos (fun a b=>a == b) w v (o.length:Int)) (o++[v]):=by
 obtain ⟨h1,h2⟩:=z58 (eq:=fun a b:Int=>a == b) beqI h.inv v (o.length:Int)
 refine ⟨h1,fun x=>?_⟩
 rw [h2,h.get]
 by_cases e:x=v
 ·subst e
  simp [List.idxOf_append,hv]
 ·by_cases hx:x∈o
  ·simp [e,hx,List.idxOf_append]
  ·simp [e,hx]
theorem Rep.mget {w:q66 Int Int} {o:List Int} (h:Rep w o) (x:Int):qor (fun a b=>a == b) w x=if x∈o then some (o.idxOf x:Int) else none:=by
 rw [qv5 (eq:=fun a b:Int=>a == b) beqI,h.get]
theorem qw4 {f:GFS} {k:Nat} (hg:GOK f) (hf:Small f k) (hk:k≤1000000):∀ (n:Nat) (o:List Int) (v:Int) (w:q66 Int Int),Seen f o→InG f v→v ∉ o→Rep w o→f.Nodes.length - o.length+k+2≤n →
  ∃ w',q0z n v f.Nodes o w=some (dfs f n o v,w')∧Rep w' (dfs f n o v)
 | 0,o,v,w,hs,hv,hn,hw,hfu=>by omega
 | n+1,o,v,w,hs,hv,hn,hw,hfu=>by
  have hs1:=hs.snoc hv hn
  have hl1:=hs1.len
  simp only [List.length_append,zO,zS] at hl1
  obtain ⟨hx,hxm⟩:=qb9 hv
  have hno:=hg _ hxm
  have hal:=hf.arcs _ hxm
  have hnl:=hf.nodes
  have hsl:(sar f v).length=(nd f v).Arcs.length:=(q57 _).length_eq
  have key:∀ (m i:Nat) (p:List Int) (w:q66 Int Int),(sar f v).length - i<m→i≤(sar f v).length→Seen f p→o.length+1≤p.length→Rep w p →
    ∃ w',q0u f.Nodes (sar f v) (q0z n) m i p w=some (((sar f v).drop i).foldl (qdd (dfs f n)) p,w')∧Rep w' (((sar f v).drop i).foldl (qdd (dfs f n)) p):=by
   intro m
   induction m with
   | zero=>intro i p w hm; omega
   | succ m ih =>
    intro i p w hm hi hp hpl hw
    unfold q0u
    by_cases hlt:i<(sar f v).length
    ·obtain ⟨a,ha,ham⟩:=q2k hlt
     have h1:=hno.arc a (q80.1 ham)
     have hw1:IntKind.i64.wrap ((i:Int)+1)=((i+1:Nat):Int):=wr1 hlt (by omega)
     simp only [dlt hlt,zC,q1d,ha,q09,hw.mget,drop_cons' ha,List.foldl_cons]
     by_cases hm2:a.To∈p
     ·simp only [hm2,if_true,Option.isSome_some,Bool.not_true,zD,q1h,hw1,qdd]
      exact ih (i+1) p w (by omega) (by omega) hp hpl hw
     ·simp only [hm2,if_false,Option.isSome_none,Bool.not_false,zC,q1h,hw1,qdd]
      obtain ⟨w1,g1,g2⟩:=qw4 hg hf hk n p a.To w hp ⟨h1.2.1,h1.2.2⟩ hm2 hw (by omega)
      obtain ⟨d1,⟨t,d2⟩,_,_⟩:=quk hg n p a.To hp ⟨h1.2.1,h1.2.2⟩ hm2 (by omega)
      simp only [g1,q09]
      exact ih (i+1) _ w1 (by omega) (by omega) d1 (by rw [d2]; simp; omega) g2
    ·rw [drop_nil' hlt]
     simp only [qjm hlt,zD,q2m,List.foldl_nil]
     exact ⟨w,rfl,hw⟩
  have hneed:(o.length+1)*8≤140737488355328∧o.length+1≤140737488355328:=by omega
  obtain ⟨w',g1,g2⟩:=key n 0 (o++[v]) _ (by omega) (by omega) hs1 (by simp) (hw.snoc hn)
  rw [Int.ofNat_zero,List.drop_zero] at g1
  rw [List.drop_zero] at g2
  refine ⟨w',?_,g2⟩
  show q32 n (q0z n) v f.Nodes o w=_
  simp only [q32,q0w,hneed,and_self,if_true,hx,q09,q24,qsm (show (nd f v).Arcs.length≤1000000 by omega) hno.dis (show (nd f v).Arcs.length<n by omega)]
  exact g1
theorem z0f {α:Type} (a b:List α) (x y:α):(a++x::b).set a.length y=a++y::b:=by simp
theorem quf {f:GFS} {o:List Int} {w:q66 Int Int} {z:Int} {l15:List q0a} {rc:Int→List q0a→Option GFS} {x:Int} {l:List q0f} (hl:l.length≤1000000) (hw:Rep w o) (hin:∀ a∈l,a.To∈o):∀ (m i:Nat),l.length - i<m→i≤l.length →
  q20 f (o,w) z l15 rc x l m i ((l.take i).map (qi0 o)++l.drop i)=q3b f (o,w) z l15 rc x (l.map (qi0 o))
 | 0,i,hm,_=>by omega
 | m+1,i,hm,hi=>by
  unfold q20
  by_cases hlt:i<l.length
  ·obtain ⟨a,ha,ham⟩:=q2k hlt
   have e1:(((l.take i).map (qi0 o)++l.drop i))[i]? = some a:=by
    rw [List.getElem?_append_right (by simp; omega)]
    simp [show min i l.length=i by omega,ha]
   have e2:(((l.take i).map (qi0 o)++l.drop i)).set (0+(i:Int).toNat) (qi0 o a)=(l.take (i+1)).map (qi0 o)++l.drop (i+1):=by
    rw [drop_cons' ha,q4a ha]
    have h3:((l.take i).map (qi0 o)).length=i:=by simp; omega
    have:=z0f ((l.take i).map (qi0 o)) (l.drop (i+1)) a (qi0 o a)
    rw [h3] at this
    rw [Nat.zero_add,Int.toNat_natCast,this,List.map_append,zQ,List.map_nil,zT]
    rfl
   have e3:(⟨a.Feat,((if a.To∈o then some (o.idxOf a.To:Int) else none).getD 0)⟩:q0f)=qi0 o a:=by simp [hin a ham,qi0]
   simp only [dlt hlt,zC,q1d,e1,q09,hw.mget,e3,e2,wr1 hlt (show l.length≤9223372036854775807 by omega)]
   exact quf hl hw hin m (i+1) (by omega) (by omega)
  ·simp only [qjm hlt,zD]
   rw [List.take_of_length_le (by omega),List.drop_eq_nil_of_le (by omega),List.append_nil]
theorem que {f:GFS} {k:Nat} (hg:GOK f) (hf:Small f k) (hk:k≤1000000) {n:Nat} (hn:k+2≤n) {r:Int} {o:List Int} {w:q66 Int Int} (ho:z5b f r o) (hw:Rep w o):∀ (m i:Nat),o.length - i<m→i≤o.length →
  q1a f n (o,w) m i ((o.take i).map (q6j f o)++List.replicate (o.length - i) (q0a.mk 0 []))=some ⟨o.map (q6j f o)⟩
 | 0,i,hm,_=>by omega
 | m+1,i,hm,hi=>by
  have hol:=ho.seen.len
  have hnl:=hf.nodes
  unfold q1a
  by_cases hlt:i<o.length
  ·obtain ⟨v,hv,hvm⟩:=q2k hlt
   obtain ⟨hx,hxm⟩:=qb9 (ho.seen.ing v hvm)
   have hno:=hg _ hxm
   have hal:=hf.arcs _ hxm
   have hsl:(sar f v).length=(nd f v).Arcs.length:=(q57 _).length_eq
   have h2:=quf (f:=f) (z:=(i:Int)) (l15:=(o.take i).map (q6j f o)++List.replicate (o.length - i) (q0a.mk 0 [])) (rc:=q1a f n (o,w) m) (x:=v) (l:=sar f v) (by omega) hw (fun a ha=>ho.clo v hvm a (q80.1 ha)) n 0 (by omega) (by omega)
   rw [Int.ofNat_zero,List.take_zero,List.map_nil,List.nil_append,List.drop_zero] at h2
   have h3:((o.take i).map (q6j f o)).length=i:=by simp; omega
   have e0:o.length - i=(o.length - (i+1))+1:=by omega
   have e1:qjz ((o.take i).map (q6j f o)++List.replicate (o.length - i) (q0a.mk 0 [])) 0 ((o.length:Int).toNat) (i:Int)=some (q0a.mk 0 []):=by
    have hi:0≤(i:Int)∧(i:Int)<(((o.length:Int).toNat:Nat):Int):=by rw [Int.toNat_natCast]; omega
    rw [qjz,if_pos hi,Nat.zero_add,Int.toNat_natCast,List.getElem?_append_right (by omega),h3,e0]
    simp
   have e2:((o.take i).map (q6j f o)++List.replicate (o.length - i) (q0a.mk 0 [])).set (i:Int).toNat (q6j f o v)=(o.take (i+1)).map (q6j f o)++List.replicate (o.length - (i+1)) (q0a.mk 0 []):=by
    rw [e0,List.replicate_succ,q4a hv]
    have:=z0f ((o.take i).map (q6j f o)) (List.replicate (o.length - (i+1)) (q0a.mk 0 [])) (q0a.mk 0 []) (q6j f o v)
    rw [h3] at this
    simp only [Int.toNat_natCast]
    rw [this]
    simp
   have e3:(⟨(nd f v).Typex,(sar f v).map (qi0 o)⟩:q0a)=q6j f o v:=rfl
   have hso:=qsm (show (nd f v).Arcs.length≤1000000 by omega) hno.dis (show (nd f v).Arcs.length<n by omega)
   simp only [dlt hlt,zC,q1d,hv,hx,q09,q24,hso]
   show q20 f (o,w) i _ _ v (sar f v) n 0 (sar f v)=_
   rw [h2]
   simp only [q3b,hx,q09,e1,e3,wr1 hlt (show o.length≤9223372036854775807 by omega)]
   rw [e2]
   exact que hg hf hk hn ho hw m (i+1) (by omega) (by omega)
  ·have e:((o.length:Int)).toNat=((o.take i).map (q6j f o)++List.replicate (o.length - i) (q0a.mk 0 [])).length:=by simp; omega
   simp only [qjm hlt,zD,q4t,q0w,← e,if_true]
   rw [List.take_of_length_le (by omega),show o.length - i=0 by omega]
   simp
theorem qks {f:GFS} {k:Nat} (hg:GOK f) (hf:Small f k) (hk:k≤1000000) {r:Int} (hr:InG f r) {n:Nat} (hn:2*k+4≤n):q3r n f r=some (q2c f r):=by
 obtain ⟨ho,hst⟩:=qbv hg hr
 have hnl:=hf.nodes
 obtain ⟨w,g1,g2⟩:=qw4 hg hf hk n [] r qnt (Seen.nil f) hr (by simp) Rep.nil (by simp; omega)
 rw [hst n (by omega)] at g1 g2
 have hol:=ho.seen.len
 have h1:=que hg hf hk (show k+2≤n by omega) ho g2 n 0 (by omega) (by omega)
 rw [Int.ofNat_zero,List.take_zero,List.map_nil,List.nil_append,Nat.sub_zero] at h1
 have hneed:0≤((qba f r).length:Int)∧32*((qba f r).length:Int).toNat≤281474976710656∧((qba f r).length:Int)≤281474976710656:=by simp; omega
 simp only [q3r,g1,q09,q0w,hneed,and_self,if_true]
 rw [Int.toNat_natCast]
 exact h1
end Go.Proofs
end
section
namespace Go.Proofs
open Go Go.Rx Go.Vx Go.Shelf Go.Sort
set_option maxRecDepth 10000
def qsv (N:Nat) (seen:List Int):List q0f→Int
 | []=>0
 | a::l=>if a.Feat<0∨a.To<0∨a.To ≥ (N:Int) then 2 else if a.Feat∈seen then 4 else qsv N (a.Feat::seen) l
def z1e (N:Nat) (x:q0a):Int:=if x.Typex<0 then 2 else qsv N [] x.Arcs
structure z1m (w:q66 Int Bool) (o:List Int):Prop where
 inv:MInv w
 get:∀ x,qnr x w.es=if x∈o then some true else none
theorem z1m.nil:z1m (qnt:q66 Int Bool) []:=⟨⟨by simp [qnt],by simp [qnt],by simp [qnt]⟩,fun x=>by simp [qnt,qnr]⟩
theorem z1m.cons {w:q66 Int Bool} {o:List Int} (h:z1m w o) (v:Int):z1m (qos (fun a b=>a == b) w v true) (v::o):=by
 obtain ⟨h1,h2⟩:=z58 (eq:=fun a b:Int=>a == b) beqI h.inv v true
 refine ⟨h1,fun x=>?_⟩
 rw [h2,h.get]
 by_cases e:x=v
 ·simp [e]
 ·by_cases hx:x∈o<;>simp [e,hx]
theorem z1m.mget {w:q66 Int Bool} {o:List Int} (h:z1m w o) (x:Int):(qor (fun a b=>a == b) w x).getD false=decide (x∈o):=by
 rw [qv5 (eq:=fun a b:Int=>a == b) beqI,h.get]
 by_cases hx:x∈o<;>simp [hx]
theorem qrv {x:q0a} {N:Nat} (hl:x.Arcs.length≤1000000):∀ (m i:Nat) (w:q66 Int Bool) (o:List Int),x.Arcs.length - i<m→i≤x.Arcs.length→z1m w o →
  q2g x N m i w=some (qsv N o (x.Arcs.drop i))
 | 0,i,w,o,hm,_,_=>by omega
 | m+1,i,w,o,hm,hi,hw=>by
  unfold q2g
  by_cases hlt:i<x.Arcs.length
  ·obtain ⟨a,ha,_⟩:=q2k hlt
   simp only [dlt hlt,zC,q1d,ha,q09,drop_cons' ha,qsv,hw.mget,wr1 hlt (show x.Arcs.length≤9223372036854775807 by omega)]
   by_cases h1:a.Feat<0
   ·simp [h1,q09]
   ·by_cases h2:a.To<0
    ·simp [h1,h2,q09]
    ·by_cases h3:a.To ≥ (N:Int)
     ·simp [h1,h2,h3,q09]
     ·simp only [h1,h2,h3,decide_false,zD,q09,or_self,if_false]
      by_cases h4:a.Feat∈o
      ·simp [h4]
      ·simp only [h4,decide_false,zD,if_false]
       exact qrv hl m (i+1) _ _ (by omega) (by omega) (hw.cons _)
  ·simp only [qjm hlt,zD,q4u,drop_nil' hlt,qsv]
theorem qwt {x:q0a} {N n:Nat} (hl:x.Arcs.length≤1000000) (hn:x.Arcs.length<n):q4z n x N=some (z1e N x):=by
 have h:=qrv (N:=N) hl n 0 qnt [] (by omega) (by omega) z1m.nil
 rw [Int.ofNat_zero,List.drop_zero] at h
 simp only [q4z,h,z1e]
 by_cases h1:x.Typex<0<;>simp [h1]
theorem qrc {N:Nat}:∀ {l:List q0f} {seen:List Int},qsv N seen l=0↔(∀ a∈l,0≤a.Feat∧0≤a.To∧a.To<N)∧Dis l∧∀ a∈l,a.Feat ∉ seen
 | [],seen=>by simp [qsv,Dis]
 | a::l,seen=>by
  simp only [qsv]
  by_cases h1:a.Feat<0∨a.To<0∨a.To ≥ (N:Int)
  ·simp only [h1,if_true]
   refine ⟨fun h=>absurd h (by decide),fun h=>?_⟩
   have:=h.1 a (by simp)
   omega
  ·by_cases h2:a.Feat∈seen
   ·simp only [h1,h2,if_true,if_false]
    exact ⟨fun h=>absurd h (by decide),fun h=>absurd h2 (h.2.2 a (by simp))⟩
   ·simp only [h1,h2,if_false]
    rw [qrc (l:=l)]
    unfold Dis
    rw [List.pairwise_cons]
    constructor
    ·rintro ⟨g1,g2,g3⟩
     refine ⟨fun b hb=>?_,⟨fun b hb=>?_,g2⟩,fun b hb=>?_⟩
     ·rcases zI.1 hb with rfl | hb
      ·omega
      ·exact g1 b hb
     ·have:=g3 b hb
      simp only [zI,not_or] at this
      exact fun e=>this.1 e.symm
     ·rcases zI.1 hb with rfl | hb
      ·exact h2
      ·have:=g3 b hb
       simp only [zI,not_or] at this
       exact this.2
    ·rintro ⟨g1,⟨g2,g3⟩,g4⟩
     refine ⟨fun b hb=>g1 b (by simp [hb]),g3,fun b hb=>?_⟩
     simp only [zI,not_or]
     exact ⟨fun e=>g2 b hb e.symm,g4 b (by simp [hb])⟩
theorem qmh {N:Nat} {x:q0a}:z1e N x=0↔NOk x N:=by
 unfold z1e
 by_cases h:x.Typex<0
 ·simp only [h,if_true]
  exact ⟨fun h=>absurd h (by decide),fun h'=>by have:=h'.ty; omega⟩
 ·simp only [h,if_false]
  rw [qrc]
  exact ⟨fun ⟨h1,h2,_⟩=>⟨by omega,h2,h1⟩,fun h=>⟨h.arc,h.dis,fun _ _=>by simp⟩⟩
def qwj (N:Nat):List q0a→Int
 | []=>0
 | x::l=>if z1e N x≠0 then z1e N x else qwj N l
theorem qmg {N:Nat}:∀ {l:List q0a},qwj N l=0↔∀ x∈l,NOk x N
 | []=>by simp [qwj]
 | x::l=>by
  simp only [qwj]
  by_cases h:z1e N x=0
  ·simp only [h,ne_eq,not_true,if_false,qmg (l:=l),zI,forall_eq_or_imp,qmh.1 h,true_and]
  ·simp only [h,ne_eq,not_false_eq_true,if_true,zI,forall_eq_or_imp,false_iff,not_and]
   exact fun h2=>absurd (qmh.2 h2) h
def qt7 (f:GFS):Int:=if f.Nodes.length=0 then 1 else if f.Nodes.length > 4096 then 7 else qwj f.Nodes.length f.Nodes
theorem qxb {f:GFS} {k:Nat} (hf:Small f k) (hk:k≤1000000) {n:Nat} (hn:2*k+4≤n) (h0:0<f.Nodes.length) (hfull:qwj f.Nodes.length f.Nodes=0→GOK f):∀ (m i:Nat),f.Nodes.length - i<m→i≤f.Nodes.length→(∀ x∈f.Nodes.take i,NOk x f.Nodes.length) →
  q4c f n m i=some (if qwj f.Nodes.length (f.Nodes.drop i)=0 then (q2c f 0,0) else (⟨[]⟩,qwj f.Nodes.length (f.Nodes.drop i)))
 | 0,i,hm,_,_=>by omega
 | m+1,i,hm,hi,hok=>by
  have hnl:=hf.nodes
  unfold q4c
  by_cases hlt:i<f.Nodes.length
  ·obtain ⟨x,hx,hxm⟩:=q2k hlt
   have hal:=hf.arcs x hxm
   simp only [dlt hlt,zC,q1d,hx,q09,qwt (N:=f.Nodes.length) (show x.Arcs.length≤1000000 by omega) (show x.Arcs.length<n by omega),drop_cons' hx,qwj,wr1 hlt (show f.Nodes.length≤9223372036854775807 by omega)]
   by_cases h:z1e f.Nodes.length x=0
   ·simp only [h,bne_self_eq_false,zD,ne_eq,not_true,if_false]
    refine qxb hf hk hn h0 hfull m (i+1) (by omega) (by omega) fun y hy=>?_
    rw [q4a hx] at hy
    rcases List.mem_append.1 hy with hy | hy
    ·exact hok y hy
    ·simp at hy; subst hy; exact qmh.1 h
   ·have hb:(z1e f.Nodes.length x != 0)=true:=by simpa using h
    simp only [hb,zC,h,ne_eq,not_false_eq_true,if_true,if_false]
  ·simp only [qjm hlt,zD,q83,drop_nil' hlt,qwj,if_true]
   have hg:GOK f:=fun x hx=>hok x (by rw [List.take_of_length_le (by omega)]; exact hx)
   rw [qks hg hf hk ⟨by omega,by omega⟩ hn,q09]
theorem z1j {f:GFS} {k:Nat} (hf:Small f k) (hk:k≤1000000) {n:Nat} (hn:2*k+4≤n):qam n f=some (if qt7 f=0 then (q2c f 0,0) else (⟨[]⟩,qt7 f)):=by
 have hnl:=hf.nodes
 unfold qam qt7
 by_cases h0:f.Nodes.length=0
 ·simp [h0]
 ·have e0:((f.Nodes.length:Int) == 0)=false:=by simp; intro h; simp [h] at h0
  simp only [e0,zD,h0,if_false]
  by_cases h1:f.Nodes.length > 4096
  ·have:(f.Nodes.length:Int) > 4096:=by omega
   simp [h1,this]
  ·have:¬ (f.Nodes.length:Int) > 4096:=by omega
   simp only [h1,this,decide_false,zD,if_false]
   have h:=qxb hf hk hn (by omega) (fun h=>qmg.1 h) n 0 (by omega) (by omega) (by simp)
   rw [Int.ofNat_zero,List.drop_zero] at h
   exact h
theorem qi8 {f:GFS}:qt7 f=0↔f.Nodes.length≠0∧f.Nodes.length≤4096∧GOK f:=by
 unfold qt7
 by_cases h0:f.Nodes.length=0
 ·simp [h0]
 ·by_cases h1:f.Nodes.length > 4096
  ·simp [h0,h1]; intro _; omega
  ·simp only [h0,h1,if_false,qmg]
   exact ⟨fun h=>⟨by simpa using h0,by omega,h⟩,fun h=>h.2.2⟩
structure Sim (f g:GFS) (π:Int→Int) (S:Int→Prop):Prop where
 clo:∀ v,S v→∀ a∈sar f v,S a.To
 inj:∀ u v,S u→S v→π u=π v→u=v
 ty:∀ v,S v→(nd g (π v)).Typex=(nd f v).Typex
 arc:∀ v,S v→sar g (π v)=(sar f v).map fun a=>⟨a.Feat,π a.To⟩
theorem Sim.dfs {f g:GFS} {π:Int→Int} {S:Int→Prop} (h:Sim f g π S):∀ (k:Nat) (o:List Int) (v:Int),S v→(∀ u∈o,S u)→dfs g k (o.map π) (π v)=(Go.Proofs.dfs f k o v).map π∧∀ u∈Go.Proofs.dfs f k o v,S u
 | 0,o,v,hv,ho=>⟨rfl,ho⟩
 | k+1,o,v,hv,ho=>by
  have key:∀ (l:List q0f) (p:List Int),(∀ a∈l,S a.To)→(∀ u∈p,S u) →
    (l.map fun a=>(⟨a.Feat,π a.To⟩:q0f)).foldl (qdd (Go.Proofs.dfs g k)) (p.map π)=(l.foldl (qdd (Go.Proofs.dfs f k)) p).map π∧∀ u∈l.foldl (qdd (Go.Proofs.dfs f k)) p,S u:=by
   intro l
   induction l with
   | nil=>intro p _ hp; exact ⟨rfl,hp⟩
   | cons a l ih =>
    intro p hl hp
    have hla:=hl a (by simp)
    simp only [zQ,List.foldl_cons]
    have hm:π a.To∈p.map π↔a.To∈p:=by
     rw [List.mem_map]
     exact ⟨fun ⟨u,hu,e⟩=>by rw [← h.inj u a.To (hp u hu) hla e]; exact hu,fun hu=>⟨_,hu,rfl⟩⟩
    by_cases hin:a.To∈p
    ·have e1:qdd (Go.Proofs.dfs g k) (p.map π) (⟨a.Feat,π a.To⟩:q0f)=p.map π:=by simp only [qdd,hm.2 hin,if_true]
     have e2:qdd (Go.Proofs.dfs f k) p a=p:=by simp only [qdd,hin,if_true]
     rw [e1,e2]
     exact ih p (fun b hb=>hl b (List.mem_cons_of_mem _ hb)) hp
    ·have e1:qdd (Go.Proofs.dfs g k) (p.map π) (⟨a.Feat,π a.To⟩:q0f)=Go.Proofs.dfs g k (p.map π) (π a.To):=by simp only [qdd,mt hm.1 hin,if_false]
     have e2:qdd (Go.Proofs.dfs f k) p a=Go.Proofs.dfs f k p a.To:=by simp only [qdd,hin,if_false]
     obtain ⟨g1,g2⟩:=Sim.dfs h k p a.To hla hp
     rw [e1,e2,g1]
     exact ih _ (fun b hb=>hl b (List.mem_cons_of_mem _ hb)) g2
  have ho1:∀ u∈o++[v],S u:=fun u hu=>by
   rcases List.mem_append.1 hu with hu | hu
   ·exact ho u hu
   ·simp at hu; subst hu; exact hv
  have:=key (sar f v) (o++[v]) (h.clo v hv) ho1
  refine ⟨?_,this.2⟩
  show (sar g (π v)).foldl _ (o.map π++[π v])=_
  have e:=this.1
  simp only [List.map_append,zQ,List.map_nil] at e
  rw [h.arc v hv]
  exact e
theorem qrj {π:Int→Int}:∀ {o:List Int} {x:Int},(∀ u∈o,π u=π x→u=x)→(o.map π).idxOf (π x)=o.idxOf x
 | [],x,_=>rfl
 | u::o,x,h=>by
  simp only [zQ,List.idxOf_cons]
  have ih:=qrj (o:=o) (x:=x) fun w hw=>h w (List.mem_cons_of_mem _ hw)
  by_cases e:u=x
  ·subst e; simp
  ·have e2:¬ π u=π x:=fun h2=>e (h u (by simp) h2)
   have e3:(u == x)=false:=by simpa using e
   have e4:(π u == π x)=false:=by simpa using e2
   simp only [e3,e4,zD,ih]
theorem Sim.canon {f g:GFS} {π:Int→Int} {S:Int→Prop} (h:Sim f g π S) (hf:GOK f) (hg:GOK g) {r:Int} (hr:InG f r) (hS:S r) (hr':InG g (π r)):qba g (π r)=(qba f r).map π∧q2c g (π r)=q2c f r:=by
 obtain ⟨o1,s1⟩:=qbv hf hr
 obtain ⟨o2,s2⟩:=qbv hg hr'
 have h1:=h.dfs (f.Nodes.length+g.Nodes.length) [] r hS (by simp)
 rw [List.map_nil,s1 _ (by omega),s2 _ (by omega)] at h1
 refine ⟨h1.1,?_⟩
 unfold q2c
 rw [h1.1,List.map_map]
 congr 1
 refine List.map_congr_left fun v hv=>?_
 have hSv:=h1.2 v hv
 simp only [Function.comp,q6j,h.ty v hSv,h.arc v hSv,List.map_map]
 congr 1
 refine List.map_congr_left fun a ha=>?_
 have hSa:=h.clo v hSv a ha
 simp only [Function.comp,qi0]
 rw [qrj fun u hu e=>h.inj u a.To (h1.2 u hu) hSa e]
theorem qni {l:List q0f} (h:UpA l):qp1 l=l:=z0m h.dis (List.Perm.refl _) h
theorem qin {o:List Int} {v:Int} (h:v∈o):o[o.idxOf v]? = some v:=by
 have h1:=List.idxOf_lt_length_of_mem h
 rw [List.getElem?_eq_getElem h1,List.getElem_idxOf]
structure CanOk (f:GFS) (r:Int) (c:GFS):Prop where
 len:c.Nodes.length=(qba f r).length
 le:c.Nodes.length≤f.Nodes.length
 pos:0<c.Nodes.length
 ok:GOK c
 at_:∀ v∈qba f r,nd c ((qba f r).idxOf v:Int)=q6j f (qba f r) v
 up:∀ x∈c.Nodes,UpA x.Arcs
 sim:Sim f c (fun v=>((qba f r).idxOf v:Int)) (fun v=>v∈qba f r)
theorem up_map {o:List Int} {l:List q0f} (h:UpA l):UpA (l.map (qi0 o)):=by
 unfold UpA at *
 rw [List.pairwise_map]
 exact h
theorem qm9 {f:GFS} (hf:GOK f) {r:Int} (hr:InG f r):CanOk f r (q2c f r):=by
 obtain ⟨o1,_⟩:=qbv hf hr
 have hat:∀ v∈qba f r,nd (q2c f r) ((qba f r).idxOf v:Int)=q6j f (qba f r) v:=fun v hv=>by
  simp only [nd,q2c,Int.toNat_natCast,List.getElem?_map,qin hv,zM,Option.getD_some]
 have hin:∀ v∈qba f r,InG f v:=o1.seen.ing
 have hup:∀ v∈qba f r,UpA (q6j f (qba f r) v).Arcs:=fun v hv=>up_map (qqm (hf _ (qb9 (hin v hv)).2).dis)
 refine ⟨by simp [q2c],by simp only [q2c,List.length_map]; exact o1.seen.len,?_,?_,hat,?_,?_⟩
 ·obtain ⟨t,ht⟩:=o1.head
  simp [q2c,ht]
 ·intro x hx
  simp only [q2c,List.mem_map] at hx
  obtain ⟨v,hv,rfl⟩:=hx
  have hn:=hf _ (qb9 (hin v hv)).2
  refine ⟨hn.ty,(hup v hv).dis,fun a ha=>?_⟩
  simp only [q6j,List.mem_map] at ha
  obtain ⟨b,hb,rfl⟩:=ha
  have hb':=q80.1 hb
  refine ⟨(hn.arc b hb').1,by simp only [qi0]; omega,?_⟩
  have:=List.idxOf_lt_length_of_mem (o1.clo v hv b hb')
  simp only [qi0,q2c,List.length_map]
  omega
 ·intro x hx
  simp only [q2c,List.mem_map] at hx
  obtain ⟨v,hv,rfl⟩:=hx
  exact hup v hv
 ·refine ⟨fun v hv a ha=>o1.clo v hv a (q80.1 ha),fun u v hu hv e=>?_,fun v hv=>?_,fun v hv=>?_⟩
  ·have h1:=qin hu
   have h2:=qin hv
   have e':(qba f r).idxOf u=(qba f r).idxOf v:=Int.ofNat.inj e
   rw [e',h2] at h1
   exact (Option.some.inj h1).symm
  ·simp only [hat v hv,q6j]
  ·simp only [sar,hat v hv]
   rw [qni (hup v hv)]
   rfl
theorem qwg {f:GFS} (hf:GOK f) {r:Int} (hr:InG f r):q2c (q2c f r) 0=q2c f r∧qba (q2c f r) 0=(qba f r).map fun v=>((qba f r).idxOf v:Int):=by
 have hc:=qm9 hf hr
 obtain ⟨o1,_⟩:=qbv hf hr
 obtain ⟨t,ht⟩:=o1.head
 have hrm:r∈qba f r:=by rw [ht]; simp
 have h0:((qba f r).idxOf r:Int)=0:=by rw [ht]; simp
 have:=hc.sim.canon hf hc.ok hr hrm ⟨by omega,by have:=hc.pos; simp only [h0]; omega⟩
 simp only [h0] at this
 exact ⟨this.2,this.1⟩
theorem Small.canon {f:GFS} {k:Nat} (hs:Small f k) (hf:GOK f) {r:Int} (hr:InG f r):Small (q2c f r) k:=by
 have hc:=qm9 hf hr
 obtain ⟨o1,_⟩:=qbv hf hr
 refine ⟨Nat.le_trans hc.le hs.nodes,fun x hx=>?_⟩
 simp only [q2c,List.mem_map] at hx
 obtain ⟨v,hv,rfl⟩:=hx
 simp only [q6j,List.length_map,sar]
 rw [(q57 _).length_eq]
 exact hs.arcs _ (qb9 (o1.seen.ing v hv)).2
end Go.Proofs
end
section
namespace Go.Proofs
open Go Go.Rx Go.Vx Go.Shelf Go.Sort
set_option maxRecDepth 10000
theorem qol {N:Nat}:∀ {l:List q0f} {s s':List Int},(∀ x,x∈s↔x∈s')→qsv N s l=qsv N s' l
 | [],s,s',_=>rfl
 | a::l,s,s',h=>by
  simp only [qsv]
  rw [qol (l:=l) (s:=a.Feat::s) (s':=a.Feat::s') fun x=>by simp only [zI,h x]]
  by_cases h1:a.Feat∈s
  ·simp only [h1,(h _).1 h1,if_true]
  ·simp only [h1,mt (h _).2 h1,if_false]
theorem qxm {l:List q0f} (hl:l.length≤1000000) {i:Nat} {x:q0f} (hx:l[i]? = some x) (hi:i<l.length) {rc:Int→Option Int}:∀ (m k:Nat),i - k<m→k≤i →
  q5q l i rc m k=if x.Feat∈((l.take i).drop k).map q0f.Feat then some 4 else rc (IntKind.i64.wrap ((i:Int)+1))
 | 0,k,hm,_=>by omega
 | m+1,k,hm,hk=>by
  unfold q5q
  by_cases hlt:k<i
  ·obtain ⟨y,hy,_⟩:=q2k (l:=l) (i:=k) (by omega)
   have hy':(l.take i)[k]? = some y:=by rw [List.getElem?_take_of_lt hlt]; exact hy
   have hd:decide ((k:Int)<(i:Int))=true:=dlt hlt
   have hw:IntKind.i64.wrap ((k:Int)+1)=((k+1:Nat):Int):=wrn (by omega) (by omega)
   simp only [hd,zC,q1d,hy,hx,q09,drop_cons' hy',zQ,zI,hw]
   by_cases e:y.Feat=x.Feat
   ·simp [e]
   ·have e2:(y.Feat == x.Feat)=false:=by simpa using e
    have e3:¬ x.Feat=y.Feat:=fun h=>e h.symm
    simp only [e2,zD,e3,false_or]
    exact qxm hl hx hi m (k+1) (by omega) (by omega)
  ·have hd:decide ((k:Int)<(i:Int))=false:=qjm hlt
   have:(l.take i).drop k=[]:=List.drop_eq_nil_of_le (by simp; omega)
   simp only [hd,zD,qac,this,List.map_nil,List.not_mem_nil,if_false]
theorem qxl {l:List q0f} {N n:Nat} (hl:l.length≤1000000) (hn:l.length<n):∀ (m i:Nat),l.length - i<m→i≤l.length→q2q l N n m i=some (qsv N ((l.take i).map q0f.Feat) (l.drop i))
 | 0,i,hm,_=>by omega
 | m+1,i,hm,hi=>by
  unfold q2q
  by_cases hlt:i<l.length
  ·obtain ⟨a,ha,_⟩:=q2k hlt
   have h2:=qxm hl ha hlt (rc:=q2q l N n m) n 0 (by omega) (by omega)
   rw [Int.ofNat_zero,List.drop_zero] at h2
   simp only [dlt hlt,zC,q1d,ha,q09,drop_cons' ha,qsv]
   by_cases h1:a.Feat<0
   ·simp [h1,q09]
   ·by_cases h3:a.To<0
    ·simp [h1,h3,q09]
    ·by_cases h4:a.To ≥ (N:Int)
     ·simp [h1,h3,h4,q09]
     ·simp only [h1,h3,h4,decide_false,zD,q09,or_self,if_false,h2,wr1 hlt (show l.length≤9223372036854775807 by omega)]
      rw [qxl hl hn m (i+1) (by omega) (by omega),q4a ha]
      by_cases h5:a.Feat∈(l.take i).map q0f.Feat
      ·simp only [h5,if_true]
      ·simp only [h5,if_false]
       congr 1
       exact qol fun x=>by simp [or_comm]
  ·simp only [qjm hlt,zD,qab,drop_nil' hlt,qsv]
theorem qyp {f:GFS} {k:Nat} (hf:Small f k) (hk:k≤1000000) {n:Nat} (hn:k<n):∀ (m i:Nat),f.Nodes.length - i<m→i≤f.Nodes.length→q5r f n m i=some (qwj f.Nodes.length (f.Nodes.drop i))
 | 0,i,hm,_=>by omega
 | m+1,i,hm,hi=>by
  have hnl:=hf.nodes
  unfold q5r
  by_cases hlt:i<f.Nodes.length
  ·obtain ⟨x,hx,hxm⟩:=q2k hlt
   have hal:=hf.arcs x hxm
   have h2:=qxl (l:=x.Arcs) (N:=f.Nodes.length) (n:=n) (by omega) (by omega) n 0 (by omega) (by omega)
   rw [Int.ofNat_zero,List.drop_zero,List.take_zero,List.map_nil] at h2
   simp only [dlt hlt,zC,q1d,hx,q09,drop_cons' hx,qwj,z1e,qgh,h2,wr1 hlt (show f.Nodes.length≤9223372036854775807 by omega)]
   by_cases h1:x.Typex<0
   ·simp [h1]
   ·simp only [h1,decide_false,zD,if_false]
    by_cases h3:qsv f.Nodes.length [] x.Arcs=0
    ·simp only [h3,bne_self_eq_false,zD,ne_eq,not_true,if_false]
     exact qyp hf hk hn m (i+1) (by omega) (by omega)
    ·have hb:(qsv f.Nodes.length [] x.Arcs != 0)=true:=by simpa using h3
     simp only [hb,zC,h3,ne_eq,not_false_eq_true,if_true]
  ·simp only [qjm hlt,zD,qad,drop_nil' hlt,qwj]
theorem z5t {f:GFS} {k:Nat} (hf:Small f k) (hk:k≤1000000) {n:Nat} (hn:k<n):qd8 n f=some (qt7 f):=by
 have hnl:=hf.nodes
 unfold qd8 qt7
 by_cases h0:f.Nodes.length=0
 ·simp [h0]
 ·have e0:((f.Nodes.length:Int) == 0)=false:=by simp; intro h; simp [h] at h0
  simp only [e0,zD,h0,if_false]
  by_cases h1:f.Nodes.length > 4096
  ·have:(f.Nodes.length:Int) > 4096:=by omega
   simp [h1,this]
  ·have:¬ (f.Nodes.length:Int) > 4096:=by omega
   simp only [h1,this,decide_false,zD,if_false]
   have h:=qyp hf hk hn n 0 (by omega) (by omega)
   rw [Int.ofNat_zero,List.drop_zero] at h
   exact h
theorem z4h {l:List q0f} {i:Nat} {x:q0f} (hx:l[i]? = some x) {out:List q0f} (hol:out.length≤1000000) (hup:UpA out) {rc:Int→List q0f→Option (List q0f)}:∀ (m p:Nat),p<m→p≤out.length→(∀ a∈out.drop p,x.Feat<a.Feat) →
  ∃ q,q≤out.length∧q3y l i out rc m p=q3x l i out rc (q:Int)∧(∀ a∈out.drop q,x.Feat<a.Feat)∧(∀ a∈out.take q,a.Feat≤x.Feat)
 | 0,p,hm,_,_=>by omega
 | m+1,p,hm,hp,hd=>by
  unfold q3y
  cases p with
  | zero =>
   have:¬ ((0:Nat):Int) > 0:=by omega
   simp only [this,decide_false,zD,q09]
   exact ⟨0,by omega,rfl,hd,by simp⟩
  | succ p =>
   have h0:((p+1:Nat):Int) > 0:=by omega
   have hw:IntKind.i64.wrap (((p+1:Nat):Int) - 1)=(p:Int):=wrn (by omega) (by omega)
   obtain ⟨y,hy,_⟩:=q2k (l:=out) (i:=p) (by omega)
   simp only [h0,decide_true,zC,hw,q1d,hy,hx,q09]
   by_cases e:y.Feat > x.Feat
   ·simp only [e,decide_true,zC]
    refine z4h hx hol hup m p (by omega) (by omega) fun a ha=>?_
    rw [drop_cons' hy] at ha
    rcases zI.1 ha with rfl | ha
    ·omega
    ·exact hd a ha
   ·simp only [e,decide_false,zD]
    refine ⟨p+1,hp,rfl,hd,fun a ha=>?_⟩
    obtain ⟨j,hj,rfl⟩:=List.mem_iff_getElem.1 ha
    simp only [List.length_take] at hj
    rw [List.getElem_take]
    obtain ⟨hp',ey⟩:=zG.1 hy
    by_cases ej:j=p
    ·subst ej; rw [ey]; omega
    ·have:=List.pairwise_iff_getElem.1 hup j p (by omega) hp' (by omega)
     rw [ey] at this
     omega
theorem ins_K2 {l:List q0f} {i:Nat} {x:q0f} (hx:l[i]? = some x) {out:List q0f} (hol:out.length≤1000000) {rc:Int→List q0f→Option (List q0f)} {q:Nat} (hq:q≤out.length) :
  q3x l i out rc (q:Int)=rc (IntKind.i64.wrap ((i:Int)+1)) (out.take q++x::out.drop q):=by
 have e1:(out.drop 0).take ((q:Int)).toNat=out.take q:=by rw [List.drop_zero,Int.toNat_natCast]
 have e2:(out.drop (0+((q:Int)).toNat)).take (out.length - ((q:Int)).toNat)=out.drop q:=by
  rw [Int.toNat_natCast,Nat.zero_add,List.take_of_length_le (by simp)]
 have l1:(out.take q).length=q:=by simp; omega
 have n1:(0:Int)≤(q:Int)∧(q:Int)≤((out.length:Nat):Int):=by omega
 have n2:0+((q:Int)).toNat≤out.length:=by rw [Int.toNat_natCast]; omega
 have n3:(out.take q).length*16≤140737488355328∧(out.take q).length≤140737488355328:=by omega
 have n4:((out.take q).length+1)*16≤140737488355328∧(out.take q).length+1≤140737488355328:=by omega
 have n5:(0+((q:Int)).toNat)+(out.length - ((q:Int)).toNat)≤out.length:=by rw [Int.toNat_natCast]; omega
 have n6:((out.take q++[x]).length+(out.drop q).length)*16≤140737488355328∧(out.take q++[x]).length+(out.drop q).length≤140737488355328:=by simp; omega
 unfold q3x
 simp only [q0w,e1,e2,q1d,hx,q09]
 rw [if_pos n1,if_pos n2,if_pos n3,if_pos n4,if_pos n1,if_pos n5,if_pos n6]
 simp
theorem z4g {l:List q0f} (hl:l.length≤1000000) (hd:Dis l) {n:Nat} (hn:l.length<n):∀ (m i:Nat),l.length - i<m→i≤l.length→q22 l n m i (qp1 (l.take i))=some (qp1 l)
 | 0,i,hm,_=>by omega
 | m+1,i,hm,hi=>by
  have hdi:Dis (l.take i):=hd.sublist (List.take_sublist i l)
  have hol:(qp1 (l.take i)).length=i:=by rw [(q57 _).length_eq]; simp; omega
  unfold q22
  by_cases hlt:i<l.length
  ·obtain ⟨x,hx,_⟩:=q2k hlt
   obtain ⟨q,q1,q2,q3,q4⟩:=z4h hx (out:=qp1 (l.take i)) (by omega) (qqm hdi) (rc:=q22 l n m) n (qp1 (l.take i)).length (by omega) (zF _) (by simp)
   simp only [dlt hlt,zC,q2,ins_K2 hx (show (qp1 (l.take i)).length≤1000000 by omega) q1,wr1 hlt (show l.length≤9223372036854775807 by omega)]
   have hdi1:Dis (l.take (i+1)):=hd.sublist (List.take_sublist _ l)
   have hperm:((qp1 (l.take i)).take q++x::(qp1 (l.take i)).drop q).Perm (l.take (i+1)):=by
    rw [q4a hx]
    refine List.perm_middle.trans ?_
    rw [List.take_append_drop]
    exact ((q57 (l.take i)).cons x).trans (List.perm_append_comm (l₁:=[x]) (l₂:=l.take i))
   have hne:∀ a∈qp1 (l.take i),a.Feat≠x.Feat:=fun a ha e=>by
    rw [q4a hx] at hdi1
    have:=(List.pairwise_append.1 hdi1).2.2 a ((q57 _).mem_iff.1 ha) x (by simp)
    exact this e
   have hup:UpA ((qp1 (l.take i)).take q++x::(qp1 (l.take i)).drop q):=by
    have h0:=qqm hdi
    unfold UpA at *
    rw [List.pairwise_append]
    refine ⟨h0.sublist (List.take_sublist _ _),List.pairwise_cons.2 ⟨q3,h0.sublist (List.drop_sublist _ _)⟩,fun a ha b hb=>?_⟩
    have h1:=q4 a ha
    have h2:=hne a (List.mem_of_mem_take ha)
    rcases zI.1 hb with rfl | hb
    ·omega
    ·have:=q3 b hb; omega
   rw [← z0m hdi1 hperm hup]
   exact z4g hl hd hn m (i+1) (by omega) (by omega)
  ·simp only [qjm hlt,zD,q7j]
   rw [List.take_of_length_le (by omega)]
theorem ql4 {l:List q0f} (hl:l.length≤1000000) (hd:Dis l) {n:Nat} (hn:l.length<n):q9b n l=some (qp1 l):=by
 have h:=z4g hl hd hn n 0 (by omega) (by omega)
 rw [Int.ofNat_zero,List.take_zero] at h
 exact h
structure z1b (f:GFS) (w:List Int) (o:List Int):Prop where
 len:w.length=f.Nodes.length
 get:∀ x,InG f x→q0l w x=some (if x∈o then (o.idxOf x:Int) else -1)
theorem z1b.snoc {f:GFS} {w o:List Int} (h:z1b f w o) {v:Int} (hv:InG f v) (hn:v ∉ o):z1b f (w.set (0+v.toNat) (o.length:Int)) (o++[v]):=by
 refine ⟨by simp [h.len],fun x hx=>?_⟩
 have hvl:v.toNat<w.length:=by rw [h.len]; have:=hv.1; have:=hv.2; omega
 have hc:0≤x∧x<((w.set (0+v.toNat) (o.length:Int)).length:Int):=by rw [List.length_set,h.len]; exact hx
 have h2:=h.get x hx
 have hc2:0≤x∧x<(w.length:Int):=by rw [h.len]; exact hx
 rw [q0l,if_pos hc2] at h2
 rw [q0l,if_pos hc,Nat.zero_add]
 by_cases e:x=v
 ·subst e
  simp [List.idxOf_append,hn,hvl]
 ·rw [List.getElem?_set_ne (by have:=hx.1; have:=hv.1; omega),h2]
  by_cases hxo:x∈o
  ·simp [hxo,List.idxOf_append]
  ·simp [hxo,e]
theorem qsj {f:GFS} {k:Nat} (hg:GOK f) (hf:Small f k) (hk:k≤1000000):∀ (n:Nat) (o:List Int) (v:Int) (w:List Int),Seen f o→InG f v→v ∉ o→z1b f w o→f.Nodes.length - o.length+k+2≤n →
  ∃ w',q15 n v f.Nodes w o=some (w',dfs f n o v)∧z1b f w' (dfs f n o v)
 | 0,o,v,w,hs,hv,hn,hw,hfu=>by omega
 | n+1,o,v,w,hs,hv,hn,hw,hfu=>by
  have hs1:=hs.snoc hv hn
  have hl1:=hs1.len
  simp only [List.length_append,zO,zS] at hl1
  obtain ⟨hx,hxm⟩:=qb9 hv
  have hno:=hg _ hxm
  have hal:=hf.arcs _ hxm
  have hnl:=hf.nodes
  have hsl:(sar f v).length=(nd f v).Arcs.length:=(q57 _).length_eq
  have key:∀ (m i:Nat) (p:List Int) (w:List Int),(sar f v).length - i<m→i≤(sar f v).length→Seen f p→o.length+1≤p.length→z1b f w p →
    ∃ w',q0y f.Nodes (sar f v) (q15 n) m i w p=some (w',((sar f v).drop i).foldl (qdd (dfs f n)) p)∧z1b f w' (((sar f v).drop i).foldl (qdd (dfs f n)) p):=by
   intro m
   induction m with
   | zero=>intro i p w hm; omega
   | succ m ih =>
    intro i p w hm hi hp hpl hw
    unfold q0y
    by_cases hlt:i<(sar f v).length
    ·obtain ⟨a,ha,ham⟩:=q2k hlt
     have h1:=hno.arc a (q80.1 ham)
     have hia:InG f a.To:=⟨h1.2.1,h1.2.2⟩
     have hw1:IntKind.i64.wrap ((i:Int)+1)=((i+1:Nat):Int):=wr1 hlt (by omega)
     simp only [dlt hlt,zC,q1d,ha,q09,hw.get _ hia,drop_cons' ha,List.foldl_cons]
     by_cases hm2:a.To∈p
     ·have hneg:¬ ((p.idxOf a.To:Nat):Int)<0:=by omega
      simp only [hm2,if_true,hneg,decide_false,zD,q1l,hw1,qdd]
      exact ih (i+1) p w (by omega) (by omega) hp hpl hw
     ·have hneg:(-1:Int)<0:=by decide
      simp only [hm2,if_false,hneg,decide_true,zC,q1l,hw1,qdd]
      obtain ⟨w1,g1,g2⟩:=qsj hg hf hk n p a.To w hp hia hm2 hw (by omega)
      obtain ⟨d1,⟨t,d2⟩,_,_⟩:=quk hg n p a.To hp hia hm2 (by omega)
      simp only [g1,q09]
      exact ih (i+1) _ w1 (by omega) (by omega) d1 (by rw [d2]; simp; omega) g2
    ·rw [drop_nil' hlt]
     simp only [qjm hlt,zD,q33,List.foldl_nil]
     exact ⟨w,rfl,hw⟩
  have hneed:(o.length+1)*8≤140737488355328∧o.length+1≤140737488355328:=by omega
  obtain ⟨w',g1,g2⟩:=key n 0 (o++[v]) _ (by omega) (by omega) hs1 (by simp) (hw.snoc hv hn)
  rw [Int.ofNat_zero,List.drop_zero] at g1
  rw [List.drop_zero] at g2
  refine ⟨w',?_,g2⟩
  show q3f n (q15 n) v f.Nodes w o=_
  simp only [q3f,hw.get _ hv,q0w,hneed,and_self,if_true,hx,q09,ql4 (show (nd f v).Arcs.length≤1000000 by omega) hno.dis (show (nd f v).Arcs.length<n by omega)]
  exact g1
theorem qyu {f:GFS} {o w:List Int} {z:Int} {l27:List q0a} {rc:Int→List q0a→Option GFS} {x:q0a} {l:List q0f} (hl:l.length≤1000000) (hw:z1b f w o) (hin:∀ a∈l,a.To∈o) (hing:∀ v∈o,InG f v):∀ (m i:Nat),l.length - i<m→i≤l.length →
  q41 (w,o) z l27 rc x m i ((l.take i).map (qi0 o)++l.drop i)=q7i z l27 rc x (l.map (qi0 o))
 | 0,i,hm,_=>by omega
 | m+1,i,hm,hi=>by
  unfold q41
  have hlen:((l.take i).map (qi0 o)++l.drop i).length=l.length:=by simp; omega
  rw [hlen]
  by_cases hlt:i<l.length
  ·obtain ⟨a,ha,ham⟩:=q2k hlt
   have e1:(((l.take i).map (qi0 o)++l.drop i))[i]? = some a:=by
    rw [List.getElem?_append_right (by simp; omega)]
    simp [show min i l.length=i by omega,ha]
   have e2:(((l.take i).map (qi0 o)++l.drop i)).set (0+(i:Int).toNat) (qi0 o a)=(l.take (i+1)).map (qi0 o)++l.drop (i+1):=by
    rw [drop_cons' ha,q4a ha]
    have h3:((l.take i).map (qi0 o)).length=i:=by simp; omega
    have:=z0f ((l.take i).map (qi0 o)) (l.drop (i+1)) a (qi0 o a)
    rw [h3] at this
    rw [Nat.zero_add,Int.toNat_natCast,this,List.map_append,zQ,List.map_nil,zT]
    rfl
   have hto:=hin a ham
   have e3:(⟨a.Feat,(o.idxOf a.To:Int)⟩:q0f)=qi0 o a:=rfl
   simp only [dlt hlt,zC,q1d,e1,q09,hw.get _ (hing _ hto),hto,if_true,e3,e2,wr1 hlt (show l.length≤9223372036854775807 by omega)]
   exact qyu hl hw hin hing m (i+1) (by omega) (by omega)
  ·simp only [qjm hlt,zD]
   rw [List.take_of_length_le (by omega),List.drop_eq_nil_of_le (by omega),List.append_nil]
theorem qyt {f:GFS} {k:Nat} (hg:GOK f) (hf:Small f k) (hk:k≤1000000) {n:Nat} (hn:k+2≤n) {r:Int} {o w:List Int} (ho:z5b f r o) (hw:z1b f w o):∀ (m i:Nat),o.length - i<m→i≤o.length →
  q2p f n (w,o) m i ((o.take i).map (q6j f o))=some ⟨o.map (q6j f o)⟩
 | 0,i,hm,_=>by omega
 | m+1,i,hm,hi=>by
  have hol:=ho.seen.len
  have hnl:=hf.nodes
  unfold q2p
  by_cases hlt:i<o.length
  ·obtain ⟨v,hv,hvm⟩:=q2k hlt
   obtain ⟨hx,hxm⟩:=qb9 (ho.seen.ing v hvm)
   have hno:=hg _ hxm
   have hal:=hf.arcs _ hxm
   have hsl:(sar f v).length=(nd f v).Arcs.length:=(q57 _).length_eq
   have h2:=qyu (z:=(i:Int)) (l27:=(o.take i).map (q6j f o)) (rc:=q2p f n (w,o) m) (x:=nd f v) (l:=sar f v) (by omega) hw (fun a ha=>ho.clo v hvm a (q80.1 ha)) ho.seen.ing n 0 (by omega) (by omega)
   rw [Int.ofNat_zero,List.take_zero,List.map_nil,List.nil_append,List.drop_zero] at h2
   have hneed:(((o.take i).map (q6j f o)).length+1)*32≤140737488355328∧((o.take i).map (q6j f o)).length+1≤140737488355328:=by simp; omega
   have hso:=ql4 (show (nd f v).Arcs.length≤1000000 by omega) hno.dis (show (nd f v).Arcs.length<n by omega)
   simp only [dlt hlt,zC,q1d,hv,hx,q09,hso]
   show q41 (w,o) i _ _ (nd f v) n 0 (sar f v)=_
   rw [h2]
   simp only [q7i,q0w]
   rw [if_pos hneed,wr1 hlt (show o.length≤9223372036854775807 by omega)]
   have:=qyt hg hf hk hn ho hw m (i+1) (by omega) (by omega)
   rw [q4a hv] at this
   simpa [q6j,sar] using this
  ·simp only [qjm hlt,zD,qaa]
   rw [List.take_of_length_le (by omega)]
theorem qys {f:GFS} (hN:f.Nodes.length≤1000000) {r:Int} {n:Nat}:∀ (m i:Nat),f.Nodes.length - i<m→i≤f.Nodes.length→q5p f r n m i (List.replicate i (-1))=q7h f r n (List.replicate f.Nodes.length (-1))
 | 0,i,hm,_=>by omega
 | m+1,i,hm,hi=>by
  unfold q5p
  by_cases hlt:i<f.Nodes.length
  ·have hneed:((List.replicate i (-1:Int)).length+1)*8≤140737488355328∧(List.replicate i (-1:Int)).length+1≤140737488355328:=by simp; omega
   have e:List.replicate i (-1:Int)++[-1]=List.replicate (i+1) (-1):=by rw [List.replicate_succ']
   simp only [dlt hlt,zC,q0w]
   rw [if_pos hneed,wr1 hlt (show f.Nodes.length≤9223372036854775807 by omega),e]
   exact qys hN m (i+1) (by omega) (by omega)
  ·simp only [qjm hlt,zD]
   rw [show i=f.Nodes.length by omega]
theorem z5u {f:GFS} {k:Nat} (hg:GOK f) (hf:Small f k) (hk:k≤1000000) {r:Int} (hr:InG f r) {n:Nat} (hn:2*k+4≤n):qd7 n f r=some (q2c f r):=by
 obtain ⟨ho,hst⟩:=qbv hg hr
 have hnl:=hf.nodes
 have h0:z1b f (List.replicate f.Nodes.length (-1)) []:=⟨by simp,fun x hx=>by
  have hc:0≤x∧x<((List.replicate f.Nodes.length (-1:Int)).length:Int):=by rw [List.length_replicate]; exact hx
  rw [q0l,if_pos hc]
  have:x.toNat<f.Nodes.length:=by have:=hx.1; have:=hx.2; omega
  simp [this]⟩
 obtain ⟨w,g1,g2⟩:=qsj hg hf hk n [] r _ (Seen.nil f) hr (by simp) h0 (by simp; omega)
 rw [hst n (by omega)] at g1 g2
 have hol:=ho.seen.len
 have h1:=qyt hg hf hk (show k+2≤n by omega) ho g2 n 0 (by omega) (by omega)
 rw [Int.ofNat_zero,List.take_zero,List.map_nil] at h1
 have h2:=qys (f:=f) (by omega) (r:=r) (n:=n) n 0 (by omega) (by omega)
 rw [Int.ofNat_zero,List.replicate_zero] at h2
 simp only [qd7,h2,q7h,g1,q09,h1,q2c]
theorem qty {f:GFS} {k:Nat} (hf:Small f k) (hk:k≤1000000) {n:Nat} (hn:2*k+4≤n):qb7 n f=some (if qt7 f=0 then (q2c f 0,0) else (⟨[]⟩,qt7 f)):=by
 simp only [qb7,z5t hf hk (show k<n by omega),q09]
 by_cases he:qt7 f=0
 ·obtain ⟨e1,e2,e3⟩:=qi8.1 he
  simp [he,z5u e3 hf hk (r:=0) ⟨by omega,by omega⟩ hn,q09]
 ·have hb:(qt7 f != 0)=true:=by simpa using he
  simp [he,hb]
end Go.Proofs
end
section
namespace Go.Proofs
open Go Go.Rx Go.Vx Go.Shelf Go.Sort
set_option maxRecDepth 10000
def idN (N:Nat):List Int:=(List.range N).map fun (i:Nat)=>(i:Int)
theorem qtd {N i:Nat} (h:i<N):(idN N)[i]? = some (i:Int):=by simp [idN,h]
inductive Rch (f:GFS):Int→Int→Prop
 | one {u:Int} {a:q0f}:a∈(nd f u).Arcs→Rch f u a.To
 | snoc {u v:Int} {a:q0f}:Rch f u v→a∈(nd f v).Arcs→Rch f u a.To
def Cyc (f:GFS):Prop:=∃ u,InG f u∧Rch f u u
inductive qxe (f:GFS):List Int→Prop
 | nil:qxe f []
 | snoc {l:List Int} {v:Int}:qxe f l→v ∉ l→(∀ a∈(nd f v).Arcs,a.To∈l)→qxe f (l++[v])
theorem qxe.clo {f:GFS} {l:List Int} (h:qxe f l):∀ u∈l,∀ a∈(nd f u).Arcs,a.To∈l:=by
 induction h with
 | nil=>intro u hu; cases hu
 | snoc h1 h2 h3 ih =>
  intro u hu a ha
  rcases List.mem_append.1 hu with hu | hu
  ·exact List.mem_append_left _ (ih u hu a ha)
  ·simp at hu; subst hu; exact List.mem_append_left _ (h3 a ha)
theorem rch_in {f:GFS} {l:List Int} {v w:Int} (h1:∀ a∈(nd f v).Arcs,a.To∈l) (h2:∀ u∈l,∀ a∈(nd f u).Arcs,a.To∈l) (h:Rch f v w):w∈l:=by
 induction h with
 | one ha=>exact h1 _ ha
 | snoc _ ha ih=>exact h2 _ ih _ ha
theorem qxe.acyc {f:GFS} {l:List Int} (h:qxe f l):∀ u∈l,¬ Rch f u u:=by
 induction h with
 | nil=>intro u hu; cases hu
 | snoc h1 h2 h3 ih =>
  intro u hu hr
  rcases List.mem_append.1 hu with hu | hu
  ·exact ih u hu hr
  ·simp at hu; subst hu; exact h2 (rch_in h3 h1.clo hr)
def bat (l:List Bool) (v:Int):Bool:=(l[v.toNat]?).getD false
theorem qoe {N:Nat} {l:List Bool} (h:l.length=N) {v:Int} (hv:0≤v∧v<N):qjz l 0 N v=some (bat l v):=by
 have h1:v.toNat<l.length:=by omega
 rw [qjz,if_pos hv,Nat.zero_add]
 simp [bat,h1]
theorem qt4 {N:Nat} {l:List Bool} (h:l.length=N) {u v:Int} (hu:0≤u∧u<N) (hv:0≤v∧v<N) (b:Bool):bat (l.set v.toNat b) u=if u=v then b else bat l u:=by
 have h1:u.toNat<l.length:=by omega
 by_cases e:u=v
 ·subst e; simp [bat,h1]
 ·rw [if_neg e]
  simp only [bat]
  rw [List.getElem?_set_ne (by omega)]
structure CSt (f:GFS) (op dn:List Bool) (pth fin:List Int):Prop where
 lo:op.length=f.Nodes.length
 ld:dn.length=f.Nodes.length
 op:∀ u,InG f u→(bat op u=true↔u∈pth)
 dn:∀ u,InG f u→(bat dn u=true↔u∈fin)
 topo:qxe f fin
 nd:(pth++fin).Nodup
 ing:∀ u∈pth++fin,InG f u
theorem CSt.bound {f:GFS} {op dn:List Bool} {pth fin:List Int} (h:CSt f op dn pth fin) {v:Int} (hv:InG f v) (h1:v ∉ pth) (h2:v ∉ fin):pth.length+fin.length+1≤f.Nodes.length:=by
 have:=qhj f.Nodes.length (o:=v::(pth++fin)) (List.nodup_cons.2 ⟨by simp [h1,h2],h.nd⟩) (fun u hu=>by
  rcases zI.1 hu with rfl | hu
  ·exact hv
  ·exact h.ing u hu)
 simp only [zO,List.length_append] at this
 omega
theorem qr7 {f:GFS} {k:Nat} (hg:GOK f) (hf:Small f k) (hk:k≤1000000):∀ (n:Nat) (v:Int) (op dn:List Bool) (pth fin:List Int),CSt f op dn pth fin→InG f v→v ∉ pth→v ∉ fin→(∀ u∈pth,Rch f u v)→f.Nodes.length - (pth.length+fin.length)+k+2≤n →
  ∃ b op' dn',q1v n v f.Nodes.length f.Nodes f.Nodes.length op dn=some (b,op',dn')∧(b=true→Cyc f)∧(b=false→∃ fin',CSt f op' dn' pth fin'∧v∈fin'∧(∀ u∈fin,u∈fin')∧fin.length≤fin'.length)
 | 0,v,op,dn,pth,fin,hs,hv,h1,h2,hr,hfu=>by omega
 | n+1,v,op,dn,pth,fin,hs,hv,h1,h2,hr,hfu=>by
  have hbd:=hs.bound hv h1 h2
  obtain ⟨hx,hxm⟩:=qb9 hv
  have hno:=hg _ hxm
  have hal:=hf.arcs _ hxm
  have hnl:=hf.nodes
  have hin:∀ a∈(Go.Proofs.nd f v).Arcs,InG f a.To:=fun a ha=>⟨(hno.arc a ha).2.1,(hno.arc a ha).2.2⟩
  have key:∀ (m i:Nat) (op dn:List Bool) (fin':List Int),(Go.Proofs.nd f v).Arcs.length - i<m→i≤(Go.Proofs.nd f v).Arcs.length→CSt f op dn (v::pth) fin'→(∀ u∈fin,u∈fin')→fin.length≤fin'.length→(∀ a∈(Go.Proofs.nd f v).Arcs.take i,a.To∈fin') →
    ∃ b op' dn',q23 v f.Nodes.length f.Nodes f.Nodes.length (Go.Proofs.nd f v) (q1v n) m i op dn=some (b,op',dn')∧(b=true→Cyc f)∧(b=false→∃ fin',CSt f op' dn' pth fin'∧v∈fin'∧(∀ u∈fin,u∈fin')∧fin.length≤fin'.length):=by
   intro m
   induction m with
   | zero=>intro i op dn fin' hm; omega
   | succ m ih =>
    intro i op dn fin' hm hi hc hsub hle hdone
    unfold q23
    by_cases hlt:i<(Go.Proofs.nd f v).Arcs.length
    ·obtain ⟨a,ha,ham⟩:=q2k hlt
     have hia:=hin a ham
     have hw1:IntKind.i64.wrap ((i:Int)+1)=((i+1:Nat):Int):=wr1 hlt (by omega)
     have hd':∀ fin'':List Int,(∀ u∈fin',u∈fin'')→a.To∈fin''→∀ b∈(Go.Proofs.nd f v).Arcs.take (i+1),b.To∈fin'':=fun fin'' hs' hat b hb=>by
      rw [q4a ha] at hb
      rcases List.mem_append.1 hb with hb | hb
      ·exact hs' _ (hdone b hb)
      ·simp at hb; subst hb; exact hat
     simp only [dlt hlt,zC,q1d,ha,q09,qoe hc.lo hia]
     by_cases hop:bat op a.To=true
     ·simp only [hop,zC,q09]
      refine ⟨true,op,dn,rfl,fun _=>?_,fun h=>by cases h⟩
      rcases zI.1 ((hc.op _ hia).1 hop) with e | hm2
      ·exact ⟨v,hv,by have:=Rch.one (f:=f) ham; rwa [e] at this⟩
      ·exact ⟨a.To,hia,.snoc (hr _ hm2) ham⟩
     ·have hop':bat op a.To=false:=by simpa using hop
      simp only [hop',zD,qoe hc.ld hia,q09]
      by_cases hdn:bat dn a.To=true
      ·simp only [hdn,Bool.not_true,zD,q09,hw1]
       exact ih (i+1) op dn fin' (by omega) (by omega) hc hsub hle (hd' fin' (fun u hu=>hu) ((hc.dn _ hia).1 hdn))
      ·have hdn':bat dn a.To=false:=by simpa using hdn
       have n1:a.To ∉ v::pth:=fun h=>hop ((hc.op _ hia).2 h)
       have n2:a.To ∉ fin':=fun h=>hdn ((hc.dn _ hia).2 h)
       have hb2:=hc.bound hia n1 n2
       simp only [zO] at hb2
       obtain ⟨b,op',dn',g1,g2,g3⟩:=qr7 hg hf hk n a.To op dn (v::pth) fin' hc hia n1 n2 (fun u hu=>by
        rcases zI.1 hu with rfl | hu
        ·exact .one ham
        ·exact .snoc (hr u hu) ham) (by simp only [zO]; omega)
       simp only [hdn',Bool.not_false,zC,g1,q09]
       cases b with
       | true=>exact ⟨true,op',dn',rfl,fun _=>g2 rfl,fun h=>by cases h⟩
       | false =>
        obtain ⟨fin'',q1,q2,q3,q4⟩:=g3 rfl
        simp only [zD,hw1]
        exact ih (i+1) op' dn' fin'' (by omega) (by omega) q1 (fun u hu=>q3 u (hsub u hu)) (by omega) (hd' fin'' q3 q2)
    ·have hall:∀ a∈(Go.Proofs.nd f v).Arcs,a.To∈fin':=fun a ha=>hdone a (by rw [List.take_of_length_le (by omega)]; exact ha)
     simp only [qjm hlt,zD,q3m,qoe hc.lo hv,qoe hc.ld hv,q09]
     have hnd:=hc.nd
     rw [List.cons_append,List.nodup_cons,List.mem_append] at hnd
     have nv:v ∉ fin':=fun h=>hnd.1 (.inr h)
     refine ⟨false,_,_,rfl,(fun h=>by cases h),fun _=>⟨fin'++[v],⟨by simp [hc.lo],by simp [hc.ld],fun u hu=>?_,fun u hu=>?_,.snoc hc.topo nv hall,?_,fun u hu=>?_⟩,by simp,fun u hu=>List.mem_append_left _ (hsub u hu),by simp; omega⟩⟩
     ·rw [qt4 hc.lo hu hv]
      by_cases e:u=v
      ·subst e; simp [h1]
      ·rw [if_neg e,hc.op u hu,zI]; simp [e]
     ·rw [qt4 hc.ld hu hv]
      by_cases e:u=v
      ·subst e; simp
      ·rw [if_neg e,hc.dn u hu,List.mem_append]; simp [e]
     ·rw [← zT,List.nodup_append]
      refine ⟨hnd.2,by simp,fun x1 hx1 y hy e=>?_⟩
      simp at hy
      rw [e,hy] at hx1
      exact hnd.1 (List.mem_append.1 hx1)
     ·refine hc.ing u ?_
      rw [← zT] at hu
      rcases List.mem_append.1 hu with hu | hu
      ·exact List.mem_cons_of_mem _ hu
      ·simp at hu; subst hu; simp
  have hst:CSt f (op.set v.toNat true) dn (v::pth) fin:=⟨by simp [hs.lo],hs.ld,fun u hu=>by
   rw [qt4 hs.lo hu hv]
   by_cases e:u=v
   ·simp [e]
   ·rw [if_neg e,hs.op u hu,zI]; simp [e],hs.dn,hs.topo,by
   rw [List.cons_append,List.nodup_cons,List.mem_append]
   exact ⟨fun h=>h.elim h1 h2,hs.nd⟩,fun u hu=>by
   rcases zI.1 hu with rfl | hu
   ·exact hv
   ·exact hs.ing u hu⟩
  obtain ⟨b,op',dn',g1,g2,g3⟩:=key n 0 _ dn fin (by omega) (by omega) hst (fun u hu=>hu) (zF _) (by simp)
  rw [Int.ofNat_zero] at g1
  refine ⟨b,op',dn',?_,g2,g3⟩
  show q40 n (q1v n) v f.Nodes.length f.Nodes f.Nodes.length op dn=_
  simp only [q40,qoe hs.lo hv,q09,hx]
  exact g1
theorem qy7 {f:GFS} {k:Nat} (hg:GOK f) (hf:Small f k) (hk:k≤1000000) {n:Nat} (hn:2*k+4≤n):∀ (m i:Nat) (op dn:List Bool) (fin:List Int),f.Nodes.length - i<m→i≤f.Nodes.length→CSt f op dn [] fin→(∀ j:Nat,j<i→(j:Int)∈fin) →
  ∃ b,q3q f n m i dn op=some b∧(b=true→Cyc f)∧(b=false→∃ fin,qxe f fin∧∀ v,InG f v→v∈fin)
 | 0,i,op,dn,fin,hm,_,_,_=>by omega
 | m+1,i,op,dn,fin,hm,hi,hs,hd=>by
  have hnl:=hf.nodes
  unfold q3q
  by_cases hlt:i<f.Nodes.length
  ·have hv:InG f (i:Int):=⟨by omega,by omega⟩
   have hw1:IntKind.i64.wrap ((i:Int)+1)=((i+1:Nat):Int):=wr1 hlt (by omega)
   have hd':∀ fin':List Int,(∀ u∈fin,u∈fin')→(i:Int)∈fin'→∀ j:Nat,j<i+1→(j:Int)∈fin':=fun fin' h1 h2 j hj=>by
    by_cases e:j=i
    ·subst e; exact h2
    ·exact h1 _ (hd j (by omega))
   simp only [dlt hlt,zC,Int.toNat_natCast,qoe hs.ld hv,q09]
   by_cases hdn:bat dn (i:Int)=true
   ·simp only [hdn,Bool.not_true,zD,q09,hw1]
    exact qy7 hg hf hk hn m (i+1) op dn fin (by omega) (by omega) hs (hd' fin (fun u hu=>hu) ((hs.dn _ hv).1 hdn))
   ·have hdn':bat dn (i:Int)=false:=by simpa using hdn
    have n2:(i:Int) ∉ fin:=fun h=>hdn ((hs.dn _ hv).2 h)
    obtain ⟨b,op',dn',g1,g2,g3⟩:=qr7 hg hf hk n (i:Int) op dn [] fin hs hv (by simp) n2 (by simp) (by simp; omega)
    simp only [hdn',Bool.not_false,zC,g1,q09]
    cases b with
    | true=>exact ⟨true,rfl,fun _=>g2 rfl,fun h=>by cases h⟩
    | false =>
     obtain ⟨fin',q1,q2,q3,q4⟩:=g3 rfl
     simp only [zD,hw1]
     exact qy7 hg hf hk hn m (i+1) op' dn' fin' (by omega) (by omega) q1 (hd' fin' q3 q2)
  ·simp only [qjm hlt,zD,q70]
   exact ⟨false,rfl,(fun h=>by cases h),fun _=>⟨fin,hs.topo,fun v hv=>by
    have:=hd v.toNat (by have:=hv.1; have:=hv.2; omega)
    have e:(v.toNat:Int)=v:=by have:=hv.1; omega
    rwa [e] at this⟩⟩
theorem qxo (N:Nat) (v:Int):bat (List.replicate N false) v=false:=by
 simp only [bat,List.getElem?_replicate]
 split<;>rfl
theorem qqw {f:GFS} {k:Nat} (hg:GOK f) (hf:Small f k) (hk:k≤1000000) {n:Nat} (hn:2*k+4≤n):∃ b,q6m n f=some b∧(b=true→Cyc f)∧(b=false→∃ fin,qxe f fin∧∀ v,InG f v→v∈fin):=by
 have hnl:=hf.nodes
 have hneed:0≤(f.Nodes.length:Int)∧1*(f.Nodes.length:Int).toNat≤281474976710656∧(f.Nodes.length:Int)≤281474976710656:=by rw [Int.toNat_natCast]; omega
 obtain ⟨b,h1,h2,h3⟩:=qy7 hg hf hk hn n 0 (List.replicate f.Nodes.length false) (List.replicate f.Nodes.length false) [] (by omega) (by omega) ⟨by simp,by simp,fun u _=>by simp [qxo],fun u _=>by simp [qxo],.nil,by simp,by simp⟩ (by simp)
 refine ⟨b,?_,h2,h3⟩
 simp only [q6m,q0w]
 rw [if_pos hneed,if_pos hneed,Int.toNat_natCast]
 exact h1
theorem qxf {f:GFS} (h:∃ fin,qxe f fin∧∀ v,InG f v→v∈fin):¬ Cyc f:=fun ⟨u,hu,hr⟩=>by
 obtain ⟨fin,h1,h2⟩:=h
 exact h1.acyc u (h2 u hu) hr
end Go.Proofs
end
section
namespace Go.Proofs
open Go Go.Rx Go.Vx Go.Shelf Go.Sort
set_option maxRecDepth 10000
theorem qpn {o:List Int} (hn:o.Nodup) {i:Nat} (hi:i<o.length):o.idxOf o[i]=i:=by
 have h1:o[i]∈o:=List.getElem_mem hi
 have h2:=qin h1
 obtain ⟨h3,h4⟩:=zG.1 h2
 exact (List.getElem_inj hn).1 h4
theorem qzw {f:GFS} (hf:GOK f) {r:Int} (hr:InG f r):qba (q2c f r) 0=idN (q2c f r).Nodes.length:=by
 obtain ⟨o1,_⟩:=qbv hf hr
 rw [(qwg hf hr).2,(qm9 hf hr).len]
 apply List.ext_getElem?
 intro i
 by_cases hi:i<(qba f r).length
 ·rw [qtd hi,List.getElem?_map,List.getElem?_eq_getElem hi,zM,qpn o1.seen.nd hi]
 ·rw [List.getElem?_eq_none (by simp; omega),List.getElem?_eq_none (by simp [idN]; omega)]
theorem z2g {f:GFS} (hf:GOK f) {r:Int} (hr:InG f r) (h:Cyc (q2c f r)):Cyc f:=by
 obtain ⟨x,hx,hxx⟩:=h
 have hc:=qm9 hf hr
 obtain ⟨o1,_⟩:=qbv hf hr
 have step:∀ {x w:Int},Rch (q2c f r) x w→∀ u∈qba f r,x=((qba f r).idxOf u:Int)→∃ w'∈qba f r,w=((qba f r).idxOf w':Int)∧Rch f u w':=by
  intro x w h
  induction h with
  | one ha =>
   intro u hu e
   rw [e,hc.at_ u hu] at ha
   simp only [q6j,List.mem_map] at ha
   obtain ⟨b,hb,rfl⟩:=ha
   exact ⟨b.To,o1.clo u hu b (q80.1 hb),rfl,.one (q80.1 hb)⟩
  | snoc _ ha ih =>
   intro u hu e
   obtain ⟨w',hw',e',hr'⟩:=ih u hu e
   rw [e',hc.at_ w' hw'] at ha
   simp only [q6j,List.mem_map] at ha
   obtain ⟨b,hb,rfl⟩:=ha
   exact ⟨b.To,o1.clo w' hw' b (q80.1 hb),rfl,.snoc hr' (q80.1 hb)⟩
 have hxl:x.toNat<(qba f r).length:=by rw [← hc.len]; have:=hx.1; have:=hx.2; omega
 have hu:(qba f r)[x.toNat]∈qba f r:=List.getElem_mem hxl
 have hxu:x=((qba f r).idxOf (qba f r)[x.toNat]:Int):=by rw [qpn o1.seen.nd hxl]; have:=hx.1; omega
 obtain ⟨w',hw',e,hrch⟩:=step hxx _ hu hxu
 have:(qba f r)[x.toNat]=w':=hc.sim.inj _ _ hu hw' (by show ((qba f r).idxOf _:Int)=((qba f r).idxOf w':Int); rw [← e,← hxu])
 rw [← this] at hrch
 exact ⟨_,o1.seen.ing _ hu,hrch⟩
end Go.Proofs
end
section
namespace Go.Proofs
open Go Go.Rx Go.Vx Go.Shelf Go.Sort
set_option maxRecDepth 10000
theorem ex_ok (m:Nat):q2h (m+200)=some true:=by kernel_rfl
theorem ex_n {n:Nat} (h:200≤n):q2h n=some true:=by
 have:=ex_ok (n - 200)
 rwa [Nat.sub_add_cancel h] at this
structure VOK (f:GFS):Prop where
 g:GOK f
 s:Small f 12
 e:qt7 f=0
 c:q2c f 0=f
theorem VOK.pos {f:GFS} (h:VOK f):0<f.Nodes.length:=by have:=(qi8.1 h.e).1; omega
theorem VOK.root {f:GFS} (h:VOK f):InG f 0:=⟨by omega,by have:=h.pos; omega⟩
theorem qw3 {f:GFS} (hf:Small f 12):∀ (m i:Nat),f.Nodes.length - i<m→i≤f.Nodes.length→∃ b,q4f f m i=some b
 | 0,i,hm,_=>by omega
 | m+1,i,hm,hi=>by
  unfold q4f
  have hl:=hf.nodes
  by_cases hlt:i<f.Nodes.length
  ·obtain ⟨x,hx,hxm⟩:=q2k hlt
   have ha:=hf.arcs x hxm
   simp only [dlt hlt,zC,q1d,hx,q09,wr1 hlt (show f.Nodes.length≤9223372036854775807 by omega)]
   have hin:∃ b,(cond (decide (x.Typex ≥ 256)) (some true) (cond (decide ((x.Arcs.length:Int) > 0)) (q03 (q0l x.Arcs (IntKind.i64.wrap ((x.Arcs.length:Int) - 1))) fun x24=>some (decide (x24.Feat ≥ 64))) (some false)))=some b:=by
    by_cases h1:x.Typex ≥ 256
    ·simp [h1]
    ·by_cases h2:(x.Arcs.length:Int) > 0
     ·obtain ⟨y,hy,_⟩:=q2k (l:=x.Arcs) (i:=x.Arcs.length - 1) (by omega)
      rw [wrn (z:=(x.Arcs.length:Int) - 1) (k:=x.Arcs.length - 1) (by omega) (by omega),q1d,hy]
      simp only [h1,h2,decide_false,decide_true,zD,zC,q09]; exact ⟨_,rfl⟩
     ·simp only [h1,h2,decide_false,zD]; exact ⟨_,rfl⟩
   obtain ⟨b,hb⟩:=hin
   rw [hb,q09]
   cases b with
   | true=>exact ⟨false,rfl⟩
   | false=>simp only [zD]; exact qw3 hf m (i+1) (by omega) (by omega)
  ·simp only [qjm hlt,zD,q85]; exact ⟨true,rfl⟩
theorem z3t {f:GFS} {n:Nat} (hn:3000000≤n):∃ b,qap n f=some b∧(b=true→VOK f):=by
 obtain ⟨b,h1,h2⟩:=z2w f (show 20≤n by omega)
 simp only [qap,h1,q09]
 cases b with
 | false=>exact ⟨false,rfl,fun h=>by cases h⟩
 | true =>
  have hf:=h2 rfl
  have hR:=qty hf (by omega) (show 2*12+4≤n by omega)
  have hnl:=hf.nodes
  obtain ⟨b2,hb2⟩:=qw3 hf n 0 (by omega) (by omega)
  rw [Int.ofNat_zero] at hb2
  simp only [Bool.not_true,zD,hR,q09]
  by_cases he:qt7 f=0
  ·obtain ⟨e1,e2,e3⟩:=qi8.1 he
   have hs:=(hf.canon e3 (r:=0) ⟨by omega,by omega⟩).up (show 12≤1000 by omega)
   have hq:=qqf (hf.up (show 12≤1000 by omega)) hs hn
   simp only [he,if_true,bne_self_eq_false,zD,hq,q09]
   by_cases hc:ccG f (q2c f 0)=0
   ·refine ⟨b2,by simp [hc,hb2],fun _=>⟨e3,hf,he,(z1z.1 hc).symm⟩⟩
   ·have:(ccG f (q2c f 0) == 0)=false:=by simpa using hc
    exact ⟨false,by simp [this],fun h=>by cases h⟩
  ·have hb:(qt7 f != 0)=true:=by simpa using he
   exact ⟨false,by simp [he,hb,q09],fun h=>by cases h⟩
theorem qvv {p:List Int} (hp:p.length≤9223372036854775807):∀ (m i:Nat),p.length - i<m→i≤p.length→∃ b,q4e p m i=some b∧(b=true→p.length≤30∧∀ x∈p.drop i,0≤x∧x<64)
 | 0,i,hm,_=>by omega
 | m+1,i,hm,hi=>by
  unfold q4e
  by_cases hlt:i<p.length
  ·obtain ⟨x,hx,_⟩:=q2k hlt
   simp only [dlt hlt,zC,q1d,hx,q09,wr1 hlt hp,drop_cons' hx]
   by_cases h1:x<0
   ·simp only [h1,decide_true,zC,q09]; exact ⟨false,rfl,fun h=>by cases h⟩
   ·by_cases h2:x ≥ 64
    ·simp only [h1,h2,decide_true,decide_false,zC,zD,q09]; exact ⟨false,rfl,fun h=>by cases h⟩
    ·simp only [h1,h2,decide_false,zD,q09]
     obtain ⟨b,g1,g2⟩:=qvv hp m (i+1) (by omega) (by omega)
     refine ⟨b,g1,fun hb=>⟨(g2 hb).1,fun y hy=>?_⟩⟩
     rcases zI.1 hy with rfl | hy
     ·omega
     ·exact (g2 hb).2 y hy
  ·simp only [qjm hlt,zD,q84,drop_nil' hlt]
   exact ⟨_,rfl,fun h=>⟨by have:=of_decide_eq_true h; omega,fun x hx=>by cases hx⟩⟩
theorem z3i {p:List Int} (hp:p.length≤9223372036854775807) {n:Nat} (hn:p.length<n):∃ b,qdk n p=some b∧(b=true→p.length≤30∧∀ x∈p,0≤x∧x<64):=by
 obtain ⟨b,h1,h2⟩:=qvv hp n 0 (by omega) (by omega)
 rw [List.drop_zero] at h2
 exact ⟨b,h1,h2⟩
def stp (f:GFS) (v feat:Int):Option Int:=((nd f v).Arcs.find? fun a=>a.Feat == feat).map q0f.To
theorem qrf {l:List q0f} {feat:Int} {F:Nat→Int→Option (Int×Bool)} (hF:∀ m (z:Int),F (m+1) z=cond (decide (z<(l.length:Int))) (q03 (q0l l z) fun x=>cond (x.Feat == feat) (some (x.To,true)) (F m (IntKind.i64.wrap (z+1)))) (some (0,false))) (hl:l.length≤1000000) :
  ∀ (m i:Nat),l.length - i<m→i≤l.length→F m i=some (match ((l.drop i).find? fun a=>a.Feat == feat).map q0f.To with | some v=>(v,true) | none=>(0,false))
 | 0,i,hm,_=>by omega
 | m+1,i,hm,hi=>by
  rw [hF]
  by_cases hlt:i<l.length
  ·obtain ⟨x,hx,_⟩:=q2k hlt
   simp only [dlt hlt,zC,q1d,hx,q09,wr1 hlt (show l.length≤9223372036854775807 by omega),drop_cons' hx,List.find?_cons]
   cases h:(x.Feat == feat) with
   | true=>simp
   | false=>simp only [zD]; exact qrf hF hl m (i+1) (by omega) (by omega)
  ·simp only [qjm hlt,zD,drop_nil' hlt,List.find?_nil,Option.map_none]
def pr (o:Option Int):Int×Bool:=match o with | some v=>(v,true) | none=>(0,false)
theorem z6f {f:GFS} {v feat:Int} (hv:InG f v) (hl:(nd f v).Arcs.length≤1000000) {n:Nat} (hn:(nd f v).Arcs.length<n):qd5 n f v feat=some (pr (stp f v feat)):=by
 have h:=qrf (F:=q97 feat (nd f v)) (feat:=feat) (fun m z=>rfl) hl n 0 (by omega) (by omega)
 rw [List.drop_zero] at h
 simp only [qd5,(qb9 hv).1,q09]
 exact h
theorem z4u {f:GFS} (hg:GOK f) {v feat w:Int} (hv:InG f v) (h:stp f v feat=some w):InG f w∧∃ a∈(nd f v).Arcs,a.Feat=feat∧a.To=w:=by
 unfold stp at h
 cases hf:(nd f v).Arcs.find? fun a=>a.Feat == feat with
 | none=>rw [hf] at h; cases h
 | some a =>
  rw [hf] at h
  have hm:=List.mem_of_find?_eq_some hf
  have he:=List.find?_some hf
  simp only [zM,zA] at h
  subst h
  have h3:=(hg _ (qb9 hv).2).arc a hm
  exact ⟨⟨h3.2.1,h3.2.2⟩,a,hm,by simpa using he,rfl⟩
def atG (f:GFS):List Int→Int→Option Int
 | [],v=>some v
 | x::p,v=>match stp f v x with
  | some w=>atG f p w
  | none=>none
theorem z3y {f:GFS} (hg:GOK f):∀ {p:List Int} {v w:Int},InG f v→atG f p v=some w→InG f w
 | [],v,w,hv,h=>by simp only [atG,zA] at h; exact h ▸ hv
 | x::p,v,w,hv,h=>by
  simp only [atG] at h
  cases hs:stp f v x with
  | none=>rw [hs] at h; cases h
  | some u=>rw [hs] at h; exact z3y hg (z4u hg hv hs).1 h
theorem at_L {f:GFS} {k:Nat} (hg:GOK f) (hf:Small f k) (hk:k≤1000000) {p:List Int} (hp:p.length≤9223372036854775807) {S:Int→Int→Option (Int×Bool)} (hS:∀ v x,InG f v→S v x=some (pr (stp f v x))) {F:Nat→Int→Int→Option (Int×Bool)}
  (hF:∀ m (v z:Int),F (m+1) v z=cond (decide (z<(p.length:Int))) (q03 (q0l p z) fun x=>q03 (S v x) fun r=>cond (!r.2) (some (0,false)) (F m r.1 (IntKind.i64.wrap (z+1)))) (some (v,true))) :
  ∀ (m i:Nat) (v:Int),p.length - i<m→i≤p.length→InG f v→F m v i=some (pr (atG f (p.drop i) v))
 | 0,i,v,hm,_,_=>by omega
 | m+1,i,v,hm,hi,hv=>by
  rw [hF]
  by_cases hlt:i<p.length
  ·obtain ⟨x,hx,_⟩:=q2k hlt
   simp only [dlt hlt,zC,q1d,hx,q09,wr1 hlt hp,drop_cons' hx,hS v x hv,atG]
   cases hs:stp f v x with
   | none=>simp [pr]
   | some w =>
    simp only [pr,Bool.not_true,zD]
    exact at_L hg hf hk hp hS hF m (i+1) w (by omega) (by omega) (z4u hg hv hs).1
  ·simp only [qjm hlt,zD,drop_nil' hlt,atG,pr]
theorem at_ok {f:GFS} {k:Nat} (hg:GOK f) (hf:Small f k) (hk:k≤1000000) (h0:InG f 0) {p:List Int} (hp:p.length≤9223372036854775807) {n:Nat} (hn:p.length<n) (hkn:k<n):qk6 n f p=some (pr (atG f p 0)):=by
 have:=at_L hg hf hk hp (S:=qd5 n f) (fun v x hv=>z6f hv (by have:=hf.arcs _ (qb9 hv).2; omega) (by have:=hf.arcs _ (qb9 hv).2; omega)) (F:=qd2 f p n) (fun m v z=>rfl) n 0 0 (by omega) (by omega) h0
 rwa [List.drop_zero] at this
def getG (f:GFS) (p:List Int):GFS×Bool:=match atG f p 0 with | some v=>(q2c f v,true) | none=>(⟨[]⟩,false)
theorem get_ok {f:GFS} {k:Nat} (hg:GOK f) (hf:Small f k) (hk:k≤1000000) (h0:InG f 0) {p:List Int} (hp:p.length≤9223372036854775807) {n:Nat} (hn:p.length<n) (hkn:2*k+4≤n):qiz n f p=some (getG f p):=by
 simp only [qiz,at_ok hg hf hk h0 hp hn (show k<n by omega),q09,getG]
 cases h:atG f p 0 with
 | none=>simp [pr]
 | some v=>simp [pr,qil,qks hg hf hk (z3y hg h0 h) hkn,q09]
end Go.Proofs
end
section
namespace Go.Proofs
open Go Go.Rx Go.Vx Go.Shelf Go.Sort
set_option maxRecDepth 10000
theorem needT' {β:Type} {p:Prop} [Decidable p] {k:Option β} (h:p):q0w p k=k:=if_pos h
def chn:Nat→List Int→List q0a
 | _,[]=>[]
 | i,x::p=>⟨0,[⟨x,((i+1:Nat):Int)⟩]⟩::chn (i+1) p
def qsx (k:Nat) (a:q0f):q0f:=⟨a.Feat,a.To+k⟩
def shf (k:Nat) (x:q0a):q0a:=⟨x.Typex,x.Arcs.map (qsx k)⟩
def qaj (p:List Int) (f:GFS):GFS:=⟨chn 0 p++f.Nodes.map (shf p.length)⟩
theorem qdc:∀ (p:List Int) (i:Nat),(chn i p).length=p.length
 | [],_=>rfl
 | x::p,i=>by simp [chn,qdc p]
theorem qt6:∀ (p:List Int) (i j:Nat) {x:Int},p[j]? = some x→(chn i p)[j]? = some ⟨0,[⟨x,((i+j+1:Nat):Int)⟩]⟩
 | [],_,j,x,h=>by simp at h
 | y::p,i,0,x,h=>by simp at h; subst h; rfl
 | y::p,i,j+1,x,h=>by
  simp only [zH] at h
  simp only [chn,zH]
  rw [qt6 p (i+1) j h,show i+1+j+1=i+(j+1)+1 by omega]
theorem qaf (p:List Int) (f:GFS):(qaj p f).Nodes.length=p.length+f.Nodes.length:=by simp [qaj,qdc]
theorem z54 {p:List Int} (hp:p.length≤30) {l:List q0f} (hl:l.length≤12) (hto:∀ a∈l,0≤a.To∧a.To≤1000) {z:Int} {acc:List q0a} {rc rc':Int→List q0a→Option GFS} {x:q0a} (hx:x.Arcs=l):∀ (m k:Nat),l.length - k<m→k≤l.length →
  q5g p z acc rc x m k ((l.take k).map (qsx p.length))=q72 z acc rc x (l.map (qsx p.length)) ∧
  q8w p z acc rc' x x m k ((l.take k).map (qsx p.length))=qcq z acc rc' x (l.map (qsx p.length))
 | 0,k,hm,_=>by omega
 | m+1,k,hm,hk=>by
  unfold q5g q8w
  rw [hx]
  by_cases hkl:k<l.length
  ·obtain ⟨a,ha,ham⟩:=q2k hkl
   have h1:=hto a ham
   have ih:=z54 hp hl hto (z:=z) (acc:=acc) (rc:=rc) (rc':=rc') hx m (k+1) (by omega) (by omega)
   have hw:IntKind.i64.wrap (a.To+(p.length:Int))=a.To+(p.length:Int):=wr (by omega) (by omega)
   have hlen:((l.take k).map (qsx p.length)).length=k:=by simp; omega
   have hb:(k+1)*16≤140737488355328∧k+1≤140737488355328:=by omega
   simp only [dlt hkl,zC,q1d,ha,q09,wr1 hkl (show l.length≤9223372036854775807 by omega),hw,hlen,needT' hb]
   rw [q4a ha,List.map_append] at ih
   exact ih
  ·simp only [qjm hkl,zD]
   rw [List.take_of_length_le (by omega)]
   exact ⟨rfl,rfl⟩
theorem z4z {p:List Int} (hp:p.length≤30) {f:GFS} (hg:GOK f) (hs:Small f 12) {n:Nat} (hn:100≤n):∀ (m i:Nat),f.Nodes.length - i<m→i≤f.Nodes.length →
  q2n p f n m i (chn 0 p++(f.Nodes.take i).map (shf p.length))=some (qaj p f) ∧
  q64 p f n m i (chn 0 p++(f.Nodes.take i).map (shf p.length))=some (qaj p f)
 | 0,i,hm,_=>by omega
 | m+1,i,hm,hi=>by
  have hN:=hs.nodes
  unfold q2n q64
  by_cases hlt:i<f.Nodes.length
  ·obtain ⟨x,hx,hxm⟩:=q2k hlt
   have hal:=hs.arcs x hxm
   have h3:=z54 hp (l:=x.Arcs) (by omega) (fun a ha=>by have:=(hg x hxm).arc a ha; omega) (z:=(i:Int)) (acc:=chn 0 p++(f.Nodes.take i).map (shf p.length)) (rc:=q2n p f n m) (rc':=q64 p f n m) (x:=x) rfl n 0 (by omega) (by omega)
   rw [Int.ofNat_zero,List.take_zero,List.map_nil] at h3
   have ih:=z4z hp hg hs hn m (i+1) (by omega) (by omega)
   have hlen:(chn 0 p++(f.Nodes.take i).map (shf p.length)).length=p.length+i:=by simp [qdc]; omega
   have hb:(p.length+i+1)*32≤140737488355328∧p.length+i+1≤140737488355328:=by omega
   simp only [dlt hlt,zC,q1d,hx,q09,h3.1,h3.2,q72,qcq,hlen,needT' hb,wr1 hlt (show f.Nodes.length≤9223372036854775807 by omega)]
   rw [q4a hx,List.map_append,← zT] at ih
   exact ih
  ·simp only [qjm hlt,zD,q9y,qh3]
   rw [List.take_of_length_le (by omega)]
   exact ⟨rfl,rfl⟩
theorem z2c {p:List Int} {x:Int}:∀ {i j:Nat},p[i]? = some x→chn j (p.take (i+1))=chn j (p.take i)++[⟨0,[⟨x,((j+i+1:Nat):Int)⟩]⟩]:=by
 induction p with
 | nil=>intro i j h; simp at h
 | cons y p ih =>
  intro i j h
  cases i with
  | zero=>simp at h; subst h; simp [chn]
  | succ i =>
   simp only [zH] at h
   simp only [List.take_succ_cons,chn,List.cons_append]
   rw [ih h,show j+1+i+1=j+(i+1)+1 by omega]
theorem z4y {p:List Int} (hp:p.length≤30) {f:GFS} (hg:GOK f) (hs:Small f 12) {n:Nat} (hn:100≤n):∀ (m i:Nat),p.length - i<m→i≤p.length →
  q5f p f n m i (chn 0 (p.take i))=some (qaj p f)∧q8v p f n m i (chn 0 (p.take i))=some (qaj p f)
 | 0,i,hm,_=>by omega
 | m+1,i,hm,hi=>by
  have hN:=hs.nodes
  unfold q5f q8v
  by_cases hlt:i<p.length
  ·obtain ⟨x,hx,_⟩:=q2k hlt
   have ih:=z4y hp hg hs hn m (i+1) (by omega) (by omega)
   have hlen:(chn 0 (p.take i)).length=i:=by rw [qdc,List.length_take]; omega
   have hb:(i+1)*32≤140737488355328∧i+1≤140737488355328:=by omega
   simp only [dlt hlt,zC,q1d,hx,q09,hlen,needT' hb,wr1 hlt (show p.length≤9223372036854775807 by omega)]
   rw [z2c hx,Nat.zero_add] at ih
   exact ih
  ·simp only [qjm hlt,zD,q9x,qh2]
   rw [List.take_of_length_le (by omega)]
   have:=z4z hp hg hs hn n 0 (by omega) (by omega)
   rw [Int.ofNat_zero,List.take_zero,List.map_nil,List.append_nil] at this
   exact this
theorem z3s {p:List Int} (hp:p.length≤30) {f:GFS} (hg:GOK f) (hs:Small f 12) {n:Nat} (hn:100≤n):qd4 n p f=some (qaj p f)∧qtx n p f=some (qaj p f):=by
 have:=z4y hp hg hs hn n 0 (by omega) (by omega)
 rw [Int.ofNat_zero,List.take_zero] at this
 exact this
theorem qy1 {p:List Int} {x:q0a}:∀ {i:Nat},x∈chn i p→∃ j y,j<p.length∧p[j]? = some y∧x=⟨0,[⟨y,((i+j+1:Nat):Int)⟩]⟩:=by
 intro i h
 obtain ⟨j,hj,e⟩:=List.mem_iff_getElem.1 h
 rw [qdc] at hj
 obtain ⟨y,hy,_⟩:=q2k hj
 refine ⟨j,y,hj,hy,?_⟩
 have:=qt6 p i j hy
 rw [List.getElem?_eq_getElem (by rw [qdc]; exact hj),e] at this
 exact Option.some.inj this
theorem qx7 {p:List Int} (hp:p.length≤30) {f:GFS} (hs:Small f 12):Small (qaj p f) 42:=by
 refine ⟨by rw [qaf]; have:=hs.nodes; omega,fun x hx=>?_⟩
 rcases List.mem_append.1 hx with hx | hx
 ·obtain ⟨j,y,_,_,rfl⟩:=qy1 hx
  simp
 ·obtain ⟨y,hy,rfl⟩:=List.mem_map.1 hx
  have:=hs.arcs y hy
  simp [shf]
  omega
section
variable {p:List Int} {f:GFS}
theorem qsr {v:Int} (hv:InG f v):nd (qaj p f) (v+(p.length:Int))=shf p.length (nd f v):=by
 have h1:(v+(p.length:Int)).toNat=p.length+v.toNat:=by have:=hv.1; omega
 have h2:v.toNat<f.Nodes.length:=by have:=hv.1; have:=hv.2; omega
 have h3:f.Nodes[v.toNat]? = some (nd f v):=by
  have:=(qb9 hv).1
  rw [q0l,if_pos ⟨hv.1,hv.2⟩] at this
  exact this
 rw [nd,h1]
 simp only [qaj]
 rw [List.getElem?_append_right (by rw [qdc]; omega),qdc,Nat.add_sub_cancel_left,List.getElem?_map,h3]
 rfl
theorem qw1 {j:Nat} {x:Int} (h:p[j]? = some x):nd (qaj p f) (j:Int)=⟨0,[⟨x,((j+1:Nat):Int)⟩]⟩:=by
 have hj:j<p.length:=(zG.1 h).1
 have:=qt6 p 0 j h
 rw [Nat.zero_add] at this
 rw [nd,Int.toNat_natCast]
 simp only [qaj]
 rw [List.getElem?_append_left (by rw [qdc]; exact hj),this]
 rfl
theorem InG.und {v:Int} (hv:InG f v):InG (qaj p f) (v+(p.length:Int)):=by
 have:=hv.1; have:=hv.2
 exact ⟨by omega,by rw [qaf]; omega⟩
theorem qqo (hf:VOK f) (hp:∀ x∈p,0≤x∧x<64):GOK (qaj p f):=by
 have hpos:=hf.pos
 intro x hx
 rw [qaf]
 rcases List.mem_append.1 hx with hx | hx
 ·obtain ⟨j,y,hj,hy,rfl⟩:=qy1 hx
  have:=hp y (List.mem_of_getElem? hy)
  exact ⟨by simp,by simp [Dis],fun a ha=>by simp at ha; subst ha; simp; omega⟩
 ·obtain ⟨y,hy,rfl⟩:=List.mem_map.1 hx
  have h1:=hf.g y hy
  refine ⟨h1.ty,?_,fun a ha=>?_⟩
  ·simp only [shf,Dis]
   rw [List.pairwise_map]
   exact h1.dis
  ·obtain ⟨b,hb,rfl⟩:=List.mem_map.1 ha
   have:=h1.arc b hb
   simp [qsx]
   omega
theorem up_nd (hf:VOK f) {v:Int} (hv:InG f v):UpA (nd f v).Arcs:=by
 have:=(qm9 hf.g hf.root).up
 rw [hf.c] at this
 exact this _ (qb9 hv).2
theorem z57 {k:Nat} {l:List q0f} (h:UpA l):UpA (l.map (qsx k)):=by
 unfold UpA at *
 rw [List.pairwise_map]
 exact h
theorem z0c (hf:VOK f) {v:Int} (hv:InG f v):sar (qaj p f) (v+(p.length:Int))=(nd f v).Arcs.map (qsx p.length)∧sar f v=(nd f v).Arcs:=by
 have h1:=up_nd hf hv
 refine ⟨?_,qni h1⟩
 rw [sar,qsr hv]
 exact qni (z57 h1)
theorem z6j (hf:VOK f):Sim f (qaj p f) (fun v=>v+(p.length:Int)) (InG f):=by
 refine ⟨fun v hv a ha=>?_,fun u v _ _ e=>by have e':u+(p.length:Int)=v+(p.length:Int):=e; omega,fun v hv=>by rw [qsr hv]; rfl,fun v hv=>?_⟩
 ·have:=(hf.g _ (qb9 hv).2).arc a (q80.1 ha)
  exact ⟨this.2.1,this.2.2⟩
 ·rw [(z0c (p:=p) hf hv).1,(z0c (p:=p) hf hv).2]
  rfl
theorem z0w (hf:VOK f) (hp:∀ x∈p,0≤x∧x<64):q2c (qaj p f) (p.length:Int)=f:=by
 have h0:=(z6j (p:=p) hf).canon hf.g (qqo hf hp) hf.root hf.root (by exact hf.root.und)
 have:=h0.2
 simp only [Int.zero_add] at this
 rw [this,hf.c]
theorem z56:∀ (k j:Nat),k+j=p.length→atG (qaj p f) (p.drop j) (j:Int)=some (p.length:Int)
 | 0,j,h=>by
  rw [List.drop_eq_nil_of_le (by omega),atG,show j=p.length by omega]
 | k+1,j,h=>by
  obtain ⟨x,hx,_⟩:=q2k (show j<p.length by omega)
  have:=z56 k (j+1) (by omega)
  rw [drop_cons' hx,atG]
  simp only [stp,qw1 hx,List.find?_cons,beq_self_eq_true,zM]
  exact this
theorem z0u (hf:VOK f) {o0:List Int} (h0:∀ u∈o0,u<(p.length:Int)):∀ (k:Nat) (o:List Int) (v:Int),InG f v→(∀ u∈o,InG f u) →
  dfs (qaj p f) k (o0++o.map (· + (p.length:Int))) (v+(p.length:Int))=o0++(dfs f k o v).map (· + (p.length:Int))∧∀ u∈dfs f k o v,InG f u
 | 0,o,v,hv,ho=>⟨rfl,ho⟩
 | k+1,o,v,hv,ho=>by
  have key:∀ (l:List q0f),(∀ a∈l,InG f a.To)→∀ o:List Int,(∀ u∈o,InG f u) →
    (l.map (qsx p.length)).foldl (qdd (dfs (qaj p f) k)) (o0++o.map (· + (p.length:Int)))=o0++(l.foldl (qdd (dfs f k)) o).map (· + (p.length:Int))∧∀ u∈l.foldl (qdd (dfs f k)) o,InG f u:=by
   intro l
   induction l with
   | nil=>intro _ o ho; exact ⟨rfl,ho⟩
   | cons a l ih =>
    intro hl o ho
    have ha:=hl a (by simp)
    have hl':=fun b hb=>hl b (List.mem_cons_of_mem a hb)
    have hmem:(qsx p.length a).To∈o0++o.map (· + (p.length:Int))↔a.To∈o:=by
     rw [List.mem_append,List.mem_map]
     constructor
     ·rintro (h | ⟨u,hu,e⟩)
      ·have:=h0 _ h
       have:=ha.1
       simp only [qsx] at *
       omega
      ·simp only [qsx] at e
       rw [show a.To=u by omega]
       exact hu
     ·exact fun h=>.inr ⟨_,h,rfl⟩
    simp only [zQ,List.foldl_cons]
    by_cases hm:a.To∈o
    ·rw [qdd,if_pos (hmem.2 hm),qdd,if_pos hm]
     exact ih hl' o ho
    ·rw [qdd,if_neg fun h=>hm (hmem.1 h),qdd,if_neg hm]
     obtain ⟨e1,e2⟩:=z0u hf h0 k o a.To ha ho
     show (l.map (qsx p.length)).foldl _ (dfs (qaj p f) k _ (a.To+(p.length:Int)))=_∧_
     rw [e1]
     exact ih hl' _ e2
  have hs:=z0c (p:=p) hf hv
  have:=key (nd f v).Arcs (fun a ha=>by have:=(hf.g _ (qb9 hv).2).arc a ha; exact ⟨this.2.1,this.2.2⟩) (o++[v]) (fun u hu=>by
   rcases List.mem_append.1 hu with hu | hu
   ·exact ho u hu
   ·simp at hu; subst hu; exact hv)
  simp only [dfs,hs.1,hs.2]
  rw [List.map_append,← zT] at this
  exact this
theorem qlp (N:Nat):idN (N+1)=idN N++[(N:Int)]:=by simp [idN,List.range_succ]
theorem z4f {N:Nat}:∀ u∈idN N,u<(N:Int):=fun u hu=>by
 obtain ⟨i,hi,rfl⟩:=List.mem_map.1 hu
 have:=List.mem_range.1 hi
 omega
theorem qz2 (a:Nat):∀ b:Nat,idN a++(idN b).map (· + (a:Int))=idN (a+b)
 | 0=>by simp [idN]
 | b+1=>by
  rw [qlp,List.map_append,← zT,qz2 a b,← Nat.add_assoc,qlp]
  simp
  omega
theorem z0v (hf:VOK f) (hp:∀ x∈p,0≤x∧x<64):qba (qaj p f) 0=idN (p.length+f.Nodes.length):=by
 have hpos:=hf.pos
 have hord:qba f 0=idN f.Nodes.length:=by
  have:=qzw hf.g hf.root
  rwa [hf.c] at this
 have step:∀ (k j m:Nat),k+j=p.length→dfs (qaj p f) (m+k) (idN j) (j:Int)=dfs (qaj p f) m (idN p.length) (p.length:Int):=by
  intro k
  induction k with
  | zero=>intro j m h; rw [show j=p.length by omega]; rfl
  | succ k ih =>
   intro j m h
   obtain ⟨x,hx,_⟩:=q2k (show j<p.length by omega)
   have hs:sar (qaj p f) (j:Int)=[⟨x,((j+1:Nat):Int)⟩]:=by
    rw [sar,qw1 hx]
    exact qni (by simp [UpA])
   have hn:((j+1:Nat):Int) ∉ idN j++[(j:Int)]:=by
    rw [← qlp]
    intro h
    have:=z4f _ h
    omega
   rw [← Nat.add_assoc,dfs,hs,List.foldl_cons,List.foldl_nil,qdd,if_neg hn,← qlp]
   exact ih (j+1) m (by omega)
 have h1:=step p.length 0 f.Nodes.length (by omega)
 have h2:=(z0u (p:=p) hf (o0:=idN p.length) z4f f.Nodes.length [] 0 hf.root (by simp)).1
 rw [List.map_nil,List.append_nil,Int.zero_add] at h2
 rw [qba,qaf,Nat.add_comm]
 have e0:idN 0=[]:=rfl
 rw [e0] at h1
 rw [show ((0:Nat):Int)=0 from rfl] at h1
 rw [h1,h2,Nat.add_comm f.Nodes.length p.length,← qz2]
 have:dfs f f.Nodes.length [] 0=idN f.Nodes.length:=hord
 rw [this]
theorem z0t (hf:VOK f) (hp:∀ x∈p,0≤x∧x<64):q2c (qaj p f) 0=qaj p f:=by
 have hg:=qqo hf hp
 have hl:=qaf p f
 have hin:∀ i,i<p.length+f.Nodes.length→InG (qaj p f) (i:Int):=fun i hi=>⟨by omega,by omega⟩
 have hup:∀ i,i<p.length+f.Nodes.length→UpA (nd (qaj p f) (i:Int)).Arcs:=fun i hi=>by
  by_cases h:i<p.length
  ·obtain ⟨x,hx,_⟩:=q2k h
   rw [qw1 hx]
   simp [UpA]
  ·have hv:InG f ((i - p.length:Nat):Int):=⟨by omega,by omega⟩
   have:=qsr (p:=p) hv
   rw [show ((i - p.length:Nat):Int)+(p.length:Int)=(i:Int) by omega] at this
   rw [this]
   exact z57 (up_nd hf hv)
 have hnode:∀ i,i<p.length+f.Nodes.length→q6j (qaj p f) (idN (p.length+f.Nodes.length)) (i:Int)=nd (qaj p f) (i:Int):=fun i hi=>by
  have harc:∀ a∈(nd (qaj p f) (i:Int)).Arcs,qi0 (idN (p.length+f.Nodes.length)) a=a:=fun a ha=>by
   have h1:=(hg _ (qb9 (hin i hi)).2).arc a ha
   rw [hl] at h1
   have hnod:(idN (p.length+f.Nodes.length)).Nodup:=by
    have:=(qbv hg (hin 0 (by omega))).1.seen.nd
    rwa [Int.ofNat_zero,z0v hf hp] at this
   have hlen:a.To.toNat<(idN (p.length+f.Nodes.length)).length:=by simp [idN]; omega
   have h3:=qpn hnod hlen
   have h4:=qtd (N:=p.length+f.Nodes.length) (i:=a.To.toNat) (by omega)
   rw [List.getElem?_eq_getElem hlen] at h4
   rw [Option.some.inj h4,show ((a.To.toNat:Nat):Int)=a.To by omega] at h3
   have:(((idN (p.length+f.Nodes.length)).idxOf a.To:Nat):Int)=a.To:=by rw [h3]; omega
   cases a with
   | mk x y=>simp only [qi0] at *; rw [this]
  simp only [q6j,sar,qni (hup i hi)]
  rw [List.map_congr_left (g:=id) harc,List.map_id]
 unfold q2c
 rw [z0v hf hp]
 have:(idN (p.length+f.Nodes.length)).map (q6j (qaj p f) (idN (p.length+f.Nodes.length)))=(qaj p f).Nodes:=by
  apply List.ext_getElem?
  intro i
  by_cases hi:i<p.length+f.Nodes.length
  ·rw [List.getElem?_map,qtd hi,zM,hnode i hi]
   have h5:=(qb9 (hin i hi)).1
   rw [q1d] at h5
   exact h5.symm
  ·rw [List.getElem?_eq_none (by simp [idN]; omega),List.getElem?_eq_none (by omega)]
 rw [this]
theorem z6i (hf:VOK f) (hp:∀ x∈p,0≤x∧x<64):Cyc (qaj p f)↔Cyc f:=by
 have hg:=qqo hf hp
 have hk:InG (qaj p f) (p.length:Int):=by have:=hf.root.und (p:=p); rwa [Int.zero_add] at this
 constructor
 ·rintro ⟨u,hu,hr⟩
  by_cases hlo:u<(p.length:Int)
  ·-- a node of the path leads on alone
   have key:∀ {a b:Int},Rch (qaj p f) a b→0≤a→a<(p.length:Int)→a<b∧InG (qaj p f) b:=by
    intro a b h h0 h1
    have arc:∀ w:Int,InG (qaj p f) w→∀ e∈(nd (qaj p f) w).Arcs,InG (qaj p f) e.To∧(a≤w→a<e.To):=by
     intro w hw e he
     have h2:=(hg _ (qb9 hw).2).arc e he
     refine ⟨⟨h2.2.1,h2.2.2⟩,fun haw=>?_⟩
     by_cases hwl:w<(p.length:Int)
     ·obtain ⟨x,hx,_⟩:=q2k (show w.toNat<p.length by have:=hw.1; omega)
      have h3:=qw1 (f:=f) hx
      rw [show ((w.toNat:Nat):Int)=w by have:=hw.1; omega] at h3
      rw [h3] at he
      have he':e=⟨x,((w.toNat+1:Nat):Int)⟩:=List.mem_singleton.1 he
      subst he'
      show a<((w.toNat+1:Nat):Int)
      have:=hw.1
      omega
     ·have hwi:InG f (w - (p.length:Int)):=by have:=hw.1; have:=hw.2; rw [qaf] at this; exact ⟨by omega,by omega⟩
      have h3:=qsr (p:=p) hwi
      rw [show w - (p.length:Int)+(p.length:Int)=w by omega] at h3
      rw [h3] at he
      obtain ⟨c,hc,rfl⟩:=List.mem_map.1 he
      have:=(hf.g _ (qb9 hwi).2).arc c hc
      simp only [qsx]
      omega
    induction h with
    | one he=>have:=arc a ⟨h0,by rw [qaf]; have:=hf.pos; omega⟩ _ he; exact ⟨this.2 (by omega),this.1⟩
    | snoc _ he ih=>have:=arc _ ih.2 _ he; exact ⟨this.2 (by omega),this.1⟩
   have:=(key hr hu.1 hlo).1
   omega
  ·have key:∀ {a b:Int},Rch (qaj p f) a b→InG f (a - (p.length:Int))→Rch f (a - (p.length:Int)) (b - (p.length:Int))∧InG f (b - (p.length:Int)):=by
    intro a b h ha
    have arc:∀ w:Int,InG f (w - (p.length:Int))→∀ e∈(nd (qaj p f) w).Arcs,∃ c∈(nd f (w - (p.length:Int))).Arcs,e.To - (p.length:Int)=c.To∧InG f c.To:=by
     intro w hwi e he
     have h3:=qsr (p:=p) hwi
     rw [show w - (p.length:Int)+(p.length:Int)=w by omega] at h3
     rw [h3] at he
     obtain ⟨c,hc,rfl⟩:=List.mem_map.1 he
     have:=(hf.g _ (qb9 hwi).2).arc c hc
     exact ⟨c,hc,by simp only [qsx]; omega,this.2.1,this.2.2⟩
    induction h with
    | one he=>obtain ⟨c,hc,e,hi⟩:=arc a ha _ he; rw [e]; exact ⟨.one hc,hi⟩
    | snoc _ he ih=>obtain ⟨c,hc,e,hi⟩:=arc _ ih.2 _ he; rw [e]; exact ⟨.snoc ih.1 hc,hi⟩
   have hui:InG f (u - (p.length:Int)):=by have:=hu.2; rw [qaf] at this; exact ⟨by omega,by omega⟩
   exact ⟨_,hui,(key hr hui).1⟩
 ·intro h
  refine z2g hg hk ?_
  rw [z0w hf hp]
  exact h
end
theorem qtg {p:List Int} (hp:p.length≤9223372036854775807) (f:GFS) {n:Nat} (hn:3000000+p.length≤n):q5a n p f=some true:=by
 obtain ⟨b,h1,h2⟩:=z3t (f:=f) (show 3000000≤n by omega)
 obtain ⟨c,h3,h4⟩:=z3i hp (show p.length<n by omega)
 have hex:=ex_n (show 200≤n by omega)
 simp only [q5a,h1,h3,hex,q09]
 cases b with
 | false=>simp [q09]
 | true =>
  cases c with
  | false=>simp [q09]
  | true =>
   have hv:=h2 rfl
   have hq:=h4 rfl
   have hN:=hv.s.nodes
   have hpos:=hv.pos
   have a1:=(z3s hq.1 hv.g hv.s (show 100≤n by omega)).1
   have hu:=qqo hv hq.2
   have hl:=qaf p f
   have hs:=qx7 hq.1 hv.s
   have hr:InG (qaj p f) 0:=⟨by omega,by omega⟩
   have a2:=get_ok hu hs (by omega) hr hp (n:=n) (p:=p) (by omega) (by omega)
   have hat:=z56 (p:=p) (f:=f) p.length 0 (by omega)
   rw [List.drop_zero,show ((0:Nat):Int)=0 from rfl] at hat
   have hget:getG (qaj p f) p=(f,true):=by simp only [getG,hat,z0w hv hq.2]
   have a3:=z1j hs (by omega) (n:=n) (by omega)
   have he:qt7 (qaj p f)=0:=qi8.2 ⟨by omega,by omega,hu⟩
   rw [if_pos he,z0t hv hq.2] at a3
   have hs1:=hs.up (show 42≤1000 by omega)
   have hf1:=hv.s.up (show 12≤1000 by omega)
   have a4:=qqf hf1 hf1 (show 3000000≤n by omega)
   have a5:=qqf hs1 hs1 (show 3000000≤n by omega)
   obtain ⟨c1,d1,d2,d3⟩:=qqw hu hs (by omega) (n:=n) (by omega)
   obtain ⟨c2,e1,e2,e3⟩:=qqw hv.g hv.s (by omega) (n:=n) (by omega)
   have hc:c1=c2:=by
    have hcyc:=z6i (p:=p) hv hq.2
    cases c1 with
    | true =>
     cases c2 with
     | true=>rfl
     | false=>exact absurd (hcyc.1 (d2 rfl)) (qxf (e3 rfl))
    | false =>
     cases c2 with
     | true=>exact absurd (hcyc.2 (e2 rfl)) (qxf (d3 rfl))
     | false=>rfl
   subst hc
   have hw:IntKind.i64.wrap ((p.length:Int)+(f.Nodes.length:Int))=(p.length:Int)+(f.Nodes.length:Int):=wr (by omega) (by omega)
   have hlen:(((qaj p f).Nodes.length:Int) == (p.length:Int)+(f.Nodes.length:Int))=true:=by rw [hl]; simp
   simp [a1,a2,a3,hget,a4,a5,d1,e1,q09,z43.self,hw,hlen]
end Go.Proofs
end
