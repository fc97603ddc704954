/-
  Texts of the walk: H4 PlA H5.
-/
import Derived.Test.YtdpffcolmflpjaaP15
section
namespace Go.Proofs
open Go Go.Rx Go.Vx Try
set_option maxRecDepth 10000
set_option linter.unusedSimpArgs false
set_option linter.unusedVariables false
theorem q7d (n:Nat)  (r:Bool) (hF:q1s n  = some r):EvU Try.prog 16 [] ⟨[],0⟩ (fun u _=>u = .bool r∧Bel 0 u):=by
 unfold q1s at hF
 refine EvU.of_body Try.tb_ok fn16 rfl ?_
 refine WPU.ghost (tm':=fr 106 []) (Gh.start (Nat.le_of_ble_eq_true rfl)) (Nat.zero_le _) ?_
 refine sr ?_
 refine sd ?_
 obtain ⟨r1,h2,hF⟩:=q00 hF
 obtain ⟨r3,h4,hF⟩:=q00 hF
 obtain ⟨r5,h6,hF⟩:=q00 hF
 obtain ⟨r7,h8,hF⟩:=q00 hF
 obtain ⟨r9,h10,hF⟩:=q00 hF
 refine sr ?_
 refine RS.q (u:=.sl 0 0 4 4) (σ':=⟨[(0,.row [.int .i64 0,.int .i64 2,.int .i64 1,.int .i64 1] 3)],1⟩) rfl (q2a und55 inf3 rfl rfl rfl rfl rfl rfl rfl) ?_
 refine RS.fcall (u:=.agg (cGNode r1)) (args:=[.int .i64 1,.sl 0 0 4 4]) (σ1:=⟨[],1⟩) rfl (q01 rfl rfl fn29 hb29 rfl rfl) (Gh.fz (tm':=[.int .i64 1,.isl false (List.map (cI .i64) ([0,2,1,1]))]) (h':=[]) 0 (.row [.int .i64 0,.int .i64 2,.int .i64 1,.int .i64 1] 3) 1 rfl (by simp) (by simp only [oneU,q09,q05,q0q,q0c,q0t,q0g,q0f,q0e,q0d,q0a,q0r,q0s,q0p,q0u,q1k,junkT,q1u,q1w,Nat.reduceLeDiff,Nat.reduceMul,List.length_cons,List.length_nil,Nat.reduceAdd]<;>simp only [chunks,List.take,List.drop,List.map,cI,cB,cS,cL]) (by simp only [fzH,fzB,ug,Nat.beq,cond_true,cond_false,oneU,q09,q05,q0q,q0c,q0t,q0g,q0f,q0e,q0d,q0a,q0r,q0s,q0p,q0u,q1k,junkT,q1u,q1w,Nat.reduceLeDiff,Nat.reduceMul,List.length_cons,List.length_nil,Nat.reduceAdd]<;>simp only [chunks,List.take,List.drop,List.map,cI,cB,cS,cL])) (Nat.le_of_ble_eq_true rfl) (q06 n 1 ([0,2,1,1]) r1 h2 _) rfl rfl ?_
 refine RS.call (u:=.agg (cGNode r3)) (args:=[.int .i64 2,.nils]) rfl (q01 rfl rfl fn29 hb29 rfl rfl) (EvU.wkA (args':=[.int .i64 2,.isl false []]) (.cons (.refl _) (.cons (.nil false) .nil)) (fun s=>q06 n 2 [] r3 h4 s) _) rfl rfl (RS.q (u:=.sl 1 0 2 2) (σ':=⟨[(1,.row [.int .i64 0,.int .i64 1] 3)],2⟩) rfl (q2a und55 inf3 rfl rfl rfl rfl rfl rfl rfl) ?_)
 refine RS.fcall (u:=.agg (cGNode r5)) (args:=[.int .i64 3,.sl 1 0 2 2]) (σ1:=⟨[],2⟩) rfl (q01 rfl rfl fn29 hb29 rfl rfl) (Gh.fz (tm':=[.int .i64 3,.isl false (List.map (cI .i64) ([0,1]))]) (h':=[]) 1 (.row [.int .i64 0,.int .i64 1] 3) 1 rfl (by simp) (by simp only [oneU,q09,q05,q0q,q0c,q0t,q0g,q0f,q0e,q0d,q0a,q0r,q0s,q0p,q0u,q1k,junkT,q1u,q1w,Nat.reduceLeDiff,Nat.reduceMul,List.length_cons,List.length_nil,Nat.reduceAdd]<;>simp only [chunks,List.take,List.drop,List.map,cI,cB,cS,cL]) (by simp only [fzH,fzB,ug,Nat.beq,cond_true,cond_false,oneU,q09,q05,q0q,q0c,q0t,q0g,q0f,q0e,q0d,q0a,q0r,q0s,q0p,q0u,q1k,junkT,q1u,q1w,Nat.reduceLeDiff,Nat.reduceMul,List.length_cons,List.length_nil,Nat.reduceAdd]<;>simp only [chunks,List.take,List.drop,List.map,cI,cB,cS,cL])) (Nat.le_of_ble_eq_true rfl) (q06 n 3 ([0,1]) r5 h6 _) rfl rfl ?_
 refine RS.q (u:=.sl 2 0 3 3) (σ':=⟨[(2,.row [.int .i64 r1.Typex,.isl false (List.map cGArc r1.Arcs),.int .i64 r3.Typex,.isl false (List.map cGArc r3.Arcs),.int .i64 r5.Typex,.isl false (List.map cGArc r5.Arcs)] 43)],3⟩) rfl (q2a und23 inf43 rfl rfl rfl rfl rfl rfl rfl) ?_
 refine RS.fcall (u:=.agg [.isl false (List.map cGNode r7.Nodes)]) (args:=[.sl 2 0 3 3]) (σ1:=⟨[],3⟩) rfl (q01 rfl rfl fn32 hb32 rfl rfl) (Gh.fz (tm':=[.isl false (List.map cGNode ([r1,r3,r5]))]) (h':=[]) 2 (.row [.int .i64 r1.Typex,.isl false (List.map cGArc r1.Arcs),.int .i64 r3.Typex,.isl false (List.map cGArc r3.Arcs),.int .i64 r5.Typex,.isl false (List.map cGArc r5.Arcs)] 43) 2 rfl (by simp) (by simp only [oneU,q09,q05,q0q,q0c,q0t,q0g,q0f,q0e,q0d,q0a,q0r,q0s,q0p,q0u,q1k,junkT,q1u,q1w,Nat.reduceLeDiff,Nat.reduceMul,List.length_cons,List.length_nil,Nat.reduceAdd]<;>simp only [chunks,List.take,List.drop,List.map,cGNode]) (by simp only [fzH,fzB,ug,Nat.beq,cond_true,cond_false,oneU,q09,q05,q0q,q0c,q0t,q0g,q0f,q0e,q0d,q0a,q0r,q0s,q0p,q0u,q1k,junkT,q1u,q1w,Nat.reduceLeDiff,Nat.reduceMul,List.length_cons,List.length_nil,Nat.reduceAdd]<;>simp only [chunks,List.take,List.drop,List.map,cGNode])) (Nat.le_of_ble_eq_true rfl) (q1b n ([r1,r3,r5]) r7 h8 _) rfl rfl ?_
 refine RS.call (u:=.tup [.agg [.isl false (List.map cGNode r9.1.Nodes)],.int .i64 r9.2]) (args:=[.agg [.isl false (List.map cGNode r7.Nodes)]]) rfl (q01 rfl rfl fn13 hb13 rfl rfl) (q4t n r7 r9 h10 _) rfl rfl (RS.mv rfl rfl rfl rfl (RS.q rfl (q7f rfl rfl) (RS.q rfl (q7f rfl rfl) (RS.q (u:=.ptr 3 0 0) (σ':=⟨[(3,.row [.nils] 25)],4⟩) rfl (q1d inf25 rfl rfl) (RS.opn (u:=.junk) (σ':=⟨[(3,.row [.isl false (List.map cGNode r9.1.Nodes)] 25)],4⟩) rfl (q14 (q02 inf25) rfl rfl rfl rfl rfl rfl rfl rfl) rfl ?_)))))
 refine sd ?_
 obtain ⟨r11,h12,hF⟩:=q00 hF
 obtain ⟨r13,h14,hF⟩:=q00 hF
 obtain ⟨r15,h16,hF⟩:=q00 hF
 obtain ⟨r17,h18,hF⟩:=q00 hF
 obtain ⟨r19,h20,hF⟩:=q00 hF
 refine sr ?_
 refine RS.q (u:=.sl 4 0 4 4) (σ':=⟨[(4,.row [.int .i64 7,.int .i64 2,.int .i64 3,.int .i64 1] 3),(3,.row [.isl false (List.map cGNode r9.1.Nodes)] 25)],5⟩) rfl (q2a und55 inf3 rfl rfl rfl rfl rfl rfl rfl) ?_
 refine RS.fcall (u:=.agg (cGNode r11)) (args:=[.int .i64 4,.sl 4 0 4 4]) (σ1:=⟨[(3,.row [.isl false (List.map cGNode r9.1.Nodes)] 25)],5⟩) rfl (q01 rfl rfl fn29 hb29 rfl rfl) (Gh.fz (tm':=[.int .i64 4,.isl false (List.map (cI .i64) ([7,2,3,1]))]) (h':=[(3,.row [.isl false (List.map cGNode r9.1.Nodes)] 25)]) 4 (.row [.int .i64 7,.int .i64 2,.int .i64 3,.int .i64 1] 3) 1 rfl (by simp) (by simp only [oneU,q09,q05,q0q,q0c,q0t,q0g,q0f,q0e,q0d,q0a,q0r,q0s,q0p,q0u,q1k,junkT,q1u,q1w,Nat.reduceLeDiff,Nat.reduceMul,List.length_cons,List.length_nil,Nat.reduceAdd]<;>simp only [chunks,List.take,List.drop,List.map,cI,cB,cS,cL]) (by simp only [fzH,fzB,ug,Nat.beq,cond_true,cond_false,oneU,q09,q05,q0q,q0c,q0t,q0g,q0f,q0e,q0d,q0a,q0r,q0s,q0p,q0u,q1k,junkT,q1u,q1w,Nat.reduceLeDiff,Nat.reduceMul,List.length_cons,List.length_nil,Nat.reduceAdd]<;>simp only [chunks,List.take,List.drop,List.map,cI,cB,cS,cL])) (Nat.le_of_ble_eq_true rfl) (q06 n 4 ([7,2,3,1]) r11 h12 _) rfl rfl ?_
 refine RS.call (u:=.agg (cGNode r13)) (args:=[.int .i64 5,.nils]) rfl (q01 rfl rfl fn29 hb29 rfl rfl) (EvU.wkA (args':=[.int .i64 5,.isl false []]) (.cons (.refl _) (.cons (.nil false) .nil)) (fun s=>q06 n 5 [] r13 h14 s) _) rfl rfl (RS.q (u:=.sl 5 0 2 2) (σ':=⟨[(5,.row [.int .i64 2,.int .i64 0] 3),(3,.row [.isl false (List.map cGNode r9.1.Nodes)] 25)],6⟩) rfl (q2a und55 inf3 rfl rfl rfl rfl rfl rfl rfl) ?_)
 refine RS.fcall (u:=.agg (cGNode r15)) (args:=[.int .i64 6,.sl 5 0 2 2]) (σ1:=⟨[(3,.row [.isl false (List.map cGNode r9.1.Nodes)] 25)],6⟩) rfl (q01 rfl rfl fn29 hb29 rfl rfl) (Gh.fz (tm':=[.int .i64 6,.isl false (List.map (cI .i64) ([2,0]))]) (h':=[(3,.row [.isl false (List.map cGNode r9.1.Nodes)] 25)]) 5 (.row [.int .i64 2,.int .i64 0] 3) 1 rfl (by simp) (by simp only [oneU,q09,q05,q0q,q0c,q0t,q0g,q0f,q0e,q0d,q0a,q0r,q0s,q0p,q0u,q1k,junkT,q1u,q1w,Nat.reduceLeDiff,Nat.reduceMul,List.length_cons,List.length_nil,Nat.reduceAdd]<;>simp only [chunks,List.take,List.drop,List.map,cI,cB,cS,cL]) (by simp only [fzH,fzB,ug,Nat.beq,cond_true,cond_false,oneU,q09,q05,q0q,q0c,q0t,q0g,q0f,q0e,q0d,q0a,q0r,q0s,q0p,q0u,q1k,junkT,q1u,q1w,Nat.reduceLeDiff,Nat.reduceMul,List.length_cons,List.length_nil,Nat.reduceAdd]<;>simp only [chunks,List.take,List.drop,List.map,cI,cB,cS,cL])) (Nat.le_of_ble_eq_true rfl) (q06 n 6 ([2,0]) r15 h16 _) rfl rfl ?_
 refine RS.q (u:=.sl 6 0 3 3) (σ':=⟨[(6,.row [.int .i64 r11.Typex,.isl false (List.map cGArc r11.Arcs),.int .i64 r13.Typex,.isl false (List.map cGArc r13.Arcs),.int .i64 r15.Typex,.isl false (List.map cGArc r15.Arcs)] 43),(3,.row [.isl false (List.map cGNode r9.1.Nodes)] 25)],7⟩) rfl (q2a und23 inf43 rfl rfl rfl rfl rfl rfl rfl) ?_
 refine RS.fcall (u:=.agg [.isl false (List.map cGNode r17.Nodes)]) (args:=[.sl 6 0 3 3]) (σ1:=⟨[(3,.row [.isl false (List.map cGNode r9.1.Nodes)] 25)],7⟩) rfl (q01 rfl rfl fn32 hb32 rfl rfl) (Gh.fz (tm':=[.isl false (List.map cGNode ([r11,r13,r15]))]) (h':=[(3,.row [.isl false (List.map cGNode r9.1.Nodes)] 25)]) 6 (.row [.int .i64 r11.Typex,.isl false (List.map cGArc r11.Arcs),.int .i64 r13.Typex,.isl false (List.map cGArc r13.Arcs),.int .i64 r15.Typex,.isl false (List.map cGArc r15.Arcs)] 43) 2 rfl (by simp) (by simp only [oneU,q09,q05,q0q,q0c,q0t,q0g,q0f,q0e,q0d,q0a,q0r,q0s,q0p,q0u,q1k,junkT,q1u,q1w,Nat.reduceLeDiff,Nat.reduceMul,List.length_cons,List.length_nil,Nat.reduceAdd]<;>simp only [chunks,List.take,List.drop,List.map,cGNode]) (by simp only [fzH,fzB,ug,Nat.beq,cond_true,cond_false,oneU,q09,q05,q0q,q0c,q0t,q0g,q0f,q0e,q0d,q0a,q0r,q0s,q0p,q0u,q1k,junkT,q1u,q1w,Nat.reduceLeDiff,Nat.reduceMul,List.length_cons,List.length_nil,Nat.reduceAdd]<;>simp only [chunks,List.take,List.drop,List.map,cGNode])) (Nat.le_of_ble_eq_true rfl) (q1b n ([r11,r13,r15]) r17 h18 _) rfl rfl ?_
 refine RS.call (u:=.tup [.agg [.isl false (List.map cGNode r19.1.Nodes)],.int .i64 r19.2]) (args:=[.agg [.isl false (List.map cGNode r17.Nodes)]]) rfl (q01 rfl rfl fn13 hb13 rfl rfl) (q4t n r17 r19 h20 _) rfl rfl (RS.mv rfl rfl rfl rfl (RS.q rfl (q7f rfl rfl) (RS.q rfl (q7f rfl rfl) (RS.q (u:=.ptr 7 0 0) (σ':=⟨[(7,.row [.nils] 25),(3,.row [.isl false (List.map cGNode r9.1.Nodes)] 25)],8⟩) rfl (q1d inf25 rfl rfl) (RS.opn (u:=.junk) (σ':=⟨[(7,.row [.isl false (List.map cGNode r19.1.Nodes)] 25),(3,.row [.isl false (List.map cGNode r9.1.Nodes)] 25)],8⟩) rfl (q14 (q02 inf25) rfl rfl rfl rfl rfl rfl rfl rfl) rfl ?_)))))
 refine sd ?_
 obtain ⟨b44,h45,hF⟩:=q00 hF
 refine WPU.joinK (fun tm σ=>tm=fr 106 [(1,.ptr 3 0 0),(58,.bool b44)]∧σ=⟨[(7,.row [.isl false (List.map cGNode r19.1.Nodes)] 25),(3,.row [.isl false (List.map cGNode r9.1.Nodes)] 25)],8⟩) ?_ ?_
 rintro _ _ ⟨rfl,rfl⟩
 refine st ?_
 refine WPU.condS (t:=b44) rfl (fun h46=>?_) (fun h46=>?_)
 replace hF:=q0k h46 hF
 refine sr ?_
 refine sd ?_
 refine WPU.ret ?_
 refine st ?_
 have hr:=Option.some.inj hF
 subst hr
 exact ⟨.inr rfl,[.bool false],q2b rfl (q1v),.bool false,⟨[],0⟩,Nat.le_refl _,Gh.toR (.bool false) rfl,rfl,BU.h⟩
 replace hF:=q0j h46 hF
 refine st ?_
 refine WPU.skip ?_
 refine st ?_
 obtain ⟨r47,h48,hF⟩:=q00 hF
 refine sr ?_
 refine RS.q (u:=.agg [.nils]) rfl (q6t bd25 rfl rfl rfl) (RS.call (u:=.tup [.agg [.isl false (List.map cGNode r47.1.Nodes)],.int .i64 r47.2]) (args:=[.agg [.nils]]) rfl (q01 rfl rfl fn13 hb13 rfl rfl) (EvU.wkA (args':=[.agg [.isl false []]]) (.cons (.agg (.cons (.nil false) .nil)) .nil) (fun s=>q4t n (GFS.mk []) r47 h48 s) _) rfl rfl (RS.mv rfl rfl rfl rfl (RS.q rfl (q7f rfl rfl) (RS.q rfl (q7f rfl rfl) (RS.q (u:=.ptr 8 0 0) (σ':=⟨[(8,.row [.nils] 25),(7,.row [.isl false (List.map cGNode r19.1.Nodes)] 25),(3,.row [.isl false (List.map cGNode r9.1.Nodes)] 25)],9⟩) rfl (q1d inf25 rfl rfl) (RS.opn (u:=.junk) (σ':=⟨[(8,.row [.isl false (List.map cGNode r47.1.Nodes)] 25),(7,.row [.isl false (List.map cGNode r19.1.Nodes)] 25),(3,.row [.isl false (List.map cGNode r9.1.Nodes)] 25)],9⟩) rfl (q14 (q02 inf25) rfl rfl rfl rfl rfl rfl rfl rfl) rfl ?_))))))
 refine sd ?_
 obtain ⟨b87,h88,hF⟩:=q00 hF
 refine WPU.joinK (fun tm σ=>tm=fr 106 [(0,.bool b87)]∧σ=⟨[(8,.row [.isl false (List.map cGNode r47.1.Nodes)] 25),(7,.row [.isl false (List.map cGNode r19.1.Nodes)] 25),(3,.row [.isl false (List.map cGNode r9.1.Nodes)] 25)],9⟩) ?_ ?_
 rintro _ _ ⟨rfl,rfl⟩
 refine st ?_
 refine WPU.ret ?_
 refine st ?_
 have hr:=Option.some.inj hF
 subst hr
 exact ⟨.inr rfl,[.bool b87],q2b rfl (q1v),.bool b87,⟨[],0⟩,Nat.le_refl _,Gh.toR (.bool b87) rfl,rfl,BU.h⟩
 rcases q25 (r47.2 == 1) with h49 | h49
 replace h88:=q0k h49 h88
 obtain ⟨r50,h51,h88⟩:=q00 h88
 obtain ⟨r52,h53,h88⟩:=q00 h88
 obtain ⟨r54,h55,h88⟩:=q00 h88
 obtain ⟨r56,h57,h88⟩:=q00 h88
 obtain ⟨r58,h59,h88⟩:=q00 h88
 rcases q25 r58 with h60 | h60
 replace h88:=q0k h60 h88
 obtain ⟨r61,h62,h88⟩:=q00 h88
 obtain ⟨r63,h64,h88⟩:=q00 h88
 obtain ⟨r65,h66,h88⟩:=q00 h88
 rcases q25 r65 with h67 | h67
 replace h88:=q0k h67 h88
 obtain ⟨r68,h69,h88⟩:=q00 h88
 rcases q25 (!r68) with h70 | h70
 replace h88:=q0k h70 h88
 obtain ⟨r71,h72,h88⟩:=q00 h88
 obtain ⟨r73,h74,h88⟩:=q00 h88
 obtain ⟨r75,h76,h88⟩:=q00 h88
 obtain ⟨r77,h78,h88⟩:=q00 h88
 rcases q25 r77 with h79 | h79
 replace h88:=q0k h79 h88
 obtain ⟨r80,h81,h88⟩:=q00 h88
 rcases q25 r80 with h82 | h82
 replace h88:=q0k h82 h88
 obtain ⟨r83,h84,h88⟩:=q00 h88
 obtain ⟨r85,h86,h88⟩:=q00 h88
 replace h88:=Option.some.inj h88
 subst h88
 refine WPU.drawE Try.tb_ok [] (by kernel_rfl) ?_
 refine RD.mv rfl rfl rfl rfl (RD.q rfl (q03 rfl rfl (q4a _ _ _) rfl) (RD.mv rfl rfl rfl rfl (RD.look (u:=.agg [.isl false (List.map cGNode r9.1.Nodes)]) (want1 rfl rfl rfl h49) (q0m und25 rfl (q02 inf25) rfl rfl rfl) rfl rfl (RD.free (u:=.agg [.isl false (List.map cGNode r50.Nodes)]) (args:=[.agg [.isl false (List.map cGNode r9.1.Nodes)],.int .i64 1]) (want1 rfl rfl rfl h49) (q01 rfl rfl fn20 hb20 rfl rfl) (fun s=>q3p n (GFS.mk r9.1.Nodes) 1 r50 h51 s) rfl rfl (RD.freeO (u:=.isl false (List.map (cI .i64) ([0,1]))) (want1 rfl rfl rfl h49) (FreeO.bs (cs:=[.int .i64 0,.int .i64 1]) und55 inf3 rfl rfl rfl rfl rfl rfl rfl rfl rfl) rfl rfl (RD.free (u:=.agg (cGNode r52)) (args:=[.int .i64 3,.isl false (List.map (cI .i64) ([0,1]))]) (want1 rfl rfl rfl h49) (q01 rfl rfl fn29 hb29 rfl rfl) (fun s=>q06 n 3 ([0,1]) r52 h53 s) rfl rfl (RD.free (u:=.agg (cGNode r54)) (args:=[.int .i64 2,.nils]) (want1 rfl rfl rfl h49) (q01 rfl rfl fn29 hb29 rfl rfl) (fun s=>EvU.wkA (args':=[.int .i64 2,.isl false []]) (.cons (.refl _) (.cons (.nil false) .nil)) (fun s=>q06 n 2 [] r54 h55 s) s) rfl rfl ?_)))))))
 refine RD.act (u:=.sl 9 0 2 2) (σ':=⟨[(9,.row [.int .i64 r52.Typex,.isl false (List.map cGArc r52.Arcs),.int .i64 r54.Typex,.isl false (List.map cGArc r54.Arcs)] 43),(8,.row [.isl false (List.map cGNode r47.1.Nodes)] 25),(7,.row [.isl false (List.map cGNode r19.1.Nodes)] 25),(3,.row [.isl false (List.map cGNode r9.1.Nodes)] 25)],10⟩) (want1 rfl rfl rfl h49) (q2a und23 inf43 rfl rfl rfl rfl rfl rfl rfl) rfl rfl ?_
 refine RD.fcall (u:=.agg [.isl false (List.map cGNode r56.Nodes)]) (args:=[.sl 9 0 2 2]) (σ1:=⟨[(8,.row [.isl false (List.map cGNode r47.1.Nodes)] 25),(7,.row [.isl false (List.map cGNode r19.1.Nodes)] 25),(3,.row [.isl false (List.map cGNode r9.1.Nodes)] 25)],10⟩) (want1 rfl rfl rfl h49) (q01 rfl rfl fn32 hb32 rfl rfl) (Gh.fz (tm':=[.isl false (List.map cGNode ([r52,r54]))]) (h':=[(8,.row [.isl false (List.map cGNode r47.1.Nodes)] 25),(7,.row [.isl false (List.map cGNode r19.1.Nodes)] 25),(3,.row [.isl false (List.map cGNode r9.1.Nodes)] 25)]) 9 (.row [.int .i64 r52.Typex,.isl false (List.map cGArc r52.Arcs),.int .i64 r54.Typex,.isl false (List.map cGArc r54.Arcs)] 43) 2 rfl (by simp) (by simp only [oneU,q09,q05,q0q,q0c,q0t,q0g,q0f,q0e,q0d,q0a,q0r,q0s,q0p,q0u,q1k,junkT,q1u,q1w,Nat.reduceLeDiff,Nat.reduceMul,List.length_cons,List.length_nil,Nat.reduceAdd]<;>simp only [chunks,List.take,List.drop,List.map,cGNode]) (by simp only [fzH,fzB,ug,Nat.beq,cond_true,cond_false,oneU,q09,q05,q0q,q0c,q0t,q0g,q0f,q0e,q0d,q0a,q0r,q0s,q0p,q0u,q1k,junkT,q1u,q1w,Nat.reduceLeDiff,Nat.reduceMul,List.length_cons,List.length_nil,Nat.reduceAdd]<;>simp only [chunks,List.take,List.drop,List.map,cGNode])) (Nat.le_of_ble_eq_true rfl) (q1b n ([r52,r54]) r56 h57 _) rfl rfl ?_
 refine RD.free (u:=.bool r58) (args:=[.agg [.isl false (List.map cGNode r50.Nodes)],.agg [.isl false (List.map cGNode r56.Nodes)]]) (want1 rfl rfl rfl h49) (q01 rfl rfl fn14 hb14 rfl rfl) (fun s=>q0x n r50 r56 r58 h59 s) rfl rfl (RD.q (u:=.bool r58) rfl (q08 rfl h49 rfl) (RD.mv rfl rfl rfl rfl (RD.act (u:=.sl 10 0 2 2) (σ':=⟨[(10,.row [.int .i64 5,.int .i64 0] 3),(8,.row [.isl false (List.map cGNode r47.1.Nodes)] 25),(7,.row [.isl false (List.map cGNode r19.1.Nodes)] 25),(3,.row [.isl false (List.map cGNode r9.1.Nodes)] 25)],11⟩) (want1 rfl rfl rfl h60) (q2a und55 inf3 rfl rfl rfl rfl rfl rfl rfl) rfl rfl ?_)))
 refine RD.fcall (u:=.agg (cGNode r61)) (args:=[.int .i64 1,.sl 10 0 2 2]) (σ1:=⟨[(8,.row [.isl false (List.map cGNode r47.1.Nodes)] 25),(7,.row [.isl false (List.map cGNode r19.1.Nodes)] 25),(3,.row [.isl false (List.map cGNode r9.1.Nodes)] 25)],11⟩) (want1 rfl rfl rfl h60) (q01 rfl rfl fn29 hb29 rfl rfl) (Gh.fz (tm':=[.int .i64 1,.isl false (List.map (cI .i64) ([5,0]))]) (h':=[(8,.row [.isl false (List.map cGNode r47.1.Nodes)] 25),(7,.row [.isl false (List.map cGNode r19.1.Nodes)] 25),(3,.row [.isl false (List.map cGNode r9.1.Nodes)] 25)]) 10 (.row [.int .i64 5,.int .i64 0] 3) 1 rfl (by simp) (by simp only [oneU,q09,q05,q0q,q0c,q0t,q0g,q0f,q0e,q0d,q0a,q0r,q0s,q0p,q0u,q1k,junkT,q1u,q1w,Nat.reduceLeDiff,Nat.reduceMul,List.length_cons,List.length_nil,Nat.reduceAdd]<;>simp only [chunks,List.take,List.drop,List.map,cI,cB,cS,cL]) (by simp only [fzH,fzB,ug,Nat.beq,cond_true,cond_false,oneU,q09,q05,q0q,q0c,q0t,q0g,q0f,q0e,q0d,q0a,q0r,q0s,q0p,q0u,q1k,junkT,q1u,q1w,Nat.reduceLeDiff,Nat.reduceMul,List.length_cons,List.length_nil,Nat.reduceAdd]<;>simp only [chunks,List.take,List.drop,List.map,cI,cB,cS,cL])) (Nat.le_of_ble_eq_true rfl) (q06 n 1 ([5,0]) r61 h62 _) rfl rfl ?_
 refine RD.act (u:=.sl 11 0 1 1) (σ':=⟨[(11,.row (cGNode r61) 43),(8,.row [.isl false (List.map cGNode r47.1.Nodes)] 25),(7,.row [.isl false (List.map cGNode r19.1.Nodes)] 25),(3,.row [.isl false (List.map cGNode r9.1.Nodes)] 25)],12⟩) (want1 rfl rfl rfl h60) (q2a und23 inf43 rfl rfl rfl rfl rfl rfl rfl) rfl rfl ?_
 refine RD.fcall (u:=.agg [.isl false (List.map cGNode r63.Nodes)]) (args:=[.sl 11 0 1 1]) (σ1:=⟨[(8,.row [.isl false (List.map cGNode r47.1.Nodes)] 25),(7,.row [.isl false (List.map cGNode r19.1.Nodes)] 25),(3,.row [.isl false (List.map cGNode r9.1.Nodes)] 25)],12⟩) (want1 rfl rfl rfl h60) (q01 rfl rfl fn32 hb32 rfl rfl) (Gh.fz (tm':=[.isl false (List.map cGNode ([r61]))]) (h':=[(8,.row [.isl false (List.map cGNode r47.1.Nodes)] 25),(7,.row [.isl false (List.map cGNode r19.1.Nodes)] 25),(3,.row [.isl false (List.map cGNode r9.1.Nodes)] 25)]) 11 (.row [.int .i64 r61.Typex,.isl false (List.map cGArc r61.Arcs)] 43) 2 rfl (by simp) (by simp only [oneU,q09,q05,q0q,q0c,q0t,q0g,q0f,q0e,q0d,q0a,q0r,q0s,q0p,q0u,q1k,junkT,q1u,q1w,q29,Nat.reduceLeDiff,Nat.reduceMul,List.length_cons,List.length_nil,Nat.reduceAdd]<;>simp only [chunks,List.take,List.drop,List.map,cGNode]) (by simp only [fzH,fzB,ug,Nat.beq,cond_true,cond_false,oneU,q09,q05,q0q,q0c,q0t,q0g,q0f,q0e,q0d,q0a,q0r,q0s,q0p,q0u,q1k,junkT,q1u,q1w,q29,Nat.reduceLeDiff,Nat.reduceMul,List.length_cons,List.length_nil,Nat.reduceAdd]<;>simp only [chunks,List.take,List.drop,List.map,cGNode])) (Nat.le_of_ble_eq_true rfl) (q1b n ([r61]) r63 h64 _) rfl rfl ?_
 refine RD.free (u:=.bool r65) (args:=[.agg [.isl false (List.map cGNode r63.Nodes)]]) (want1 rfl rfl rfl h60) (q01 rfl rfl fn22 hb22 rfl rfl) (fun s=>q0b n r63 r65 h66 s) rfl rfl (RD.q (u:=.bool r65) rfl (q08 rfl h60 rfl) (RD.mv rfl rfl rfl rfl (RD.look (u:=.agg [.isl false (List.map cGNode r9.1.Nodes)]) (want1 rfl rfl rfl h67) (q0m und25 rfl (q02 inf25) rfl rfl rfl) rfl rfl (RD.free (u:=.bool r68) (args:=[.agg [.isl false (List.map cGNode r9.1.Nodes)]]) (want1 rfl rfl rfl h67) (q01 rfl rfl fn22 hb22 rfl rfl) (fun s=>q0b n (GFS.mk r9.1.Nodes) r68 h69 s) rfl rfl (RD.look (u:=.bool (!r68)) (want1 rfl rfl rfl h67) (q4k rfl rfl rfl rfl) rfl rfl (RD.q (u:=.bool (!r68)) rfl (q08 rfl h67 rfl) (RD.mv rfl rfl rfl rfl ?_)))))))
 refine RD.free (u:=.agg [.isl false (List.map cGNode r71.Nodes)]) (args:=[.int .i64 4]) (want1 rfl rfl rfl h70) (q01 rfl rfl fn12 hb12 rfl rfl) (fun s=>q5e n 4 r71 h72 s) rfl rfl (RD.free (u:=.agg (cGNode r73)) (args:=[.int .i64 4,.nils]) (want1 rfl rfl rfl h70) (q01 rfl rfl fn29 hb29 rfl rfl) (fun s=>EvU.wkA (args':=[.int .i64 4,.isl false []]) (.cons (.refl _) (.cons (.nil false) .nil)) (fun s=>q06 n 4 [] r73 h74 s) s) rfl rfl (RD.act (u:=.sl 12 0 1 1) (σ':=⟨[(12,.row (cGNode r73) 43),(8,.row [.isl false (List.map cGNode r47.1.Nodes)] 25),(7,.row [.isl false (List.map cGNode r19.1.Nodes)] 25),(3,.row [.isl false (List.map cGNode r9.1.Nodes)] 25)],13⟩) (want1 rfl rfl rfl h70) (q2a und23 inf43 rfl rfl rfl rfl rfl rfl rfl) rfl rfl ?_))
 refine RD.fcall (u:=.agg [.isl false (List.map cGNode r75.Nodes)]) (args:=[.sl 12 0 1 1]) (σ1:=⟨[(8,.row [.isl false (List.map cGNode r47.1.Nodes)] 25),(7,.row [.isl false (List.map cGNode r19.1.Nodes)] 25),(3,.row [.isl false (List.map cGNode r9.1.Nodes)] 25)],13⟩) (want1 rfl rfl rfl h70) (q01 rfl rfl fn32 hb32 rfl rfl) (Gh.fz (tm':=[.isl false (List.map cGNode ([r73]))]) (h':=[(8,.row [.isl false (List.map cGNode r47.1.Nodes)] 25),(7,.row [.isl false (List.map cGNode r19.1.Nodes)] 25),(3,.row [.isl false (List.map cGNode r9.1.Nodes)] 25)]) 12 (.row [.int .i64 r73.Typex,.isl false (List.map cGArc r73.Arcs)] 43) 2 rfl (by simp) (by simp only [oneU,q09,q05,q0q,q0c,q0t,q0g,q0f,q0e,q0d,q0a,q0r,q0s,q0p,q0u,q1k,junkT,q1u,q1w,q29,Nat.reduceLeDiff,Nat.reduceMul,List.length_cons,List.length_nil,Nat.reduceAdd]<;>simp only [chunks,List.take,List.drop,List.map,cGNode]) (by simp only [fzH,fzB,ug,Nat.beq,cond_true,cond_false,oneU,q09,q05,q0q,q0c,q0t,q0g,q0f,q0e,q0d,q0a,q0r,q0s,q0p,q0u,q1k,junkT,q1u,q1w,q29,Nat.reduceLeDiff,Nat.reduceMul,List.length_cons,List.length_nil,Nat.reduceAdd]<;>simp only [chunks,List.take,List.drop,List.map,cGNode])) (Nat.le_of_ble_eq_true rfl) (q1b n ([r73]) r75 h76 _) rfl rfl ?_
 refine RD.free (u:=.bool r77) (args:=[.agg [.isl false (List.map cGNode r71.Nodes)],.agg [.isl false (List.map cGNode r75.Nodes)]]) (want1 rfl rfl rfl h70) (q01 rfl rfl fn14 hb14 rfl rfl) (fun s=>q0x n r71 r75 r77 h78 s) rfl rfl (RD.q (u:=.bool r77) rfl (q08 rfl h70 rfl) (RD.mv rfl rfl rfl rfl (RD.look (u:=.agg [.isl false (List.map cGNode r9.1.Nodes)]) (want1 rfl rfl rfl h79) (q0m und25 rfl (q02 inf25) rfl rfl rfl) rfl rfl (RD.look (u:=.agg [.isl false (List.map cGNode r9.1.Nodes)]) (want1 rfl rfl rfl h79) (q0m und25 rfl (q02 inf25) rfl rfl rfl) rfl rfl (RD.free (u:=.bool r80) (args:=[.agg [.isl false (List.map cGNode r9.1.Nodes)],.agg [.isl false (List.map cGNode r9.1.Nodes)]]) (want1 rfl rfl rfl h79) (q01 rfl rfl fn26 hb26 rfl rfl) (fun s=>q7e n (GFS.mk r9.1.Nodes) (GFS.mk r9.1.Nodes) r80 h81 s) rfl rfl (RD.q (u:=.bool r80) rfl (q08 rfl h79 rfl) (RD.mv rfl rfl rfl rfl ?_)))))))
 refine RD.free (u:=.agg [.isl false (List.map cGNode r83.Nodes)]) (args:=[.int .i64 9]) (want1 rfl rfl rfl h82) (q01 rfl rfl fn12 hb12 rfl rfl) (fun s=>q5e n 9 r83 h84 s) rfl rfl (RD.look (u:=.agg [.isl false (List.map cGNode r9.1.Nodes)]) (want1 rfl rfl rfl h82) (q0m und25 rfl (q02 inf25) rfl rfl rfl) rfl rfl (RD.free (u:=.int .i64 r85) (args:=[.agg [.isl false (List.map cGNode r83.Nodes)],.agg [.isl false (List.map cGNode r9.1.Nodes)]]) (want1 rfl rfl rfl h82) (q01 rfl rfl fn24 hb24 rfl rfl) (fun s=>q6j n r83 (GFS.mk r9.1.Nodes) r85 h86 s) rfl rfl (RD.look (want1 rfl rfl rfl h82) (q03 rfl rfl (q4a _ _ _) rfl) rfl rfl (RD.q (u:=.bool (r85 == (-1))) rfl (q08 rfl h82 rfl) (RD.as rfl rfl rfl rfl ?_)))))
 refine RD.done ⟨by kernel_rfl,trivial,?_⟩
 refine st ?_
 exact ⟨_,_,⟨rfl,rfl⟩,(Nat.zero_le _),Gh.toC (n1:=9) ⟨rfl,trivial⟩ rfl (Nat.zero_le _) (by simp)⟩
 replace h88:=q0j h82 h88
 replace h88:=Option.some.inj h88
 subst h88
 refine WPU.drawE Try.tb_ok [] (by kernel_rfl) ?_
 refine RD.mv rfl rfl rfl rfl (RD.q rfl (q03 rfl rfl (q4a _ _ _) rfl) (RD.mv rfl rfl rfl rfl (RD.look (u:=.agg [.isl false (List.map cGNode r9.1.Nodes)]) (want1 rfl rfl rfl h49) (q0m und25 rfl (q02 inf25) rfl rfl rfl) rfl rfl (RD.free (u:=.agg [.isl false (List.map cGNode r50.Nodes)]) (args:=[.agg [.isl false (List.map cGNode r9.1.Nodes)],.int .i64 1]) (want1 rfl rfl rfl h49) (q01 rfl rfl fn20 hb20 rfl rfl) (fun s=>q3p n (GFS.mk r9.1.Nodes) 1 r50 h51 s) rfl rfl (RD.freeO (u:=.isl false (List.map (cI .i64) ([0,1]))) (want1 rfl rfl rfl h49) (FreeO.bs (cs:=[.int .i64 0,.int .i64 1]) und55 inf3 rfl rfl rfl rfl rfl rfl rfl rfl rfl) rfl rfl (RD.free (u:=.agg (cGNode r52)) (args:=[.int .i64 3,.isl false (List.map (cI .i64) ([0,1]))]) (want1 rfl rfl rfl h49) (q01 rfl rfl fn29 hb29 rfl rfl) (fun s=>q06 n 3 ([0,1]) r52 h53 s) rfl rfl (RD.free (u:=.agg (cGNode r54)) (args:=[.int .i64 2,.nils]) (want1 rfl rfl rfl h49) (q01 rfl rfl fn29 hb29 rfl rfl) (fun s=>EvU.wkA (args':=[.int .i64 2,.isl false []]) (.cons (.refl _) (.cons (.nil false) .nil)) (fun s=>q06 n 2 [] r54 h55 s) s) rfl rfl ?_)))))))
 refine RD.act (u:=.sl 9 0 2 2) (σ':=⟨[(9,.row [.int .i64 r52.Typex,.isl false (List.map cGArc r52.Arcs),.int .i64 r54.Typex,.isl false (List.map cGArc r54.Arcs)] 43),(8,.row [.isl false (List.map cGNode r47.1.Nodes)] 25),(7,.row [.isl false (List.map cGNode r19.1.Nodes)] 25),(3,.row [.isl false (List.map cGNode r9.1.Nodes)] 25)],10⟩) (want1 rfl rfl rfl h49) (q2a und23 inf43 rfl rfl rfl rfl rfl rfl rfl) rfl rfl ?_
 refine RD.fcall (u:=.agg [.isl false (List.map cGNode r56.Nodes)]) (args:=[.sl 9 0 2 2]) (σ1:=⟨[(8,.row [.isl false (List.map cGNode r47.1.Nodes)] 25),(7,.row [.isl false (List.map cGNode r19.1.Nodes)] 25),(3,.row [.isl false (List.map cGNode r9.1.Nodes)] 25)],10⟩) (want1 rfl rfl rfl h49) (q01 rfl rfl fn32 hb32 rfl rfl) (Gh.fz (tm':=[.isl false (List.map cGNode ([r52,r54]))]) (h':=[(8,.row [.isl false (List.map cGNode r47.1.Nodes)] 25),(7,.row [.isl false (List.map cGNode r19.1.Nodes)] 25),(3,.row [.isl false (List.map cGNode r9.1.Nodes)] 25)]) 9 (.row [.int .i64 r52.Typex,.isl false (List.map cGArc r52.Arcs),.int .i64 r54.Typex,.isl false (List.map cGArc r54.Arcs)] 43) 2 rfl (by simp) (by simp only [oneU,q09,q05,q0q,q0c,q0t,q0g,q0f,q0e,q0d,q0a,q0r,q0s,q0p,q0u,q1k,junkT,q1u,q1w,Nat.reduceLeDiff,Nat.reduceMul,List.length_cons,List.length_nil,Nat.reduceAdd]<;>simp only [chunks,List.take,List.drop,List.map,cGNode]) (by simp only [fzH,fzB,ug,Nat.beq,cond_true,cond_false,oneU,q09,q05,q0q,q0c,q0t,q0g,q0f,q0e,q0d,q0a,q0r,q0s,q0p,q0u,q1k,junkT,q1u,q1w,Nat.reduceLeDiff,Nat.reduceMul,List.length_cons,List.length_nil,Nat.reduceAdd]<;>simp only [chunks,List.take,List.drop,List.map,cGNode])) (Nat.le_of_ble_eq_true rfl) (q1b n ([r52,r54]) r56 h57 _) rfl rfl ?_
 refine RD.free (u:=.bool r58) (args:=[.agg [.isl false (List.map cGNode r50.Nodes)],.agg [.isl false (List.map cGNode r56.Nodes)]]) (want1 rfl rfl rfl h49) (q01 rfl rfl fn14 hb14 rfl rfl) (fun s=>q0x n r50 r56 r58 h59 s) rfl rfl (RD.q (u:=.bool r58) rfl (q08 rfl h49 rfl) (RD.mv rfl rfl rfl rfl (RD.act (u:=.sl 10 0 2 2) (σ':=⟨[(10,.row [.int .i64 5,.int .i64 0] 3),(8,.row [.isl false (List.map cGNode r47.1.Nodes)] 25),(7,.row [.isl false (List.map cGNode r19.1.Nodes)] 25),(3,.row [.isl false (List.map cGNode r9.1.Nodes)] 25)],11⟩) (want1 rfl rfl rfl h60) (q2a und55 inf3 rfl rfl rfl rfl rfl rfl rfl) rfl rfl ?_)))
 refine RD.fcall (u:=.agg (cGNode r61)) (args:=[.int .i64 1,.sl 10 0 2 2]) (σ1:=⟨[(8,.row [.isl false (List.map cGNode r47.1.Nodes)] 25),(7,.row [.isl false (List.map cGNode r19.1.Nodes)] 25),(3,.row [.isl false (List.map cGNode r9.1.Nodes)] 25)],11⟩) (want1 rfl rfl rfl h60) (q01 rfl rfl fn29 hb29 rfl rfl) (Gh.fz (tm':=[.int .i64 1,.isl false (List.map (cI .i64) ([5,0]))]) (h':=[(8,.row [.isl false (List.map cGNode r47.1.Nodes)] 25),(7,.row [.isl false (List.map cGNode r19.1.Nodes)] 25),(3,.row [.isl false (List.map cGNode r9.1.Nodes)] 25)]) 10 (.row [.int .i64 5,.int .i64 0] 3) 1 rfl (by simp) (by simp only [oneU,q09,q05,q0q,q0c,q0t,q0g,q0f,q0e,q0d,q0a,q0r,q0s,q0p,q0u,q1k,junkT,q1u,q1w,Nat.reduceLeDiff,Nat.reduceMul,List.length_cons,List.length_nil,Nat.reduceAdd]<;>simp only [chunks,List.take,List.drop,List.map,cI,cB,cS,cL]) (by simp only [fzH,fzB,ug,Nat.beq,cond_true,cond_false,oneU,q09,q05,q0q,q0c,q0t,q0g,q0f,q0e,q0d,q0a,q0r,q0s,q0p,q0u,q1k,junkT,q1u,q1w,Nat.reduceLeDiff,Nat.reduceMul,List.length_cons,List.length_nil,Nat.reduceAdd]<;>simp only [chunks,List.take,List.drop,List.map,cI,cB,cS,cL])) (Nat.le_of_ble_eq_true rfl) (q06 n 1 ([5,0]) r61 h62 _) rfl rfl ?_
 refine RD.act (u:=.sl 11 0 1 1) (σ':=⟨[(11,.row (cGNode r61) 43),(8,.row [.isl false (List.map cGNode r47.1.Nodes)] 25),(7,.row [.isl false (List.map cGNode r19.1.Nodes)] 25),(3,.row [.isl false (List.map cGNode r9.1.Nodes)] 25)],12⟩) (want1 rfl rfl rfl h60) (q2a und23 inf43 rfl rfl rfl rfl rfl rfl rfl) rfl rfl ?_
 refine RD.fcall (u:=.agg [.isl false (List.map cGNode r63.Nodes)]) (args:=[.sl 11 0 1 1]) (σ1:=⟨[(8,.row [.isl false (List.map cGNode r47.1.Nodes)] 25),(7,.row [.isl false (List.map cGNode r19.1.Nodes)] 25),(3,.row [.isl false (List.map cGNode r9.1.Nodes)] 25)],12⟩) (want1 rfl rfl rfl h60) (q01 rfl rfl fn32 hb32 rfl rfl) (Gh.fz (tm':=[.isl false (List.map cGNode ([r61]))]) (h':=[(8,.row [.isl false (List.map cGNode r47.1.Nodes)] 25),(7,.row [.isl false (List.map cGNode r19.1.Nodes)] 25),(3,.row [.isl false (List.map cGNode r9.1.Nodes)] 25)]) 11 (.row [.int .i64 r61.Typex,.isl false (List.map cGArc r61.Arcs)] 43) 2 rfl (by simp) (by simp only [oneU,q09,q05,q0q,q0c,q0t,q0g,q0f,q0e,q0d,q0a,q0r,q0s,q0p,q0u,q1k,junkT,q1u,q1w,q29,Nat.reduceLeDiff,Nat.reduceMul,List.length_cons,List.length_nil,Nat.reduceAdd]<;>simp only [chunks,List.take,List.drop,List.map,cGNode]) (by simp only [fzH,fzB,ug,Nat.beq,cond_true,cond_false,oneU,q09,q05,q0q,q0c,q0t,q0g,q0f,q0e,q0d,q0a,q0r,q0s,q0p,q0u,q1k,junkT,q1u,q1w,q29,Nat.reduceLeDiff,Nat.reduceMul,List.length_cons,List.length_nil,Nat.reduceAdd]<;>simp only [chunks,List.take,List.drop,List.map,cGNode])) (Nat.le_of_ble_eq_true rfl) (q1b n ([r61]) r63 h64 _) rfl rfl ?_
 refine RD.free (u:=.bool r65) (args:=[.agg [.isl false (List.map cGNode r63.Nodes)]]) (want1 rfl rfl rfl h60) (q01 rfl rfl fn22 hb22 rfl rfl) (fun s=>q0b n r63 r65 h66 s) rfl rfl (RD.q (u:=.bool r65) rfl (q08 rfl h60 rfl) (RD.mv rfl rfl rfl rfl (RD.look (u:=.agg [.isl false (List.map cGNode r9.1.Nodes)]) (want1 rfl rfl rfl h67) (q0m und25 rfl (q02 inf25) rfl rfl rfl) rfl rfl (RD.free (u:=.bool r68) (args:=[.agg [.isl false (List.map cGNode r9.1.Nodes)]]) (want1 rfl rfl rfl h67) (q01 rfl rfl fn22 hb22 rfl rfl) (fun s=>q0b n (GFS.mk r9.1.Nodes) r68 h69 s) rfl rfl (RD.look (u:=.bool (!r68)) (want1 rfl rfl rfl h67) (q4k rfl rfl rfl rfl) rfl rfl (RD.q (u:=.bool (!r68)) rfl (q08 rfl h67 rfl) (RD.mv rfl rfl rfl rfl ?_)))))))
 refine RD.free (u:=.agg [.isl false (List.map cGNode r71.Nodes)]) (args:=[.int .i64 4]) (want1 rfl rfl rfl h70) (q01 rfl rfl fn12 hb12 rfl rfl) (fun s=>q5e n 4 r71 h72 s) rfl rfl (RD.free (u:=.agg (cGNode r73)) (args:=[.int .i64 4,.nils]) (want1 rfl rfl rfl h70) (q01 rfl rfl fn29 hb29 rfl rfl) (fun s=>EvU.wkA (args':=[.int .i64 4,.isl false []]) (.cons (.refl _) (.cons (.nil false) .nil)) (fun s=>q06 n 4 [] r73 h74 s) s) rfl rfl (RD.act (u:=.sl 12 0 1 1) (σ':=⟨[(12,.row (cGNode r73) 43),(8,.row [.isl false (List.map cGNode r47.1.Nodes)] 25),(7,.row [.isl false (List.map cGNode r19.1.Nodes)] 25),(3,.row [.isl false (List.map cGNode r9.1.Nodes)] 25)],13⟩) (want1 rfl rfl rfl h70) (q2a und23 inf43 rfl rfl rfl rfl rfl rfl rfl) rfl rfl ?_))
 refine RD.fcall (u:=.agg [.isl false (List.map cGNode r75.Nodes)]) (args:=[.sl 12 0 1 1]) (σ1:=⟨[(8,.row [.isl false (List.map cGNode r47.1.Nodes)] 25),(7,.row [.isl false (List.map cGNode r19.1.Nodes)] 25),(3,.row [.isl false (List.map cGNode r9.1.Nodes)] 25)],13⟩) (want1 rfl rfl rfl h70) (q01 rfl rfl fn32 hb32 rfl rfl) (Gh.fz (tm':=[.isl false (List.map cGNode ([r73]))]) (h':=[(8,.row [.isl false (List.map cGNode r47.1.Nodes)] 25),(7,.row [.isl false (List.map cGNode r19.1.Nodes)] 25),(3,.row [.isl false (List.map cGNode r9.1.Nodes)] 25)]) 12 (.row [.int .i64 r73.Typex,.isl false (List.map cGArc r73.Arcs)] 43) 2 rfl (by simp) (by simp only [oneU,q09,q05,q0q,q0c,q0t,q0g,q0f,q0e,q0d,q0a,q0r,q0s,q0p,q0u,q1k,junkT,q1u,q1w,q29,Nat.reduceLeDiff,Nat.reduceMul,List.length_cons,List.length_nil,Nat.reduceAdd]<;>simp only [chunks,List.take,List.drop,List.map,cGNode]) (by simp only [fzH,fzB,ug,Nat.beq,cond_true,cond_false,oneU,q09,q05,q0q,q0c,q0t,q0g,q0f,q0e,q0d,q0a,q0r,q0s,q0p,q0u,q1k,junkT,q1u,q1w,q29,Nat.reduceLeDiff,Nat.reduceMul,List.length_cons,List.length_nil,Nat.reduceAdd]<;>simp only [chunks,List.take,List.drop,List.map,cGNode])) (Nat.le_of_ble_eq_true rfl) (q1b n ([r73]) r75 h76 _) rfl rfl ?_
 refine RD.free (u:=.bool r77) (args:=[.agg [.isl false (List.map cGNode r71.Nodes)],.agg [.isl false (List.map cGNode r75.Nodes)]]) (want1 rfl rfl rfl h70) (q01 rfl rfl fn14 hb14 rfl rfl) (fun s=>q0x n r71 r75 r77 h78 s) rfl rfl (RD.q (u:=.bool r77) rfl (q08 rfl h70 rfl) (RD.mv rfl rfl rfl rfl (RD.look (u:=.agg [.isl false (List.map cGNode r9.1.Nodes)]) (want1 rfl rfl rfl h79) (q0m und25 rfl (q02 inf25) rfl rfl rfl) rfl rfl (RD.look (u:=.agg [.isl false (List.map cGNode r9.1.Nodes)]) (want1 rfl rfl rfl h79) (q0m und25 rfl (q02 inf25) rfl rfl rfl) rfl rfl (RD.free (u:=.bool r80) (args:=[.agg [.isl false (List.map cGNode r9.1.Nodes)],.agg [.isl false (List.map cGNode r9.1.Nodes)]]) (want1 rfl rfl rfl h79) (q01 rfl rfl fn26 hb26 rfl rfl) (fun s=>q7e n (GFS.mk r9.1.Nodes) (GFS.mk r9.1.Nodes) r80 h81 s) rfl rfl (RD.q (u:=.bool r80) rfl (q08 rfl h79 rfl) (RD.mv rfl rfl rfl rfl ?_)))))))
 repeat refine RD.no (want0 rfl rfl rfl h82) rfl rfl ?_
 refine RD.q (u:=.bool false) rfl (q07 rfl h82 rfl) (RD.as rfl rfl rfl rfl ?_)
 refine RD.done ⟨by kernel_rfl,trivial,?_⟩
 refine st ?_
 exact ⟨_,_,⟨rfl,rfl⟩,(Nat.zero_le _),Gh.toC (n1:=9) ⟨rfl,trivial⟩ rfl (Nat.zero_le _) (by simp)⟩
 replace h88:=q0j h79 h88
 replace h88:=Option.some.inj h88
 subst h88
 refine WPU.drawE Try.tb_ok [] (by kernel_rfl) ?_
 refine RD.mv rfl rfl rfl rfl (RD.q rfl (q03 rfl rfl (q4a _ _ _) rfl) (RD.mv rfl rfl rfl rfl (RD.look (u:=.agg [.isl false (List.map cGNode r9.1.Nodes)]) (want1 rfl rfl rfl h49) (q0m und25 rfl (q02 inf25) rfl rfl rfl) rfl rfl (RD.free (u:=.agg [.isl false (List.map cGNode r50.Nodes)]) (args:=[.agg [.isl false (List.map cGNode r9.1.Nodes)],.int .i64 1]) (want1 rfl rfl rfl h49) (q01 rfl rfl fn20 hb20 rfl rfl) (fun s=>q3p n (GFS.mk r9.1.Nodes) 1 r50 h51 s) rfl rfl (RD.freeO (u:=.isl false (List.map (cI .i64) ([0,1]))) (want1 rfl rfl rfl h49) (FreeO.bs (cs:=[.int .i64 0,.int .i64 1]) und55 inf3 rfl rfl rfl rfl rfl rfl rfl rfl rfl) rfl rfl (RD.free (u:=.agg (cGNode r52)) (args:=[.int .i64 3,.isl false (List.map (cI .i64) ([0,1]))]) (want1 rfl rfl rfl h49) (q01 rfl rfl fn29 hb29 rfl rfl) (fun s=>q06 n 3 ([0,1]) r52 h53 s) rfl rfl (RD.free (u:=.agg (cGNode r54)) (args:=[.int .i64 2,.nils]) (want1 rfl rfl rfl h49) (q01 rfl rfl fn29 hb29 rfl rfl) (fun s=>EvU.wkA (args':=[.int .i64 2,.isl false []]) (.cons (.refl _) (.cons (.nil false) .nil)) (fun s=>q06 n 2 [] r54 h55 s) s) rfl rfl ?_)))))))
 refine RD.act (u:=.sl 9 0 2 2) (σ':=⟨[(9,.row [.int .i64 r52.Typex,.isl false (List.map cGArc r52.Arcs),.int .i64 r54.Typex,.isl false (List.map cGArc r54.Arcs)] 43),(8,.row [.isl false (List.map cGNode r47.1.Nodes)] 25),(7,.row [.isl false (List.map cGNode r19.1.Nodes)] 25),(3,.row [.isl false (List.map cGNode r9.1.Nodes)] 25)],10⟩) (want1 rfl rfl rfl h49) (q2a und23 inf43 rfl rfl rfl rfl rfl rfl rfl) rfl rfl ?_
 refine RD.fcall (u:=.agg [.isl false (List.map cGNode r56.Nodes)]) (args:=[.sl 9 0 2 2]) (σ1:=⟨[(8,.row [.isl false (List.map cGNode r47.1.Nodes)] 25),(7,.row [.isl false (List.map cGNode r19.1.Nodes)] 25),(3,.row [.isl false (List.map cGNode r9.1.Nodes)] 25)],10⟩) (want1 rfl rfl rfl h49) (q01 rfl rfl fn32 hb32 rfl rfl) (Gh.fz (tm':=[.isl false (List.map cGNode ([r52,r54]))]) (h':=[(8,.row [.isl false (List.map cGNode r47.1.Nodes)] 25),(7,.row [.isl false (List.map cGNode r19.1.Nodes)] 25),(3,.row [.isl false (List.map cGNode r9.1.Nodes)] 25)]) 9 (.row [.int .i64 r52.Typex,.isl false (List.map cGArc r52.Arcs),.int .i64 r54.Typex,.isl false (List.map cGArc r54.Arcs)] 43) 2 rfl (by simp) (by simp only [oneU,q09,q05,q0q,q0c,q0t,q0g,q0f,q0e,q0d,q0a,q0r,q0s,q0p,q0u,q1k,junkT,q1u,q1w,Nat.reduceLeDiff,Nat.reduceMul,List.length_cons,List.length_nil,Nat.reduceAdd]<;>simp only [chunks,List.take,List.drop,List.map,cGNode]) (by simp only [fzH,fzB,ug,Nat.beq,cond_true,cond_false,oneU,q09,q05,q0q,q0c,q0t,q0g,q0f,q0e,q0d,q0a,q0r,q0s,q0p,q0u,q1k,junkT,q1u,q1w,Nat.reduceLeDiff,Nat.reduceMul,List.length_cons,List.length_nil,Nat.reduceAdd]<;>simp only [chunks,List.take,List.drop,List.map,cGNode])) (Nat.le_of_ble_eq_true rfl) (q1b n ([r52,r54]) r56 h57 _) rfl rfl ?_
 refine RD.free (u:=.bool r58) (args:=[.agg [.isl false (List.map cGNode r50.Nodes)],.agg [.isl false (List.map cGNode r56.Nodes)]]) (want1 rfl rfl rfl h49) (q01 rfl rfl fn14 hb14 rfl rfl) (fun s=>q0x n r50 r56 r58 h59 s) rfl rfl (RD.q (u:=.bool r58) rfl (q08 rfl h49 rfl) (RD.mv rfl rfl rfl rfl (RD.act (u:=.sl 10 0 2 2) (σ':=⟨[(10,.row [.int .i64 5,.int .i64 0] 3),(8,.row [.isl false (List.map cGNode r47.1.Nodes)] 25),(7,.row [.isl false (List.map cGNode r19.1.Nodes)] 25),(3,.row [.isl false (List.map cGNode r9.1.Nodes)] 25)],11⟩) (want1 rfl rfl rfl h60) (q2a und55 inf3 rfl rfl rfl rfl rfl rfl rfl) rfl rfl ?_)))
 refine RD.fcall (u:=.agg (cGNode r61)) (args:=[.int .i64 1,.sl 10 0 2 2]) (σ1:=⟨[(8,.row [.isl false (List.map cGNode r47.1.Nodes)] 25),(7,.row [.isl false (List.map cGNode r19.1.Nodes)] 25),(3,.row [.isl false (List.map cGNode r9.1.Nodes)] 25)],11⟩) (want1 rfl rfl rfl h60) (q01 rfl rfl fn29 hb29 rfl rfl) (Gh.fz (tm':=[.int .i64 1,.isl false (List.map (cI .i64) ([5,0]))]) (h':=[(8,.row [.isl false (List.map cGNode r47.1.Nodes)] 25),(7,.row [.isl false (List.map cGNode r19.1.Nodes)] 25),(3,.row [.isl false (List.map cGNode r9.1.Nodes)] 25)]) 10 (.row [.int .i64 5,.int .i64 0] 3) 1 rfl (by simp) (by simp only [oneU,q09,q05,q0q,q0c,q0t,q0g,q0f,q0e,q0d,q0a,q0r,q0s,q0p,q0u,q1k,junkT,q1u,q1w,Nat.reduceLeDiff,Nat.reduceMul,List.length_cons,List.length_nil,Nat.reduceAdd]<;>simp only [chunks,List.take,List.drop,List.map,cI,cB,cS,cL]) (by simp only [fzH,fzB,ug,Nat.beq,cond_true,cond_false,oneU,q09,q05,q0q,q0c,q0t,q0g,q0f,q0e,q0d,q0a,q0r,q0s,q0p,q0u,q1k,junkT,q1u,q1w,Nat.reduceLeDiff,Nat.reduceMul,List.length_cons,List.length_nil,Nat.reduceAdd]<;>simp only [chunks,List.take,List.drop,List.map,cI,cB,cS,cL])) (Nat.le_of_ble_eq_true rfl) (q06 n 1 ([5,0]) r61 h62 _) rfl rfl ?_
 refine RD.act (u:=.sl 11 0 1 1) (σ':=⟨[(11,.row (cGNode r61) 43),(8,.row [.isl false (List.map cGNode r47.1.Nodes)] 25),(7,.row [.isl false (List.map cGNode r19.1.Nodes)] 25),(3,.row [.isl false (List.map cGNode r9.1.Nodes)] 25)],12⟩) (want1 rfl rfl rfl h60) (q2a und23 inf43 rfl rfl rfl rfl rfl rfl rfl) rfl rfl ?_
 refine RD.fcall (u:=.agg [.isl false (List.map cGNode r63.Nodes)]) (args:=[.sl 11 0 1 1]) (σ1:=⟨[(8,.row [.isl false (List.map cGNode r47.1.Nodes)] 25),(7,.row [.isl false (List.map cGNode r19.1.Nodes)] 25),(3,.row [.isl false (List.map cGNode r9.1.Nodes)] 25)],12⟩) (want1 rfl rfl rfl h60) (q01 rfl rfl fn32 hb32 rfl rfl) (Gh.fz (tm':=[.isl false (List.map cGNode ([r61]))]) (h':=[(8,.row [.isl false (List.map cGNode r47.1.Nodes)] 25),(7,.row [.isl false (List.map cGNode r19.1.Nodes)] 25),(3,.row [.isl false (List.map cGNode r9.1.Nodes)] 25)]) 11 (.row [.int .i64 r61.Typex,.isl false (List.map cGArc r61.Arcs)] 43) 2 rfl (by simp) (by simp only [oneU,q09,q05,q0q,q0c,q0t,q0g,q0f,q0e,q0d,q0a,q0r,q0s,q0p,q0u,q1k,junkT,q1u,q1w,q29,Nat.reduceLeDiff,Nat.reduceMul,List.length_cons,List.length_nil,Nat.reduceAdd]<;>simp only [chunks,List.take,List.drop,List.map,cGNode]) (by simp only [fzH,fzB,ug,Nat.beq,cond_true,cond_false,oneU,q09,q05,q0q,q0c,q0t,q0g,q0f,q0e,q0d,q0a,q0r,q0s,q0p,q0u,q1k,junkT,q1u,q1w,q29,Nat.reduceLeDiff,Nat.reduceMul,List.length_cons,List.length_nil,Nat.reduceAdd]<;>simp only [chunks,List.take,List.drop,List.map,cGNode])) (Nat.le_of_ble_eq_true rfl) (q1b n ([r61]) r63 h64 _) rfl rfl ?_
 refine RD.free (u:=.bool r65) (args:=[.agg [.isl false (List.map cGNode r63.Nodes)]]) (want1 rfl rfl rfl h60) (q01 rfl rfl fn22 hb22 rfl rfl) (fun s=>q0b n r63 r65 h66 s) rfl rfl (RD.q (u:=.bool r65) rfl (q08 rfl h60 rfl) (RD.mv rfl rfl rfl rfl (RD.look (u:=.agg [.isl false (List.map cGNode r9.1.Nodes)]) (want1 rfl rfl rfl h67) (q0m und25 rfl (q02 inf25) rfl rfl rfl) rfl rfl (RD.free (u:=.bool r68) (args:=[.agg [.isl false (List.map cGNode r9.1.Nodes)]]) (want1 rfl rfl rfl h67) (q01 rfl rfl fn22 hb22 rfl rfl) (fun s=>q0b n (GFS.mk r9.1.Nodes) r68 h69 s) rfl rfl (RD.look (u:=.bool (!r68)) (want1 rfl rfl rfl h67) (q4k rfl rfl rfl rfl) rfl rfl (RD.q (u:=.bool (!r68)) rfl (q08 rfl h67 rfl) (RD.mv rfl rfl rfl rfl ?_)))))))
 refine RD.free (u:=.agg [.isl false (List.map cGNode r71.Nodes)]) (args:=[.int .i64 4]) (want1 rfl rfl rfl h70) (q01 rfl rfl fn12 hb12 rfl rfl) (fun s=>q5e n 4 r71 h72 s) rfl rfl (RD.free (u:=.agg (cGNode r73)) (args:=[.int .i64 4,.nils]) (want1 rfl rfl rfl h70) (q01 rfl rfl fn29 hb29 rfl rfl) (fun s=>EvU.wkA (args':=[.int .i64 4,.isl false []]) (.cons (.refl _) (.cons (.nil false) .nil)) (fun s=>q06 n 4 [] r73 h74 s) s) rfl rfl (RD.act (u:=.sl 12 0 1 1) (σ':=⟨[(12,.row (cGNode r73) 43),(8,.row [.isl false (List.map cGNode r47.1.Nodes)] 25),(7,.row [.isl false (List.map cGNode r19.1.Nodes)] 25),(3,.row [.isl false (List.map cGNode r9.1.Nodes)] 25)],13⟩) (want1 rfl rfl rfl h70) (q2a und23 inf43 rfl rfl rfl rfl rfl rfl rfl) rfl rfl ?_))
 refine RD.fcall (u:=.agg [.isl false (List.map cGNode r75.Nodes)]) (args:=[.sl 12 0 1 1]) (σ1:=⟨[(8,.row [.isl false (List.map cGNode r47.1.Nodes)] 25),(7,.row [.isl false (List.map cGNode r19.1.Nodes)] 25),(3,.row [.isl false (List.map cGNode r9.1.Nodes)] 25)],13⟩) (want1 rfl rfl rfl h70) (q01 rfl rfl fn32 hb32 rfl rfl) (Gh.fz (tm':=[.isl false (List.map cGNode ([r73]))]) (h':=[(8,.row [.isl false (List.map cGNode r47.1.Nodes)] 25),(7,.row [.isl false (List.map cGNode r19.1.Nodes)] 25),(3,.row [.isl false (List.map cGNode r9.1.Nodes)] 25)]) 12 (.row [.int .i64 r73.Typex,.isl false (List.map cGArc r73.Arcs)] 43) 2 rfl (by simp) (by simp only [oneU,q09,q05,q0q,q0c,q0t,q0g,q0f,q0e,q0d,q0a,q0r,q0s,q0p,q0u,q1k,junkT,q1u,q1w,q29,Nat.reduceLeDiff,Nat.reduceMul,List.length_cons,List.length_nil,Nat.reduceAdd]<;>simp only [chunks,List.take,List.drop,List.map,cGNode]) (by simp only [fzH,fzB,ug,Nat.beq,cond_true,cond_false,oneU,q09,q05,q0q,q0c,q0t,q0g,q0f,q0e,q0d,q0a,q0r,q0s,q0p,q0u,q1k,junkT,q1u,q1w,q29,Nat.reduceLeDiff,Nat.reduceMul,List.length_cons,List.length_nil,Nat.reduceAdd]<;>simp only [chunks,List.take,List.drop,List.map,cGNode])) (Nat.le_of_ble_eq_true rfl) (q1b n ([r73]) r75 h76 _) rfl rfl ?_
 refine RD.free (u:=.bool r77) (args:=[.agg [.isl false (List.map cGNode r71.Nodes)],.agg [.isl false (List.map cGNode r75.Nodes)]]) (want1 rfl rfl rfl h70) (q01 rfl rfl fn14 hb14 rfl rfl) (fun s=>q0x n r71 r75 r77 h78 s) rfl rfl (RD.q (u:=.bool r77) rfl (q08 rfl h70 rfl) (RD.mv rfl rfl rfl rfl ?_))
 repeat refine RD.no (want0 rfl rfl rfl h79) rfl rfl ?_
 refine RD.q (u:=.bool false) rfl (q07 rfl h79 rfl) (RD.mv rfl rfl rfl rfl ?_)
 repeat refine RD.no (want0 rfl rfl rfl rfl) rfl rfl ?_
 refine RD.q (u:=.bool false) rfl (q07 rfl rfl rfl) (RD.as rfl rfl rfl rfl ?_)
 refine RD.done ⟨by kernel_rfl,trivial,?_⟩
 refine st ?_
 exact ⟨_,_,⟨rfl,rfl⟩,(Nat.zero_le _),Gh.toC (n1:=9) ⟨rfl,trivial⟩ rfl (Nat.zero_le _) (by simp)⟩
 replace h88:=q0j h70 h88
 replace h88:=Option.some.inj h88
 subst h88
 refine WPU.drawE Try.tb_ok [] (by kernel_rfl) ?_
 refine RD.mv rfl rfl rfl rfl (RD.q rfl (q03 rfl rfl (q4a _ _ _) rfl) (RD.mv rfl rfl rfl rfl (RD.look (u:=.agg [.isl false (List.map cGNode r9.1.Nodes)]) (want1 rfl rfl rfl h49) (q0m und25 rfl (q02 inf25) rfl rfl rfl) rfl rfl (RD.free (u:=.agg [.isl false (List.map cGNode r50.Nodes)]) (args:=[.agg [.isl false (List.map cGNode r9.1.Nodes)],.int .i64 1]) (want1 rfl rfl rfl h49) (q01 rfl rfl fn20 hb20 rfl rfl) (fun s=>q3p n (GFS.mk r9.1.Nodes) 1 r50 h51 s) rfl rfl (RD.freeO (u:=.isl false (List.map (cI .i64) ([0,1]))) (want1 rfl rfl rfl h49) (FreeO.bs (cs:=[.int .i64 0,.int .i64 1]) und55 inf3 rfl rfl rfl rfl rfl rfl rfl rfl rfl) rfl rfl (RD.free (u:=.agg (cGNode r52)) (args:=[.int .i64 3,.isl false (List.map (cI .i64) ([0,1]))]) (want1 rfl rfl rfl h49) (q01 rfl rfl fn29 hb29 rfl rfl) (fun s=>q06 n 3 ([0,1]) r52 h53 s) rfl rfl (RD.free (u:=.agg (cGNode r54)) (args:=[.int .i64 2,.nils]) (want1 rfl rfl rfl h49) (q01 rfl rfl fn29 hb29 rfl rfl) (fun s=>EvU.wkA (args':=[.int .i64 2,.isl false []]) (.cons (.refl _) (.cons (.nil false) .nil)) (fun s=>q06 n 2 [] r54 h55 s) s) rfl rfl ?_)))))))
 refine RD.act (u:=.sl 9 0 2 2) (σ':=⟨[(9,.row [.int .i64 r52.Typex,.isl false (List.map cGArc r52.Arcs),.int .i64 r54.Typex,.isl false (List.map cGArc r54.Arcs)] 43),(8,.row [.isl false (List.map cGNode r47.1.Nodes)] 25),(7,.row [.isl false (List.map cGNode r19.1.Nodes)] 25),(3,.row [.isl false (List.map cGNode r9.1.Nodes)] 25)],10⟩) (want1 rfl rfl rfl h49) (q2a und23 inf43 rfl rfl rfl rfl rfl rfl rfl) rfl rfl ?_
 refine RD.fcall (u:=.agg [.isl false (List.map cGNode r56.Nodes)]) (args:=[.sl 9 0 2 2]) (σ1:=⟨[(8,.row [.isl false (List.map cGNode r47.1.Nodes)] 25),(7,.row [.isl false (List.map cGNode r19.1.Nodes)] 25),(3,.row [.isl false (List.map cGNode r9.1.Nodes)] 25)],10⟩) (want1 rfl rfl rfl h49) (q01 rfl rfl fn32 hb32 rfl rfl) (Gh.fz (tm':=[.isl false (List.map cGNode ([r52,r54]))]) (h':=[(8,.row [.isl false (List.map cGNode r47.1.Nodes)] 25),(7,.row [.isl false (List.map cGNode r19.1.Nodes)] 25),(3,.row [.isl false (List.map cGNode r9.1.Nodes)] 25)]) 9 (.row [.int .i64 r52.Typex,.isl false (List.map cGArc r52.Arcs),.int .i64 r54.Typex,.isl false (List.map cGArc r54.Arcs)] 43) 2 rfl (by simp) (by simp only [oneU,q09,q05,q0q,q0c,q0t,q0g,q0f,q0e,q0d,q0a,q0r,q0s,q0p,q0u,q1k,junkT,q1u,q1w,Nat.reduceLeDiff,Nat.reduceMul,List.length_cons,List.length_nil,Nat.reduceAdd]<;>simp only [chunks,List.take,List.drop,List.map,cGNode]) (by simp only [fzH,fzB,ug,Nat.beq,cond_true,cond_false,oneU,q09,q05,q0q,q0c,q0t,q0g,q0f,q0e,q0d,q0a,q0r,q0s,q0p,q0u,q1k,junkT,q1u,q1w,Nat.reduceLeDiff,Nat.reduceMul,List.length_cons,List.length_nil,Nat.reduceAdd]<;>simp only [chunks,List.take,List.drop,List.map,cGNode])) (Nat.le_of_ble_eq_true rfl) (q1b n ([r52,r54]) r56 h57 _) rfl rfl ?_
 refine RD.free (u:=.bool r58) (args:=[.agg [.isl false (List.map cGNode r50.Nodes)],.agg [.isl false (List.map cGNode r56.Nodes)]]) (want1 rfl rfl rfl h49) (q01 rfl rfl fn14 hb14 rfl rfl) (fun s=>q0x n r50 r56 r58 h59 s) rfl rfl (RD.q (u:=.bool r58) rfl (q08 rfl h49 rfl) (RD.mv rfl rfl rfl rfl (RD.act (u:=.sl 10 0 2 2) (σ':=⟨[(10,.row [.int .i64 5,.int .i64 0] 3),(8,.row [.isl false (List.map cGNode r47.1.Nodes)] 25),(7,.row [.isl false (List.map cGNode r19.1.Nodes)] 25),(3,.row [.isl false (List.map cGNode r9.1.Nodes)] 25)],11⟩) (want1 rfl rfl rfl h60) (q2a und55 inf3 rfl rfl rfl rfl rfl rfl rfl) rfl rfl ?_)))
 refine RD.fcall (u:=.agg (cGNode r61)) (args:=[.int .i64 1,.sl 10 0 2 2]) (σ1:=⟨[(8,.row [.isl false (List.map cGNode r47.1.Nodes)] 25),(7,.row [.isl false (List.map cGNode r19.1.Nodes)] 25),(3,.row [.isl false (List.map cGNode r9.1.Nodes)] 25)],11⟩) (want1 rfl rfl rfl h60) (q01 rfl rfl fn29 hb29 rfl rfl) (Gh.fz (tm':=[.int .i64 1,.isl false (List.map (cI .i64) ([5,0]))]) (h':=[(8,.row [.isl false (List.map cGNode r47.1.Nodes)] 25),(7,.row [.isl false (List.map cGNode r19.1.Nodes)] 25),(3,.row [.isl false (List.map cGNode r9.1.Nodes)] 25)]) 10 (.row [.int .i64 5,.int .i64 0] 3) 1 rfl (by simp) (by simp only [oneU,q09,q05,q0q,q0c,q0t,q0g,q0f,q0e,q0d,q0a,q0r,q0s,q0p,q0u,q1k,junkT,q1u,q1w,Nat.reduceLeDiff,Nat.reduceMul,List.length_cons,List.length_nil,Nat.reduceAdd]<;>simp only [chunks,List.take,List.drop,List.map,cI,cB,cS,cL]) (by simp only [fzH,fzB,ug,Nat.beq,cond_true,cond_false,oneU,q09,q05,q0q,q0c,q0t,q0g,q0f,q0e,q0d,q0a,q0r,q0s,q0p,q0u,q1k,junkT,q1u,q1w,Nat.reduceLeDiff,Nat.reduceMul,List.length_cons,List.length_nil,Nat.reduceAdd]<;>simp only [chunks,List.take,List.drop,List.map,cI,cB,cS,cL])) (Nat.le_of_ble_eq_true rfl) (q06 n 1 ([5,0]) r61 h62 _) rfl rfl ?_
 refine RD.act (u:=.sl 11 0 1 1) (σ':=⟨[(11,.row (cGNode r61) 43),(8,.row [.isl false (List.map cGNode r47.1.Nodes)] 25),(7,.row [.isl false (List.map cGNode r19.1.Nodes)] 25),(3,.row [.isl false (List.map cGNode r9.1.Nodes)] 25)],12⟩) (want1 rfl rfl rfl h60) (q2a und23 inf43 rfl rfl rfl rfl rfl rfl rfl) rfl rfl ?_
 refine RD.fcall (u:=.agg [.isl false (List.map cGNode r63.Nodes)]) (args:=[.sl 11 0 1 1]) (σ1:=⟨[(8,.row [.isl false (List.map cGNode r47.1.Nodes)] 25),(7,.row [.isl false (List.map cGNode r19.1.Nodes)] 25),(3,.row [.isl false (List.map cGNode r9.1.Nodes)] 25)],12⟩) (want1 rfl rfl rfl h60) (q01 rfl rfl fn32 hb32 rfl rfl) (Gh.fz (tm':=[.isl false (List.map cGNode ([r61]))]) (h':=[(8,.row [.isl false (List.map cGNode r47.1.Nodes)] 25),(7,.row [.isl false (List.map cGNode r19.1.Nodes)] 25),(3,.row [.isl false (List.map cGNode r9.1.Nodes)] 25)]) 11 (.row [.int .i64 r61.Typex,.isl false (List.map cGArc r61.Arcs)] 43) 2 rfl (by simp) (by simp only [oneU,q09,q05,q0q,q0c,q0t,q0g,q0f,q0e,q0d,q0a,q0r,q0s,q0p,q0u,q1k,junkT,q1u,q1w,q29,Nat.reduceLeDiff,Nat.reduceMul,List.length_cons,List.length_nil,Nat.reduceAdd]<;>simp only [chunks,List.take,List.drop,List.map,cGNode]) (by simp only [fzH,fzB,ug,Nat.beq,cond_true,cond_false,oneU,q09,q05,q0q,q0c,q0t,q0g,q0f,q0e,q0d,q0a,q0r,q0s,q0p,q0u,q1k,junkT,q1u,q1w,q29,Nat.reduceLeDiff,Nat.reduceMul,List.length_cons,List.length_nil,Nat.reduceAdd]<;>simp only [chunks,List.take,List.drop,List.map,cGNode])) (Nat.le_of_ble_eq_true rfl) (q1b n ([r61]) r63 h64 _) rfl rfl ?_
 refine RD.free (u:=.bool r65) (args:=[.agg [.isl false (List.map cGNode r63.Nodes)]]) (want1 rfl rfl rfl h60) (q01 rfl rfl fn22 hb22 rfl rfl) (fun s=>q0b n r63 r65 h66 s) rfl rfl (RD.q (u:=.bool r65) rfl (q08 rfl h60 rfl) (RD.mv rfl rfl rfl rfl (RD.look (u:=.agg [.isl false (List.map cGNode r9.1.Nodes)]) (want1 rfl rfl rfl h67) (q0m und25 rfl (q02 inf25) rfl rfl rfl) rfl rfl (RD.free (u:=.bool r68) (args:=[.agg [.isl false (List.map cGNode r9.1.Nodes)]]) (want1 rfl rfl rfl h67) (q01 rfl rfl fn22 hb22 rfl rfl) (fun s=>q0b n (GFS.mk r9.1.Nodes) r68 h69 s) rfl rfl (RD.look (u:=.bool (!r68)) (want1 rfl rfl rfl h67) (q4k rfl rfl rfl rfl) rfl rfl (RD.q (u:=.bool (!r68)) rfl (q08 rfl h67 rfl) (RD.mv rfl rfl rfl rfl ?_)))))))
 repeat refine RD.no (want0 rfl rfl rfl h70) rfl rfl ?_
 refine RD.q (u:=.bool false) rfl (q07 rfl h70 rfl) (RD.mv rfl rfl rfl rfl ?_)
 repeat refine RD.no (want0 rfl rfl rfl rfl) rfl rfl ?_
 refine RD.q (u:=.bool false) rfl (q07 rfl rfl rfl) (RD.mv rfl rfl rfl rfl ?_)
 repeat refine RD.no (want0 rfl rfl rfl rfl) rfl rfl ?_
 refine RD.q (u:=.bool false) rfl (q07 rfl rfl rfl) (RD.as rfl rfl rfl rfl ?_)
 refine RD.done ⟨by kernel_rfl,trivial,?_⟩
 refine st ?_
 exact ⟨_,_,⟨rfl,rfl⟩,(Nat.zero_le _),Gh.toC (n1:=9) ⟨rfl,trivial⟩ rfl (Nat.zero_le _) (by simp)⟩
 replace h88:=q0j h67 h88
 replace h88:=Option.some.inj h88
 subst h88
 refine WPU.drawE Try.tb_ok [] (by kernel_rfl) ?_
 refine RD.mv rfl rfl rfl rfl (RD.q rfl (q03 rfl rfl (q4a _ _ _) rfl) (RD.mv rfl rfl rfl rfl (RD.look (u:=.agg [.isl false (List.map cGNode r9.1.Nodes)]) (want1 rfl rfl rfl h49) (q0m und25 rfl (q02 inf25) rfl rfl rfl) rfl rfl (RD.free (u:=.agg [.isl false (List.map cGNode r50.Nodes)]) (args:=[.agg [.isl false (List.map cGNode r9.1.Nodes)],.int .i64 1]) (want1 rfl rfl rfl h49) (q01 rfl rfl fn20 hb20 rfl rfl) (fun s=>q3p n (GFS.mk r9.1.Nodes) 1 r50 h51 s) rfl rfl (RD.freeO (u:=.isl false (List.map (cI .i64) ([0,1]))) (want1 rfl rfl rfl h49) (FreeO.bs (cs:=[.int .i64 0,.int .i64 1]) und55 inf3 rfl rfl rfl rfl rfl rfl rfl rfl rfl) rfl rfl (RD.free (u:=.agg (cGNode r52)) (args:=[.int .i64 3,.isl false (List.map (cI .i64) ([0,1]))]) (want1 rfl rfl rfl h49) (q01 rfl rfl fn29 hb29 rfl rfl) (fun s=>q06 n 3 ([0,1]) r52 h53 s) rfl rfl (RD.free (u:=.agg (cGNode r54)) (args:=[.int .i64 2,.nils]) (want1 rfl rfl rfl h49) (q01 rfl rfl fn29 hb29 rfl rfl) (fun s=>EvU.wkA (args':=[.int .i64 2,.isl false []]) (.cons (.refl _) (.cons (.nil false) .nil)) (fun s=>q06 n 2 [] r54 h55 s) s) rfl rfl ?_)))))))
 refine RD.act (u:=.sl 9 0 2 2) (σ':=⟨[(9,.row [.int .i64 r52.Typex,.isl false (List.map cGArc r52.Arcs),.int .i64 r54.Typex,.isl false (List.map cGArc r54.Arcs)] 43),(8,.row [.isl false (List.map cGNode r47.1.Nodes)] 25),(7,.row [.isl false (List.map cGNode r19.1.Nodes)] 25),(3,.row [.isl false (List.map cGNode r9.1.Nodes)] 25)],10⟩) (want1 rfl rfl rfl h49) (q2a und23 inf43 rfl rfl rfl rfl rfl rfl rfl) rfl rfl ?_
 refine RD.fcall (u:=.agg [.isl false (List.map cGNode r56.Nodes)]) (args:=[.sl 9 0 2 2]) (σ1:=⟨[(8,.row [.isl false (List.map cGNode r47.1.Nodes)] 25),(7,.row [.isl false (List.map cGNode r19.1.Nodes)] 25),(3,.row [.isl false (List.map cGNode r9.1.Nodes)] 25)],10⟩) (want1 rfl rfl rfl h49) (q01 rfl rfl fn32 hb32 rfl rfl) (Gh.fz (tm':=[.isl false (List.map cGNode ([r52,r54]))]) (h':=[(8,.row [.isl false (List.map cGNode r47.1.Nodes)] 25),(7,.row [.isl false (List.map cGNode r19.1.Nodes)] 25),(3,.row [.isl false (List.map cGNode r9.1.Nodes)] 25)]) 9 (.row [.int .i64 r52.Typex,.isl false (List.map cGArc r52.Arcs),.int .i64 r54.Typex,.isl false (List.map cGArc r54.Arcs)] 43) 2 rfl (by simp) (by simp only [oneU,q09,q05,q0q,q0c,q0t,q0g,q0f,q0e,q0d,q0a,q0r,q0s,q0p,q0u,q1k,junkT,q1u,q1w,Nat.reduceLeDiff,Nat.reduceMul,List.length_cons,List.length_nil,Nat.reduceAdd]<;>simp only [chunks,List.take,List.drop,List.map,cGNode]) (by simp only [fzH,fzB,ug,Nat.beq,cond_true,cond_false,oneU,q09,q05,q0q,q0c,q0t,q0g,q0f,q0e,q0d,q0a,q0r,q0s,q0p,q0u,q1k,junkT,q1u,q1w,Nat.reduceLeDiff,Nat.reduceMul,List.length_cons,List.length_nil,Nat.reduceAdd]<;>simp only [chunks,List.take,List.drop,List.map,cGNode])) (Nat.le_of_ble_eq_true rfl) (q1b n ([r52,r54]) r56 h57 _) rfl rfl ?_
 refine RD.free (u:=.bool r58) (args:=[.agg [.isl false (List.map cGNode r50.Nodes)],.agg [.isl false (List.map cGNode r56.Nodes)]]) (want1 rfl rfl rfl h49) (q01 rfl rfl fn14 hb14 rfl rfl) (fun s=>q0x n r50 r56 r58 h59 s) rfl rfl (RD.q (u:=.bool r58) rfl (q08 rfl h49 rfl) (RD.mv rfl rfl rfl rfl (RD.act (u:=.sl 10 0 2 2) (σ':=⟨[(10,.row [.int .i64 5,.int .i64 0] 3),(8,.row [.isl false (List.map cGNode r47.1.Nodes)] 25),(7,.row [.isl false (List.map cGNode r19.1.Nodes)] 25),(3,.row [.isl false (List.map cGNode r9.1.Nodes)] 25)],11⟩) (want1 rfl rfl rfl h60) (q2a und55 inf3 rfl rfl rfl rfl rfl rfl rfl) rfl rfl ?_)))
 refine RD.fcall (u:=.agg (cGNode r61)) (args:=[.int .i64 1,.sl 10 0 2 2]) (σ1:=⟨[(8,.row [.isl false (List.map cGNode r47.1.Nodes)] 25),(7,.row [.isl false (List.map cGNode r19.1.Nodes)] 25),(3,.row [.isl false (List.map cGNode r9.1.Nodes)] 25)],11⟩) (want1 rfl rfl rfl h60) (q01 rfl rfl fn29 hb29 rfl rfl) (Gh.fz (tm':=[.int .i64 1,.isl false (List.map (cI .i64) ([5,0]))]) (h':=[(8,.row [.isl false (List.map cGNode r47.1.Nodes)] 25),(7,.row [.isl false (List.map cGNode r19.1.Nodes)] 25),(3,.row [.isl false (List.map cGNode r9.1.Nodes)] 25)]) 10 (.row [.int .i64 5,.int .i64 0] 3) 1 rfl (by simp) (by simp only [oneU,q09,q05,q0q,q0c,q0t,q0g,q0f,q0e,q0d,q0a,q0r,q0s,q0p,q0u,q1k,junkT,q1u,q1w,Nat.reduceLeDiff,Nat.reduceMul,List.length_cons,List.length_nil,Nat.reduceAdd]<;>simp only [chunks,List.take,List.drop,List.map,cI,cB,cS,cL]) (by simp only [fzH,fzB,ug,Nat.beq,cond_true,cond_false,oneU,q09,q05,q0q,q0c,q0t,q0g,q0f,q0e,q0d,q0a,q0r,q0s,q0p,q0u,q1k,junkT,q1u,q1w,Nat.reduceLeDiff,Nat.reduceMul,List.length_cons,List.length_nil,Nat.reduceAdd]<;>simp only [chunks,List.take,List.drop,List.map,cI,cB,cS,cL])) (Nat.le_of_ble_eq_true rfl) (q06 n 1 ([5,0]) r61 h62 _) rfl rfl ?_
 refine RD.act (u:=.sl 11 0 1 1) (σ':=⟨[(11,.row (cGNode r61) 43),(8,.row [.isl false (List.map cGNode r47.1.Nodes)] 25),(7,.row [.isl false (List.map cGNode r19.1.Nodes)] 25),(3,.row [.isl false (List.map cGNode r9.1.Nodes)] 25)],12⟩) (want1 rfl rfl rfl h60) (q2a und23 inf43 rfl rfl rfl rfl rfl rfl rfl) rfl rfl ?_
 refine RD.fcall (u:=.agg [.isl false (List.map cGNode r63.Nodes)]) (args:=[.sl 11 0 1 1]) (σ1:=⟨[(8,.row [.isl false (List.map cGNode r47.1.Nodes)] 25),(7,.row [.isl false (List.map cGNode r19.1.Nodes)] 25),(3,.row [.isl false (List.map cGNode r9.1.Nodes)] 25)],12⟩) (want1 rfl rfl rfl h60) (q01 rfl rfl fn32 hb32 rfl rfl) (Gh.fz (tm':=[.isl false (List.map cGNode ([r61]))]) (h':=[(8,.row [.isl false (List.map cGNode r47.1.Nodes)] 25),(7,.row [.isl false (List.map cGNode r19.1.Nodes)] 25),(3,.row [.isl false (List.map cGNode r9.1.Nodes)] 25)]) 11 (.row [.int .i64 r61.Typex,.isl false (List.map cGArc r61.Arcs)] 43) 2 rfl (by simp) (by simp only [oneU,q09,q05,q0q,q0c,q0t,q0g,q0f,q0e,q0d,q0a,q0r,q0s,q0p,q0u,q1k,junkT,q1u,q1w,q29,Nat.reduceLeDiff,Nat.reduceMul,List.length_cons,List.length_nil,Nat.reduceAdd]<;>simp only [chunks,List.take,List.drop,List.map,cGNode]) (by simp only [fzH,fzB,ug,Nat.beq,cond_true,cond_false,oneU,q09,q05,q0q,q0c,q0t,q0g,q0f,q0e,q0d,q0a,q0r,q0s,q0p,q0u,q1k,junkT,q1u,q1w,q29,Nat.reduceLeDiff,Nat.reduceMul,List.length_cons,List.length_nil,Nat.reduceAdd]<;>simp only [chunks,List.take,List.drop,List.map,cGNode])) (Nat.le_of_ble_eq_true rfl) (q1b n ([r61]) r63 h64 _) rfl rfl ?_
 refine RD.free (u:=.bool r65) (args:=[.agg [.isl false (List.map cGNode r63.Nodes)]]) (want1 rfl rfl rfl h60) (q01 rfl rfl fn22 hb22 rfl rfl) (fun s=>q0b n r63 r65 h66 s) rfl rfl (RD.q (u:=.bool r65) rfl (q08 rfl h60 rfl) (RD.mv rfl rfl rfl rfl ?_))
 repeat refine RD.no (want0 rfl rfl rfl h67) rfl rfl ?_
 refine RD.q (u:=.bool false) rfl (q07 rfl h67 rfl) (RD.mv rfl rfl rfl rfl ?_)
 repeat refine RD.no (want0 rfl rfl rfl rfl) rfl rfl ?_
 refine RD.q (u:=.bool false) rfl (q07 rfl rfl rfl) (RD.mv rfl rfl rfl rfl ?_)
 repeat refine RD.no (want0 rfl rfl rfl rfl) rfl rfl ?_
 refine RD.q (u:=.bool false) rfl (q07 rfl rfl rfl) (RD.mv rfl rfl rfl rfl ?_)
 repeat refine RD.no (want0 rfl rfl rfl rfl) rfl rfl ?_
 refine RD.q (u:=.bool false) rfl (q07 rfl rfl rfl) (RD.as rfl rfl rfl rfl ?_)
 refine RD.done ⟨by kernel_rfl,trivial,?_⟩
 refine st ?_
 exact ⟨_,_,⟨rfl,rfl⟩,(Nat.zero_le _),Gh.toC (n1:=9) ⟨rfl,trivial⟩ rfl (Nat.zero_le _) (by simp)⟩
 replace h88:=q0j h60 h88
 replace h88:=Option.some.inj h88
 subst h88
 refine WPU.drawE Try.tb_ok [] (by kernel_rfl) ?_
 refine RD.mv rfl rfl rfl rfl (RD.q rfl (q03 rfl rfl (q4a _ _ _) rfl) (RD.mv rfl rfl rfl rfl (RD.look (u:=.agg [.isl false (List.map cGNode r9.1.Nodes)]) (want1 rfl rfl rfl h49) (q0m und25 rfl (q02 inf25) rfl rfl rfl) rfl rfl (RD.free (u:=.agg [.isl false (List.map cGNode r50.Nodes)]) (args:=[.agg [.isl false (List.map cGNode r9.1.Nodes)],.int .i64 1]) (want1 rfl rfl rfl h49) (q01 rfl rfl fn20 hb20 rfl rfl) (fun s=>q3p n (GFS.mk r9.1.Nodes) 1 r50 h51 s) rfl rfl (RD.freeO (u:=.isl false (List.map (cI .i64) ([0,1]))) (want1 rfl rfl rfl h49) (FreeO.bs (cs:=[.int .i64 0,.int .i64 1]) und55 inf3 rfl rfl rfl rfl rfl rfl rfl rfl rfl) rfl rfl (RD.free (u:=.agg (cGNode r52)) (args:=[.int .i64 3,.isl false (List.map (cI .i64) ([0,1]))]) (want1 rfl rfl rfl h49) (q01 rfl rfl fn29 hb29 rfl rfl) (fun s=>q06 n 3 ([0,1]) r52 h53 s) rfl rfl (RD.free (u:=.agg (cGNode r54)) (args:=[.int .i64 2,.nils]) (want1 rfl rfl rfl h49) (q01 rfl rfl fn29 hb29 rfl rfl) (fun s=>EvU.wkA (args':=[.int .i64 2,.isl false []]) (.cons (.refl _) (.cons (.nil false) .nil)) (fun s=>q06 n 2 [] r54 h55 s) s) rfl rfl ?_)))))))
 refine RD.act (u:=.sl 9 0 2 2) (σ':=⟨[(9,.row [.int .i64 r52.Typex,.isl false (List.map cGArc r52.Arcs),.int .i64 r54.Typex,.isl false (List.map cGArc r54.Arcs)] 43),(8,.row [.isl false (List.map cGNode r47.1.Nodes)] 25),(7,.row [.isl false (List.map cGNode r19.1.Nodes)] 25),(3,.row [.isl false (List.map cGNode r9.1.Nodes)] 25)],10⟩) (want1 rfl rfl rfl h49) (q2a und23 inf43 rfl rfl rfl rfl rfl rfl rfl) rfl rfl ?_
 refine RD.fcall (u:=.agg [.isl false (List.map cGNode r56.Nodes)]) (args:=[.sl 9 0 2 2]) (σ1:=⟨[(8,.row [.isl false (List.map cGNode r47.1.Nodes)] 25),(7,.row [.isl false (List.map cGNode r19.1.Nodes)] 25),(3,.row [.isl false (List.map cGNode r9.1.Nodes)] 25)],10⟩) (want1 rfl rfl rfl h49) (q01 rfl rfl fn32 hb32 rfl rfl) (Gh.fz (tm':=[.isl false (List.map cGNode ([r52,r54]))]) (h':=[(8,.row [.isl false (List.map cGNode r47.1.Nodes)] 25),(7,.row [.isl false (List.map cGNode r19.1.Nodes)] 25),(3,.row [.isl false (List.map cGNode r9.1.Nodes)] 25)]) 9 (.row [.int .i64 r52.Typex,.isl false (List.map cGArc r52.Arcs),.int .i64 r54.Typex,.isl false (List.map cGArc r54.Arcs)] 43) 2 rfl (by simp) (by simp only [oneU,q09,q05,q0q,q0c,q0t,q0g,q0f,q0e,q0d,q0a,q0r,q0s,q0p,q0u,q1k,junkT,q1u,q1w,Nat.reduceLeDiff,Nat.reduceMul,List.length_cons,List.length_nil,Nat.reduceAdd]<;>simp only [chunks,List.take,List.drop,List.map,cGNode]) (by simp only [fzH,fzB,ug,Nat.beq,cond_true,cond_false,oneU,q09,q05,q0q,q0c,q0t,q0g,q0f,q0e,q0d,q0a,q0r,q0s,q0p,q0u,q1k,junkT,q1u,q1w,Nat.reduceLeDiff,Nat.reduceMul,List.length_cons,List.length_nil,Nat.reduceAdd]<;>simp only [chunks,List.take,List.drop,List.map,cGNode])) (Nat.le_of_ble_eq_true rfl) (q1b n ([r52,r54]) r56 h57 _) rfl rfl ?_
 refine RD.free (u:=.bool r58) (args:=[.agg [.isl false (List.map cGNode r50.Nodes)],.agg [.isl false (List.map cGNode r56.Nodes)]]) (want1 rfl rfl rfl h49) (q01 rfl rfl fn14 hb14 rfl rfl) (fun s=>q0x n r50 r56 r58 h59 s) rfl rfl (RD.q (u:=.bool r58) rfl (q08 rfl h49 rfl) (RD.mv rfl rfl rfl rfl ?_))
 repeat refine RD.no (want0 rfl rfl rfl h60) rfl rfl ?_
 refine RD.q (u:=.bool false) rfl (q07 rfl h60 rfl) (RD.mv rfl rfl rfl rfl ?_)
 repeat refine RD.no (want0 rfl rfl rfl rfl) rfl rfl ?_
 refine RD.q (u:=.bool false) rfl (q07 rfl rfl rfl) (RD.mv rfl rfl rfl rfl ?_)
 repeat refine RD.no (want0 rfl rfl rfl rfl) rfl rfl ?_
 refine RD.q (u:=.bool false) rfl (q07 rfl rfl rfl) (RD.mv rfl rfl rfl rfl ?_)
 repeat refine RD.no (want0 rfl rfl rfl rfl) rfl rfl ?_
 refine RD.q (u:=.bool false) rfl (q07 rfl rfl rfl) (RD.mv rfl rfl rfl rfl ?_)
 repeat refine RD.no (want0 rfl rfl rfl rfl) rfl rfl ?_
 refine RD.q (u:=.bool false) rfl (q07 rfl rfl rfl) (RD.as rfl rfl rfl rfl ?_)
 refine RD.done ⟨by kernel_rfl,trivial,?_⟩
 refine st ?_
 exact ⟨_,_,⟨rfl,rfl⟩,(Nat.zero_le _),Gh.toC (n1:=9) ⟨rfl,trivial⟩ rfl (Nat.zero_le _) (by simp)⟩
 replace h88:=q0j h49 h88
 replace h88:=Option.some.inj h88
 subst h88
 refine WPU.drawE Try.tb_ok [] (by kernel_rfl) ?_
 refine RD.mv rfl rfl rfl rfl (RD.q rfl (q03 rfl rfl (q4a _ _ _) rfl) (RD.mv rfl rfl rfl rfl ?_))
 repeat refine RD.no (want0 rfl rfl rfl h49) rfl rfl ?_
 refine RD.q (u:=.bool false) rfl (q07 rfl h49 rfl) (RD.mv rfl rfl rfl rfl ?_)
 repeat refine RD.no (want0 rfl rfl rfl rfl) rfl rfl ?_
 refine RD.q (u:=.bool false) rfl (q07 rfl rfl rfl) (RD.mv rfl rfl rfl rfl ?_)
 repeat refine RD.no (want0 rfl rfl rfl rfl) rfl rfl ?_
 refine RD.q (u:=.bool false) rfl (q07 rfl rfl rfl) (RD.mv rfl rfl rfl rfl ?_)
 repeat refine RD.no (want0 rfl rfl rfl rfl) rfl rfl ?_
 refine RD.q (u:=.bool false) rfl (q07 rfl rfl rfl) (RD.mv rfl rfl rfl rfl ?_)
 repeat refine RD.no (want0 rfl rfl rfl rfl) rfl rfl ?_
 refine RD.q (u:=.bool false) rfl (q07 rfl rfl rfl) (RD.mv rfl rfl rfl rfl ?_)
 repeat refine RD.no (want0 rfl rfl rfl rfl) rfl rfl ?_
 refine RD.q (u:=.bool false) rfl (q07 rfl rfl rfl) (RD.as rfl rfl rfl rfl ?_)
 refine RD.done ⟨by kernel_rfl,trivial,?_⟩
 refine st ?_
 exact ⟨_,_,⟨rfl,rfl⟩,(Nat.zero_le _),Gh.toC (n1:=9) ⟨rfl,trivial⟩ rfl (Nat.zero_le _) (by simp)⟩
 rcases q25 (r9.2 != 0) with h21 | h21
 replace h45:=q0k h21 h45
 replace h45:=Option.some.inj h45
 subst h45
 refine WPU.drawE Try.tb_ok [] (by kernel_rfl) ?_
 refine RD.mv rfl rfl rfl rfl (RD.q rfl (q03 rfl rfl (q5l _ _ _) rfl) (RD.mv rfl rfl rfl rfl ?_))
 repeat refine RD.no (want0 rfl rfl rfl h21) rfl rfl ?_
 refine RD.q (u:=.bool true) rfl (q08 rfl h21 rfl) (RD.mv rfl rfl rfl rfl ?_)
 repeat refine RD.no (want0 rfl rfl rfl rfl) rfl rfl ?_
 refine RD.q (u:=.bool true) rfl (q08 rfl rfl rfl) (RD.mv rfl rfl rfl rfl ?_)
 repeat refine RD.no (want0 rfl rfl rfl rfl) rfl rfl ?_
 refine RD.q (u:=.bool true) rfl (q08 rfl rfl rfl) ?_
 refine RD.done ⟨by kernel_rfl,trivial,?_⟩
 refine st ?_
 exact ⟨_,_,⟨rfl,rfl⟩,(Nat.zero_le _),Gh.toC (n1:=8) ⟨rfl,rfl,trivial⟩ rfl (Nat.zero_le _) (by simp)⟩
 replace h45:=q0j h21 h45
 rcases q25 (r19.2 != 0) with h22 | h22
 replace h45:=q0k h22 h45
 replace h45:=Option.some.inj h45
 subst h45
 refine WPU.drawE Try.tb_ok [] (by kernel_rfl) ?_
 refine RD.mv rfl rfl rfl rfl (RD.q rfl (q03 rfl rfl (q5l _ _ _) rfl) (RD.mv rfl rfl rfl rfl (RD.look (want1 rfl rfl rfl h21) (q0i rfl) rfl rfl (RD.look (want1 rfl rfl rfl h21) (q03 rfl rfl (q5l _ _ _) rfl) rfl rfl (RD.q (u:=.bool (r19.2 != 0)) rfl (q07 rfl h21 rfl) (RD.mv rfl rfl rfl rfl ?_))))))
 repeat refine RD.no (want0 rfl rfl rfl h22) rfl rfl ?_
 refine RD.q (u:=.bool true) rfl (q08 rfl h22 rfl) (RD.mv rfl rfl rfl rfl ?_)
 repeat refine RD.no (want0 rfl rfl rfl rfl) rfl rfl ?_
 refine RD.q (u:=.bool true) rfl (q08 rfl rfl rfl) ?_
 refine RD.done ⟨by kernel_rfl,trivial,?_⟩
 refine st ?_
 exact ⟨_,_,⟨rfl,rfl⟩,(Nat.zero_le _),Gh.toC (n1:=8) ⟨rfl,rfl,trivial⟩ rfl (Nat.zero_le _) (by simp)⟩
 replace h45:=q0j h22 h45
 obtain ⟨r23,h24,h45⟩:=q00 h45
 obtain ⟨r25,h26,h45⟩:=q00 h45
 obtain ⟨r27,h28,h45⟩:=q00 h45
 obtain ⟨r29,h30,h45⟩:=q00 h45
 obtain ⟨r31,h32,h45⟩:=q00 h45
 rcases q25 (!r31) with h33 | h33
 replace h45:=q0k h33 h45
 replace h45:=Option.some.inj h45
 subst h45
 refine WPU.drawE Try.tb_ok [(7,13),(7,14)] (by kernel_rfl) ?_
 refine RD.mv rfl rfl rfl rfl (RD.q rfl (q03 rfl rfl (q5l _ _ _) rfl) (RD.mv rfl rfl rfl rfl (RD.look (want1 rfl rfl rfl h21) (q0i rfl) rfl rfl (RD.look (want1 rfl rfl rfl h21) (q03 rfl rfl (q5l _ _ _) rfl) rfl rfl (RD.q (u:=.bool (r19.2 != 0)) rfl (q07 rfl h21 rfl) (RD.mv rfl rfl rfl rfl (RD.look (u:=.agg [.isl false (List.map cGNode r9.1.Nodes)]) (want1 rfl rfl rfl h22) (q0m und25 rfl (q02 inf25) rfl rfl rfl) rfl rfl ?_)))))))
 refine RD.freeO (u:=.isl false (List.map (cI .i64) ([0,1,1,2]))) (want1 rfl rfl rfl h22) (FreeO.bs (cs:=[.int .i64 0,.int .i64 1,.int .i64 1,.int .i64 2]) und55 inf3 rfl rfl rfl rfl rfl rfl rfl rfl rfl) rfl rfl (RD.free (u:=.agg (cGNode r23)) (args:=[.int .i64 1,.isl false (List.map (cI .i64) ([0,1,1,2]))]) (want1 rfl rfl rfl h22) (q01 rfl rfl fn29 hb29 rfl rfl) (fun s=>q06 n 1 ([0,1,1,2]) r23 h24 s) rfl rfl (RD.freeO (u:=.isl false (List.map (cI .i64) ([0,2]))) (want1 rfl rfl rfl h22) (FreeO.bs (cs:=[.int .i64 0,.int .i64 2]) und55 inf3 rfl rfl rfl rfl rfl rfl rfl rfl rfl) rfl rfl (RD.free (u:=.agg (cGNode r25)) (args:=[.int .i64 3,.isl false (List.map (cI .i64) ([0,2]))]) (want1 rfl rfl rfl h22) (q01 rfl rfl fn29 hb29 rfl rfl) (fun s=>q06 n 3 ([0,2]) r25 h26 s) rfl rfl (RD.free (u:=.agg (cGNode r27)) (args:=[.int .i64 2,.nils]) (want1 rfl rfl rfl h22) (q01 rfl rfl fn29 hb29 rfl rfl) (fun s=>EvU.wkA (args':=[.int .i64 2,.isl false []]) (.cons (.refl _) (.cons (.nil false) .nil)) (fun s=>q06 n 2 [] r27 h28 s) s) rfl rfl (RD.act (u:=.sl 8 0 3 3) (σ':=⟨[(8,.row [.int .i64 r23.Typex,.isl false (List.map cGArc r23.Arcs),.int .i64 r25.Typex,.isl false (List.map cGArc r25.Arcs),.int .i64 r27.Typex,.isl false (List.map cGArc r27.Arcs)] 43),(7,.row [.isl false (List.map cGNode r19.1.Nodes)] 25),(3,.row [.isl false (List.map cGNode r9.1.Nodes)] 25)],9⟩) (want1 rfl rfl rfl h22) (q2a und23 inf43 rfl rfl rfl rfl rfl rfl rfl) rfl rfl ?_)))))
 refine RD.fcall (u:=.agg [.isl false (List.map cGNode r29.Nodes)]) (args:=[.sl 8 0 3 3]) (σ1:=⟨[(7,.row [.isl false (List.map cGNode r19.1.Nodes)] 25),(3,.row [.isl false (List.map cGNode r9.1.Nodes)] 25)],9⟩) (want1 rfl rfl rfl h22) (q01 rfl rfl fn32 hb32 rfl rfl) (Gh.fz (tm':=[.isl false (List.map cGNode ([r23,r25,r27]))]) (h':=[(7,.row [.isl false (List.map cGNode r19.1.Nodes)] 25),(3,.row [.isl false (List.map cGNode r9.1.Nodes)] 25)]) 8 (.row [.int .i64 r23.Typex,.isl false (List.map cGArc r23.Arcs),.int .i64 r25.Typex,.isl false (List.map cGArc r25.Arcs),.int .i64 r27.Typex,.isl false (List.map cGArc r27.Arcs)] 43) 2 rfl (by simp) (by simp only [oneU,q09,q05,q0q,q0c,q0t,q0g,q0f,q0e,q0d,q0a,q0r,q0s,q0p,q0u,q1k,junkT,q1u,q1w,Nat.reduceLeDiff,Nat.reduceMul,List.length_cons,List.length_nil,Nat.reduceAdd]<;>simp only [chunks,List.take,List.drop,List.map,cGNode]) (by simp only [fzH,fzB,ug,Nat.beq,cond_true,cond_false,oneU,q09,q05,q0q,q0c,q0t,q0g,q0f,q0e,q0d,q0a,q0r,q0s,q0p,q0u,q1k,junkT,q1u,q1w,Nat.reduceLeDiff,Nat.reduceMul,List.length_cons,List.length_nil,Nat.reduceAdd]<;>simp only [chunks,List.take,List.drop,List.map,cGNode])) (Nat.le_of_ble_eq_true rfl) (q1b n ([r23,r25,r27]) r29 h30 _) rfl rfl ?_
 refine RD.free (u:=.bool r31) (args:=[.agg [.isl false (List.map cGNode r9.1.Nodes)],.agg [.isl false (List.map cGNode r29.Nodes)]]) (want1 rfl rfl rfl h22) (q01 rfl rfl fn14 hb14 rfl rfl) (fun s=>q0x n (GFS.mk r9.1.Nodes) r29 r31 h32 s) rfl rfl (RD.look (u:=.bool (!r31)) (want1 rfl rfl rfl h22) (q4k rfl rfl rfl rfl) rfl rfl (RD.q (u:=.bool (!r31)) rfl (q07 rfl h22 rfl) (RD.mv rfl rfl rfl rfl ?_)))
 repeat refine RD.no (want0 rfl rfl rfl h33) rfl rfl ?_
 refine RD.q (u:=.bool true) rfl (q08 rfl h33 rfl) ?_
 refine RD.done ⟨by kernel_rfl,⟨q0m und25 rfl (q02 inf25) rfl rfl rfl,⟨q0m und25 rfl (q02 inf25) rfl rfl rfl,trivial⟩⟩,?_⟩
 refine st ?_
 exact ⟨_,_,⟨rfl,rfl⟩,(Nat.zero_le _),Gh.toC (n1:=8) ⟨rfl,rfl,trivial⟩ rfl (Nat.zero_le _) (by simp)⟩
 replace h45:=q0j h33 h45
 obtain ⟨r34,h35,h45⟩:=q00 h45
 obtain ⟨r36,h37,h45⟩:=q00 h45
 obtain ⟨r38,h39,h45⟩:=q00 h45
 obtain ⟨r40,h41,h45⟩:=q00 h45
 obtain ⟨r42,h43,h45⟩:=q00 h45
 replace h45:=Option.some.inj h45
 subst h45
 refine WPU.drawE Try.tb_ok [(7,13),(7,14),(19,25),(19,26)] (by kernel_rfl) ?_
 refine RD.mv rfl rfl rfl rfl (RD.q rfl (q03 rfl rfl (q5l _ _ _) rfl) (RD.mv rfl rfl rfl rfl (RD.look (want1 rfl rfl rfl h21) (q0i rfl) rfl rfl (RD.look (want1 rfl rfl rfl h21) (q03 rfl rfl (q5l _ _ _) rfl) rfl rfl (RD.q (u:=.bool (r19.2 != 0)) rfl (q07 rfl h21 rfl) (RD.mv rfl rfl rfl rfl (RD.look (u:=.agg [.isl false (List.map cGNode r9.1.Nodes)]) (want1 rfl rfl rfl h22) (q0m und25 rfl (q02 inf25) rfl rfl rfl) rfl rfl ?_)))))))
 refine RD.freeO (u:=.isl false (List.map (cI .i64) ([0,1,1,2]))) (want1 rfl rfl rfl h22) (FreeO.bs (cs:=[.int .i64 0,.int .i64 1,.int .i64 1,.int .i64 2]) und55 inf3 rfl rfl rfl rfl rfl rfl rfl rfl rfl) rfl rfl (RD.free (u:=.agg (cGNode r23)) (args:=[.int .i64 1,.isl false (List.map (cI .i64) ([0,1,1,2]))]) (want1 rfl rfl rfl h22) (q01 rfl rfl fn29 hb29 rfl rfl) (fun s=>q06 n 1 ([0,1,1,2]) r23 h24 s) rfl rfl (RD.freeO (u:=.isl false (List.map (cI .i64) ([0,2]))) (want1 rfl rfl rfl h22) (FreeO.bs (cs:=[.int .i64 0,.int .i64 2]) und55 inf3 rfl rfl rfl rfl rfl rfl rfl rfl rfl) rfl rfl (RD.free (u:=.agg (cGNode r25)) (args:=[.int .i64 3,.isl false (List.map (cI .i64) ([0,2]))]) (want1 rfl rfl rfl h22) (q01 rfl rfl fn29 hb29 rfl rfl) (fun s=>q06 n 3 ([0,2]) r25 h26 s) rfl rfl (RD.free (u:=.agg (cGNode r27)) (args:=[.int .i64 2,.nils]) (want1 rfl rfl rfl h22) (q01 rfl rfl fn29 hb29 rfl rfl) (fun s=>EvU.wkA (args':=[.int .i64 2,.isl false []]) (.cons (.refl _) (.cons (.nil false) .nil)) (fun s=>q06 n 2 [] r27 h28 s) s) rfl rfl (RD.act (u:=.sl 8 0 3 3) (σ':=⟨[(8,.row [.int .i64 r23.Typex,.isl false (List.map cGArc r23.Arcs),.int .i64 r25.Typex,.isl false (List.map cGArc r25.Arcs),.int .i64 r27.Typex,.isl false (List.map cGArc r27.Arcs)] 43),(7,.row [.isl false (List.map cGNode r19.1.Nodes)] 25),(3,.row [.isl false (List.map cGNode r9.1.Nodes)] 25)],9⟩) (want1 rfl rfl rfl h22) (q2a und23 inf43 rfl rfl rfl rfl rfl rfl rfl) rfl rfl ?_)))))
 refine RD.fcall (u:=.agg [.isl false (List.map cGNode r29.Nodes)]) (args:=[.sl 8 0 3 3]) (σ1:=⟨[(7,.row [.isl false (List.map cGNode r19.1.Nodes)] 25),(3,.row [.isl false (List.map cGNode r9.1.Nodes)] 25)],9⟩) (want1 rfl rfl rfl h22) (q01 rfl rfl fn32 hb32 rfl rfl) (Gh.fz (tm':=[.isl false (List.map cGNode ([r23,r25,r27]))]) (h':=[(7,.row [.isl false (List.map cGNode r19.1.Nodes)] 25),(3,.row [.isl false (List.map cGNode r9.1.Nodes)] 25)]) 8 (.row [.int .i64 r23.Typex,.isl false (List.map cGArc r23.Arcs),.int .i64 r25.Typex,.isl false (List.map cGArc r25.Arcs),.int .i64 r27.Typex,.isl false (List.map cGArc r27.Arcs)] 43) 2 rfl (by simp) (by simp only [oneU,q09,q05,q0q,q0c,q0t,q0g,q0f,q0e,q0d,q0a,q0r,q0s,q0p,q0u,q1k,junkT,q1u,q1w,Nat.reduceLeDiff,Nat.reduceMul,List.length_cons,List.length_nil,Nat.reduceAdd]<;>simp only [chunks,List.take,List.drop,List.map,cGNode]) (by simp only [fzH,fzB,ug,Nat.beq,cond_true,cond_false,oneU,q09,q05,q0q,q0c,q0t,q0g,q0f,q0e,q0d,q0a,q0r,q0s,q0p,q0u,q1k,junkT,q1u,q1w,Nat.reduceLeDiff,Nat.reduceMul,List.length_cons,List.length_nil,Nat.reduceAdd]<;>simp only [chunks,List.take,List.drop,List.map,cGNode])) (Nat.le_of_ble_eq_true rfl) (q1b n ([r23,r25,r27]) r29 h30 _) rfl rfl ?_
 refine RD.free (u:=.bool r31) (args:=[.agg [.isl false (List.map cGNode r9.1.Nodes)],.agg [.isl false (List.map cGNode r29.Nodes)]]) (want1 rfl rfl rfl h22) (q01 rfl rfl fn14 hb14 rfl rfl) (fun s=>q0x n (GFS.mk r9.1.Nodes) r29 r31 h32 s) rfl rfl (RD.look (u:=.bool (!r31)) (want1 rfl rfl rfl h22) (q4k rfl rfl rfl rfl) rfl rfl (RD.q (u:=.bool (!r31)) rfl (q07 rfl h22 rfl) (RD.mv rfl rfl rfl rfl (RD.look (u:=.agg [.isl false (List.map cGNode r19.1.Nodes)]) (want1 rfl rfl rfl h33) (q0m und25 rfl (q02 inf25) rfl rfl rfl) rfl rfl (RD.freeO (u:=.isl false (List.map (cI .i64) ([3,1,7,2]))) (want1 rfl rfl rfl h33) (FreeO.bs (cs:=[.int .i64 3,.int .i64 1,.int .i64 7,.int .i64 2]) und55 inf3 rfl rfl rfl rfl rfl rfl rfl rfl rfl) rfl rfl (RD.free (u:=.agg (cGNode r34)) (args:=[.int .i64 4,.isl false (List.map (cI .i64) ([3,1,7,2]))]) (want1 rfl rfl rfl h33) (q01 rfl rfl fn29 hb29 rfl rfl) (fun s=>q06 n 4 ([3,1,7,2]) r34 h35 s) rfl rfl (RD.free (u:=.agg (cGNode r36)) (args:=[.int .i64 5,.nils]) (want1 rfl rfl rfl h33) (q01 rfl rfl fn29 hb29 rfl rfl) (fun s=>EvU.wkA (args':=[.int .i64 5,.isl false []]) (.cons (.refl _) (.cons (.nil false) .nil)) (fun s=>q06 n 5 [] r36 h37 s) s) rfl rfl ?_)))))))
 refine RD.freeO (u:=.isl false (List.map (cI .i64) ([2,0]))) (want1 rfl rfl rfl h33) (FreeO.bs (cs:=[.int .i64 2,.int .i64 0]) und55 inf3 rfl rfl rfl rfl rfl rfl rfl rfl rfl) rfl rfl (RD.free (u:=.agg (cGNode r38)) (args:=[.int .i64 6,.isl false (List.map (cI .i64) ([2,0]))]) (want1 rfl rfl rfl h33) (q01 rfl rfl fn29 hb29 rfl rfl) (fun s=>q06 n 6 ([2,0]) r38 h39 s) rfl rfl (RD.act (u:=.sl 9 0 3 3) (σ':=⟨[(9,.row [.int .i64 r34.Typex,.isl false (List.map cGArc r34.Arcs),.int .i64 r36.Typex,.isl false (List.map cGArc r36.Arcs),.int .i64 r38.Typex,.isl false (List.map cGArc r38.Arcs)] 43),(7,.row [.isl false (List.map cGNode r19.1.Nodes)] 25),(3,.row [.isl false (List.map cGNode r9.1.Nodes)] 25)],10⟩) (want1 rfl rfl rfl h33) (q2a und23 inf43 rfl rfl rfl rfl rfl rfl rfl) rfl rfl ?_))
 refine RD.fcall (u:=.agg [.isl false (List.map cGNode r40.Nodes)]) (args:=[.sl 9 0 3 3]) (σ1:=⟨[(7,.row [.isl false (List.map cGNode r19.1.Nodes)] 25),(3,.row [.isl false (List.map cGNode r9.1.Nodes)] 25)],10⟩) (want1 rfl rfl rfl h33) (q01 rfl rfl fn32 hb32 rfl rfl) (Gh.fz (tm':=[.isl false (List.map cGNode ([r34,r36,r38]))]) (h':=[(7,.row [.isl false (List.map cGNode r19.1.Nodes)] 25),(3,.row [.isl false (List.map cGNode r9.1.Nodes)] 25)]) 9 (.row [.int .i64 r34.Typex,.isl false (List.map cGArc r34.Arcs),.int .i64 r36.Typex,.isl false (List.map cGArc r36.Arcs),.int .i64 r38.Typex,.isl false (List.map cGArc r38.Arcs)] 43) 2 rfl (by simp) (by simp only [oneU,q09,q05,q0q,q0c,q0t,q0g,q0f,q0e,q0d,q0a,q0r,q0s,q0p,q0u,q1k,junkT,q1u,q1w,Nat.reduceLeDiff,Nat.reduceMul,List.length_cons,List.length_nil,Nat.reduceAdd]<;>simp only [chunks,List.take,List.drop,List.map,cGNode]) (by simp only [fzH,fzB,ug,Nat.beq,cond_true,cond_false,oneU,q09,q05,q0q,q0c,q0t,q0g,q0f,q0e,q0d,q0a,q0r,q0s,q0p,q0u,q1k,junkT,q1u,q1w,Nat.reduceLeDiff,Nat.reduceMul,List.length_cons,List.length_nil,Nat.reduceAdd]<;>simp only [chunks,List.take,List.drop,List.map,cGNode])) (Nat.le_of_ble_eq_true rfl) (q1b n ([r34,r36,r38]) r40 h41 _) rfl rfl ?_
 refine RD.free (u:=.bool r42) (args:=[.agg [.isl false (List.map cGNode r19.1.Nodes)],.agg [.isl false (List.map cGNode r40.Nodes)]]) (want1 rfl rfl rfl h33) (q01 rfl rfl fn14 hb14 rfl rfl) (fun s=>q0x n (GFS.mk r19.1.Nodes) r40 r42 h43 s) rfl rfl (RD.look (u:=.bool (!r42)) (want1 rfl rfl rfl h33) (q4k rfl rfl rfl rfl) rfl rfl (RD.q (u:=.bool (!r42)) rfl (q07 rfl h33 rfl) ?_))
 refine RD.done ⟨by kernel_rfl,⟨q0m und25 rfl (q02 inf25) rfl rfl rfl,⟨q0m und25 rfl (q02 inf25) rfl rfl rfl,⟨q0m und25 rfl (q02 inf25) rfl rfl rfl,⟨q0m und25 rfl (q02 inf25) rfl rfl rfl,trivial⟩⟩⟩⟩,?_⟩
 refine st ?_
 exact ⟨_,_,⟨rfl,rfl⟩,(Nat.zero_le _),Gh.toC (n1:=8) ⟨rfl,rfl,trivial⟩ rfl (Nat.zero_le _) (by simp)⟩
theorem q3r (n:Nat)  (r:Bool) (hF:q1s n  = some r) (σ:Sg):EvU Try.prog 16 [] σ (fun u σ'=>u = .bool r∧σ'=σ) :=
 EvU.pure1C (q7d n  r hF) σ
def q2w (n:Nat)  : Option (Bool) :=
 bindO (q1s n) fun r27 =>
 some r27
def q1l (n:Nat) (r7:GFS×Int):Nat→Int→Option (Bool)
 | 0,_=>none
 | m2+1,z26 =>
  cond (decide (z26<(r7.1.Nodes.length:Int)))
   (bindO (q5k n (GFS.mk r7.1.Nodes) z26) fun r30 =>
   bindO (cond (decide ((r30.Nodes.length:Int) > (r7.1.Nodes.length:Int)))
    (some true)
    (cond (z26 == 0)
     (bindO (q2z n r30 (GFS.mk r7.1.Nodes)) fun r34 =>
     cond (!r34)
      (some true)
      (bindO (q2e n (GFS.mk r7.1.Nodes)) fun r37 =>
      cond (!r37)
       (bindO (q2e n r30) fun r40 =>
       cond r40
        (some true)
        (cond (decide (z26 > 0))
         (some (decide ((r30.Nodes.length:Int) ≥ (r7.1.Nodes.length:Int))))
         (some false)))
       (some false)))
     (bindO (q2e n (GFS.mk r7.1.Nodes)) fun r44 =>
     cond (!r44)
      (bindO (q2e n r30) fun r47 =>
      cond r47
       (some true)
       (cond (decide (z26 > 0))
        (some (decide ((r30.Nodes.length:Int) ≥ (r7.1.Nodes.length:Int))))
        (some false)))
      (some false)))) fun b51 =>
   cond b51
    (some false)
    ((q1l n r7 m2) (IntKind.i64.wrap (z26+1))))
   (q2w n)
def q2x (z18:Int) (rc1:Int→(List Bool)→Option (Bool)) (l74:List Bool):Option (Bool) :=
 rc1 (IntKind.i64.wrap (z18+1)) l74
def q1z (r7:GFS×Int) (z18:Int) (rc1:Int→(List Bool)→Option (Bool)) (x61:GNode):Nat→Int→(List Bool)→Option (Bool)
 | 0,_,_=>none
 | m3+1,z72,l73 =>
  cond (decide (z72<(x61.Arcs.length:Int)))
   (bindO (idxO x61.Arcs z72) fun x76 =>
   bindO (cond (decide (x76.To<0))
    (some true)
    (cond (decide (x76.To ≥ (r7.1.Nodes.length:Int)))
     (some true)
     (cond (decide (z72 > 0))
      (bindO (idxO r7.1.Nodes z18) fun x81 =>
      bindO (idxO x81.Arcs (IntKind.i64.wrap (z72 - 1))) fun x83 =>
      some (decide (x76.Feat≤x83.Feat)))
      (some false)))) fun b85 =>
   cond b85
    (some false)
    (bindO (idxV l73 0 ((r7.1.Nodes.length:Int).toNat) x76.To) fun x88 =>
    (q1z r7 z18 rc1 x61 m3) (IntKind.i64.wrap (z72+1)) (l73.set x76.To.toNat true)))
   (q2x z18 rc1 l73)
def q2v (n:Nat) (r7:GFS×Int) (l20:List Bool):Option (Bool) :=
 q1l n r7 n 0
def q13 (n:Nat) (r7:GFS×Int):Nat→Int→(List Bool)→Option (Bool)
 | 0,_,_=>none
 | m1+1,z18,l19 =>
  cond (decide (z18<(r7.1.Nodes.length:Int)))
   (bindO (cond (decide (z18 > 0))
    (bindO (idxV l19 0 ((r7.1.Nodes.length:Int).toNat) z18) fun x56 =>
    some (!x56))
    (some false)) fun b58 =>
   cond b58
    (some false)
    (bindO (idxO r7.1.Nodes z18) fun x61 =>
    q1z r7 z18 (q13 n r7 m1) x61 n 0 l19))
   (q2v n r7 l19)
def q3l (n:Nat) (p1:GFS):Option (Bool) :=
 bindO (q4p n p1) fun r2 =>
 cond (!r2)
  (bindO (q1s n) fun r5 =>
  some r5)
  (bindO (q37 n p1) fun r7 =>
  cond (r7.2 != 0)
   (bindO (q1s n) fun r10 =>
   some r10)
   (needO (0≤(r7.1.Nodes.length:Int)∧1*(r7.1.Nodes.length:Int).toNat≤281474976710656∧(r7.1.Nodes.length:Int)≤281474976710656) (
   q13 n r7 n 0 (List.replicate (r7.1.Nodes.length:Int).toNat false))))
theorem q7c (n:Nat) (p1:GFS) (r:Bool) (hF:q3l n p1=some r):EvU Try.prog 10 [.agg [.isl false (List.map cGNode p1.Nodes)]] ⟨[],0⟩ (fun u _=>u = .bool r∧Bel 0 u):=by
 unfold q3l at hF
 refine EvU.of_body Try.tb_ok fn10 rfl ?_
 refine WPU.ghost (tm':=fr 141 [(0,.agg [.isl false (List.map cGNode p1.Nodes)])]) (Gh.start (Nat.le_of_ble_eq_true rfl)) (Nat.zero_le _) ?_
 refine sr ?_
 refine RS.q (u:=.ptr 0 0 0) (σ':=⟨[(0,.row [.isl false (List.map cGNode p1.Nodes)] 25)],1⟩) rfl (q3m rfl rfl rfl) ?_
 refine sd ?_
 obtain ⟨r2,h3,hF⟩:=q00 hF
 refine sr ?_
 refine RS.q (u:=.agg [.isl false (List.map cGNode p1.Nodes)]) rfl (q0m und25 rfl (q02 inf25) rfl rfl rfl) (RS.call (u:=.bool r2) (args:=[.agg [.isl false (List.map cGNode p1.Nodes)]]) rfl (q01 rfl rfl fn17 hb17 rfl rfl) (ref07_Light_ok n p1 r2 h3 _) rfl rfl (RS.q (u:=.bool (!r2)) rfl (q4k rfl rfl rfl rfl) ?_))
 refine sd ?_
 refine WPU.condS (t:=(!r2)) rfl (fun h4=>?_) (fun h4=>?_)
 replace hF:=q0k h4 hF
 refine st ?_
 obtain ⟨r5,h6,hF⟩:=q00 hF
 refine sr ?_
 refine RS.call (u:=.bool r5) (args:=[]) rfl (q01 rfl rfl fn16 hb16 rfl rfl) (q3r n  r5 h6 _) rfl rfl ?_
 refine sd ?_
 refine WPU.ret ?_
 refine st ?_
 have hr:=Option.some.inj hF
 subst hr
 exact ⟨.inr rfl,[.bool r5],q2b rfl (q1v),.bool r5,⟨[],0⟩,Nat.le_refl _,Gh.toR (.bool r5) rfl,rfl,BU.h⟩
 replace hF:=q0j h4 hF
 refine st ?_
 refine WPU.skip ?_
 refine st ?_
 obtain ⟨r7,h8,hF⟩:=q00 hF
 refine sr ?_
 refine RS.q (u:=.agg [.isl false (List.map cGNode p1.Nodes)]) rfl (q0m und25 rfl (q02 inf25) rfl rfl rfl) (RS.call (u:=.tup [.agg [.isl false (List.map cGNode r7.1.Nodes)],.int .i64 r7.2]) (args:=[.agg [.isl false (List.map cGNode p1.Nodes)]]) rfl (q01 rfl rfl fn13 hb13 rfl rfl) (q4t n p1 r7 h8 _) rfl rfl (RS.mv rfl rfl rfl rfl (RS.q rfl (q7f rfl rfl) (RS.q rfl (q7f rfl rfl) (RS.q (u:=.ptr 1 0 0) (σ':=⟨[(1,.row [.nils] 25),(0,.row [.isl false (List.map cGNode p1.Nodes)] 25)],2⟩) rfl (q1d inf25 rfl rfl) (RS.opn (u:=.junk) (σ':=⟨[(1,.row [.isl false (List.map cGNode r7.1.Nodes)] 25),(0,.row [.isl false (List.map cGNode p1.Nodes)] 25)],2⟩) rfl (q14 (q02 inf25) rfl rfl rfl rfl rfl rfl rfl rfl) rfl ?_))))))
 refine se ?_
 refine RS.q rfl (q03 rfl rfl (q5l _ _ _) rfl) ?_
 refine sd ?_
 refine WPU.condS (t:=(r7.2 != 0)) rfl (fun h9=>?_) (fun h9=>?_)
 replace hF:=q0k h9 hF
 refine st ?_
 obtain ⟨r10,h11,hF⟩:=q00 hF
 refine sr ?_
 refine RS.call (u:=.bool r10) (args:=[]) rfl (q01 rfl rfl fn16 hb16 rfl rfl) (q3r n  r10 h11 _) rfl rfl ?_
 refine sd ?_
 refine WPU.ret ?_
 refine st ?_
 have hr:=Option.some.inj hF
 subst hr
 exact ⟨.inr rfl,[.bool r10],q2b rfl (q1v),.bool r10,⟨[],0⟩,Nat.le_refl _,Gh.toR (.bool r10) rfl,rfl,BU.h⟩
 replace hF:=q0j h9 hF
 refine st ?_
 refine WPU.skip ?_
 refine st ?_
 obtain ⟨h12,hF⟩:=q3e hF
 refine sr ?_
 refine RS.q (u:=.ptr 1 0 0) rfl (q0v und25 rfl (q02 inf23) rfl rfl rfl) (RS.q (u:=.isl false (List.map cGNode r7.1.Nodes)) rfl (q04 und23 rfl rfl rfl rfl) (RS.q rfl (q0n rfl rfl rfl (q0h cGNode und23)) (RS.q (u:=.sl 2 0 ((r7.1.Nodes.length:Int).toNat) ((r7.1.Nodes.length:Int).toNat)) (σ':=⟨[(2,.row (List.map cB (List.replicate (r7.1.Nodes.length:Int).toNat false)).flatten 4),(1,.row [.isl false (List.map cGNode r7.1.Nodes)] 25),(0,.row [.isl false (List.map cGNode p1.Nodes)] 25)],3⟩) rfl (op_mks cB false rfl rfl und40 inf4 rfl rfl rfl rfl h12) ?_)))
 refine se ?_
 refine RS.q (u:=.ptr 1 0 0) rfl (q0v und25 rfl (q02 inf23) rfl rfl rfl) (RS.q (u:=.isl false (List.map cGNode r7.1.Nodes)) rfl (q04 und23 rfl rfl rfl rfl) (RS.q rfl (q0n rfl rfl rfl (q0h cGNode und23)) (RS.mv rfl rfl rfl rfl ?_)))
 refine sd ?_
 refine WPU.ghost (tm':=fr 141 [(3,.ptr 1 0 0),(5,.sl 2 0 ((r7.1.Nodes.length:Int).toNat) ((r7.1.Nodes.length:Int).toNat)),(29,.int .i64 (r7.1.Nodes.length:Int)),(30,.int .i64 0)]) (Gh.sub ⟨rfl,rfl,rfl,rfl,trivial⟩) (Nat.zero_le _) ?_
 refine WPU.loopK (fun m tm σ=>∃ z18:Int,∃ l19:List Bool,q13 n r7 m z18 l19=some r∧tm=fr 141 [(3,.ptr 1 0 0),(5,.sl 2 0 ((r7.1.Nodes.length:Int).toNat) ((r7.1.Nodes.length:Int).toNat)),(29,.int .i64 (r7.1.Nodes.length:Int)),(30,.int .i64 z18)]∧σ=⟨[(2,.row (List.map cB l19).flatten 4),(1,.row [.isl false (List.map cGNode r7.1.Nodes)] 25),(0,.row [.isl false (List.map cGNode p1.Nodes)] 25)],3⟩) (fun tm σ=>∃ l20:List Bool,q2v n r7 l20=some r∧tm=fr 141 [(3,.ptr 1 0 0)]∧σ=⟨[(2,.row (List.map cB l20).flatten 4),(1,.row [.isl false (List.map cGNode r7.1.Nodes)] 25),(0,.row [.isl false (List.map cGNode p1.Nodes)] 25)],3⟩) n ⟨0,(List.replicate (r7.1.Nodes.length:Int).toNat false),hF,rfl,rfl⟩ ?_ ?_
 rintro _ _ ⟨l20,hF,rfl,rfl⟩
 unfold q2v at hF
 refine sr ?_
 refine RS.q (u:=.ptr 1 0 0) rfl (q0v und25 rfl (q02 inf23) rfl rfl rfl) (RS.q (u:=.isl false (List.map cGNode r7.1.Nodes)) rfl (q04 und23 rfl rfl rfl rfl) (RS.q rfl (q0n rfl rfl rfl (q0h cGNode und23)) (RS.mv rfl rfl rfl rfl ?_)))
 refine sd ?_
 refine WPU.ghost (tm':=fr 141 [(3,.ptr 1 0 0),(93,.int .i64 (r7.1.Nodes.length:Int)),(94,.int .i64 0)]) (Gh.sub ⟨rfl,rfl,rfl,trivial⟩) (Nat.zero_le _) ?_
 refine WPU.loopK (fun m tm σ=>∃ z26:Int,q1l n r7 m z26=some r∧tm=fr 141 [(3,.ptr 1 0 0),(93,.int .i64 (r7.1.Nodes.length:Int)),(94,.int .i64 z26)]∧σ=⟨[(2,.row (List.map cB l20).flatten 4),(1,.row [.isl false (List.map cGNode r7.1.Nodes)] 25),(0,.row [.isl false (List.map cGNode p1.Nodes)] 25)],3⟩) (fun tm σ=>q2w n=some r∧tm=fr 141 []∧σ=⟨[(2,.row (List.map cB l20).flatten 4),(1,.row [.isl false (List.map cGNode r7.1.Nodes)] 25),(0,.row [.isl false (List.map cGNode p1.Nodes)] 25)],3⟩) n ⟨0,hF,rfl,rfl⟩ ?_ ?_
 rintro _ _ ⟨hF,rfl,rfl⟩
 unfold q2w at hF
 refine st ?_
 obtain ⟨r27,h28,hF⟩:=q00 hF
 refine sr ?_
 refine RS.call (u:=.bool r27) (args:=[]) rfl (q01 rfl rfl fn16 hb16 rfl rfl) (q3r n  r27 h28 _) rfl rfl ?_
 refine sd ?_
 refine WPU.ret ?_
 refine st ?_
 have hr:=Option.some.inj hF
 subst hr
 exact ⟨.inr rfl,[.bool r27],q2b rfl (q1v),.bool r27,⟨[],0⟩,Nat.le_refl _,Gh.toR (.bool r27) rfl,rfl,BU.h⟩
 rintro m2 _ _ ⟨z26,hF,rfl,rfl⟩
 rcases m2 with _ | m2
 cases hF
 unfold q1l at hF
 refine sr ?_
 refine RS.q rfl (q03 rfl rfl (q2d _ _ _) rfl) ?_
 refine sd ?_
 refine WPU.condS (t:=(decide (z26<(r7.1.Nodes.length:Int)))) rfl (fun h29=>?_) (fun h29=>?_)
 replace hF:=q0k h29 hF
 refine st ?_
 refine WPU.skip ?_
 refine st ?_
 refine WPU.block ?_
 refine sr ?_
 refine sd ?_
 obtain ⟨r30,h31,hF⟩:=q00 hF
 refine sr ?_
 refine RS.q (u:=.agg [.isl false (List.map cGNode r7.1.Nodes)]) rfl (q0m und25 rfl (q02 inf25) rfl rfl rfl) (RS.mv rfl rfl rfl rfl (RS.call (u:=.agg [.isl false (List.map cGNode r30.Nodes)]) (args:=[.agg [.isl false (List.map cGNode r7.1.Nodes)],.int .i64 z26]) rfl (q01 rfl rfl fn20 hb20 rfl rfl) (q3p n (GFS.mk r7.1.Nodes) z26 r30 h31 _) rfl rfl (RS.q (u:=.ptr 3 0 0) (σ':=⟨[(3,.row [.nils] 25),(2,.row (List.map cB l20).flatten 4),(1,.row [.isl false (List.map cGNode r7.1.Nodes)] 25),(0,.row [.isl false (List.map cGNode p1.Nodes)] 25)],4⟩) rfl (q1d inf25 rfl rfl) (RS.opn (u:=.junk) (σ':=⟨[(3,.row [.isl false (List.map cGNode r30.Nodes)] 25),(2,.row (List.map cB l20).flatten 4),(1,.row [.isl false (List.map cGNode r7.1.Nodes)] 25),(0,.row [.isl false (List.map cGNode p1.Nodes)] 25)],4⟩) rfl (q14 (q02 inf25) rfl rfl rfl rfl rfl rfl rfl rfl) rfl ?_))))
 refine sd ?_
 obtain ⟨b51,h52,hF⟩:=q00 hF
 refine WPU.joinK (fun tm σ=>tm=fr 141 [(3,.ptr 1 0 0),(93,.int .i64 (r7.1.Nodes.length:Int)),(94,.int .i64 z26),(138,.bool b51)]∧σ=⟨[(3,.row [.isl false (List.map cGNode r30.Nodes)] 25),(2,.row (List.map cB l20).flatten 4),(1,.row [.isl false (List.map cGNode r7.1.Nodes)] 25),(0,.row [.isl false (List.map cGNode p1.Nodes)] 25)],4⟩) ?_ ?_
 rintro _ _ ⟨rfl,rfl⟩
 refine st ?_
 refine WPU.condS (t:=b51) rfl (fun h53=>?_) (fun h53=>?_)
 replace hF:=q0k h53 hF
 refine sr ?_
 refine sd ?_
 refine WPU.ret ?_
 refine st ?_
 have hr:=Option.some.inj hF
 subst hr
 exact ⟨.inr rfl,[.bool false],q2b rfl (q1v),.bool false,⟨[],0⟩,Nat.le_refl _,Gh.toR (.bool false) rfl,rfl,BU.h⟩
 replace hF:=q0j h53 hF
 refine st ?_
 refine WPU.skip ?_
 refine sr ?_
 refine RS.q rfl (q03 rfl rfl (q42 _ _ _) rfl) (RS.mv rfl rfl rfl rfl ?_)
 refine sd ?_
 exact ⟨m2,_,_,Nat.lt_succ_self _,⟨(IntKind.i64.wrap (z26+1)),hF,rfl,rfl⟩,(Nat.zero_le _),Gh.toC (n1:=3) ⟨rfl,rfl,rfl,trivial⟩ rfl (Nat.zero_le _) (by simp)⟩
 rcases q25 (decide ((r30.Nodes.length:Int) > (r7.1.Nodes.length:Int))) with h32 | h32
 replace h52:=q0k h32 h52
 replace h52:=Option.some.inj h52
 subst h52
 refine sr ?_
 refine RS.q (u:=.ptr 3 0 0) rfl (q0v und25 rfl (q02 inf23) rfl rfl rfl) (RS.q (u:=.isl false (List.map cGNode r30.Nodes)) rfl (q04 und23 rfl rfl rfl rfl) (RS.q rfl (q0n rfl rfl rfl (q0h cGNode und23)) (RS.q (u:=.ptr 1 0 0) rfl (q0v und25 rfl (q02 inf23) rfl rfl rfl) (RS.q (u:=.isl false (List.map cGNode r7.1.Nodes)) rfl (q04 und23 rfl rfl rfl rfl) (RS.q rfl (q0n rfl rfl rfl (q0h cGNode und23)) (RS.q rfl (q03 rfl rfl (q3q _ _ _) rfl) (RS.mv rfl rfl rfl rfl ?_)))))))
 repeat refine RS.no (want0 rfl rfl rfl h32) rfl rfl ?_
 repeat refine RS.no (wantT rfl rfl rfl) rfl rfl ?_
 refine RS.no (want0 rfl rfl rfl h32) rfl rfl (RS.q (u:=.bool true) rfl (q08 rfl h32 rfl) (RS.mv rfl rfl rfl rfl ?_))
 repeat refine RS.no (want0 rfl rfl rfl rfl) rfl rfl ?_
 repeat refine RS.no (wantT rfl rfl rfl) rfl rfl ?_
 refine RS.no (want0 rfl rfl rfl rfl) rfl rfl (RS.q (u:=.bool true) rfl (q08 rfl rfl rfl) ?_)
 refine sd ?_
 exact ⟨_,_,⟨rfl,rfl⟩,(Nat.zero_le _),Gh.toC (n1:=4) ⟨rfl,rfl,rfl,rfl,trivial⟩ rfl (Nat.zero_le _) (by simp)⟩
 replace h52:=q0j h32 h52
 rcases q25 (z26 == 0) with h33 | h33
 replace h52:=q0k h33 h52
 obtain ⟨r34,h35,h52⟩:=q00 h52
 rcases q25 (!r34) with h36 | h36
 replace h52:=q0k h36 h52
 replace h52:=Option.some.inj h52
 subst h52
 refine sr ?_
 refine RS.q (u:=.ptr 3 0 0) rfl (q0v und25 rfl (q02 inf23) rfl rfl rfl) (RS.q (u:=.isl false (List.map cGNode r30.Nodes)) rfl (q04 und23 rfl rfl rfl rfl) (RS.q rfl (q0n rfl rfl rfl (q0h cGNode und23)) (RS.q (u:=.ptr 1 0 0) rfl (q0v und25 rfl (q02 inf23) rfl rfl rfl) (RS.q (u:=.isl false (List.map cGNode r7.1.Nodes)) rfl (q04 und23 rfl rfl rfl rfl) (RS.q rfl (q0n rfl rfl rfl (q0h cGNode und23)) (RS.q rfl (q03 rfl rfl (q3q _ _ _) rfl) (RS.mv rfl rfl rfl rfl ?_)))))))
 refine RS.op (want1 rfl rfl rfl h32) (q0i rfl) rfl rfl (RS.op (want1 rfl rfl rfl h32) (q03 rfl rfl (q4a _ _ _) rfl) rfl rfl (RS.op (want1 rfl rfl rfl h32) (q0i rfl) rfl rfl (RS.op (u:=.agg [.isl false (List.map cGNode r30.Nodes)]) (want1 rfl rfl rfl h33) (q0m und25 rfl (q02 inf25) rfl rfl rfl) rfl rfl (RS.op (u:=.agg [.isl false (List.map cGNode r7.1.Nodes)]) (want1 rfl rfl rfl h33) (q0m und25 rfl (q02 inf25) rfl rfl rfl) rfl rfl (RS.call (u:=.bool r34) (args:=[.agg [.isl false (List.map cGNode r30.Nodes)],.agg [.isl false (List.map cGNode r7.1.Nodes)]]) (want1 rfl rfl rfl h33) (q01 rfl rfl fn14 hb14 rfl rfl) (q0x n r30 (GFS.mk r7.1.Nodes) r34 h35 _) rfl rfl (RS.op (u:=.bool (!r34)) (want1 rfl rfl rfl h33) (q4k rfl rfl rfl rfl) rfl rfl (RS.op (u:=.bool (!r34)) (want1 rfl rfl rfl h32) (q08 rfl h33 rfl) rfl rfl ?_)))))))
 refine RS.q (u:=.bool (!r34)) rfl (q07 rfl h32 rfl) (RS.mv rfl rfl rfl rfl ?_)
 repeat refine RS.no (want0 rfl rfl rfl h36) rfl rfl ?_
 repeat refine RS.no (wantT rfl rfl rfl) rfl rfl ?_
 refine RS.no (want0 rfl rfl rfl h36) rfl rfl (RS.q (u:=.bool true) rfl (q08 rfl h36 rfl) ?_)
 refine sd ?_
 exact ⟨_,_,⟨rfl,rfl⟩,(Nat.zero_le _),Gh.toC (n1:=4) ⟨rfl,rfl,rfl,rfl,trivial⟩ rfl (Nat.zero_le _) (by simp)⟩
 replace h52:=q0j h36 h52
 obtain ⟨r37,h38,h52⟩:=q00 h52
 rcases q25 (!r37) with h39 | h39
 replace h52:=q0k h39 h52
 obtain ⟨r40,h41,h52⟩:=q00 h52
 rcases q25 r40 with h42 | h42
 replace h52:=q0k h42 h52
 replace h52:=Option.some.inj h52
 subst h52
 refine sr ?_
 refine RS.q (u:=.ptr 3 0 0) rfl (q0v und25 rfl (q02 inf23) rfl rfl rfl) (RS.q (u:=.isl false (List.map cGNode r30.Nodes)) rfl (q04 und23 rfl rfl rfl rfl) (RS.q rfl (q0n rfl rfl rfl (q0h cGNode und23)) (RS.q (u:=.ptr 1 0 0) rfl (q0v und25 rfl (q02 inf23) rfl rfl rfl) (RS.q (u:=.isl false (List.map cGNode r7.1.Nodes)) rfl (q04 und23 rfl rfl rfl rfl) (RS.q rfl (q0n rfl rfl rfl (q0h cGNode und23)) (RS.q rfl (q03 rfl rfl (q3q _ _ _) rfl) (RS.mv rfl rfl rfl rfl ?_)))))))
 refine RS.op (want1 rfl rfl rfl h32) (q0i rfl) rfl rfl (RS.op (want1 rfl rfl rfl h32) (q03 rfl rfl (q4a _ _ _) rfl) rfl rfl (RS.op (want1 rfl rfl rfl h32) (q0i rfl) rfl rfl (RS.op (u:=.agg [.isl false (List.map cGNode r30.Nodes)]) (want1 rfl rfl rfl h33) (q0m und25 rfl (q02 inf25) rfl rfl rfl) rfl rfl (RS.op (u:=.agg [.isl false (List.map cGNode r7.1.Nodes)]) (want1 rfl rfl rfl h33) (q0m und25 rfl (q02 inf25) rfl rfl rfl) rfl rfl (RS.call (u:=.bool r34) (args:=[.agg [.isl false (List.map cGNode r30.Nodes)],.agg [.isl false (List.map cGNode r7.1.Nodes)]]) (want1 rfl rfl rfl h33) (q01 rfl rfl fn14 hb14 rfl rfl) (q0x n r30 (GFS.mk r7.1.Nodes) r34 h35 _) rfl rfl (RS.op (u:=.bool (!r34)) (want1 rfl rfl rfl h33) (q4k rfl rfl rfl rfl) rfl rfl (RS.op (u:=.bool (!r34)) (want1 rfl rfl rfl h32) (q08 rfl h33 rfl) rfl rfl ?_)))))))
 refine RS.q (u:=.bool (!r34)) rfl (q07 rfl h32 rfl) (RS.mv rfl rfl rfl rfl (RS.op (u:=.agg [.isl false (List.map cGNode r7.1.Nodes)]) (want1 rfl rfl rfl h36) (q0m und25 rfl (q02 inf25) rfl rfl rfl) rfl rfl (RS.call (u:=.bool r37) (args:=[.agg [.isl false (List.map cGNode r7.1.Nodes)]]) (want1 rfl rfl rfl h36) (q01 rfl rfl fn22 hb22 rfl rfl) (q0b n (GFS.mk r7.1.Nodes) r37 h38 _) rfl rfl (RS.op (u:=.bool (!r37)) (want1 rfl rfl rfl h36) (q4k rfl rfl rfl rfl) rfl rfl (RS.op (want1 rfl rfl rfl h36) (q0i rfl) rfl rfl (RS.op (u:=.agg [.isl false (List.map cGNode r30.Nodes)]) (want1 rfl rfl rfl h39) (q0m und25 rfl (q02 inf25) rfl rfl rfl) rfl rfl (RS.call (u:=.bool r40) (args:=[.agg [.isl false (List.map cGNode r30.Nodes)]]) (want1 rfl rfl rfl h39) (q01 rfl rfl fn22 hb22 rfl rfl) (q0b n r30 r40 h41 _) rfl rfl ?_)))))))
 refine RS.op (want1 rfl rfl rfl h39) (q0i rfl) rfl rfl ?_
 repeat refine RS.no (want0 rfl rfl rfl h42) rfl rfl ?_
 repeat refine RS.no (wantT rfl rfl rfl) rfl rfl ?_
 refine RS.no (want0 rfl rfl rfl h42) rfl rfl (RS.op (u:=.bool true) (want1 rfl rfl rfl h39) (q08 rfl h42 rfl) rfl rfl (RS.op (u:=.bool true) (want1 rfl rfl rfl h36) (q08 rfl h39 rfl) rfl rfl (RS.q (u:=.bool true) rfl (q07 rfl h36 rfl) ?_)))
 refine sd ?_
 exact ⟨_,_,⟨rfl,rfl⟩,(Nat.zero_le _),Gh.toC (n1:=4) ⟨rfl,rfl,rfl,rfl,trivial⟩ rfl (Nat.zero_le _) (by simp)⟩
 replace h52:=q0j h42 h52
 rcases q25 (decide (z26 > 0)) with h43 | h43
 replace h52:=q0k h43 h52
 replace h52:=Option.some.inj h52
 subst h52
 refine sr ?_
 refine RS.q (u:=.ptr 3 0 0) rfl (q0v und25 rfl (q02 inf23) rfl rfl rfl) (RS.q (u:=.isl false (List.map cGNode r30.Nodes)) rfl (q04 und23 rfl rfl rfl rfl) (RS.q rfl (q0n rfl rfl rfl (q0h cGNode und23)) (RS.q (u:=.ptr 1 0 0) rfl (q0v und25 rfl (q02 inf23) rfl rfl rfl) (RS.q (u:=.isl false (List.map cGNode r7.1.Nodes)) rfl (q04 und23 rfl rfl rfl rfl) (RS.q rfl (q0n rfl rfl rfl (q0h cGNode und23)) (RS.q rfl (q03 rfl rfl (q3q _ _ _) rfl) (RS.mv rfl rfl rfl rfl ?_)))))))
 refine RS.op (want1 rfl rfl rfl h32) (q0i rfl) rfl rfl (RS.op (want1 rfl rfl rfl h32) (q03 rfl rfl (q4a _ _ _) rfl) rfl rfl (RS.op (want1 rfl rfl rfl h32) (q0i rfl) rfl rfl (RS.op (u:=.agg [.isl false (List.map cGNode r30.Nodes)]) (want1 rfl rfl rfl h33) (q0m und25 rfl (q02 inf25) rfl rfl rfl) rfl rfl (RS.op (u:=.agg [.isl false (List.map cGNode r7.1.Nodes)]) (want1 rfl rfl rfl h33) (q0m und25 rfl (q02 inf25) rfl rfl rfl) rfl rfl (RS.call (u:=.bool r34) (args:=[.agg [.isl false (List.map cGNode r30.Nodes)],.agg [.isl false (List.map cGNode r7.1.Nodes)]]) (want1 rfl rfl rfl h33) (q01 rfl rfl fn14 hb14 rfl rfl) (q0x n r30 (GFS.mk r7.1.Nodes) r34 h35 _) rfl rfl (RS.op (u:=.bool (!r34)) (want1 rfl rfl rfl h33) (q4k rfl rfl rfl rfl) rfl rfl (RS.op (u:=.bool (!r34)) (want1 rfl rfl rfl h32) (q08 rfl h33 rfl) rfl rfl ?_)))))))
 refine RS.q (u:=.bool (!r34)) rfl (q07 rfl h32 rfl) (RS.mv rfl rfl rfl rfl (RS.op (u:=.agg [.isl false (List.map cGNode r7.1.Nodes)]) (want1 rfl rfl rfl h36) (q0m und25 rfl (q02 inf25) rfl rfl rfl) rfl rfl (RS.call (u:=.bool r37) (args:=[.agg [.isl false (List.map cGNode r7.1.Nodes)]]) (want1 rfl rfl rfl h36) (q01 rfl rfl fn22 hb22 rfl rfl) (q0b n (GFS.mk r7.1.Nodes) r37 h38 _) rfl rfl (RS.op (u:=.bool (!r37)) (want1 rfl rfl rfl h36) (q4k rfl rfl rfl rfl) rfl rfl (RS.op (want1 rfl rfl rfl h36) (q0i rfl) rfl rfl (RS.op (u:=.agg [.isl false (List.map cGNode r30.Nodes)]) (want1 rfl rfl rfl h39) (q0m und25 rfl (q02 inf25) rfl rfl rfl) rfl rfl (RS.call (u:=.bool r40) (args:=[.agg [.isl false (List.map cGNode r30.Nodes)]]) (want1 rfl rfl rfl h39) (q01 rfl rfl fn22 hb22 rfl rfl) (q0b n r30 r40 h41 _) rfl rfl ?_)))))))
 refine RS.op (want1 rfl rfl rfl h39) (q0i rfl) rfl rfl (RS.op (want1 rfl rfl rfl h42) (q0i rfl) rfl rfl (RS.op (want1 rfl rfl rfl h42) (q03 rfl rfl (q3q _ _ _) rfl) rfl rfl (RS.op (want1 rfl rfl rfl h42) (q0i rfl) rfl rfl (RS.op (u:=.ptr 3 0 0) (want1 rfl rfl rfl h43) (q0v und25 rfl (q02 inf23) rfl rfl rfl) rfl rfl (RS.op (u:=.isl false (List.map cGNode r30.Nodes)) (want1 rfl rfl rfl h43) (q04 und23 rfl rfl rfl rfl) rfl rfl (RS.op (want1 rfl rfl rfl h43) (q0n rfl rfl rfl (q0h cGNode und23)) rfl rfl (RS.op (u:=.ptr 1 0 0) (want1 rfl rfl rfl h43) (q0v und25 rfl (q02 inf23) rfl rfl rfl) rfl rfl ?_)))))))
 refine RS.op (u:=.isl false (List.map cGNode r7.1.Nodes)) (want1 rfl rfl rfl h43) (q04 und23 rfl rfl rfl rfl) rfl rfl (RS.op (want1 rfl rfl rfl h43) (q0n rfl rfl rfl (q0h cGNode und23)) rfl rfl (RS.op (want1 rfl rfl rfl h43) (q03 rfl rfl (q91 _ _ _) rfl) rfl rfl (RS.op (u:=.bool (decide ((r30.Nodes.length:Int) ≥ (r7.1.Nodes.length:Int)))) (want1 rfl rfl rfl h42) (q08 rfl h43 rfl) rfl rfl (RS.op (u:=.bool (decide ((r30.Nodes.length:Int) ≥ (r7.1.Nodes.length:Int)))) (want1 rfl rfl rfl h39) (q07 rfl h42 rfl) rfl rfl (RS.op (u:=.bool (decide ((r30.Nodes.length:Int) ≥ (r7.1.Nodes.length:Int)))) (want1 rfl rfl rfl h36) (q08 rfl h39 rfl) rfl rfl (RS.q (u:=.bool (decide ((r30.Nodes.length:Int) ≥ (r7.1.Nodes.length:Int)))) rfl (q07 rfl h36 rfl) ?_))))))
 refine sd ?_
 exact ⟨_,_,⟨rfl,rfl⟩,(Nat.zero_le _),Gh.toC (n1:=4) ⟨rfl,rfl,rfl,rfl,trivial⟩ rfl (Nat.zero_le _) (by simp)⟩
 replace h52:=q0j h43 h52
 replace h52:=Option.some.inj h52
 subst h52
 refine sr ?_
 refine RS.q (u:=.ptr 3 0 0) rfl (q0v und25 rfl (q02 inf23) rfl rfl rfl) (RS.q (u:=.isl false (List.map cGNode r30.Nodes)) rfl (q04 und23 rfl rfl rfl rfl) (RS.q rfl (q0n rfl rfl rfl (q0h cGNode und23)) (RS.q (u:=.ptr 1 0 0) rfl (q0v und25 rfl (q02 inf23) rfl rfl rfl) (RS.q (u:=.isl false (List.map cGNode r7.1.Nodes)) rfl (q04 und23 rfl rfl rfl rfl) (RS.q rfl (q0n rfl rfl rfl (q0h cGNode und23)) (RS.q rfl (q03 rfl rfl (q3q _ _ _) rfl) (RS.mv rfl rfl rfl rfl ?_)))))))
 refine RS.op (want1 rfl rfl rfl h32) (q0i rfl) rfl rfl (RS.op (want1 rfl rfl rfl h32) (q03 rfl rfl (q4a _ _ _) rfl) rfl rfl (RS.op (want1 rfl rfl rfl h32) (q0i rfl) rfl rfl (RS.op (u:=.agg [.isl false (List.map cGNode r30.Nodes)]) (want1 rfl rfl rfl h33) (q0m und25 rfl (q02 inf25) rfl rfl rfl) rfl rfl (RS.op (u:=.agg [.isl false (List.map cGNode r7.1.Nodes)]) (want1 rfl rfl rfl h33) (q0m und25 rfl (q02 inf25) rfl rfl rfl) rfl rfl (RS.call (u:=.bool r34) (args:=[.agg [.isl false (List.map cGNode r30.Nodes)],.agg [.isl false (List.map cGNode r7.1.Nodes)]]) (want1 rfl rfl rfl h33) (q01 rfl rfl fn14 hb14 rfl rfl) (q0x n r30 (GFS.mk r7.1.Nodes) r34 h35 _) rfl rfl (RS.op (u:=.bool (!r34)) (want1 rfl rfl rfl h33) (q4k rfl rfl rfl rfl) rfl rfl (RS.op (u:=.bool (!r34)) (want1 rfl rfl rfl h32) (q08 rfl h33 rfl) rfl rfl ?_)))))))
 refine RS.q (u:=.bool (!r34)) rfl (q07 rfl h32 rfl) (RS.mv rfl rfl rfl rfl (RS.op (u:=.agg [.isl false (List.map cGNode r7.1.Nodes)]) (want1 rfl rfl rfl h36) (q0m und25 rfl (q02 inf25) rfl rfl rfl) rfl rfl (RS.call (u:=.bool r37) (args:=[.agg [.isl false (List.map cGNode r7.1.Nodes)]]) (want1 rfl rfl rfl h36) (q01 rfl rfl fn22 hb22 rfl rfl) (q0b n (GFS.mk r7.1.Nodes) r37 h38 _) rfl rfl (RS.op (u:=.bool (!r37)) (want1 rfl rfl rfl h36) (q4k rfl rfl rfl rfl) rfl rfl (RS.op (want1 rfl rfl rfl h36) (q0i rfl) rfl rfl (RS.op (u:=.agg [.isl false (List.map cGNode r30.Nodes)]) (want1 rfl rfl rfl h39) (q0m und25 rfl (q02 inf25) rfl rfl rfl) rfl rfl (RS.call (u:=.bool r40) (args:=[.agg [.isl false (List.map cGNode r30.Nodes)]]) (want1 rfl rfl rfl h39) (q01 rfl rfl fn22 hb22 rfl rfl) (q0b n r30 r40 h41 _) rfl rfl ?_)))))))
 refine RS.op (want1 rfl rfl rfl h39) (q0i rfl) rfl rfl (RS.op (want1 rfl rfl rfl h42) (q0i rfl) rfl rfl (RS.op (want1 rfl rfl rfl h42) (q03 rfl rfl (q3q _ _ _) rfl) rfl rfl (RS.op (want1 rfl rfl rfl h42) (q0i rfl) rfl rfl ?_)))
 repeat refine RS.no (want0 rfl rfl rfl h43) rfl rfl ?_
 refine RS.op (u:=.bool false) (want1 rfl rfl rfl h42) (q07 rfl h43 rfl) rfl rfl (RS.op (u:=.bool false) (want1 rfl rfl rfl h39) (q07 rfl h42 rfl) rfl rfl (RS.op (u:=.bool false) (want1 rfl rfl rfl h36) (q08 rfl h39 rfl) rfl rfl (RS.q (u:=.bool false) rfl (q07 rfl h36 rfl) ?_)))
 refine sd ?_
 exact ⟨_,_,⟨rfl,rfl⟩,(Nat.zero_le _),Gh.toC (n1:=4) ⟨rfl,rfl,rfl,rfl,trivial⟩ rfl (Nat.zero_le _) (by simp)⟩
 replace h52:=q0j h39 h52
 replace h52:=Option.some.inj h52
 subst h52
 refine sr ?_
 refine RS.q (u:=.ptr 3 0 0) rfl (q0v und25 rfl (q02 inf23) rfl rfl rfl) (RS.q (u:=.isl false (List.map cGNode r30.Nodes)) rfl (q04 und23 rfl rfl rfl rfl) (RS.q rfl (q0n rfl rfl rfl (q0h cGNode und23)) (RS.q (u:=.ptr 1 0 0) rfl (q0v und25 rfl (q02 inf23) rfl rfl rfl) (RS.q (u:=.isl false (List.map cGNode r7.1.Nodes)) rfl (q04 und23 rfl rfl rfl rfl) (RS.q rfl (q0n rfl rfl rfl (q0h cGNode und23)) (RS.q rfl (q03 rfl rfl (q3q _ _ _) rfl) (RS.mv rfl rfl rfl rfl ?_)))))))
 refine RS.op (want1 rfl rfl rfl h32) (q0i rfl) rfl rfl (RS.op (want1 rfl rfl rfl h32) (q03 rfl rfl (q4a _ _ _) rfl) rfl rfl (RS.op (want1 rfl rfl rfl h32) (q0i rfl) rfl rfl (RS.op (u:=.agg [.isl false (List.map cGNode r30.Nodes)]) (want1 rfl rfl rfl h33) (q0m und25 rfl (q02 inf25) rfl rfl rfl) rfl rfl (RS.op (u:=.agg [.isl false (List.map cGNode r7.1.Nodes)]) (want1 rfl rfl rfl h33) (q0m und25 rfl (q02 inf25) rfl rfl rfl) rfl rfl (RS.call (u:=.bool r34) (args:=[.agg [.isl false (List.map cGNode r30.Nodes)],.agg [.isl false (List.map cGNode r7.1.Nodes)]]) (want1 rfl rfl rfl h33) (q01 rfl rfl fn14 hb14 rfl rfl) (q0x n r30 (GFS.mk r7.1.Nodes) r34 h35 _) rfl rfl (RS.op (u:=.bool (!r34)) (want1 rfl rfl rfl h33) (q4k rfl rfl rfl rfl) rfl rfl (RS.op (u:=.bool (!r34)) (want1 rfl rfl rfl h32) (q08 rfl h33 rfl) rfl rfl ?_)))))))
 refine RS.q (u:=.bool (!r34)) rfl (q07 rfl h32 rfl) (RS.mv rfl rfl rfl rfl (RS.op (u:=.agg [.isl false (List.map cGNode r7.1.Nodes)]) (want1 rfl rfl rfl h36) (q0m und25 rfl (q02 inf25) rfl rfl rfl) rfl rfl (RS.call (u:=.bool r37) (args:=[.agg [.isl false (List.map cGNode r7.1.Nodes)]]) (want1 rfl rfl rfl h36) (q01 rfl rfl fn22 hb22 rfl rfl) (q0b n (GFS.mk r7.1.Nodes) r37 h38 _) rfl rfl (RS.op (u:=.bool (!r37)) (want1 rfl rfl rfl h36) (q4k rfl rfl rfl rfl) rfl rfl (RS.op (want1 rfl rfl rfl h36) (q0i rfl) rfl rfl ?_)))))
 repeat refine RS.no (want0 rfl rfl rfl h39) rfl rfl ?_
 repeat refine RS.no (wantT rfl rfl rfl) rfl rfl ?_
 refine RS.no (want0 rfl rfl rfl h39) rfl rfl (RS.op (u:=.bool false) (want1 rfl rfl rfl h36) (q07 rfl h39 rfl) rfl rfl (RS.q (u:=.bool false) rfl (q07 rfl h36 rfl) ?_))
 refine sd ?_
 exact ⟨_,_,⟨rfl,rfl⟩,(Nat.zero_le _),Gh.toC (n1:=4) ⟨rfl,rfl,rfl,rfl,trivial⟩ rfl (Nat.zero_le _) (by simp)⟩
 replace h52:=q0j h33 h52
 obtain ⟨r44,h45,h52⟩:=q00 h52
 rcases q25 (!r44) with h46 | h46
 replace h52:=q0k h46 h52
 obtain ⟨r47,h48,h52⟩:=q00 h52
 rcases q25 r47 with h49 | h49
 replace h52:=q0k h49 h52
 replace h52:=Option.some.inj h52
 subst h52
 refine sr ?_
 refine RS.q (u:=.ptr 3 0 0) rfl (q0v und25 rfl (q02 inf23) rfl rfl rfl) (RS.q (u:=.isl false (List.map cGNode r30.Nodes)) rfl (q04 und23 rfl rfl rfl rfl) (RS.q rfl (q0n rfl rfl rfl (q0h cGNode und23)) (RS.q (u:=.ptr 1 0 0) rfl (q0v und25 rfl (q02 inf23) rfl rfl rfl) (RS.q (u:=.isl false (List.map cGNode r7.1.Nodes)) rfl (q04 und23 rfl rfl rfl rfl) (RS.q rfl (q0n rfl rfl rfl (q0h cGNode und23)) (RS.q rfl (q03 rfl rfl (q3q _ _ _) rfl) (RS.mv rfl rfl rfl rfl ?_)))))))
 refine RS.op (want1 rfl rfl rfl h32) (q0i rfl) rfl rfl (RS.op (want1 rfl rfl rfl h32) (q03 rfl rfl (q4a _ _ _) rfl) rfl rfl (RS.op (want1 rfl rfl rfl h32) (q0i rfl) rfl rfl ?_))
 repeat refine RS.no (want0 rfl rfl rfl h33) rfl rfl ?_
 refine RS.op (u:=.bool false) (want1 rfl rfl rfl h32) (q07 rfl h33 rfl) rfl rfl (RS.q (u:=.bool false) rfl (q07 rfl h32 rfl) (RS.mv rfl rfl rfl rfl (RS.op (u:=.agg [.isl false (List.map cGNode r7.1.Nodes)]) (want1 rfl rfl rfl rfl) (q0m und25 rfl (q02 inf25) rfl rfl rfl) rfl rfl (RS.call (u:=.bool r44) (args:=[.agg [.isl false (List.map cGNode r7.1.Nodes)]]) (want1 rfl rfl rfl rfl) (q01 rfl rfl fn22 hb22 rfl rfl) (q0b n (GFS.mk r7.1.Nodes) r44 h45 _) rfl rfl (RS.op (u:=.bool (!r44)) (want1 rfl rfl rfl rfl) (q4k rfl rfl rfl rfl) rfl rfl (RS.op (want1 rfl rfl rfl rfl) (q0i rfl) rfl rfl (RS.op (u:=.agg [.isl false (List.map cGNode r30.Nodes)]) (want1 rfl rfl rfl h46) (q0m und25 rfl (q02 inf25) rfl rfl rfl) rfl rfl ?_)))))))
 refine RS.call (u:=.bool r47) (args:=[.agg [.isl false (List.map cGNode r30.Nodes)]]) (want1 rfl rfl rfl h46) (q01 rfl rfl fn22 hb22 rfl rfl) (q0b n r30 r47 h48 _) rfl rfl (RS.op (want1 rfl rfl rfl h46) (q0i rfl) rfl rfl ?_)
 repeat refine RS.no (want0 rfl rfl rfl h49) rfl rfl ?_
 repeat refine RS.no (wantT rfl rfl rfl) rfl rfl ?_
 refine RS.no (want0 rfl rfl rfl h49) rfl rfl (RS.op (u:=.bool true) (want1 rfl rfl rfl h46) (q08 rfl h49 rfl) rfl rfl (RS.op (u:=.bool true) (want1 rfl rfl rfl rfl) (q08 rfl h46 rfl) rfl rfl (RS.q (u:=.bool true) rfl (q07 rfl rfl rfl) ?_)))
 refine sd ?_
 exact ⟨_,_,⟨rfl,rfl⟩,(Nat.zero_le _),Gh.toC (n1:=4) ⟨rfl,rfl,rfl,rfl,trivial⟩ rfl (Nat.zero_le _) (by simp)⟩
 replace h52:=q0j h49 h52
 rcases q25 (decide (z26 > 0)) with h50 | h50
 replace h52:=q0k h50 h52
 replace h52:=Option.some.inj h52
 subst h52
 refine sr ?_
 refine RS.q (u:=.ptr 3 0 0) rfl (q0v und25 rfl (q02 inf23) rfl rfl rfl) (RS.q (u:=.isl false (List.map cGNode r30.Nodes)) rfl (q04 und23 rfl rfl rfl rfl) (RS.q rfl (q0n rfl rfl rfl (q0h cGNode und23)) (RS.q (u:=.ptr 1 0 0) rfl (q0v und25 rfl (q02 inf23) rfl rfl rfl) (RS.q (u:=.isl false (List.map cGNode r7.1.Nodes)) rfl (q04 und23 rfl rfl rfl rfl) (RS.q rfl (q0n rfl rfl rfl (q0h cGNode und23)) (RS.q rfl (q03 rfl rfl (q3q _ _ _) rfl) (RS.mv rfl rfl rfl rfl ?_)))))))
 refine RS.op (want1 rfl rfl rfl h32) (q0i rfl) rfl rfl (RS.op (want1 rfl rfl rfl h32) (q03 rfl rfl (q4a _ _ _) rfl) rfl rfl (RS.op (want1 rfl rfl rfl h32) (q0i rfl) rfl rfl ?_))
 repeat refine RS.no (want0 rfl rfl rfl h33) rfl rfl ?_
 refine RS.op (u:=.bool false) (want1 rfl rfl rfl h32) (q07 rfl h33 rfl) rfl rfl (RS.q (u:=.bool false) rfl (q07 rfl h32 rfl) (RS.mv rfl rfl rfl rfl (RS.op (u:=.agg [.isl false (List.map cGNode r7.1.Nodes)]) (want1 rfl rfl rfl rfl) (q0m und25 rfl (q02 inf25) rfl rfl rfl) rfl rfl (RS.call (u:=.bool r44) (args:=[.agg [.isl false (List.map cGNode r7.1.Nodes)]]) (want1 rfl rfl rfl rfl) (q01 rfl rfl fn22 hb22 rfl rfl) (q0b n (GFS.mk r7.1.Nodes) r44 h45 _) rfl rfl (RS.op (u:=.bool (!r44)) (want1 rfl rfl rfl rfl) (q4k rfl rfl rfl rfl) rfl rfl (RS.op (want1 rfl rfl rfl rfl) (q0i rfl) rfl rfl (RS.op (u:=.agg [.isl false (List.map cGNode r30.Nodes)]) (want1 rfl rfl rfl h46) (q0m und25 rfl (q02 inf25) rfl rfl rfl) rfl rfl ?_)))))))
 refine RS.call (u:=.bool r47) (args:=[.agg [.isl false (List.map cGNode r30.Nodes)]]) (want1 rfl rfl rfl h46) (q01 rfl rfl fn22 hb22 rfl rfl) (q0b n r30 r47 h48 _) rfl rfl (RS.op (want1 rfl rfl rfl h46) (q0i rfl) rfl rfl (RS.op (want1 rfl rfl rfl h49) (q0i rfl) rfl rfl (RS.op (want1 rfl rfl rfl h49) (q03 rfl rfl (q3q _ _ _) rfl) rfl rfl (RS.op (want1 rfl rfl rfl h49) (q0i rfl) rfl rfl (RS.op (u:=.ptr 3 0 0) (want1 rfl rfl rfl h50) (q0v und25 rfl (q02 inf23) rfl rfl rfl) rfl rfl (RS.op (u:=.isl false (List.map cGNode r30.Nodes)) (want1 rfl rfl rfl h50) (q04 und23 rfl rfl rfl rfl) rfl rfl (RS.op (want1 rfl rfl rfl h50) (q0n rfl rfl rfl (q0h cGNode und23)) rfl rfl ?_)))))))
 refine RS.op (u:=.ptr 1 0 0) (want1 rfl rfl rfl h50) (q0v und25 rfl (q02 inf23) rfl rfl rfl) rfl rfl (RS.op (u:=.isl false (List.map cGNode r7.1.Nodes)) (want1 rfl rfl rfl h50) (q04 und23 rfl rfl rfl rfl) rfl rfl (RS.op (want1 rfl rfl rfl h50) (q0n rfl rfl rfl (q0h cGNode und23)) rfl rfl (RS.op (want1 rfl rfl rfl h50) (q03 rfl rfl (q91 _ _ _) rfl) rfl rfl (RS.op (u:=.bool (decide ((r30.Nodes.length:Int) ≥ (r7.1.Nodes.length:Int)))) (want1 rfl rfl rfl h49) (q08 rfl h50 rfl) rfl rfl (RS.op (u:=.bool (decide ((r30.Nodes.length:Int) ≥ (r7.1.Nodes.length:Int)))) (want1 rfl rfl rfl h46) (q07 rfl h49 rfl) rfl rfl (RS.op (u:=.bool (decide ((r30.Nodes.length:Int) ≥ (r7.1.Nodes.length:Int)))) (want1 rfl rfl rfl rfl) (q08 rfl h46 rfl) rfl rfl (RS.q (u:=.bool (decide ((r30.Nodes.length:Int) ≥ (r7.1.Nodes.length:Int)))) rfl (q07 rfl rfl rfl) ?_)))))))
 refine sd ?_
 exact ⟨_,_,⟨rfl,rfl⟩,(Nat.zero_le _),Gh.toC (n1:=4) ⟨rfl,rfl,rfl,rfl,trivial⟩ rfl (Nat.zero_le _) (by simp)⟩
 replace h52:=q0j h50 h52
 replace h52:=Option.some.inj h52
 subst h52
 refine sr ?_
 refine RS.q (u:=.ptr 3 0 0) rfl (q0v und25 rfl (q02 inf23) rfl rfl rfl) (RS.q (u:=.isl false (List.map cGNode r30.Nodes)) rfl (q04 und23 rfl rfl rfl rfl) (RS.q rfl (q0n rfl rfl rfl (q0h cGNode und23)) (RS.q (u:=.ptr 1 0 0) rfl (q0v und25 rfl (q02 inf23) rfl rfl rfl) (RS.q (u:=.isl false (List.map cGNode r7.1.Nodes)) rfl (q04 und23 rfl rfl rfl rfl) (RS.q rfl (q0n rfl rfl rfl (q0h cGNode und23)) (RS.q rfl (q03 rfl rfl (q3q _ _ _) rfl) (RS.mv rfl rfl rfl rfl ?_)))))))
 refine RS.op (want1 rfl rfl rfl h32) (q0i rfl) rfl rfl (RS.op (want1 rfl rfl rfl h32) (q03 rfl rfl (q4a _ _ _) rfl) rfl rfl (RS.op (want1 rfl rfl rfl h32) (q0i rfl) rfl rfl ?_))
 repeat refine RS.no (want0 rfl rfl rfl h33) rfl rfl ?_
 refine RS.op (u:=.bool false) (want1 rfl rfl rfl h32) (q07 rfl h33 rfl) rfl rfl (RS.q (u:=.bool false) rfl (q07 rfl h32 rfl) (RS.mv rfl rfl rfl rfl (RS.op (u:=.agg [.isl false (List.map cGNode r7.1.Nodes)]) (want1 rfl rfl rfl rfl) (q0m und25 rfl (q02 inf25) rfl rfl rfl) rfl rfl (RS.call (u:=.bool r44) (args:=[.agg [.isl false (List.map cGNode r7.1.Nodes)]]) (want1 rfl rfl rfl rfl) (q01 rfl rfl fn22 hb22 rfl rfl) (q0b n (GFS.mk r7.1.Nodes) r44 h45 _) rfl rfl (RS.op (u:=.bool (!r44)) (want1 rfl rfl rfl rfl) (q4k rfl rfl rfl rfl) rfl rfl (RS.op (want1 rfl rfl rfl rfl) (q0i rfl) rfl rfl (RS.op (u:=.agg [.isl false (List.map cGNode r30.Nodes)]) (want1 rfl rfl rfl h46) (q0m und25 rfl (q02 inf25) rfl rfl rfl) rfl rfl ?_)))))))
 refine RS.call (u:=.bool r47) (args:=[.agg [.isl false (List.map cGNode r30.Nodes)]]) (want1 rfl rfl rfl h46) (q01 rfl rfl fn22 hb22 rfl rfl) (q0b n r30 r47 h48 _) rfl rfl (RS.op (want1 rfl rfl rfl h46) (q0i rfl) rfl rfl (RS.op (want1 rfl rfl rfl h49) (q0i rfl) rfl rfl (RS.op (want1 rfl rfl rfl h49) (q03 rfl rfl (q3q _ _ _) rfl) rfl rfl (RS.op (want1 rfl rfl rfl h49) (q0i rfl) rfl rfl ?_))))
 repeat refine RS.no (want0 rfl rfl rfl h50) rfl rfl ?_
 refine RS.op (u:=.bool false) (want1 rfl rfl rfl h49) (q07 rfl h50 rfl) rfl rfl (RS.op (u:=.bool false) (want1 rfl rfl rfl h46) (q07 rfl h49 rfl) rfl rfl (RS.op (u:=.bool false) (want1 rfl rfl rfl rfl) (q08 rfl h46 rfl) rfl rfl (RS.q (u:=.bool false) rfl (q07 rfl rfl rfl) ?_)))
 refine sd ?_
 exact ⟨_,_,⟨rfl,rfl⟩,(Nat.zero_le _),Gh.toC (n1:=4) ⟨rfl,rfl,rfl,rfl,trivial⟩ rfl (Nat.zero_le _) (by simp)⟩
 replace h52:=q0j h46 h52
 replace h52:=Option.some.inj h52
 subst h52
 refine sr ?_
 refine RS.q (u:=.ptr 3 0 0) rfl (q0v und25 rfl (q02 inf23) rfl rfl rfl) (RS.q (u:=.isl false (List.map cGNode r30.Nodes)) rfl (q04 und23 rfl rfl rfl rfl) (RS.q rfl (q0n rfl rfl rfl (q0h cGNode und23)) (RS.q (u:=.ptr 1 0 0) rfl (q0v und25 rfl (q02 inf23) rfl rfl rfl) (RS.q (u:=.isl false (List.map cGNode r7.1.Nodes)) rfl (q04 und23 rfl rfl rfl rfl) (RS.q rfl (q0n rfl rfl rfl (q0h cGNode und23)) (RS.q rfl (q03 rfl rfl (q3q _ _ _) rfl) (RS.mv rfl rfl rfl rfl ?_)))))))
 refine RS.op (want1 rfl rfl rfl h32) (q0i rfl) rfl rfl (RS.op (want1 rfl rfl rfl h32) (q03 rfl rfl (q4a _ _ _) rfl) rfl rfl (RS.op (want1 rfl rfl rfl h32) (q0i rfl) rfl rfl ?_))
 repeat refine RS.no (want0 rfl rfl rfl h33) rfl rfl ?_
 refine RS.op (u:=.bool false) (want1 rfl rfl rfl h32) (q07 rfl h33 rfl) rfl rfl (RS.q (u:=.bool false) rfl (q07 rfl h32 rfl) (RS.mv rfl rfl rfl rfl (RS.op (u:=.agg [.isl false (List.map cGNode r7.1.Nodes)]) (want1 rfl rfl rfl rfl) (q0m und25 rfl (q02 inf25) rfl rfl rfl) rfl rfl (RS.call (u:=.bool r44) (args:=[.agg [.isl false (List.map cGNode r7.1.Nodes)]]) (want1 rfl rfl rfl rfl) (q01 rfl rfl fn22 hb22 rfl rfl) (q0b n (GFS.mk r7.1.Nodes) r44 h45 _) rfl rfl (RS.op (u:=.bool (!r44)) (want1 rfl rfl rfl rfl) (q4k rfl rfl rfl rfl) rfl rfl (RS.op (want1 rfl rfl rfl rfl) (q0i rfl) rfl rfl ?_))))))
 repeat refine RS.no (want0 rfl rfl rfl h46) rfl rfl ?_
 repeat refine RS.no (wantT rfl rfl rfl) rfl rfl ?_
 refine RS.no (want0 rfl rfl rfl h46) rfl rfl (RS.op (u:=.bool false) (want1 rfl rfl rfl rfl) (q07 rfl h46 rfl) rfl rfl (RS.q (u:=.bool false) rfl (q07 rfl rfl rfl) ?_))
 refine sd ?_
 exact ⟨_,_,⟨rfl,rfl⟩,(Nat.zero_le _),Gh.toC (n1:=4) ⟨rfl,rfl,rfl,rfl,trivial⟩ rfl (Nat.zero_le _) (by simp)⟩
 replace hF:=q0j h29 hF
 refine st ?_
 refine WPU.exit ?_
 refine st ?_
 exact ⟨_,_,⟨hF,rfl,rfl⟩,(Nat.zero_le _),Gh.toC (n1:=3) trivial rfl (Nat.zero_le _) (by simp)⟩
 rintro m1 _ _ ⟨z18,l19,hF,rfl,rfl⟩
 rcases m1 with _ | m1
 cases hF
 unfold q13 at hF
 refine sr ?_
 refine RS.q rfl (q03 rfl rfl (q2d _ _ _) rfl) ?_
 refine sd ?_
 refine WPU.condS (t:=(decide (z18<(r7.1.Nodes.length:Int)))) rfl (fun h54=>?_) (fun h54=>?_)
 replace hF:=q0k h54 hF
 refine st ?_
 refine WPU.skip ?_
 refine st ?_
 refine WPU.block ?_
 refine sr ?_
 refine sd ?_
 obtain ⟨b58,h59,hF⟩:=q00 hF
 refine WPU.joinK (fun tm σ=>tm=fr 141 [(3,.ptr 1 0 0),(5,.sl 2 0 ((r7.1.Nodes.length:Int).toNat) ((r7.1.Nodes.length:Int).toNat)),(6,.int .i64 z18),(29,.int .i64 (r7.1.Nodes.length:Int)),(30,.int .i64 z18),(41,.bool b58)]∧σ=⟨[(2,.row (List.map cB l19).flatten 4),(1,.row [.isl false (List.map cGNode r7.1.Nodes)] 25),(0,.row [.isl false (List.map cGNode p1.Nodes)] 25)],3⟩) ?_ ?_
 rintro _ _ ⟨rfl,rfl⟩
 refine st ?_
 refine WPU.condS (t:=b58) rfl (fun h60=>?_) (fun h60=>?_)
 replace hF:=q0k h60 hF
 refine sr ?_
 refine sd ?_
 refine WPU.ret ?_
 refine st ?_
 have hr:=Option.some.inj hF
 subst hr
 exact ⟨.inr rfl,[.bool false],q2b rfl (q1v),.bool false,⟨[],0⟩,Nat.le_refl _,Gh.toR (.bool false) rfl,rfl,BU.h⟩
 replace hF:=q0j h60 hF
 refine st ?_
 refine WPU.skip ?_
 refine st ?_
 obtain ⟨x61,h62,hF⟩:=q00 hF
 refine sr ?_
 refine RS.q (u:=.ptr 1 0 0) rfl (q0v und25 rfl (q02 inf23) rfl rfl rfl) (RS.q (u:=.isl false (List.map cGNode r7.1.Nodes)) rfl (q04 und23 rfl rfl rfl rfl) (RS.mv rfl rfl rfl rfl (RS.q (u:=.iptr (cGNode x61)) rfl (q2r rfl rfl (q3j cGNode und23 (q02 inf43) q2i h62 rfl)) (RS.q (u:=.iptr [.isl false (List.map cGArc x61.Arcs)]) rfl (q98 und43 rfl (q02 inf41) rfl rfl) (RS.q (u:=.isl false (List.map cGArc x61.Arcs)) rfl (q5b und41 rfl rfl rfl) (RS.q rfl (q0n rfl rfl rfl (q0h cGArc und41)) (RS.mv rfl rfl rfl rfl ?_)))))))
 refine sd ?_
 refine WPU.ghost (tm':=fr 141 [(3,.ptr 1 0 0),(5,.sl 2 0 ((r7.1.Nodes.length:Int).toNat) ((r7.1.Nodes.length:Int).toNat)),(6,.int .i64 z18),(29,.int .i64 (r7.1.Nodes.length:Int)),(30,.int .i64 z18),(47,.isl false (List.map cGArc x61.Arcs)),(48,.int .i64 (x61.Arcs.length:Int)),(49,.int .i64 0)]) (Gh.sub ⟨rfl,rfl,rfl,rfl,rfl,rfl,rfl,rfl,trivial⟩) (Nat.zero_le _) ?_
 refine WPU.loopK (fun m tm σ=>∃ z72:Int,∃ l73:List Bool,q1z r7 z18 (q13 n r7 m1) x61 m z72 l73=some r∧tm=fr 141 [(3,.ptr 1 0 0),(5,.sl 2 0 ((r7.1.Nodes.length:Int).toNat) ((r7.1.Nodes.length:Int).toNat)),(6,.int .i64 z18),(29,.int .i64 (r7.1.Nodes.length:Int)),(30,.int .i64 z18),(47,.isl false (List.map cGArc x61.Arcs)),(48,.int .i64 (x61.Arcs.length:Int)),(49,.int .i64 z72)]∧σ=⟨[(2,.row (List.map cB l73).flatten 4),(1,.row [.isl false (List.map cGNode r7.1.Nodes)] 25),(0,.row [.isl false (List.map cGNode p1.Nodes)] 25)],3⟩) (fun tm σ=>∃ l74:List Bool,q2x z18 (q13 n r7 m1) l74=some r∧tm=fr 141 [(3,.ptr 1 0 0),(5,.sl 2 0 ((r7.1.Nodes.length:Int).toNat) ((r7.1.Nodes.length:Int).toNat)),(29,.int .i64 (r7.1.Nodes.length:Int)),(30,.int .i64 z18)]∧σ=⟨[(2,.row (List.map cB l74).flatten 4),(1,.row [.isl false (List.map cGNode r7.1.Nodes)] 25),(0,.row [.isl false (List.map cGNode p1.Nodes)] 25)],3⟩) n ⟨0,l19,hF,rfl,rfl⟩ ?_ ?_
 rintro _ _ ⟨l74,hF,rfl,rfl⟩
 unfold q2x at hF
 refine sr ?_
 refine RS.q rfl (q03 rfl rfl (q42 _ _ _) rfl) (RS.mv rfl rfl rfl rfl ?_)
 refine sd ?_
 exact ⟨m1,_,_,Nat.lt_succ_self _,⟨(IntKind.i64.wrap (z18+1)),l74,hF,rfl,rfl⟩,(Nat.zero_le _),Gh.toC (n1:=3) ⟨rfl,rfl,rfl,rfl,trivial⟩ rfl (Nat.zero_le _) (by simp)⟩
 rintro m3 _ _ ⟨z72,l73,hF,rfl,rfl⟩
 rcases m3 with _ | m3
 cases hF
 unfold q1z at hF
 refine sr ?_
 refine RS.q rfl (q03 rfl rfl (q2d _ _ _) rfl) ?_
 refine sd ?_
 refine WPU.condS (t:=(decide (z72<(x61.Arcs.length:Int)))) rfl (fun h75=>?_) (fun h75=>?_)
 replace hF:=q0k h75 hF
 refine st ?_
 refine WPU.skip ?_
 refine st ?_
 refine WPU.block ?_
 refine st ?_
 obtain ⟨x76,h77,hF⟩:=q00 hF
 refine sr ?_
 refine RS.q (u:=.iptr (cGArc x76)) rfl (q2r rfl rfl (q3j cGArc und41 (q02 inf45) q1r h77 rfl)) (RS.q (u:=.agg (cGArc x76)) rfl (q80 und45 rfl (q02 inf45) rfl rfl) (RS.q (u:=.ptr 3 0 0) (σ':=⟨[(3,.row [.int .i64 0,.int .i64 0] 45),(2,.row (List.map cB l73).flatten 4),(1,.row [.isl false (List.map cGNode r7.1.Nodes)] 25),(0,.row [.isl false (List.map cGNode p1.Nodes)] 25)],4⟩) rfl (q1d inf45 rfl rfl) (RS.as rfl rfl rfl rfl (RS.opn (u:=.junk) (σ':=⟨[(3,.row (cGArc x76) 45),(2,.row (List.map cB l73).flatten 4),(1,.row [.isl false (List.map cGNode r7.1.Nodes)] 25),(0,.row [.isl false (List.map cGNode p1.Nodes)] 25)],4⟩) rfl (q14 (q02 inf45) rfl rfl rfl rfl rfl rfl rfl rfl) rfl ?_))))
 refine sd ?_
 obtain ⟨b85,h86,hF⟩:=q00 hF
 refine WPU.joinK (fun tm σ=>tm=fr 141 [(3,.ptr 1 0 0),(5,.sl 2 0 ((r7.1.Nodes.length:Int).toNat) ((r7.1.Nodes.length:Int).toNat)),(6,.int .i64 z18),(8,.ptr 3 0 0),(29,.int .i64 (r7.1.Nodes.length:Int)),(30,.int .i64 z18),(47,.isl false (List.map cGArc x61.Arcs)),(48,.int .i64 (x61.Arcs.length:Int)),(49,.int .i64 z72),(84,.bool b85)]∧σ=⟨[(3,.row (cGArc x76) 45),(2,.row (List.map cB l73).flatten 4),(1,.row [.isl false (List.map cGNode r7.1.Nodes)] 25),(0,.row [.isl false (List.map cGNode p1.Nodes)] 25)],4⟩) ?_ ?_
 rintro _ _ ⟨rfl,rfl⟩
 refine st ?_
 refine WPU.condS (t:=b85) rfl (fun h87=>?_) (fun h87=>?_)
 replace hF:=q0k h87 hF
 refine sr ?_
 refine sd ?_
 refine WPU.ret ?_
 refine st ?_
 have hr:=Option.some.inj hF
 subst hr
 exact ⟨.inr rfl,[.bool false],q2b rfl (q1v),.bool false,⟨[],0⟩,Nat.le_refl _,Gh.toR (.bool false) rfl,rfl,BU.h⟩
 replace hF:=q0j h87 hF
 refine st ?_
 refine WPU.skip ?_
 refine st ?_
 obtain ⟨x88,h89,hF⟩:=q00 hF
 refine sr ?_
 refine RS.q (u:=.ptr 3 0 1) rfl (q0v und45 rfl (q02 inf3) rfl rfl rfl) (RS.q (u:=.int .i64 x76.To) rfl (q04 und3 rfl rfl rfl rfl) (RS.q (u:=.ptr 2 0 (0*1+x76.To.toNat*1)) rfl (q2r rfl rfl (q8m und40 (q02 inf4) rfl h89)) (RS.opn (u:=.junk) (σ':=⟨[(3,.row (cGArc x76) 45),(2,.row (List.map cB (l73.set x76.To.toNat true)).flatten 4),(1,.row [.isl false (List.map cGNode r7.1.Nodes)] 25),(0,.row [.isl false (List.map cGNode p1.Nodes)] 25)],4⟩) rfl (st_rl cB (q02 inf4) len_cB rfl rfl rfl rfl rfl rfl h89 rfl) rfl ?_)))
 refine se ?_
 refine RS.q rfl (q03 rfl rfl (q42 _ _ _) rfl) (RS.mv rfl rfl rfl rfl ?_)
 refine sd ?_
 exact ⟨m3,_,_,Nat.lt_succ_self _,⟨(IntKind.i64.wrap (z72+1)),(l73.set x76.To.toNat true),hF,rfl,rfl⟩,(Nat.zero_le _),Gh.toC (n1:=3) ⟨rfl,rfl,rfl,rfl,rfl,rfl,rfl,rfl,trivial⟩ rfl (Nat.zero_le _) (by simp)⟩
 rcases q25 (decide (x76.To<0)) with h78 | h78
 replace h86:=q0k h78 h86
 replace h86:=Option.some.inj h86
 subst h86
 refine WPU.drawE Try.tb_ok [] (by kernel_rfl) ?_
 refine RD.q (u:=.ptr 3 0 1) rfl (q0v und45 rfl (q02 inf3) rfl rfl rfl) (RD.q (u:=.int .i64 x76.To) rfl (q04 und3 rfl rfl rfl rfl) (RD.q rfl (q03 rfl rfl (q2d _ _ _) rfl) (RD.mv rfl rfl rfl rfl ?_)))
 repeat refine RD.no (want0 rfl rfl rfl h78) rfl rfl ?_
 refine RD.q (u:=.bool true) rfl (q08 rfl h78 rfl) (RD.mv rfl rfl rfl rfl ?_)
 repeat refine RD.no (want0 rfl rfl rfl rfl) rfl rfl ?_
 repeat refine RD.no (wantT rfl rfl rfl) rfl rfl ?_
 refine RD.no (want0 rfl rfl rfl rfl) rfl rfl (RD.q (u:=.bool true) rfl (q08 rfl rfl rfl) ?_)
 refine RD.done ⟨by kernel_rfl,trivial,?_⟩
 refine st ?_
 exact ⟨_,_,⟨rfl,rfl⟩,(Nat.zero_le _),Gh.toC (n1:=4) ⟨rfl,rfl,rfl,rfl,rfl,rfl,rfl,rfl,rfl,rfl,trivial⟩ rfl (Nat.zero_le _) (by simp)⟩
 replace h86:=q0j h78 h86
 rcases q25 (decide (x76.To ≥ (r7.1.Nodes.length:Int))) with h79 | h79
 replace h86:=q0k h79 h86
 replace h86:=Option.some.inj h86
 subst h86
 refine WPU.drawE Try.tb_ok [] (by kernel_rfl) ?_
 refine RD.q (u:=.ptr 3 0 1) rfl (q0v und45 rfl (q02 inf3) rfl rfl rfl) (RD.q (u:=.int .i64 x76.To) rfl (q04 und3 rfl rfl rfl rfl) (RD.q rfl (q03 rfl rfl (q2d _ _ _) rfl) (RD.mv rfl rfl rfl rfl (RD.look (u:=.ptr 3 0 1) (want1 rfl rfl rfl h78) (q0v und45 rfl (q02 inf3) rfl rfl rfl) rfl rfl (RD.look (u:=.int .i64 x76.To) (want1 rfl rfl rfl h78) (q04 und3 rfl rfl rfl rfl) rfl rfl (RD.look (u:=.ptr 1 0 0) (want1 rfl rfl rfl h78) (q0v und25 rfl (q02 inf23) rfl rfl rfl) rfl rfl (RD.look (u:=.isl false (List.map cGNode r7.1.Nodes)) (want1 rfl rfl rfl h78) (q04 und23 rfl rfl rfl rfl) rfl rfl ?_)))))))
 refine RD.look (want1 rfl rfl rfl h78) (q0n rfl rfl rfl (q0h cGNode und23)) rfl rfl (RD.look (want1 rfl rfl rfl h78) (q03 rfl rfl (q91 _ _ _) rfl) rfl rfl (RD.q (u:=.bool (decide (x76.To ≥ (r7.1.Nodes.length:Int)))) rfl (q07 rfl h78 rfl) (RD.mv rfl rfl rfl rfl ?_)))
 repeat refine RD.no (want0 rfl rfl rfl h79) rfl rfl ?_
 repeat refine RD.no (wantT rfl rfl rfl) rfl rfl ?_
 refine RD.no (want0 rfl rfl rfl h79) rfl rfl (RD.q (u:=.bool true) rfl (q08 rfl h79 rfl) ?_)
 refine RD.done ⟨by kernel_rfl,trivial,?_⟩
 refine st ?_
 exact ⟨_,_,⟨rfl,rfl⟩,(Nat.zero_le _),Gh.toC (n1:=4) ⟨rfl,rfl,rfl,rfl,rfl,rfl,rfl,rfl,rfl,rfl,trivial⟩ rfl (Nat.zero_le _) (by simp)⟩
 replace h86:=q0j h79 h86
 rcases q25 (decide (z72 > 0)) with h80 | h80
 replace h86:=q0k h80 h86
 obtain ⟨x81,h82,h86⟩:=q00 h86
 obtain ⟨x83,h84,h86⟩:=q00 h86
 replace h86:=Option.some.inj h86
 subst h86
 refine WPU.drawE Try.tb_ok [] (by kernel_rfl) ?_
 refine RD.q (u:=.ptr 3 0 1) rfl (q0v und45 rfl (q02 inf3) rfl rfl rfl) (RD.q (u:=.int .i64 x76.To) rfl (q04 und3 rfl rfl rfl rfl) (RD.q rfl (q03 rfl rfl (q2d _ _ _) rfl) (RD.mv rfl rfl rfl rfl (RD.look (u:=.ptr 3 0 1) (want1 rfl rfl rfl h78) (q0v und45 rfl (q02 inf3) rfl rfl rfl) rfl rfl (RD.look (u:=.int .i64 x76.To) (want1 rfl rfl rfl h78) (q04 und3 rfl rfl rfl rfl) rfl rfl (RD.look (u:=.ptr 1 0 0) (want1 rfl rfl rfl h78) (q0v und25 rfl (q02 inf23) rfl rfl rfl) rfl rfl (RD.look (u:=.isl false (List.map cGNode r7.1.Nodes)) (want1 rfl rfl rfl h78) (q04 und23 rfl rfl rfl rfl) rfl rfl ?_)))))))
 refine RD.look (want1 rfl rfl rfl h78) (q0n rfl rfl rfl (q0h cGNode und23)) rfl rfl (RD.look (want1 rfl rfl rfl h78) (q03 rfl rfl (q91 _ _ _) rfl) rfl rfl (RD.q (u:=.bool (decide (x76.To ≥ (r7.1.Nodes.length:Int)))) rfl (q07 rfl h78 rfl) (RD.mv rfl rfl rfl rfl (RD.look (want1 rfl rfl rfl h79) (q0i rfl) rfl rfl (RD.look (want1 rfl rfl rfl h79) (q03 rfl rfl (q3q _ _ _) rfl) rfl rfl (RD.look (want1 rfl rfl rfl h79) (q0i rfl) rfl rfl (RD.look (u:=.ptr 3 0 0) (want1 rfl rfl rfl h80) (q0v und45 rfl (q02 inf3) rfl rfl rfl) rfl rfl ?_)))))))
 refine RD.look (u:=.int .i64 x76.Feat) (want1 rfl rfl rfl h80) (q04 und3 rfl rfl rfl rfl) rfl rfl (RD.look (u:=.ptr 1 0 0) (want1 rfl rfl rfl h80) (q0v und25 rfl (q02 inf23) rfl rfl rfl) rfl rfl (RD.look (u:=.isl false (List.map cGNode r7.1.Nodes)) (want1 rfl rfl rfl h80) (q04 und23 rfl rfl rfl rfl) rfl rfl (RD.look (want1 rfl rfl rfl h80) (q0i rfl) rfl rfl (RD.look (u:=.iptr (cGNode x81)) (want1 rfl rfl rfl h80) (q2r rfl rfl (q3j cGNode und23 (q02 inf43) q2i h82 rfl)) rfl rfl (RD.look (u:=.iptr [.isl false (List.map cGArc x81.Arcs)]) (want1 rfl rfl rfl h80) (q98 und43 rfl (q02 inf41) rfl rfl) rfl rfl (RD.look (u:=.isl false (List.map cGArc x81.Arcs)) (want1 rfl rfl rfl h80) (q5b und41 rfl rfl rfl) rfl rfl (RD.look (want1 rfl rfl rfl h80) (q0i rfl) rfl rfl ?_)))))))
 refine RD.look (want1 rfl rfl rfl h80) (q03 rfl rfl (ix_sub _ _ _) rfl) rfl rfl (RD.look (u:=.iptr (cGArc x83)) (want1 rfl rfl rfl h80) (q2r rfl rfl (q3j cGArc und41 (q02 inf45) q1r h84 rfl)) rfl rfl (RD.look (u:=.iptr (cGArc x83)) (want1 rfl rfl rfl h80) (q98 und45 rfl (q02 inf3) rfl rfl) rfl rfl (RD.look (u:=.int .i64 x83.Feat) (want1 rfl rfl rfl h80) (q5b und3 rfl rfl rfl) rfl rfl (RD.look (want1 rfl rfl rfl h80) (q03 rfl rfl (ix_leq _ _ _) rfl) rfl rfl (RD.look (u:=.bool (decide (x76.Feat≤x83.Feat))) (want1 rfl rfl rfl h79) (q08 rfl h80 rfl) rfl rfl (RD.q (u:=.bool (decide (x76.Feat≤x83.Feat))) rfl (q07 rfl h79 rfl) ?_))))))
 refine RD.done ⟨by kernel_rfl,trivial,?_⟩
 refine st ?_
 exact ⟨_,_,⟨rfl,rfl⟩,(Nat.zero_le _),Gh.toC (n1:=4) ⟨rfl,rfl,rfl,rfl,rfl,rfl,rfl,rfl,rfl,rfl,trivial⟩ rfl (Nat.zero_le _) (by simp)⟩
 replace h86:=q0j h80 h86
 replace h86:=Option.some.inj h86
 subst h86
 refine WPU.drawE Try.tb_ok [] (by kernel_rfl) ?_
 refine RD.q (u:=.ptr 3 0 1) rfl (q0v und45 rfl (q02 inf3) rfl rfl rfl) (RD.q (u:=.int .i64 x76.To) rfl (q04 und3 rfl rfl rfl rfl) (RD.q rfl (q03 rfl rfl (q2d _ _ _) rfl) (RD.mv rfl rfl rfl rfl (RD.look (u:=.ptr 3 0 1) (want1 rfl rfl rfl h78) (q0v und45 rfl (q02 inf3) rfl rfl rfl) rfl rfl (RD.look (u:=.int .i64 x76.To) (want1 rfl rfl rfl h78) (q04 und3 rfl rfl rfl rfl) rfl rfl (RD.look (u:=.ptr 1 0 0) (want1 rfl rfl rfl h78) (q0v und25 rfl (q02 inf23) rfl rfl rfl) rfl rfl (RD.look (u:=.isl false (List.map cGNode r7.1.Nodes)) (want1 rfl rfl rfl h78) (q04 und23 rfl rfl rfl rfl) rfl rfl ?_)))))))
 refine RD.look (want1 rfl rfl rfl h78) (q0n rfl rfl rfl (q0h cGNode und23)) rfl rfl (RD.look (want1 rfl rfl rfl h78) (q03 rfl rfl (q91 _ _ _) rfl) rfl rfl (RD.q (u:=.bool (decide (x76.To ≥ (r7.1.Nodes.length:Int)))) rfl (q07 rfl h78 rfl) (RD.mv rfl rfl rfl rfl (RD.look (want1 rfl rfl rfl h79) (q0i rfl) rfl rfl (RD.look (want1 rfl rfl rfl h79) (q03 rfl rfl (q3q _ _ _) rfl) rfl rfl (RD.look (want1 rfl rfl rfl h79) (q0i rfl) rfl rfl ?_))))))
 repeat refine RD.no (want0 rfl rfl rfl h80) rfl rfl ?_
 refine RD.look (u:=.bool false) (want1 rfl rfl rfl h79) (q07 rfl h80 rfl) rfl rfl (RD.q (u:=.bool false) rfl (q07 rfl h79 rfl) ?_)
 refine RD.done ⟨by kernel_rfl,trivial,?_⟩
 refine st ?_
 exact ⟨_,_,⟨rfl,rfl⟩,(Nat.zero_le _),Gh.toC (n1:=4) ⟨rfl,rfl,rfl,rfl,rfl,rfl,rfl,rfl,rfl,rfl,trivial⟩ rfl (Nat.zero_le _) (by simp)⟩
 replace hF:=q0j h75 hF
 refine st ?_
 refine WPU.exit ?_
 refine st ?_
 exact ⟨_,_,⟨l73,hF,rfl,rfl⟩,(Nat.zero_le _),Gh.toC (n1:=3) ⟨rfl,rfl,rfl,rfl,trivial⟩ rfl (Nat.zero_le _) (by simp)⟩
 rcases q25 (decide (z18 > 0)) with h55 | h55
 replace h59:=q0k h55 h59
 obtain ⟨x56,h57,h59⟩:=q00 h59
 replace h59:=Option.some.inj h59
 subst h59
 refine sr ?_
 refine RS.q rfl (q03 rfl rfl (q3q _ _ _) rfl) (RS.mv rfl rfl rfl rfl (RS.op (want1 rfl rfl rfl h55) (q0i rfl) rfl rfl (RS.op (want1 rfl rfl rfl h55) (q0i rfl) rfl rfl (RS.op (u:=.ptr 2 0 (0*1+z18.toNat*1)) (want1 rfl rfl rfl h55) (q2r rfl rfl (q8m und40 (q02 inf4) rfl h57)) rfl rfl (RS.op (u:=.bool x56) (want1 rfl rfl rfl h55) (q92 cB (fun x=>.bool x) und4 rfl (fun _=>rfl) rfl rfl h57) rfl rfl (RS.op (u:=.bool (!x56)) (want1 rfl rfl rfl h55) (q4k rfl rfl rfl rfl) rfl rfl (RS.q (u:=.bool (!x56)) rfl (q08 rfl h55 rfl) ?_)))))))
 refine sd ?_
 exact ⟨_,_,⟨rfl,rfl⟩,(Nat.zero_le _),Gh.toC (n1:=3) ⟨rfl,rfl,rfl,rfl,rfl,rfl,trivial⟩ rfl (Nat.zero_le _) (by simp)⟩
 replace h59:=q0j h55 h59
 replace h59:=Option.some.inj h59
 subst h59
 refine sr ?_
 refine RS.q rfl (q03 rfl rfl (q3q _ _ _) rfl) (RS.mv rfl rfl rfl rfl ?_)
 repeat refine RS.no (want0 rfl rfl rfl h55) rfl rfl ?_
 refine RS.q (u:=.bool false) rfl (q07 rfl h55 rfl) ?_
 refine sd ?_
 exact ⟨_,_,⟨rfl,rfl⟩,(Nat.zero_le _),Gh.toC (n1:=3) ⟨rfl,rfl,rfl,rfl,rfl,rfl,trivial⟩ rfl (Nat.zero_le _) (by simp)⟩
 replace hF:=q0j h54 hF
 refine st ?_
 refine WPU.exit ?_
 refine st ?_
 exact ⟨_,_,⟨l19,hF,rfl,rfl⟩,(Nat.zero_le _),Gh.toC (n1:=3) ⟨rfl,trivial⟩ rfl (Nat.zero_le _) (by simp)⟩
end Go.Proofs
end
section
namespace Go.Proofs
open Go Go.Rx Go.Vx Go.Shelf Go.Sort
set_option linter.unusedVariables false
theorem q0o {α β:Type} (a:α) (k:α→Option β):bindO (some a) k=k a:=rfl
theorem wr {z:Int} (h1 : -9223372036854775808≤z) (h2:z≤9223372036854775807):IntKind.i64.wrap z=z:=q9p (by omega) (by omega)
theorem wr1 {i len:Nat} (h:i<len) (hl:len≤9223372036854775807):IntKind.i64.wrap ((i:Int)+1)=((i+1:Nat):Int):=by rw [wr (by omega) (by omega)]; simp
theorem wrn {z:Int} {k:Nat} (h:z=k) (h2:k≤9223372036854775807):IntKind.i64.wrap z=(k:Int):=by subst h; exact wr (by omega) (by omega)
theorem q5r {α:Type} {l:List α} {i:Nat} (h:i<l.length):∃ x,l[i]? = some x∧x∈l:=⟨l[i],by simp [h],by simp⟩
theorem q6v {α:Type} {l:List α} {i:Nat} {x:α} (h:l[i]? = some x):l.take (i+1)=l.take i++[x]:=by rw [List.take_add_one,h]; rfl
theorem drop_cons' {α:Type} {l:List α} {i:Nat} {x:α} (h:l[i]? = some x):l.drop i=x::l.drop (i+1):=by
 have hlt:i<l.length:=(List.getElem?_eq_some_iff.1 h).1
 rw [List.drop_eq_getElem_cons hlt]
 congr 1
 rw [List.getElem?_eq_getElem hlt] at h
 exact Option.some.inj h
theorem dlt {i n:Nat} (h:i<n):decide ((i:Int)<(n:Int))=true:=by simp; omega
theorem dnlt {i n:Nat} (h:¬ i<n):decide ((i:Int)<(n:Int))=false:=by simp; omega
theorem drop_nil' {α:Type} {l:List α} {i:Nat} (h:¬ i<l.length):l.drop i=[]:=List.drop_eq_nil_of_le (by omega)
structure Cmp {α:Type} (c:α→α→Int):Prop where
 val:∀ x y,c x y = -1∨c x y=0∨c x y=1
 anti:∀ x y,c y x = - c x y
 trans:∀ x y z,c x y≤0→c y z≤0→c x z≤0
theorem Cmp.self {α:Type} {c:α→α→Int} (h:Cmp c) (x:α):c x x=0:=by have:=h.anti x x; omega
theorem Cmp.congr {α:Type} {c:α→α→Int} (h:Cmp c) {x y:α} (hxy:c x y=0) (z:α):c x z=c y z:=by
 have h1:=h.val x z
 have h2:=h.val y z
 have a1:=h.anti x y
 have a2:=h.anti x z
 have a3:=h.anti y z
 have t1:=h.trans x y z
 have t2:=h.trans y x z
 have t3:=h.trans z x y
 have t4:=h.trans z y x
 omega
theorem Cmp.congr' {α:Type} {c:α→α→Int} (h:Cmp c) {x y:α} (hxy:c x y=0) (z:α):c z x=c z y:=by
 have h1:=h.congr hxy z
 have a2:=h.anti x z
 have a3:=h.anti y z
 omega
theorem Cmp.lt_of {α:Type} {c:α→α→Int} (h:Cmp c) {x y z:α} (h1:c x y<0) (h2:c y z≤0):c x z<0:=by
 have t1:=h.trans x y z (by omega) h2
 rcases Int.lt_or_eq_of_le t1 with h3 | h3
 ·exact h3
 ·have:=h.congr h3 y
  have a3:=h.anti y z
  omega
def lexC {α:Type} (c d:α→α→Int) (x y:α):Int:=if c x y≠0 then c x y else d x y
theorem Cmp.lex {α:Type} {c d:α→α→Int} (hc:Cmp c) (hd:Cmp d):Cmp (lexC c d) where
 val x y:=by unfold lexC; split; exact hc.val x y; exact hd.val x y
 anti x y:=by
  unfold lexC
  have a1:=hc.anti x y
  have a2:=hd.anti x y
  by_cases h:c x y=0
  ·have:c y x=0:=by omega
   simp [h,this,a2]
  ·have:¬ c y x=0:=by omega
   simp [h,this,a1]
 trans x y z h1 h2:=by
  unfold lexC at *
  by_cases h:c x y=0
  ·have e:=hc.congr h z
   simp only [h,ne_eq,not_true,if_false] at h1
   rw [e]
   by_cases h':c y z=0
   ·simp only [h',ne_eq,not_true,if_false] at h2 ⊢
    exact hd.trans x y z h1 h2
   ·simp only [h',ne_eq,not_false_eq_true,if_true] at h2 ⊢
    exact h2
  ·simp only [h,ne_eq,not_false_eq_true,if_true] at h1
   have h1':c x y<0:=by omega
   by_cases h':c y z=0
   ·have e:=hc.congr' h' x
    rw [← e]
    simp only [h,ne_eq,not_false_eq_true,if_true]
    exact h1
   ·simp only [h',ne_eq,not_false_eq_true,if_true] at h2
    have:=hc.lt_of h1' h2
    have hne:¬ c x z=0:=by omega
    simp only [hne,ne_eq,not_false_eq_true,if_true]
    omega
theorem Cmp.pull {α β:Type} {c:α→α→Int} (h:Cmp c) (f:β→α):Cmp (fun x y=>c (f x) (f y)):=⟨fun x y=>h.val _ _,fun x y=>h.anti _ _,fun x y z=>h.trans _ _ _⟩
def cmpI (a b:Int):Int:=if a<b then -1 else if b<a then 1 else 0
theorem q9y {a b : Int} : cmpI a b = 0 ↔ a = b := by unfold cmpI; split; · omega
                                                     split <;> omega
theorem q8g : Cmp cmpI where
  val x y := by unfold cmpI; split; · simp
                split <;> simp
  anti x y := by unfold cmpI; split <;> split <;> (try split) <;> omega
  trans x y z := by
    unfold cmpI
    intro h1 h2
    split at h1 <;> split at h2 <;> (try split at h1) <;> (try split at h2) <;> (try split) <;> (try split) <;> omega
theorem ltOf_iff {α:Type} (c:α→α→Int) (x y:α):ltOf c x y=true↔c x y<0:=by simp [ltOf]
theorem Cmp.swo {α:Type} {c:α→α→Int} (h:Cmp c):SWO (ltOf c) where
 irrefl x:=by have:=h.self x; simp [ltOf,this]
 trans x y z h1 h2:=by rw [ltOf_iff] at *; exact h.lt_of h1 (by omega)
 ntrans x y z h1 h2:=by
  have e:∀ a b,ltOf c a b=false↔c b a≤0:=fun a b=>by have:=h.anti a b; simp [ltOf]; omega
  rw [e] at *
  exact h.trans z y x h2 h1
section
variable {α:Type} {c:α→α→Int}
theorem srt_le (hc:Cmp c) (l:List α):(srt (ltOf c) l).Pairwise (fun x y=>c x y≤0):=by
 have:=srt_asc hc.swo l
 refine List.Pairwise.imp ?_ this
 intro x y h
 have:=hc.anti x y
 simp [ltOf] at h
 omega
end
end Go.Proofs
end
section
namespace Go.Proofs
open Go Go.Rx Go.Vx Go.Shelf Go.Sort
set_option linter.unusedVariables false
set_option linter.unusedSimpArgs false
set_option maxRecDepth 10000
theorem ex_ok (m:Nat):q1s (m+60)=some true:=by kernel_rfl
theorem ex_n {n:Nat} (h:60≤n):q1s n=some true:=by
 have:=ex_ok (n - 60)
 rwa [Nat.sub_add_cancel h] at this
theorem cmpInt_eq (n:Nat) (a b:Int):q1j n a b=some (cmpI a b):=by
 have e1:(a != a)=false:=by simp
 have e2:(b != b)=false:=by simp
 simp only [q1j,q3v,q0o,e1,e2,cond_false,cmpI]
 by_cases h1:a<b
 ·simp [h1]
 ·by_cases h2:b<a<;>simp [h1,h2]
def lexL {α:Type} (c:α→α→Int):List α→List α→Int
 | [],[]=>0
 | [],_::_=>-1
 | _::_,[]=>1
 | x::xs,y::ys=>if c x y≠0 then c x y else lexL c xs ys
theorem Cmp.list {α:Type} {c:α→α→Int} (h:Cmp c):Cmp (lexL c) where
 val:=by
  intro x
  induction x with
  | nil=>intro y; cases y<;>simp [lexL]
  | cons a x ih =>
   intro y
   cases y with
   | nil=>simp [lexL]
   | cons b y=>simp only [lexL]; split; exact h.val a b; exact ih y
 anti:=by
  intro x
  induction x with
  | nil=>intro y; cases y<;>simp [lexL]
  | cons a x ih =>
   intro y
   cases y with
   | nil=>simp [lexL]
   | cons b y =>
    simp only [lexL]
    have a1:=h.anti a b
    have a2:=ih y
    by_cases e:c a b=0
    ·have:c b a=0:=by omega
     simp [e,this,a2]
    ·have:¬ c b a=0:=by omega
     simp [e,this,a1]
 trans:=by
  intro x
  induction x with
  | nil =>
   intro y z h1 h2
   cases z<;>simp [lexL]
  | cons a x ih =>
   intro y z h1 h2
   cases y with
   | nil=>simp [lexL] at h1
   | cons b y =>
    cases z with
    | nil=>simp [lexL] at h2
    | cons d z =>
     simp only [lexL] at *
     by_cases e:c a b=0
     ·have e2:=h.congr e d
      simp only [e,ne_eq,not_true,if_false] at h1
      rw [e2]
      by_cases e3:c b d=0
      ·simp only [e3,ne_eq,not_true,if_false] at h2 ⊢
       exact ih y z h1 h2
      ·simp only [e3,ne_eq,not_false_eq_true,if_true] at h2 ⊢
       exact h2
     ·simp only [e,ne_eq,not_false_eq_true,if_true] at h1
      have h1':c a b<0:=by omega
      by_cases e3:c b d=0
      ·have e4:=h.congr' e3 a
       rw [← e4]
       simp only [e,ne_eq,not_false_eq_true,if_true]
       exact h1
      ·simp only [e3,ne_eq,not_false_eq_true,if_true] at h2
       have:=h.lt_of h1' h2
       have hne:¬ c a d=0:=by omega
       simp only [hne,ne_eq,not_false_eq_true,if_true]
       omega
def ccA:GArc→GArc→Int:=lexC (fun x y=>cmpI x.Feat y.Feat) (fun x y=>cmpI x.To y.To)
theorem ccA_ok:Cmp ccA:=(q8g.pull _).lex (q8g.pull _)
def ccN:GNode→GNode→Int:=lexC (lexC (fun x y=>cmpI x.Typex y.Typex) (fun x y=>cmpI x.Arcs.length y.Arcs.length)) (fun x y=>lexL ccA x.Arcs y.Arcs)
theorem ccN_ok:Cmp ccN:=((q8g.pull _).lex (q8g.pull (fun x:GNode=>(x.Arcs.length:Int)))).lex (ccA_ok.list.pull _)
def ccG:GFS→GFS→Int:=lexC (fun x y=>cmpI x.Nodes.length y.Nodes.length) (fun x y=>lexL ccN x.Nodes y.Nodes)
theorem ccG_ok:Cmp ccG:=(q8g.pull (fun x:GFS=>(x.Nodes.length:Int))).lex (ccN_ok.list.pull _)
structure Small (f:GFS) (k:Nat):Prop where
 nodes:f.Nodes.length≤k
 arcs:∀ x∈f.Nodes,x.Arcs.length≤k
def arcN (l:List GArc):List Int:=l.flatMap fun a=>[a.Feat,a.To]
def nodeN (x:GNode):List Int:=[x.Typex,(x.Arcs.length:Int)]++arcN x.Arcs
def numN (f:GFS):List Int:=(f.Nodes.length:Int)::f.Nodes.flatMap nodeN
theorem arcN_len:∀ l:List GArc,(arcN l).length=2*l.length
 | []=>rfl
 | a::l=>by have:=arcN_len l; simp only [arcN,List.flatMap_cons,List.length_append,List.length_cons,List.length_nil] at *; omega
theorem nums_L2 {x:GNode} {i:Int} {rc:Int→List Int→Option (List Int)} (hx:x.Arcs.length≤1000000):∀ (m k:Nat) (acc:List Int),x.Arcs.length - k<m→k≤x.Arcs.length→acc.length+2*(x.Arcs.length - k)≤1000000000 →
  q2t i rc x m k acc=rc (IntKind.i64.wrap (i+1)) (acc++arcN (x.Arcs.drop k))
 | 0,k,acc,hm,_,_=>by omega
 | m+1,k,acc,hm,hk,ha=>by
  unfold q2t
  by_cases hlt:k<x.Arcs.length
  ·obtain ⟨a,h1,_⟩:=q5r hlt
   have hn:(acc.length+2)*8≤140737488355328∧acc.length+2≤140737488355328:=by omega
   simp only [dlt hlt,cond_true,q3k,h1,q0o,needO,hn,and_self,if_true,wr1 hlt (show x.Arcs.length≤9223372036854775807 by omega)]
   rw [nums_L2 hx m (k+1) _ (by omega) (by omega) (by simp only [List.length_append,List.length_cons,List.length_nil]; omega),drop_cons' h1]
   simp [arcN]
  ·simp only [dnlt hlt,cond_false,q49,drop_nil' hlt,arcN,List.flatMap_nil,List.append_nil]
theorem nums_L1 {f:GFS} {n:Nat} (hf:Small f 1000) (hn:1001≤n):∀ (m i:Nat) (acc:List Int),f.Nodes.length - i<m→i≤f.Nodes.length→acc.length+2002*(f.Nodes.length - i)≤900000000 →
  q1x f n m i acc=some (acc++(f.Nodes.drop i).flatMap nodeN)
 | 0,i,acc,hm,_,_=>by omega
 | m+1,i,acc,hm,hi,ha=>by
  unfold q1x
  have hl:=hf.nodes
  by_cases hlt:i<f.Nodes.length
  ·obtain ⟨x,hx,hxm⟩:=q5r hlt
   have h2:=hf.arcs x hxm
   have hn:(acc.length+2)*8≤140737488355328∧acc.length+2≤140737488355328:=by omega
   have h0:=nums_L2 (i:=(i:Int)) (rc:=q1x f n m) (x:=x) (by omega) n 0 (acc++[x.Typex,(x.Arcs.length:Int)]) (by omega) (by omega) (by simp only [List.length_append,List.length_cons,List.length_nil]; omega)
   rw [Int.ofNat_zero,List.drop_zero] at h0
   simp only [dlt hlt,cond_true,q3k,hx,q0o,needO,hn,and_self,if_true,h0,wr1 hlt (show f.Nodes.length≤9223372036854775807 by omega)]
   rw [nums_L1 hf (by omega) m (i+1) _ (by omega) (by omega) (by simp only [List.length_append,List.length_cons,List.length_nil,arcN_len]; omega),drop_cons' hx]
   simp [nodeN]
  ·simp only [dnlt hlt,cond_false,q48,drop_nil' hlt,List.flatMap_nil,List.append_nil]
theorem nums_ok {f:GFS} {n:Nat} (hf:Small f 1000) (hn:1001≤n):q3z n f=some (numN f):=by
 have hl:=hf.nodes
 have:=nums_L1 hf hn n 0 [(f.Nodes.length:Int)] (by omega) (by omega) (by simp only [List.length_cons,List.length_nil]; omega)
 rw [Int.ofNat_zero,List.drop_zero] at this
 simp only [q3z,this,numN,List.singleton_append]
def lexM:List Int→List Int→Int
 | x::xs,y::ys=>if cmpI x y≠0 then cmpI x y else lexM xs ys
 | _,_=>0
theorem refCmp_L {l m:List Int} (hl:l.length≤1000000000):∀ (n i:Nat),l.length - i<n→i≤l.length→q2s l m n i=some (lexM (l.drop i) (m.drop i))
 | 0,i,hn,_=>by omega
 | n+1,i,hn,hi=>by
  unfold q2s
  by_cases h1:i<l.length
  ·obtain ⟨x,hx,_⟩:=q5r h1
   by_cases h2:i<m.length
   ·obtain ⟨y,hy,_⟩:=q5r h2
    simp only [dlt h1,dlt h2,cond_true,q0o,q3k,hx,hy,wr1 h1 (show l.length≤9223372036854775807 by omega),drop_cons' hx,drop_cons' hy,lexM,cmpI]
    by_cases h3:x<y
    ·simp [h3]
    ·by_cases h4:y<x
     ·simp [h3,h4]
     ·simp only [h3,h4,decide_false,cond_false,if_false,ne_eq,not_true,gt_iff_lt]
      exact refCmp_L hl n (i+1) (by omega) (by omega)
   ·simp only [dlt h1,dnlt h2,cond_true,cond_false,q0o,q3a,drop_cons' hx,drop_nil' h2,lexM]
  ·simp only [dnlt h1,cond_false,q0o,q3a,drop_nil' h1,lexM]
theorem numN_len {f:GFS} {k:Nat} (hf:Small f k):(numN f).length≤1+f.Nodes.length*(2+2*k):=by
 have:∀ l:List GNode,(∀ x∈l,x.Arcs.length≤k)→(l.flatMap nodeN).length≤l.length*(2+2*k):=by
  intro l
  induction l with
  | nil=>intro _; simp
  | cons x l ih =>
   intro h
   have h1:=ih fun y hy=>h y (List.mem_cons_of_mem _ hy)
   have h2:=h x (by simp)
   have h3:(l.length+1)*(2+2*k)=l.length*(2+2*k)+(2+2*k):=by rw [Nat.add_mul,Nat.one_mul]
   simp only [List.flatMap_cons,List.length_append,nodeN,List.length_cons,List.length_nil,arcN_len]
   rw [h3]
   omega
 have:=this f.Nodes hf.arcs
 simp only [numN,List.length_cons]
 omega
theorem refCmp_ok {f g:GFS} {n:Nat} (hf:Small f 1000) (hg:Small g 1000) (hn:3000000≤n):q3y n f g=some (lexM (numN f) (numN g)):=by
 have h1:=numN_len hf
 have h2:=hf.nodes
 have h3:f.Nodes.length*(2+2*1000)≤1000*(2+2*1000):=Nat.mul_le_mul_right _ h2
 have:=refCmp_L (l:=numN f) (m:=numN g) (by omega) n 0 (by omega) (by omega)
 rw [Int.ofNat_zero,List.drop_zero,List.drop_zero] at this
 simp only [q3y,nums_ok hf (show 1001≤n by omega),nums_ok hg (show 1001≤n by omega),q0o,this]
theorem lexM_arcs {c d:List Int}:∀ {xs ys:List GArc},xs.length=ys.length→lexM (arcN xs++c) (arcN ys++d)=if lexL ccA xs ys≠0 then lexL ccA xs ys else lexM c d
 | [],[],_=>by simp [arcN,lexL]
 | [],_::_,h=>by simp at h
 | _::_,[],h=>by simp at h
 | x::xs,y::ys,h=>by
  simp only [List.length_cons,Nat.add_right_cancel_iff] at h
  have ih:=lexM_arcs (c:=c) (d:=d) h
  simp only [arcN,List.flatMap_cons,List.cons_append,List.nil_append,lexM,lexL] at ih ⊢
  rw [ih]
  unfold ccA lexC
  by_cases e:cmpI x.Feat y.Feat=0
  ·by_cases e2:cmpI x.To y.To=0<;>simp [e,e2]
  ·simp [e]
theorem lexM_nodes {c d:List Int}:∀ {xs ys:List GNode},xs.length=ys.length→lexM (xs.flatMap nodeN++c) (ys.flatMap nodeN++d)=if lexL ccN xs ys≠0 then lexL ccN xs ys else lexM c d
 | [],[],_=>by simp [lexL]
 | [],_::_,h=>by simp at h
 | _::_,[],h=>by simp at h
 | x::xs,y::ys,h=>by
  simp only [List.length_cons,Nat.add_right_cancel_iff] at h
  have ih:=lexM_nodes (c:=c) (d:=d) h
  simp only [List.flatMap_cons,nodeN,List.append_assoc,List.cons_append,List.nil_append,lexM,lexL]
  have hN:ccN x y=(if (if cmpI x.Typex y.Typex≠0 then cmpI x.Typex y.Typex else cmpI (x.Arcs.length:Int) y.Arcs.length)≠0 then (if cmpI x.Typex y.Typex≠0 then cmpI x.Typex y.Typex else cmpI (x.Arcs.length:Int) y.Arcs.length) else lexL ccA x.Arcs y.Arcs):=rfl
  simp only [hN]
  by_cases e:cmpI x.Typex y.Typex=0
  ·by_cases e2:cmpI (x.Arcs.length:Int) y.Arcs.length=0
   ·have hl:x.Arcs.length=y.Arcs.length:=by have:=q9y.1 e2; omega
    simp only [e,e2,ne_eq,not_true,if_false]
    rw [lexM_arcs hl,ih]
    by_cases e3:lexL ccA x.Arcs y.Arcs=0<;>simp [e3]
   ·simp [e,e2]
  ·simp [e]
theorem both_eq (f g:GFS):lexM (numN f) (numN g)=ccG f g:=by
 simp only [numN,lexM,ccG]
 unfold lexC
 by_cases e:cmpI (f.Nodes.length:Int) g.Nodes.length=0
 ·have hl:f.Nodes.length=g.Nodes.length:=by have:=q9y.1 e; omega
  have:=lexM_nodes (c:=[]) (d:=[]) hl
  simp only [List.append_nil,lexM] at this
  simp only [e,ne_eq,not_true,if_false,this]
  by_cases e2:lexL ccN f.Nodes g.Nodes=0<;>simp [e2]
 ·simp [e]
theorem refEq_ok {f g:GFS} {n:Nat} (hf:Small f 1000) (hg:Small g 1000) (hn:3000000≤n):q2z n f g=some (ccG f g == 0):=by
 simp only [q2z,refCmp_ok hf hg hn,q0o,both_eq]
theorem light_L1 {f:GFS} (hl:f.Nodes.length≤12):∀ (m i:Nat),f.Nodes.length - i<m→i≤f.Nodes.length→∃ b,q3f f m i=some b∧(b=true→∀ x∈f.Nodes.drop i,x.Arcs.length≤12)
 | 0,i,hm,_=>by omega
 | m+1,i,hm,hi=>by
  unfold q3f
  by_cases hlt:i<f.Nodes.length
  ·obtain ⟨x,hx,_⟩:=q5r hlt
   simp only [dlt hlt,cond_true,q3k,hx,q0o,wr1 hlt (show f.Nodes.length≤9223372036854775807 by omega)]
   by_cases h:(x.Arcs.length:Int) > 12
   ·simp only [h,decide_true,cond_true]; exact ⟨false,rfl,fun h=>by cases h⟩
   ·simp only [h,decide_false,cond_false]
    obtain ⟨b,h1,h2⟩:=light_L1 hl m (i+1) (by omega) (by omega)
    refine ⟨b,h1,fun hb=>?_⟩
    rw [drop_cons' hx]
    intro y hy
    rcases List.mem_cons.1 hy with rfl | hy
    ·omega
    ·exact h2 hb y hy
  ·simp only [dnlt hlt,cond_false,q4w,drop_nil' hlt]
   exact ⟨true,rfl,fun _ x hx=>by cases hx⟩
theorem light_ok (f:GFS) {n:Nat} (hn:20≤n):∃ b,q4p n f=some b∧(b=true→Small f 12):=by
 unfold q4p
 by_cases h:(f.Nodes.length:Int) > 12
 ·simp only [h,decide_true,cond_true]; exact ⟨false,rfl,fun h=>by cases h⟩
 ·simp only [h,decide_false,cond_false]
  obtain ⟨b,h1,h2⟩:=light_L1 (f:=f) (by omega) n 0 (by omega) (by omega)
  rw [Int.ofNat_zero] at h1
  rw [List.drop_zero] at h2
  exact ⟨b,h1,fun hb=>⟨by omega,h2 hb⟩⟩
theorem Small.up {f:GFS} {k k':Nat} (h:Small f k) (hk:k≤k'):Small f k':=⟨by have:=h.nodes; omega,fun x hx=>by have:=h.arcs x hx; omega⟩
end Go.Proofs
end
