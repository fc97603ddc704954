/-
  Texts of the walk: H4 PlA H5 MpA H6 H7.
-/
import Derived.Test.YtdpffcolmflpjaaP15
section
namespace Go.Proofs
open Go Go.Rx Go.Vx Try
set_option maxRecDepth 10000
set_option linter.unusedSimpArgs false
set_option linter.unusedVariables false
def law07_exampleHolds (n:Nat)  : Option (Bool) :=
 bindO (law07_node n 1 ([0,2,1,1])) fun r1 =>
 bindO (law07_node n 2 []) fun r3 =>
 bindO (law07_node n 3 ([0,1])) fun r5 =>
 bindO (law07_of n ([r1,r3,r5])) fun r7 =>
 bindO (graph_Canon n r7) fun r9 =>
 bindO (law07_node n 4 ([7,2,3,1])) fun r11 =>
 bindO (law07_node n 5 []) fun r13 =>
 bindO (law07_node n 6 ([2,0])) fun r15 =>
 bindO (law07_of n ([r11,r13,r15])) fun r17 =>
 bindO (graph_Canon n r17) fun r19 =>
 bindO (cond (r9.2 != 0)
  (some true)
  (cond (r19.2 != 0)
   (some true)
   (bindO (law07_node n 1 ([0,1,1,2])) fun r23 =>
   bindO (law07_node n 3 ([0,2])) fun r25 =>
   bindO (law07_node n 2 []) fun r27 =>
   bindO (law07_of n ([r23,r25,r27])) fun r29 =>
   bindO (ref07_Equal n (GFS.mk r9.1.Nodes) r29) fun r31 =>
   cond (!r31)
    (some true)
    (bindO (law07_node n 4 ([3,1,7,2])) fun r34 =>
    bindO (law07_node n 5 []) fun r36 =>
    bindO (law07_node n 6 ([2,0])) fun r38 =>
    bindO (law07_of n ([r34,r36,r38])) fun r40 =>
    bindO (ref07_Equal n (GFS.mk r19.1.Nodes) r40) fun r42 =>
    some (!r42))))) fun b44 =>
 cond b44
  (some false)
  (bindO (graph_Canon n (GFS.mk [])) fun r47 =>
  bindO (cond (r47.2 == 1)
   (bindO (graph_Sub n (GFS.mk r9.1.Nodes) 1) fun r50 =>
   bindO (law07_node n 3 ([0,1])) fun r52 =>
   bindO (law07_node n 2 []) fun r54 =>
   bindO (law07_of n ([r52,r54])) fun r56 =>
   bindO (ref07_Equal n r50 r56) fun r58 =>
   cond r58
    (bindO (law07_node n 1 ([5,0])) fun r61 =>
    bindO (law07_of n ([r61])) fun r63 =>
    bindO (graph_Cyclic n r63) fun r65 =>
    cond r65
     (bindO (graph_Cyclic n (GFS.mk r9.1.Nodes)) fun r68 =>
     cond (!r68)
      (bindO (graph_Atom n 4) fun r71 =>
      bindO (law07_node n 4 []) fun r73 =>
      bindO (law07_of n ([r73])) fun r75 =>
      bindO (ref07_Equal n r71 r75) fun r77 =>
      cond r77
       (bindO (graph_Equal n (GFS.mk r9.1.Nodes) (GFS.mk r9.1.Nodes)) fun r80 =>
       cond r80
        (bindO (graph_Atom n 9) fun r83 =>
        bindO (graph_Compare n r83 (GFS.mk r9.1.Nodes)) fun r85 =>
        some (r85 == (-1)))
        (some false))
       (some false))
      (some false))
     (some false))
    (some false))
   (some false)) fun b87 =>
  some b87)
theorem law07_exampleHolds_0 (n:Nat)  (r:Bool) (hF:law07_exampleHolds n  = some r):EvU Try.prog 16 [] ⟨[],0⟩ (fun u _=>u = .bool r∧Bel 0 u):=by
 unfold law07_exampleHolds at hF
 refine EvU.of_body Try.tb_ok fn16 rfl ?_
 refine WPU.ghost (tm':=fr 106 []) (Gh.start (Nat.le_of_ble_eq_true rfl)) (Nat.zero_le _) ?_
 refine sr ?_
 refine sd ?_
 obtain ⟨r1,h2,hF⟩:=bindO_some hF
 obtain ⟨r3,h4,hF⟩:=bindO_some hF
 obtain ⟨r5,h6,hF⟩:=bindO_some hF
 obtain ⟨r7,h8,hF⟩:=bindO_some hF
 obtain ⟨r9,h10,hF⟩:=bindO_some hF
 refine sr ?_
 refine RS.q (u:=.sl 0 0 4 4) (σ':=⟨[(0,.row [.int .i64 0,.int .i64 2,.int .i64 1,.int .i64 1] 3)],1⟩) rfl (op_bsl und55 inf3 rfl rfl rfl rfl rfl rfl rfl) ?_
 refine RS.fcall (u:=.agg (cGNode r1)) (args:=[.int .i64 1,.sl 0 0 4 4]) (σ1:=⟨[],1⟩) rfl (op_call rfl rfl fn29 hb29 rfl rfl) (Gh.fz (tm':=[.int .i64 1,.isl false (List.map (cI .i64) ([0,2,1,1]))]) (h':=[]) 0 (.row [.int .i64 0,.int .i64 2,.int .i64 1,.int .i64 1] 3) 1 rfl (by simp) (by simp only [oneU,fzL_nil,fzL_cons,fz_int,fz_bool,fz_str,fz_nils,fz_nilp,fz_nilm,fz_nilf,fz_junk,fz_isl,fz_map,fz_agg,fz_tup,fz_fn,junkT,fz_sl,fz_p0,Nat.reduceLeDiff,Nat.reduceMul,List.length_cons,List.length_nil,Nat.reduceAdd]<;>simp only [chunks,List.take,List.drop,List.map,cI,cB,cS,cL]) (by simp only [fzH,fzB,ug,Nat.beq,cond_true,cond_false,oneU,fzL_nil,fzL_cons,fz_int,fz_bool,fz_str,fz_nils,fz_nilp,fz_nilm,fz_nilf,fz_junk,fz_isl,fz_map,fz_agg,fz_tup,fz_fn,junkT,fz_sl,fz_p0,Nat.reduceLeDiff,Nat.reduceMul,List.length_cons,List.length_nil,Nat.reduceAdd]<;>simp only [chunks,List.take,List.drop,List.map,cI,cB,cS,cL])) (Nat.le_of_ble_eq_true rfl) (law07_node_ok n 1 ([0,2,1,1]) r1 h2 _) rfl rfl ?_
 refine RS.call (u:=.agg (cGNode r3)) (args:=[.int .i64 2,.nils]) rfl (op_call rfl rfl fn29 hb29 rfl rfl) (EvU.wkA (args':=[.int .i64 2,.isl false []]) (.cons (.refl _) (.cons (.nil false) .nil)) (fun s=>law07_node_ok n 2 [] r3 h4 s) _) rfl rfl (RS.q (u:=.sl 1 0 2 2) (σ':=⟨[(1,.row [.int .i64 0,.int .i64 1] 3)],2⟩) rfl (op_bsl und55 inf3 rfl rfl rfl rfl rfl rfl rfl) ?_)
 refine RS.fcall (u:=.agg (cGNode r5)) (args:=[.int .i64 3,.sl 1 0 2 2]) (σ1:=⟨[],2⟩) rfl (op_call rfl rfl fn29 hb29 rfl rfl) (Gh.fz (tm':=[.int .i64 3,.isl false (List.map (cI .i64) ([0,1]))]) (h':=[]) 1 (.row [.int .i64 0,.int .i64 1] 3) 1 rfl (by simp) (by simp only [oneU,fzL_nil,fzL_cons,fz_int,fz_bool,fz_str,fz_nils,fz_nilp,fz_nilm,fz_nilf,fz_junk,fz_isl,fz_map,fz_agg,fz_tup,fz_fn,junkT,fz_sl,fz_p0,Nat.reduceLeDiff,Nat.reduceMul,List.length_cons,List.length_nil,Nat.reduceAdd]<;>simp only [chunks,List.take,List.drop,List.map,cI,cB,cS,cL]) (by simp only [fzH,fzB,ug,Nat.beq,cond_true,cond_false,oneU,fzL_nil,fzL_cons,fz_int,fz_bool,fz_str,fz_nils,fz_nilp,fz_nilm,fz_nilf,fz_junk,fz_isl,fz_map,fz_agg,fz_tup,fz_fn,junkT,fz_sl,fz_p0,Nat.reduceLeDiff,Nat.reduceMul,List.length_cons,List.length_nil,Nat.reduceAdd]<;>simp only [chunks,List.take,List.drop,List.map,cI,cB,cS,cL])) (Nat.le_of_ble_eq_true rfl) (law07_node_ok n 3 ([0,1]) r5 h6 _) rfl rfl ?_
 refine RS.q (u:=.sl 2 0 3 3) (σ':=⟨[(2,.row [.int .i64 r1.Typex,.isl false (List.map cGArc r1.Arcs),.int .i64 r3.Typex,.isl false (List.map cGArc r3.Arcs),.int .i64 r5.Typex,.isl false (List.map cGArc r5.Arcs)] 43)],3⟩) rfl (op_bsl und23 inf43 rfl rfl rfl rfl rfl rfl rfl) ?_
 refine RS.fcall (u:=.agg [.isl false (List.map cGNode r7.Nodes)]) (args:=[.sl 2 0 3 3]) (σ1:=⟨[],3⟩) rfl (op_call rfl rfl fn32 hb32 rfl rfl) (Gh.fz (tm':=[.isl false (List.map cGNode ([r1,r3,r5]))]) (h':=[]) 2 (.row [.int .i64 r1.Typex,.isl false (List.map cGArc r1.Arcs),.int .i64 r3.Typex,.isl false (List.map cGArc r3.Arcs),.int .i64 r5.Typex,.isl false (List.map cGArc r5.Arcs)] 43) 2 rfl (by simp) (by simp only [oneU,fzL_nil,fzL_cons,fz_int,fz_bool,fz_str,fz_nils,fz_nilp,fz_nilm,fz_nilf,fz_junk,fz_isl,fz_map,fz_agg,fz_tup,fz_fn,junkT,fz_sl,fz_p0,Nat.reduceLeDiff,Nat.reduceMul,List.length_cons,List.length_nil,Nat.reduceAdd]<;>simp only [chunks,List.take,List.drop,List.map,cGNode]) (by simp only [fzH,fzB,ug,Nat.beq,cond_true,cond_false,oneU,fzL_nil,fzL_cons,fz_int,fz_bool,fz_str,fz_nils,fz_nilp,fz_nilm,fz_nilf,fz_junk,fz_isl,fz_map,fz_agg,fz_tup,fz_fn,junkT,fz_sl,fz_p0,Nat.reduceLeDiff,Nat.reduceMul,List.length_cons,List.length_nil,Nat.reduceAdd]<;>simp only [chunks,List.take,List.drop,List.map,cGNode])) (Nat.le_of_ble_eq_true rfl) (law07_of_ok n ([r1,r3,r5]) r7 h8 _) rfl rfl ?_
 refine RS.call (u:=.tup [.agg [.isl false (List.map cGNode r9.1.Nodes)],.int .i64 r9.2]) (args:=[.agg [.isl false (List.map cGNode r7.Nodes)]]) rfl (op_call rfl rfl fn13 hb13 rfl rfl) (graph_Canon_ok n r7 r9 h10 _) rfl rfl (RS.mv rfl rfl rfl rfl (RS.q rfl (op_ext rfl rfl) (RS.q rfl (op_ext rfl rfl) (RS.q (u:=.ptr 3 0 0) (σ':=⟨[(3,.row [.nils] 25)],4⟩) rfl (op_alloc inf25 rfl rfl) (RS.opn (u:=.junk) (σ':=⟨[(3,.row [.isl false (List.map cGNode r9.1.Nodes)] 25)],4⟩) rfl (op_store (sz_of inf25) rfl rfl rfl rfl rfl rfl rfl rfl) rfl ?_)))))
 refine sd ?_
 obtain ⟨r11,h12,hF⟩:=bindO_some hF
 obtain ⟨r13,h14,hF⟩:=bindO_some hF
 obtain ⟨r15,h16,hF⟩:=bindO_some hF
 obtain ⟨r17,h18,hF⟩:=bindO_some hF
 obtain ⟨r19,h20,hF⟩:=bindO_some hF
 refine sr ?_
 refine RS.q (u:=.sl 4 0 4 4) (σ':=⟨[(4,.row [.int .i64 7,.int .i64 2,.int .i64 3,.int .i64 1] 3),(3,.row [.isl false (List.map cGNode r9.1.Nodes)] 25)],5⟩) rfl (op_bsl und55 inf3 rfl rfl rfl rfl rfl rfl rfl) ?_
 refine RS.fcall (u:=.agg (cGNode r11)) (args:=[.int .i64 4,.sl 4 0 4 4]) (σ1:=⟨[(3,.row [.isl false (List.map cGNode r9.1.Nodes)] 25)],5⟩) rfl (op_call rfl rfl fn29 hb29 rfl rfl) (Gh.fz (tm':=[.int .i64 4,.isl false (List.map (cI .i64) ([7,2,3,1]))]) (h':=[(3,.row [.isl false (List.map cGNode r9.1.Nodes)] 25)]) 4 (.row [.int .i64 7,.int .i64 2,.int .i64 3,.int .i64 1] 3) 1 rfl (by simp) (by simp only [oneU,fzL_nil,fzL_cons,fz_int,fz_bool,fz_str,fz_nils,fz_nilp,fz_nilm,fz_nilf,fz_junk,fz_isl,fz_map,fz_agg,fz_tup,fz_fn,junkT,fz_sl,fz_p0,Nat.reduceLeDiff,Nat.reduceMul,List.length_cons,List.length_nil,Nat.reduceAdd]<;>simp only [chunks,List.take,List.drop,List.map,cI,cB,cS,cL]) (by simp only [fzH,fzB,ug,Nat.beq,cond_true,cond_false,oneU,fzL_nil,fzL_cons,fz_int,fz_bool,fz_str,fz_nils,fz_nilp,fz_nilm,fz_nilf,fz_junk,fz_isl,fz_map,fz_agg,fz_tup,fz_fn,junkT,fz_sl,fz_p0,Nat.reduceLeDiff,Nat.reduceMul,List.length_cons,List.length_nil,Nat.reduceAdd]<;>simp only [chunks,List.take,List.drop,List.map,cI,cB,cS,cL])) (Nat.le_of_ble_eq_true rfl) (law07_node_ok n 4 ([7,2,3,1]) r11 h12 _) rfl rfl ?_
 refine RS.call (u:=.agg (cGNode r13)) (args:=[.int .i64 5,.nils]) rfl (op_call rfl rfl fn29 hb29 rfl rfl) (EvU.wkA (args':=[.int .i64 5,.isl false []]) (.cons (.refl _) (.cons (.nil false) .nil)) (fun s=>law07_node_ok n 5 [] r13 h14 s) _) rfl rfl (RS.q (u:=.sl 5 0 2 2) (σ':=⟨[(5,.row [.int .i64 2,.int .i64 0] 3),(3,.row [.isl false (List.map cGNode r9.1.Nodes)] 25)],6⟩) rfl (op_bsl und55 inf3 rfl rfl rfl rfl rfl rfl rfl) ?_)
 refine RS.fcall (u:=.agg (cGNode r15)) (args:=[.int .i64 6,.sl 5 0 2 2]) (σ1:=⟨[(3,.row [.isl false (List.map cGNode r9.1.Nodes)] 25)],6⟩) rfl (op_call rfl rfl fn29 hb29 rfl rfl) (Gh.fz (tm':=[.int .i64 6,.isl false (List.map (cI .i64) ([2,0]))]) (h':=[(3,.row [.isl false (List.map cGNode r9.1.Nodes)] 25)]) 5 (.row [.int .i64 2,.int .i64 0] 3) 1 rfl (by simp) (by simp only [oneU,fzL_nil,fzL_cons,fz_int,fz_bool,fz_str,fz_nils,fz_nilp,fz_nilm,fz_nilf,fz_junk,fz_isl,fz_map,fz_agg,fz_tup,fz_fn,junkT,fz_sl,fz_p0,Nat.reduceLeDiff,Nat.reduceMul,List.length_cons,List.length_nil,Nat.reduceAdd]<;>simp only [chunks,List.take,List.drop,List.map,cI,cB,cS,cL]) (by simp only [fzH,fzB,ug,Nat.beq,cond_true,cond_false,oneU,fzL_nil,fzL_cons,fz_int,fz_bool,fz_str,fz_nils,fz_nilp,fz_nilm,fz_nilf,fz_junk,fz_isl,fz_map,fz_agg,fz_tup,fz_fn,junkT,fz_sl,fz_p0,Nat.reduceLeDiff,Nat.reduceMul,List.length_cons,List.length_nil,Nat.reduceAdd]<;>simp only [chunks,List.take,List.drop,List.map,cI,cB,cS,cL])) (Nat.le_of_ble_eq_true rfl) (law07_node_ok n 6 ([2,0]) r15 h16 _) rfl rfl ?_
 refine RS.q (u:=.sl 6 0 3 3) (σ':=⟨[(6,.row [.int .i64 r11.Typex,.isl false (List.map cGArc r11.Arcs),.int .i64 r13.Typex,.isl false (List.map cGArc r13.Arcs),.int .i64 r15.Typex,.isl false (List.map cGArc r15.Arcs)] 43),(3,.row [.isl false (List.map cGNode r9.1.Nodes)] 25)],7⟩) rfl (op_bsl und23 inf43 rfl rfl rfl rfl rfl rfl rfl) ?_
 refine RS.fcall (u:=.agg [.isl false (List.map cGNode r17.Nodes)]) (args:=[.sl 6 0 3 3]) (σ1:=⟨[(3,.row [.isl false (List.map cGNode r9.1.Nodes)] 25)],7⟩) rfl (op_call rfl rfl fn32 hb32 rfl rfl) (Gh.fz (tm':=[.isl false (List.map cGNode ([r11,r13,r15]))]) (h':=[(3,.row [.isl false (List.map cGNode r9.1.Nodes)] 25)]) 6 (.row [.int .i64 r11.Typex,.isl false (List.map cGArc r11.Arcs),.int .i64 r13.Typex,.isl false (List.map cGArc r13.Arcs),.int .i64 r15.Typex,.isl false (List.map cGArc r15.Arcs)] 43) 2 rfl (by simp) (by simp only [oneU,fzL_nil,fzL_cons,fz_int,fz_bool,fz_str,fz_nils,fz_nilp,fz_nilm,fz_nilf,fz_junk,fz_isl,fz_map,fz_agg,fz_tup,fz_fn,junkT,fz_sl,fz_p0,Nat.reduceLeDiff,Nat.reduceMul,List.length_cons,List.length_nil,Nat.reduceAdd]<;>simp only [chunks,List.take,List.drop,List.map,cGNode]) (by simp only [fzH,fzB,ug,Nat.beq,cond_true,cond_false,oneU,fzL_nil,fzL_cons,fz_int,fz_bool,fz_str,fz_nils,fz_nilp,fz_nilm,fz_nilf,fz_junk,fz_isl,fz_map,fz_agg,fz_tup,fz_fn,junkT,fz_sl,fz_p0,Nat.reduceLeDiff,Nat.reduceMul,List.length_cons,List.length_nil,Nat.reduceAdd]<;>simp only [chunks,List.take,List.drop,List.map,cGNode])) (Nat.le_of_ble_eq_true rfl) (law07_of_ok n ([r11,r13,r15]) r17 h18 _) rfl rfl ?_
 refine RS.call (u:=.tup [.agg [.isl false (List.map cGNode r19.1.Nodes)],.int .i64 r19.2]) (args:=[.agg [.isl false (List.map cGNode r17.Nodes)]]) rfl (op_call rfl rfl fn13 hb13 rfl rfl) (graph_Canon_ok n r17 r19 h20 _) rfl rfl (RS.mv rfl rfl rfl rfl (RS.q rfl (op_ext rfl rfl) (RS.q rfl (op_ext rfl rfl) (RS.q (u:=.ptr 7 0 0) (σ':=⟨[(7,.row [.nils] 25),(3,.row [.isl false (List.map cGNode r9.1.Nodes)] 25)],8⟩) rfl (op_alloc inf25 rfl rfl) (RS.opn (u:=.junk) (σ':=⟨[(7,.row [.isl false (List.map cGNode r19.1.Nodes)] 25),(3,.row [.isl false (List.map cGNode r9.1.Nodes)] 25)],8⟩) rfl (op_store (sz_of inf25) rfl rfl rfl rfl rfl rfl rfl rfl) rfl ?_)))))
 refine sd ?_
 obtain ⟨b44,h45,hF⟩:=bindO_some hF
 refine WPU.joinK (fun tm σ=>tm=fr 106 [(1,.ptr 3 0 0),(58,.bool b44)]∧σ=⟨[(7,.row [.isl false (List.map cGNode r19.1.Nodes)] 25),(3,.row [.isl false (List.map cGNode r9.1.Nodes)] 25)],8⟩) ?_ ?_
 rintro _ _ ⟨rfl,rfl⟩
 refine st ?_
 refine WPU.condS (t:=b44) rfl (fun h46=>?_) (fun h46=>?_)
 replace hF:=cond_t h46 hF
 refine sr ?_
 refine sd ?_
 refine WPU.ret ?_
 refine st ?_
 have hr:=Option.some.inj hF
 subst hr
 exact ⟨.inr rfl,[.bool false],res_t rfl (res_n),.bool false,⟨[],0⟩,Nat.le_refl _,Gh.toR (.bool false) rfl,rfl,BU.h⟩
 replace hF:=cond_f h46 hF
 refine st ?_
 refine WPU.skip ?_
 refine st ?_
 obtain ⟨r47,h48,hF⟩:=bindO_some hF
 refine sr ?_
 refine RS.q (u:=.agg [.nils]) rfl (op_bld bd25 rfl rfl rfl) (RS.call (u:=.tup [.agg [.isl false (List.map cGNode r47.1.Nodes)],.int .i64 r47.2]) (args:=[.agg [.nils]]) rfl (op_call rfl rfl fn13 hb13 rfl rfl) (EvU.wkA (args':=[.agg [.isl false []]]) (.cons (.agg (.cons (.nil false) .nil)) .nil) (fun s=>graph_Canon_ok n (GFS.mk []) r47 h48 s) _) rfl rfl (RS.mv rfl rfl rfl rfl (RS.q rfl (op_ext rfl rfl) (RS.q rfl (op_ext rfl rfl) (RS.q (u:=.ptr 8 0 0) (σ':=⟨[(8,.row [.nils] 25),(7,.row [.isl false (List.map cGNode r19.1.Nodes)] 25),(3,.row [.isl false (List.map cGNode r9.1.Nodes)] 25)],9⟩) rfl (op_alloc inf25 rfl rfl) (RS.opn (u:=.junk) (σ':=⟨[(8,.row [.isl false (List.map cGNode r47.1.Nodes)] 25),(7,.row [.isl false (List.map cGNode r19.1.Nodes)] 25),(3,.row [.isl false (List.map cGNode r9.1.Nodes)] 25)],9⟩) rfl (op_store (sz_of inf25) rfl rfl rfl rfl rfl rfl rfl rfl) rfl ?_))))))
 refine sd ?_
 obtain ⟨b87,h88,hF⟩:=bindO_some hF
 refine WPU.joinK (fun tm σ=>tm=fr 106 [(0,.bool b87)]∧σ=⟨[(8,.row [.isl false (List.map cGNode r47.1.Nodes)] 25),(7,.row [.isl false (List.map cGNode r19.1.Nodes)] 25),(3,.row [.isl false (List.map cGNode r9.1.Nodes)] 25)],9⟩) ?_ ?_
 rintro _ _ ⟨rfl,rfl⟩
 refine st ?_
 refine WPU.ret ?_
 refine st ?_
 have hr:=Option.some.inj hF
 subst hr
 exact ⟨.inr rfl,[.bool b87],res_t rfl (res_n),.bool b87,⟨[],0⟩,Nat.le_refl _,Gh.toR (.bool b87) rfl,rfl,BU.h⟩
 rcases bool_tf (r47.2 == 1) with h49 | h49
 replace h88:=cond_t h49 h88
 obtain ⟨r50,h51,h88⟩:=bindO_some h88
 obtain ⟨r52,h53,h88⟩:=bindO_some h88
 obtain ⟨r54,h55,h88⟩:=bindO_some h88
 obtain ⟨r56,h57,h88⟩:=bindO_some h88
 obtain ⟨r58,h59,h88⟩:=bindO_some h88
 rcases bool_tf r58 with h60 | h60
 replace h88:=cond_t h60 h88
 obtain ⟨r61,h62,h88⟩:=bindO_some h88
 obtain ⟨r63,h64,h88⟩:=bindO_some h88
 obtain ⟨r65,h66,h88⟩:=bindO_some h88
 rcases bool_tf r65 with h67 | h67
 replace h88:=cond_t h67 h88
 obtain ⟨r68,h69,h88⟩:=bindO_some h88
 rcases bool_tf (!r68) with h70 | h70
 replace h88:=cond_t h70 h88
 obtain ⟨r71,h72,h88⟩:=bindO_some h88
 obtain ⟨r73,h74,h88⟩:=bindO_some h88
 obtain ⟨r75,h76,h88⟩:=bindO_some h88
 obtain ⟨r77,h78,h88⟩:=bindO_some h88
 rcases bool_tf r77 with h79 | h79
 replace h88:=cond_t h79 h88
 obtain ⟨r80,h81,h88⟩:=bindO_some h88
 rcases bool_tf r80 with h82 | h82
 replace h88:=cond_t h82 h88
 obtain ⟨r83,h84,h88⟩:=bindO_some h88
 obtain ⟨r85,h86,h88⟩:=bindO_some h88
 replace h88:=Option.some.inj h88
 subst h88
 refine WPU.drawE Try.tb_ok [] (by kernel_rfl) ?_
 refine RD.mv rfl rfl rfl rfl (RD.q rfl (op_int rfl rfl (ix_eql _ _ _) rfl) (RD.mv rfl rfl rfl rfl (RD.look (u:=.agg [.isl false (List.map cGNode r9.1.Nodes)]) (want1 rfl rfl rfl h49) (ld_agg und25 rfl (sz_of inf25) rfl rfl rfl) rfl rfl (RD.free (u:=.agg [.isl false (List.map cGNode r50.Nodes)]) (args:=[.agg [.isl false (List.map cGNode r9.1.Nodes)],.int .i64 1]) (want1 rfl rfl rfl h49) (op_call rfl rfl fn20 hb20 rfl rfl) (fun s=>graph_Sub_ok n (GFS.mk r9.1.Nodes) 1 r50 h51 s) rfl rfl (RD.freeO (u:=.isl false (List.map (cI .i64) ([0,1]))) (want1 rfl rfl rfl h49) (FreeO.bs (cs:=[.int .i64 0,.int .i64 1]) und55 inf3 rfl rfl rfl rfl rfl rfl rfl rfl rfl) rfl rfl (RD.free (u:=.agg (cGNode r52)) (args:=[.int .i64 3,.isl false (List.map (cI .i64) ([0,1]))]) (want1 rfl rfl rfl h49) (op_call rfl rfl fn29 hb29 rfl rfl) (fun s=>law07_node_ok n 3 ([0,1]) r52 h53 s) rfl rfl (RD.free (u:=.agg (cGNode r54)) (args:=[.int .i64 2,.nils]) (want1 rfl rfl rfl h49) (op_call rfl rfl fn29 hb29 rfl rfl) (fun s=>EvU.wkA (args':=[.int .i64 2,.isl false []]) (.cons (.refl _) (.cons (.nil false) .nil)) (fun s=>law07_node_ok n 2 [] r54 h55 s) s) rfl rfl ?_)))))))
 refine RD.act (u:=.sl 9 0 2 2) (σ':=⟨[(9,.row [.int .i64 r52.Typex,.isl false (List.map cGArc r52.Arcs),.int .i64 r54.Typex,.isl false (List.map cGArc r54.Arcs)] 43),(8,.row [.isl false (List.map cGNode r47.1.Nodes)] 25),(7,.row [.isl false (List.map cGNode r19.1.Nodes)] 25),(3,.row [.isl false (List.map cGNode r9.1.Nodes)] 25)],10⟩) (want1 rfl rfl rfl h49) (op_bsl und23 inf43 rfl rfl rfl rfl rfl rfl rfl) rfl rfl ?_
 refine RD.fcall (u:=.agg [.isl false (List.map cGNode r56.Nodes)]) (args:=[.sl 9 0 2 2]) (σ1:=⟨[(8,.row [.isl false (List.map cGNode r47.1.Nodes)] 25),(7,.row [.isl false (List.map cGNode r19.1.Nodes)] 25),(3,.row [.isl false (List.map cGNode r9.1.Nodes)] 25)],10⟩) (want1 rfl rfl rfl h49) (op_call rfl rfl fn32 hb32 rfl rfl) (Gh.fz (tm':=[.isl false (List.map cGNode ([r52,r54]))]) (h':=[(8,.row [.isl false (List.map cGNode r47.1.Nodes)] 25),(7,.row [.isl false (List.map cGNode r19.1.Nodes)] 25),(3,.row [.isl false (List.map cGNode r9.1.Nodes)] 25)]) 9 (.row [.int .i64 r52.Typex,.isl false (List.map cGArc r52.Arcs),.int .i64 r54.Typex,.isl false (List.map cGArc r54.Arcs)] 43) 2 rfl (by simp) (by simp only [oneU,fzL_nil,fzL_cons,fz_int,fz_bool,fz_str,fz_nils,fz_nilp,fz_nilm,fz_nilf,fz_junk,fz_isl,fz_map,fz_agg,fz_tup,fz_fn,junkT,fz_sl,fz_p0,Nat.reduceLeDiff,Nat.reduceMul,List.length_cons,List.length_nil,Nat.reduceAdd]<;>simp only [chunks,List.take,List.drop,List.map,cGNode]) (by simp only [fzH,fzB,ug,Nat.beq,cond_true,cond_false,oneU,fzL_nil,fzL_cons,fz_int,fz_bool,fz_str,fz_nils,fz_nilp,fz_nilm,fz_nilf,fz_junk,fz_isl,fz_map,fz_agg,fz_tup,fz_fn,junkT,fz_sl,fz_p0,Nat.reduceLeDiff,Nat.reduceMul,List.length_cons,List.length_nil,Nat.reduceAdd]<;>simp only [chunks,List.take,List.drop,List.map,cGNode])) (Nat.le_of_ble_eq_true rfl) (law07_of_ok n ([r52,r54]) r56 h57 _) rfl rfl ?_
 refine RD.free (u:=.bool r58) (args:=[.agg [.isl false (List.map cGNode r50.Nodes)],.agg [.isl false (List.map cGNode r56.Nodes)]]) (want1 rfl rfl rfl h49) (op_call rfl rfl fn14 hb14 rfl rfl) (fun s=>ref07_Equal_ok n r50 r56 r58 h59 s) rfl rfl (RD.q (u:=.bool r58) rfl (op_pick1 rfl h49 rfl) (RD.mv rfl rfl rfl rfl (RD.act (u:=.sl 10 0 2 2) (σ':=⟨[(10,.row [.int .i64 5,.int .i64 0] 3),(8,.row [.isl false (List.map cGNode r47.1.Nodes)] 25),(7,.row [.isl false (List.map cGNode r19.1.Nodes)] 25),(3,.row [.isl false (List.map cGNode r9.1.Nodes)] 25)],11⟩) (want1 rfl rfl rfl h60) (op_bsl und55 inf3 rfl rfl rfl rfl rfl rfl rfl) rfl rfl ?_)))
 refine RD.fcall (u:=.agg (cGNode r61)) (args:=[.int .i64 1,.sl 10 0 2 2]) (σ1:=⟨[(8,.row [.isl false (List.map cGNode r47.1.Nodes)] 25),(7,.row [.isl false (List.map cGNode r19.1.Nodes)] 25),(3,.row [.isl false (List.map cGNode r9.1.Nodes)] 25)],11⟩) (want1 rfl rfl rfl h60) (op_call rfl rfl fn29 hb29 rfl rfl) (Gh.fz (tm':=[.int .i64 1,.isl false (List.map (cI .i64) ([5,0]))]) (h':=[(8,.row [.isl false (List.map cGNode r47.1.Nodes)] 25),(7,.row [.isl false (List.map cGNode r19.1.Nodes)] 25),(3,.row [.isl false (List.map cGNode r9.1.Nodes)] 25)]) 10 (.row [.int .i64 5,.int .i64 0] 3) 1 rfl (by simp) (by simp only [oneU,fzL_nil,fzL_cons,fz_int,fz_bool,fz_str,fz_nils,fz_nilp,fz_nilm,fz_nilf,fz_junk,fz_isl,fz_map,fz_agg,fz_tup,fz_fn,junkT,fz_sl,fz_p0,Nat.reduceLeDiff,Nat.reduceMul,List.length_cons,List.length_nil,Nat.reduceAdd]<;>simp only [chunks,List.take,List.drop,List.map,cI,cB,cS,cL]) (by simp only [fzH,fzB,ug,Nat.beq,cond_true,cond_false,oneU,fzL_nil,fzL_cons,fz_int,fz_bool,fz_str,fz_nils,fz_nilp,fz_nilm,fz_nilf,fz_junk,fz_isl,fz_map,fz_agg,fz_tup,fz_fn,junkT,fz_sl,fz_p0,Nat.reduceLeDiff,Nat.reduceMul,List.length_cons,List.length_nil,Nat.reduceAdd]<;>simp only [chunks,List.take,List.drop,List.map,cI,cB,cS,cL])) (Nat.le_of_ble_eq_true rfl) (law07_node_ok n 1 ([5,0]) r61 h62 _) rfl rfl ?_
 refine RD.act (u:=.sl 11 0 1 1) (σ':=⟨[(11,.row (cGNode r61) 43),(8,.row [.isl false (List.map cGNode r47.1.Nodes)] 25),(7,.row [.isl false (List.map cGNode r19.1.Nodes)] 25),(3,.row [.isl false (List.map cGNode r9.1.Nodes)] 25)],12⟩) (want1 rfl rfl rfl h60) (op_bsl und23 inf43 rfl rfl rfl rfl rfl rfl rfl) rfl rfl ?_
 refine RD.fcall (u:=.agg [.isl false (List.map cGNode r63.Nodes)]) (args:=[.sl 11 0 1 1]) (σ1:=⟨[(8,.row [.isl false (List.map cGNode r47.1.Nodes)] 25),(7,.row [.isl false (List.map cGNode r19.1.Nodes)] 25),(3,.row [.isl false (List.map cGNode r9.1.Nodes)] 25)],12⟩) (want1 rfl rfl rfl h60) (op_call rfl rfl fn32 hb32 rfl rfl) (Gh.fz (tm':=[.isl false (List.map cGNode ([r61]))]) (h':=[(8,.row [.isl false (List.map cGNode r47.1.Nodes)] 25),(7,.row [.isl false (List.map cGNode r19.1.Nodes)] 25),(3,.row [.isl false (List.map cGNode r9.1.Nodes)] 25)]) 11 (.row [.int .i64 r61.Typex,.isl false (List.map cGArc r61.Arcs)] 43) 2 rfl (by simp) (by simp only [oneU,fzL_nil,fzL_cons,fz_int,fz_bool,fz_str,fz_nils,fz_nilp,fz_nilm,fz_nilf,fz_junk,fz_isl,fz_map,fz_agg,fz_tup,fz_fn,junkT,fz_sl,fz_p0,fz_cGNode,Nat.reduceLeDiff,Nat.reduceMul,List.length_cons,List.length_nil,Nat.reduceAdd]<;>simp only [chunks,List.take,List.drop,List.map,cGNode]) (by simp only [fzH,fzB,ug,Nat.beq,cond_true,cond_false,oneU,fzL_nil,fzL_cons,fz_int,fz_bool,fz_str,fz_nils,fz_nilp,fz_nilm,fz_nilf,fz_junk,fz_isl,fz_map,fz_agg,fz_tup,fz_fn,junkT,fz_sl,fz_p0,fz_cGNode,Nat.reduceLeDiff,Nat.reduceMul,List.length_cons,List.length_nil,Nat.reduceAdd]<;>simp only [chunks,List.take,List.drop,List.map,cGNode])) (Nat.le_of_ble_eq_true rfl) (law07_of_ok n ([r61]) r63 h64 _) rfl rfl ?_
 refine RD.free (u:=.bool r65) (args:=[.agg [.isl false (List.map cGNode r63.Nodes)]]) (want1 rfl rfl rfl h60) (op_call rfl rfl fn22 hb22 rfl rfl) (fun s=>graph_Cyclic_ok n r63 r65 h66 s) rfl rfl (RD.q (u:=.bool r65) rfl (op_pick1 rfl h60 rfl) (RD.mv rfl rfl rfl rfl (RD.look (u:=.agg [.isl false (List.map cGNode r9.1.Nodes)]) (want1 rfl rfl rfl h67) (ld_agg und25 rfl (sz_of inf25) rfl rfl rfl) rfl rfl (RD.free (u:=.bool r68) (args:=[.agg [.isl false (List.map cGNode r9.1.Nodes)]]) (want1 rfl rfl rfl h67) (op_call rfl rfl fn22 hb22 rfl rfl) (fun s=>graph_Cyclic_ok n (GFS.mk r9.1.Nodes) r68 h69 s) rfl rfl (RD.look (u:=.bool (!r68)) (want1 rfl rfl rfl h67) (op_un rfl rfl rfl rfl) rfl rfl (RD.q (u:=.bool (!r68)) rfl (op_pick1 rfl h67 rfl) (RD.mv rfl rfl rfl rfl ?_)))))))
 refine RD.free (u:=.agg [.isl false (List.map cGNode r71.Nodes)]) (args:=[.int .i64 4]) (want1 rfl rfl rfl h70) (op_call rfl rfl fn12 hb12 rfl rfl) (fun s=>graph_Atom_ok n 4 r71 h72 s) rfl rfl (RD.free (u:=.agg (cGNode r73)) (args:=[.int .i64 4,.nils]) (want1 rfl rfl rfl h70) (op_call rfl rfl fn29 hb29 rfl rfl) (fun s=>EvU.wkA (args':=[.int .i64 4,.isl false []]) (.cons (.refl _) (.cons (.nil false) .nil)) (fun s=>law07_node_ok n 4 [] r73 h74 s) s) rfl rfl (RD.act (u:=.sl 12 0 1 1) (σ':=⟨[(12,.row (cGNode r73) 43),(8,.row [.isl false (List.map cGNode r47.1.Nodes)] 25),(7,.row [.isl false (List.map cGNode r19.1.Nodes)] 25),(3,.row [.isl false (List.map cGNode r9.1.Nodes)] 25)],13⟩) (want1 rfl rfl rfl h70) (op_bsl und23 inf43 rfl rfl rfl rfl rfl rfl rfl) rfl rfl ?_))
 refine RD.fcall (u:=.agg [.isl false (List.map cGNode r75.Nodes)]) (args:=[.sl 12 0 1 1]) (σ1:=⟨[(8,.row [.isl false (List.map cGNode r47.1.Nodes)] 25),(7,.row [.isl false (List.map cGNode r19.1.Nodes)] 25),(3,.row [.isl false (List.map cGNode r9.1.Nodes)] 25)],13⟩) (want1 rfl rfl rfl h70) (op_call rfl rfl fn32 hb32 rfl rfl) (Gh.fz (tm':=[.isl false (List.map cGNode ([r73]))]) (h':=[(8,.row [.isl false (List.map cGNode r47.1.Nodes)] 25),(7,.row [.isl false (List.map cGNode r19.1.Nodes)] 25),(3,.row [.isl false (List.map cGNode r9.1.Nodes)] 25)]) 12 (.row [.int .i64 r73.Typex,.isl false (List.map cGArc r73.Arcs)] 43) 2 rfl (by simp) (by simp only [oneU,fzL_nil,fzL_cons,fz_int,fz_bool,fz_str,fz_nils,fz_nilp,fz_nilm,fz_nilf,fz_junk,fz_isl,fz_map,fz_agg,fz_tup,fz_fn,junkT,fz_sl,fz_p0,fz_cGNode,Nat.reduceLeDiff,Nat.reduceMul,List.length_cons,List.length_nil,Nat.reduceAdd]<;>simp only [chunks,List.take,List.drop,List.map,cGNode]) (by simp only [fzH,fzB,ug,Nat.beq,cond_true,cond_false,oneU,fzL_nil,fzL_cons,fz_int,fz_bool,fz_str,fz_nils,fz_nilp,fz_nilm,fz_nilf,fz_junk,fz_isl,fz_map,fz_agg,fz_tup,fz_fn,junkT,fz_sl,fz_p0,fz_cGNode,Nat.reduceLeDiff,Nat.reduceMul,List.length_cons,List.length_nil,Nat.reduceAdd]<;>simp only [chunks,List.take,List.drop,List.map,cGNode])) (Nat.le_of_ble_eq_true rfl) (law07_of_ok n ([r73]) r75 h76 _) rfl rfl ?_
 refine RD.free (u:=.bool r77) (args:=[.agg [.isl false (List.map cGNode r71.Nodes)],.agg [.isl false (List.map cGNode r75.Nodes)]]) (want1 rfl rfl rfl h70) (op_call rfl rfl fn14 hb14 rfl rfl) (fun s=>ref07_Equal_ok n r71 r75 r77 h78 s) rfl rfl (RD.q (u:=.bool r77) rfl (op_pick1 rfl h70 rfl) (RD.mv rfl rfl rfl rfl (RD.look (u:=.agg [.isl false (List.map cGNode r9.1.Nodes)]) (want1 rfl rfl rfl h79) (ld_agg und25 rfl (sz_of inf25) rfl rfl rfl) rfl rfl (RD.look (u:=.agg [.isl false (List.map cGNode r9.1.Nodes)]) (want1 rfl rfl rfl h79) (ld_agg und25 rfl (sz_of inf25) rfl rfl rfl) rfl rfl (RD.free (u:=.bool r80) (args:=[.agg [.isl false (List.map cGNode r9.1.Nodes)],.agg [.isl false (List.map cGNode r9.1.Nodes)]]) (want1 rfl rfl rfl h79) (op_call rfl rfl fn26 hb26 rfl rfl) (fun s=>graph_Equal_ok n (GFS.mk r9.1.Nodes) (GFS.mk r9.1.Nodes) r80 h81 s) rfl rfl (RD.q (u:=.bool r80) rfl (op_pick1 rfl h79 rfl) (RD.mv rfl rfl rfl rfl ?_)))))))
 refine RD.free (u:=.agg [.isl false (List.map cGNode r83.Nodes)]) (args:=[.int .i64 9]) (want1 rfl rfl rfl h82) (op_call rfl rfl fn12 hb12 rfl rfl) (fun s=>graph_Atom_ok n 9 r83 h84 s) rfl rfl (RD.look (u:=.agg [.isl false (List.map cGNode r9.1.Nodes)]) (want1 rfl rfl rfl h82) (ld_agg und25 rfl (sz_of inf25) rfl rfl rfl) rfl rfl (RD.free (u:=.int .i64 r85) (args:=[.agg [.isl false (List.map cGNode r83.Nodes)],.agg [.isl false (List.map cGNode r9.1.Nodes)]]) (want1 rfl rfl rfl h82) (op_call rfl rfl fn24 hb24 rfl rfl) (fun s=>graph_Compare_ok n r83 (GFS.mk r9.1.Nodes) r85 h86 s) rfl rfl (RD.look (want1 rfl rfl rfl h82) (op_int rfl rfl (ix_eql _ _ _) rfl) rfl rfl (RD.q (u:=.bool (r85 == (-1))) rfl (op_pick1 rfl h82 rfl) (RD.as rfl rfl rfl rfl ?_)))))
 refine RD.done ⟨by kernel_rfl,trivial,?_⟩
 refine st ?_
 exact ⟨_,_,⟨rfl,rfl⟩,(Nat.zero_le _),Gh.toC (n1:=9) ⟨rfl,trivial⟩ rfl (Nat.zero_le _) (by simp)⟩
 replace h88:=cond_f h82 h88
 replace h88:=Option.some.inj h88
 subst h88
 refine WPU.drawE Try.tb_ok [] (by kernel_rfl) ?_
 refine RD.mv rfl rfl rfl rfl (RD.q rfl (op_int rfl rfl (ix_eql _ _ _) rfl) (RD.mv rfl rfl rfl rfl (RD.look (u:=.agg [.isl false (List.map cGNode r9.1.Nodes)]) (want1 rfl rfl rfl h49) (ld_agg und25 rfl (sz_of inf25) rfl rfl rfl) rfl rfl (RD.free (u:=.agg [.isl false (List.map cGNode r50.Nodes)]) (args:=[.agg [.isl false (List.map cGNode r9.1.Nodes)],.int .i64 1]) (want1 rfl rfl rfl h49) (op_call rfl rfl fn20 hb20 rfl rfl) (fun s=>graph_Sub_ok n (GFS.mk r9.1.Nodes) 1 r50 h51 s) rfl rfl (RD.freeO (u:=.isl false (List.map (cI .i64) ([0,1]))) (want1 rfl rfl rfl h49) (FreeO.bs (cs:=[.int .i64 0,.int .i64 1]) und55 inf3 rfl rfl rfl rfl rfl rfl rfl rfl rfl) rfl rfl (RD.free (u:=.agg (cGNode r52)) (args:=[.int .i64 3,.isl false (List.map (cI .i64) ([0,1]))]) (want1 rfl rfl rfl h49) (op_call rfl rfl fn29 hb29 rfl rfl) (fun s=>law07_node_ok n 3 ([0,1]) r52 h53 s) rfl rfl (RD.free (u:=.agg (cGNode r54)) (args:=[.int .i64 2,.nils]) (want1 rfl rfl rfl h49) (op_call rfl rfl fn29 hb29 rfl rfl) (fun s=>EvU.wkA (args':=[.int .i64 2,.isl false []]) (.cons (.refl _) (.cons (.nil false) .nil)) (fun s=>law07_node_ok n 2 [] r54 h55 s) s) rfl rfl ?_)))))))
 refine RD.act (u:=.sl 9 0 2 2) (σ':=⟨[(9,.row [.int .i64 r52.Typex,.isl false (List.map cGArc r52.Arcs),.int .i64 r54.Typex,.isl false (List.map cGArc r54.Arcs)] 43),(8,.row [.isl false (List.map cGNode r47.1.Nodes)] 25),(7,.row [.isl false (List.map cGNode r19.1.Nodes)] 25),(3,.row [.isl false (List.map cGNode r9.1.Nodes)] 25)],10⟩) (want1 rfl rfl rfl h49) (op_bsl und23 inf43 rfl rfl rfl rfl rfl rfl rfl) rfl rfl ?_
 refine RD.fcall (u:=.agg [.isl false (List.map cGNode r56.Nodes)]) (args:=[.sl 9 0 2 2]) (σ1:=⟨[(8,.row [.isl false (List.map cGNode r47.1.Nodes)] 25),(7,.row [.isl false (List.map cGNode r19.1.Nodes)] 25),(3,.row [.isl false (List.map cGNode r9.1.Nodes)] 25)],10⟩) (want1 rfl rfl rfl h49) (op_call rfl rfl fn32 hb32 rfl rfl) (Gh.fz (tm':=[.isl false (List.map cGNode ([r52,r54]))]) (h':=[(8,.row [.isl false (List.map cGNode r47.1.Nodes)] 25),(7,.row [.isl false (List.map cGNode r19.1.Nodes)] 25),(3,.row [.isl false (List.map cGNode r9.1.Nodes)] 25)]) 9 (.row [.int .i64 r52.Typex,.isl false (List.map cGArc r52.Arcs),.int .i64 r54.Typex,.isl false (List.map cGArc r54.Arcs)] 43) 2 rfl (by simp) (by simp only [oneU,fzL_nil,fzL_cons,fz_int,fz_bool,fz_str,fz_nils,fz_nilp,fz_nilm,fz_nilf,fz_junk,fz_isl,fz_map,fz_agg,fz_tup,fz_fn,junkT,fz_sl,fz_p0,Nat.reduceLeDiff,Nat.reduceMul,List.length_cons,List.length_nil,Nat.reduceAdd]<;>simp only [chunks,List.take,List.drop,List.map,cGNode]) (by simp only [fzH,fzB,ug,Nat.beq,cond_true,cond_false,oneU,fzL_nil,fzL_cons,fz_int,fz_bool,fz_str,fz_nils,fz_nilp,fz_nilm,fz_nilf,fz_junk,fz_isl,fz_map,fz_agg,fz_tup,fz_fn,junkT,fz_sl,fz_p0,Nat.reduceLeDiff,Nat.reduceMul,List.length_cons,List.length_nil,Nat.reduceAdd]<;>simp only [chunks,List.take,List.drop,List.map,cGNode])) (Nat.le_of_ble_eq_true rfl) (law07_of_ok n ([r52,r54]) r56 h57 _) rfl rfl ?_
 refine RD.free (u:=.bool r58) (args:=[.agg [.isl false (List.map cGNode r50.Nodes)],.agg [.isl false (List.map cGNode r56.Nodes)]]) (want1 rfl rfl rfl h49) (op_call rfl rfl fn14 hb14 rfl rfl) (fun s=>ref07_Equal_ok n r50 r56 r58 h59 s) rfl rfl (RD.q (u:=.bool r58) rfl (op_pick1 rfl h49 rfl) (RD.mv rfl rfl rfl rfl (RD.act (u:=.sl 10 0 2 2) (σ':=⟨[(10,.row [.int .i64 5,.int .i64 0] 3),(8,.row [.isl false (List.map cGNode r47.1.Nodes)] 25),(7,.row [.isl false (List.map cGNode r19.1.Nodes)] 25),(3,.row [.isl false (List.map cGNode r9.1.Nodes)] 25)],11⟩) (want1 rfl rfl rfl h60) (op_bsl und55 inf3 rfl rfl rfl rfl rfl rfl rfl) rfl rfl ?_)))
 refine RD.fcall (u:=.agg (cGNode r61)) (args:=[.int .i64 1,.sl 10 0 2 2]) (σ1:=⟨[(8,.row [.isl false (List.map cGNode r47.1.Nodes)] 25),(7,.row [.isl false (List.map cGNode r19.1.Nodes)] 25),(3,.row [.isl false (List.map cGNode r9.1.Nodes)] 25)],11⟩) (want1 rfl rfl rfl h60) (op_call rfl rfl fn29 hb29 rfl rfl) (Gh.fz (tm':=[.int .i64 1,.isl false (List.map (cI .i64) ([5,0]))]) (h':=[(8,.row [.isl false (List.map cGNode r47.1.Nodes)] 25),(7,.row [.isl false (List.map cGNode r19.1.Nodes)] 25),(3,.row [.isl false (List.map cGNode r9.1.Nodes)] 25)]) 10 (.row [.int .i64 5,.int .i64 0] 3) 1 rfl (by simp) (by simp only [oneU,fzL_nil,fzL_cons,fz_int,fz_bool,fz_str,fz_nils,fz_nilp,fz_nilm,fz_nilf,fz_junk,fz_isl,fz_map,fz_agg,fz_tup,fz_fn,junkT,fz_sl,fz_p0,Nat.reduceLeDiff,Nat.reduceMul,List.length_cons,List.length_nil,Nat.reduceAdd]<;>simp only [chunks,List.take,List.drop,List.map,cI,cB,cS,cL]) (by simp only [fzH,fzB,ug,Nat.beq,cond_true,cond_false,oneU,fzL_nil,fzL_cons,fz_int,fz_bool,fz_str,fz_nils,fz_nilp,fz_nilm,fz_nilf,fz_junk,fz_isl,fz_map,fz_agg,fz_tup,fz_fn,junkT,fz_sl,fz_p0,Nat.reduceLeDiff,Nat.reduceMul,List.length_cons,List.length_nil,Nat.reduceAdd]<;>simp only [chunks,List.take,List.drop,List.map,cI,cB,cS,cL])) (Nat.le_of_ble_eq_true rfl) (law07_node_ok n 1 ([5,0]) r61 h62 _) rfl rfl ?_
 refine RD.act (u:=.sl 11 0 1 1) (σ':=⟨[(11,.row (cGNode r61) 43),(8,.row [.isl false (List.map cGNode r47.1.Nodes)] 25),(7,.row [.isl false (List.map cGNode r19.1.Nodes)] 25),(3,.row [.isl false (List.map cGNode r9.1.Nodes)] 25)],12⟩) (want1 rfl rfl rfl h60) (op_bsl und23 inf43 rfl rfl rfl rfl rfl rfl rfl) rfl rfl ?_
 refine RD.fcall (u:=.agg [.isl false (List.map cGNode r63.Nodes)]) (args:=[.sl 11 0 1 1]) (σ1:=⟨[(8,.row [.isl false (List.map cGNode r47.1.Nodes)] 25),(7,.row [.isl false (List.map cGNode r19.1.Nodes)] 25),(3,.row [.isl false (List.map cGNode r9.1.Nodes)] 25)],12⟩) (want1 rfl rfl rfl h60) (op_call rfl rfl fn32 hb32 rfl rfl) (Gh.fz (tm':=[.isl false (List.map cGNode ([r61]))]) (h':=[(8,.row [.isl false (List.map cGNode r47.1.Nodes)] 25),(7,.row [.isl false (List.map cGNode r19.1.Nodes)] 25),(3,.row [.isl false (List.map cGNode r9.1.Nodes)] 25)]) 11 (.row [.int .i64 r61.Typex,.isl false (List.map cGArc r61.Arcs)] 43) 2 rfl (by simp) (by simp only [oneU,fzL_nil,fzL_cons,fz_int,fz_bool,fz_str,fz_nils,fz_nilp,fz_nilm,fz_nilf,fz_junk,fz_isl,fz_map,fz_agg,fz_tup,fz_fn,junkT,fz_sl,fz_p0,fz_cGNode,Nat.reduceLeDiff,Nat.reduceMul,List.length_cons,List.length_nil,Nat.reduceAdd]<;>simp only [chunks,List.take,List.drop,List.map,cGNode]) (by simp only [fzH,fzB,ug,Nat.beq,cond_true,cond_false,oneU,fzL_nil,fzL_cons,fz_int,fz_bool,fz_str,fz_nils,fz_nilp,fz_nilm,fz_nilf,fz_junk,fz_isl,fz_map,fz_agg,fz_tup,fz_fn,junkT,fz_sl,fz_p0,fz_cGNode,Nat.reduceLeDiff,Nat.reduceMul,List.length_cons,List.length_nil,Nat.reduceAdd]<;>simp only [chunks,List.take,List.drop,List.map,cGNode])) (Nat.le_of_ble_eq_true rfl) (law07_of_ok n ([r61]) r63 h64 _) rfl rfl ?_
 refine RD.free (u:=.bool r65) (args:=[.agg [.isl false (List.map cGNode r63.Nodes)]]) (want1 rfl rfl rfl h60) (op_call rfl rfl fn22 hb22 rfl rfl) (fun s=>graph_Cyclic_ok n r63 r65 h66 s) rfl rfl (RD.q (u:=.bool r65) rfl (op_pick1 rfl h60 rfl) (RD.mv rfl rfl rfl rfl (RD.look (u:=.agg [.isl false (List.map cGNode r9.1.Nodes)]) (want1 rfl rfl rfl h67) (ld_agg und25 rfl (sz_of inf25) rfl rfl rfl) rfl rfl (RD.free (u:=.bool r68) (args:=[.agg [.isl false (List.map cGNode r9.1.Nodes)]]) (want1 rfl rfl rfl h67) (op_call rfl rfl fn22 hb22 rfl rfl) (fun s=>graph_Cyclic_ok n (GFS.mk r9.1.Nodes) r68 h69 s) rfl rfl (RD.look (u:=.bool (!r68)) (want1 rfl rfl rfl h67) (op_un rfl rfl rfl rfl) rfl rfl (RD.q (u:=.bool (!r68)) rfl (op_pick1 rfl h67 rfl) (RD.mv rfl rfl rfl rfl ?_)))))))
 refine RD.free (u:=.agg [.isl false (List.map cGNode r71.Nodes)]) (args:=[.int .i64 4]) (want1 rfl rfl rfl h70) (op_call rfl rfl fn12 hb12 rfl rfl) (fun s=>graph_Atom_ok n 4 r71 h72 s) rfl rfl (RD.free (u:=.agg (cGNode r73)) (args:=[.int .i64 4,.nils]) (want1 rfl rfl rfl h70) (op_call rfl rfl fn29 hb29 rfl rfl) (fun s=>EvU.wkA (args':=[.int .i64 4,.isl false []]) (.cons (.refl _) (.cons (.nil false) .nil)) (fun s=>law07_node_ok n 4 [] r73 h74 s) s) rfl rfl (RD.act (u:=.sl 12 0 1 1) (σ':=⟨[(12,.row (cGNode r73) 43),(8,.row [.isl false (List.map cGNode r47.1.Nodes)] 25),(7,.row [.isl false (List.map cGNode r19.1.Nodes)] 25),(3,.row [.isl false (List.map cGNode r9.1.Nodes)] 25)],13⟩) (want1 rfl rfl rfl h70) (op_bsl und23 inf43 rfl rfl rfl rfl rfl rfl rfl) rfl rfl ?_))
 refine RD.fcall (u:=.agg [.isl false (List.map cGNode r75.Nodes)]) (args:=[.sl 12 0 1 1]) (σ1:=⟨[(8,.row [.isl false (List.map cGNode r47.1.Nodes)] 25),(7,.row [.isl false (List.map cGNode r19.1.Nodes)] 25),(3,.row [.isl false (List.map cGNode r9.1.Nodes)] 25)],13⟩) (want1 rfl rfl rfl h70) (op_call rfl rfl fn32 hb32 rfl rfl) (Gh.fz (tm':=[.isl false (List.map cGNode ([r73]))]) (h':=[(8,.row [.isl false (List.map cGNode r47.1.Nodes)] 25),(7,.row [.isl false (List.map cGNode r19.1.Nodes)] 25),(3,.row [.isl false (List.map cGNode r9.1.Nodes)] 25)]) 12 (.row [.int .i64 r73.Typex,.isl false (List.map cGArc r73.Arcs)] 43) 2 rfl (by simp) (by simp only [oneU,fzL_nil,fzL_cons,fz_int,fz_bool,fz_str,fz_nils,fz_nilp,fz_nilm,fz_nilf,fz_junk,fz_isl,fz_map,fz_agg,fz_tup,fz_fn,junkT,fz_sl,fz_p0,fz_cGNode,Nat.reduceLeDiff,Nat.reduceMul,List.length_cons,List.length_nil,Nat.reduceAdd]<;>simp only [chunks,List.take,List.drop,List.map,cGNode]) (by simp only [fzH,fzB,ug,Nat.beq,cond_true,cond_false,oneU,fzL_nil,fzL_cons,fz_int,fz_bool,fz_str,fz_nils,fz_nilp,fz_nilm,fz_nilf,fz_junk,fz_isl,fz_map,fz_agg,fz_tup,fz_fn,junkT,fz_sl,fz_p0,fz_cGNode,Nat.reduceLeDiff,Nat.reduceMul,List.length_cons,List.length_nil,Nat.reduceAdd]<;>simp only [chunks,List.take,List.drop,List.map,cGNode])) (Nat.le_of_ble_eq_true rfl) (law07_of_ok n ([r73]) r75 h76 _) rfl rfl ?_
 refine RD.free (u:=.bool r77) (args:=[.agg [.isl false (List.map cGNode r71.Nodes)],.agg [.isl false (List.map cGNode r75.Nodes)]]) (want1 rfl rfl rfl h70) (op_call rfl rfl fn14 hb14 rfl rfl) (fun s=>ref07_Equal_ok n r71 r75 r77 h78 s) rfl rfl (RD.q (u:=.bool r77) rfl (op_pick1 rfl h70 rfl) (RD.mv rfl rfl rfl rfl (RD.look (u:=.agg [.isl false (List.map cGNode r9.1.Nodes)]) (want1 rfl rfl rfl h79) (ld_agg und25 rfl (sz_of inf25) rfl rfl rfl) rfl rfl (RD.look (u:=.agg [.isl false (List.map cGNode r9.1.Nodes)]) (want1 rfl rfl rfl h79) (ld_agg und25 rfl (sz_of inf25) rfl rfl rfl) rfl rfl (RD.free (u:=.bool r80) (args:=[.agg [.isl false (List.map cGNode r9.1.Nodes)],.agg [.isl false (List.map cGNode r9.1.Nodes)]]) (want1 rfl rfl rfl h79) (op_call rfl rfl fn26 hb26 rfl rfl) (fun s=>graph_Equal_ok n (GFS.mk r9.1.Nodes) (GFS.mk r9.1.Nodes) r80 h81 s) rfl rfl (RD.q (u:=.bool r80) rfl (op_pick1 rfl h79 rfl) (RD.mv rfl rfl rfl rfl ?_)))))))
 repeat refine RD.no (want0 rfl rfl rfl h82) rfl rfl ?_
 refine RD.q (u:=.bool false) rfl (op_pick0 rfl h82 rfl) (RD.as rfl rfl rfl rfl ?_)
 refine RD.done ⟨by kernel_rfl,trivial,?_⟩
 refine st ?_
 exact ⟨_,_,⟨rfl,rfl⟩,(Nat.zero_le _),Gh.toC (n1:=9) ⟨rfl,trivial⟩ rfl (Nat.zero_le _) (by simp)⟩
 replace h88:=cond_f h79 h88
 replace h88:=Option.some.inj h88
 subst h88
 refine WPU.drawE Try.tb_ok [] (by kernel_rfl) ?_
 refine RD.mv rfl rfl rfl rfl (RD.q rfl (op_int rfl rfl (ix_eql _ _ _) rfl) (RD.mv rfl rfl rfl rfl (RD.look (u:=.agg [.isl false (List.map cGNode r9.1.Nodes)]) (want1 rfl rfl rfl h49) (ld_agg und25 rfl (sz_of inf25) rfl rfl rfl) rfl rfl (RD.free (u:=.agg [.isl false (List.map cGNode r50.Nodes)]) (args:=[.agg [.isl false (List.map cGNode r9.1.Nodes)],.int .i64 1]) (want1 rfl rfl rfl h49) (op_call rfl rfl fn20 hb20 rfl rfl) (fun s=>graph_Sub_ok n (GFS.mk r9.1.Nodes) 1 r50 h51 s) rfl rfl (RD.freeO (u:=.isl false (List.map (cI .i64) ([0,1]))) (want1 rfl rfl rfl h49) (FreeO.bs (cs:=[.int .i64 0,.int .i64 1]) und55 inf3 rfl rfl rfl rfl rfl rfl rfl rfl rfl) rfl rfl (RD.free (u:=.agg (cGNode r52)) (args:=[.int .i64 3,.isl false (List.map (cI .i64) ([0,1]))]) (want1 rfl rfl rfl h49) (op_call rfl rfl fn29 hb29 rfl rfl) (fun s=>law07_node_ok n 3 ([0,1]) r52 h53 s) rfl rfl (RD.free (u:=.agg (cGNode r54)) (args:=[.int .i64 2,.nils]) (want1 rfl rfl rfl h49) (op_call rfl rfl fn29 hb29 rfl rfl) (fun s=>EvU.wkA (args':=[.int .i64 2,.isl false []]) (.cons (.refl _) (.cons (.nil false) .nil)) (fun s=>law07_node_ok n 2 [] r54 h55 s) s) rfl rfl ?_)))))))
 refine RD.act (u:=.sl 9 0 2 2) (σ':=⟨[(9,.row [.int .i64 r52.Typex,.isl false (List.map cGArc r52.Arcs),.int .i64 r54.Typex,.isl false (List.map cGArc r54.Arcs)] 43),(8,.row [.isl false (List.map cGNode r47.1.Nodes)] 25),(7,.row [.isl false (List.map cGNode r19.1.Nodes)] 25),(3,.row [.isl false (List.map cGNode r9.1.Nodes)] 25)],10⟩) (want1 rfl rfl rfl h49) (op_bsl und23 inf43 rfl rfl rfl rfl rfl rfl rfl) rfl rfl ?_
 refine RD.fcall (u:=.agg [.isl false (List.map cGNode r56.Nodes)]) (args:=[.sl 9 0 2 2]) (σ1:=⟨[(8,.row [.isl false (List.map cGNode r47.1.Nodes)] 25),(7,.row [.isl false (List.map cGNode r19.1.Nodes)] 25),(3,.row [.isl false (List.map cGNode r9.1.Nodes)] 25)],10⟩) (want1 rfl rfl rfl h49) (op_call rfl rfl fn32 hb32 rfl rfl) (Gh.fz (tm':=[.isl false (List.map cGNode ([r52,r54]))]) (h':=[(8,.row [.isl false (List.map cGNode r47.1.Nodes)] 25),(7,.row [.isl false (List.map cGNode r19.1.Nodes)] 25),(3,.row [.isl false (List.map cGNode r9.1.Nodes)] 25)]) 9 (.row [.int .i64 r52.Typex,.isl false (List.map cGArc r52.Arcs),.int .i64 r54.Typex,.isl false (List.map cGArc r54.Arcs)] 43) 2 rfl (by simp) (by simp only [oneU,fzL_nil,fzL_cons,fz_int,fz_bool,fz_str,fz_nils,fz_nilp,fz_nilm,fz_nilf,fz_junk,fz_isl,fz_map,fz_agg,fz_tup,fz_fn,junkT,fz_sl,fz_p0,Nat.reduceLeDiff,Nat.reduceMul,List.length_cons,List.length_nil,Nat.reduceAdd]<;>simp only [chunks,List.take,List.drop,List.map,cGNode]) (by simp only [fzH,fzB,ug,Nat.beq,cond_true,cond_false,oneU,fzL_nil,fzL_cons,fz_int,fz_bool,fz_str,fz_nils,fz_nilp,fz_nilm,fz_nilf,fz_junk,fz_isl,fz_map,fz_agg,fz_tup,fz_fn,junkT,fz_sl,fz_p0,Nat.reduceLeDiff,Nat.reduceMul,List.length_cons,List.length_nil,Nat.reduceAdd]<;>simp only [chunks,List.take,List.drop,List.map,cGNode])) (Nat.le_of_ble_eq_true rfl) (law07_of_ok n ([r52,r54]) r56 h57 _) rfl rfl ?_
 refine RD.free (u:=.bool r58) (args:=[.agg [.isl false (List.map cGNode r50.Nodes)],.agg [.isl false (List.map cGNode r56.Nodes)]]) (want1 rfl rfl rfl h49) (op_call rfl rfl fn14 hb14 rfl rfl) (fun s=>ref07_Equal_ok n r50 r56 r58 h59 s) rfl rfl (RD.q (u:=.bool r58) rfl (op_pick1 rfl h49 rfl) (RD.mv rfl rfl rfl rfl (RD.act (u:=.sl 10 0 2 2) (σ':=⟨[(10,.row [.int .i64 5,.int .i64 0] 3),(8,.row [.isl false (List.map cGNode r47.1.Nodes)] 25),(7,.row [.isl false (List.map cGNode r19.1.Nodes)] 25),(3,.row [.isl false (List.map cGNode r9.1.Nodes)] 25)],11⟩) (want1 rfl rfl rfl h60) (op_bsl und55 inf3 rfl rfl rfl rfl rfl rfl rfl) rfl rfl ?_)))
 refine RD.fcall (u:=.agg (cGNode r61)) (args:=[.int .i64 1,.sl 10 0 2 2]) (σ1:=⟨[(8,.row [.isl false (List.map cGNode r47.1.Nodes)] 25),(7,.row [.isl false (List.map cGNode r19.1.Nodes)] 25),(3,.row [.isl false (List.map cGNode r9.1.Nodes)] 25)],11⟩) (want1 rfl rfl rfl h60) (op_call rfl rfl fn29 hb29 rfl rfl) (Gh.fz (tm':=[.int .i64 1,.isl false (List.map (cI .i64) ([5,0]))]) (h':=[(8,.row [.isl false (List.map cGNode r47.1.Nodes)] 25),(7,.row [.isl false (List.map cGNode r19.1.Nodes)] 25),(3,.row [.isl false (List.map cGNode r9.1.Nodes)] 25)]) 10 (.row [.int .i64 5,.int .i64 0] 3) 1 rfl (by simp) (by simp only [oneU,fzL_nil,fzL_cons,fz_int,fz_bool,fz_str,fz_nils,fz_nilp,fz_nilm,fz_nilf,fz_junk,fz_isl,fz_map,fz_agg,fz_tup,fz_fn,junkT,fz_sl,fz_p0,Nat.reduceLeDiff,Nat.reduceMul,List.length_cons,List.length_nil,Nat.reduceAdd]<;>simp only [chunks,List.take,List.drop,List.map,cI,cB,cS,cL]) (by simp only [fzH,fzB,ug,Nat.beq,cond_true,cond_false,oneU,fzL_nil,fzL_cons,fz_int,fz_bool,fz_str,fz_nils,fz_nilp,fz_nilm,fz_nilf,fz_junk,fz_isl,fz_map,fz_agg,fz_tup,fz_fn,junkT,fz_sl,fz_p0,Nat.reduceLeDiff,Nat.reduceMul,List.length_cons,List.length_nil,Nat.reduceAdd]<;>simp only [chunks,List.take,List.drop,List.map,cI,cB,cS,cL])) (Nat.le_of_ble_eq_true rfl) (law07_node_ok n 1 ([5,0]) r61 h62 _) rfl rfl ?_
 refine RD.act (u:=.sl 11 0 1 1) (σ':=⟨[(11,.row (cGNode r61) 43),(8,.row [.isl false (List.map cGNode r47.1.Nodes)] 25),(7,.row [.isl false (List.map cGNode r19.1.Nodes)] 25),(3,.row [.isl false (List.map cGNode r9.1.Nodes)] 25)],12⟩) (want1 rfl rfl rfl h60) (op_bsl und23 inf43 rfl rfl rfl rfl rfl rfl rfl) rfl rfl ?_
 refine RD.fcall (u:=.agg [.isl false (List.map cGNode r63.Nodes)]) (args:=[.sl 11 0 1 1]) (σ1:=⟨[(8,.row [.isl false (List.map cGNode r47.1.Nodes)] 25),(7,.row [.isl false (List.map cGNode r19.1.Nodes)] 25),(3,.row [.isl false (List.map cGNode r9.1.Nodes)] 25)],12⟩) (want1 rfl rfl rfl h60) (op_call rfl rfl fn32 hb32 rfl rfl) (Gh.fz (tm':=[.isl false (List.map cGNode ([r61]))]) (h':=[(8,.row [.isl false (List.map cGNode r47.1.Nodes)] 25),(7,.row [.isl false (List.map cGNode r19.1.Nodes)] 25),(3,.row [.isl false (List.map cGNode r9.1.Nodes)] 25)]) 11 (.row [.int .i64 r61.Typex,.isl false (List.map cGArc r61.Arcs)] 43) 2 rfl (by simp) (by simp only [oneU,fzL_nil,fzL_cons,fz_int,fz_bool,fz_str,fz_nils,fz_nilp,fz_nilm,fz_nilf,fz_junk,fz_isl,fz_map,fz_agg,fz_tup,fz_fn,junkT,fz_sl,fz_p0,fz_cGNode,Nat.reduceLeDiff,Nat.reduceMul,List.length_cons,List.length_nil,Nat.reduceAdd]<;>simp only [chunks,List.take,List.drop,List.map,cGNode]) (by simp only [fzH,fzB,ug,Nat.beq,cond_true,cond_false,oneU,fzL_nil,fzL_cons,fz_int,fz_bool,fz_str,fz_nils,fz_nilp,fz_nilm,fz_nilf,fz_junk,fz_isl,fz_map,fz_agg,fz_tup,fz_fn,junkT,fz_sl,fz_p0,fz_cGNode,Nat.reduceLeDiff,Nat.reduceMul,List.length_cons,List.length_nil,Nat.reduceAdd]<;>simp only [chunks,List.take,List.drop,List.map,cGNode])) (Nat.le_of_ble_eq_true rfl) (law07_of_ok n ([r61]) r63 h64 _) rfl rfl ?_
 refine RD.free (u:=.bool r65) (args:=[.agg [.isl false (List.map cGNode r63.Nodes)]]) (want1 rfl rfl rfl h60) (op_call rfl rfl fn22 hb22 rfl rfl) (fun s=>graph_Cyclic_ok n r63 r65 h66 s) rfl rfl (RD.q (u:=.bool r65) rfl (op_pick1 rfl h60 rfl) (RD.mv rfl rfl rfl rfl (RD.look (u:=.agg [.isl false (List.map cGNode r9.1.Nodes)]) (want1 rfl rfl rfl h67) (ld_agg und25 rfl (sz_of inf25) rfl rfl rfl) rfl rfl (RD.free (u:=.bool r68) (args:=[.agg [.isl false (List.map cGNode r9.1.Nodes)]]) (want1 rfl rfl rfl h67) (op_call rfl rfl fn22 hb22 rfl rfl) (fun s=>graph_Cyclic_ok n (GFS.mk r9.1.Nodes) r68 h69 s) rfl rfl (RD.look (u:=.bool (!r68)) (want1 rfl rfl rfl h67) (op_un rfl rfl rfl rfl) rfl rfl (RD.q (u:=.bool (!r68)) rfl (op_pick1 rfl h67 rfl) (RD.mv rfl rfl rfl rfl ?_)))))))
 refine RD.free (u:=.agg [.isl false (List.map cGNode r71.Nodes)]) (args:=[.int .i64 4]) (want1 rfl rfl rfl h70) (op_call rfl rfl fn12 hb12 rfl rfl) (fun s=>graph_Atom_ok n 4 r71 h72 s) rfl rfl (RD.free (u:=.agg (cGNode r73)) (args:=[.int .i64 4,.nils]) (want1 rfl rfl rfl h70) (op_call rfl rfl fn29 hb29 rfl rfl) (fun s=>EvU.wkA (args':=[.int .i64 4,.isl false []]) (.cons (.refl _) (.cons (.nil false) .nil)) (fun s=>law07_node_ok n 4 [] r73 h74 s) s) rfl rfl (RD.act (u:=.sl 12 0 1 1) (σ':=⟨[(12,.row (cGNode r73) 43),(8,.row [.isl false (List.map cGNode r47.1.Nodes)] 25),(7,.row [.isl false (List.map cGNode r19.1.Nodes)] 25),(3,.row [.isl false (List.map cGNode r9.1.Nodes)] 25)],13⟩) (want1 rfl rfl rfl h70) (op_bsl und23 inf43 rfl rfl rfl rfl rfl rfl rfl) rfl rfl ?_))
 refine RD.fcall (u:=.agg [.isl false (List.map cGNode r75.Nodes)]) (args:=[.sl 12 0 1 1]) (σ1:=⟨[(8,.row [.isl false (List.map cGNode r47.1.Nodes)] 25),(7,.row [.isl false (List.map cGNode r19.1.Nodes)] 25),(3,.row [.isl false (List.map cGNode r9.1.Nodes)] 25)],13⟩) (want1 rfl rfl rfl h70) (op_call rfl rfl fn32 hb32 rfl rfl) (Gh.fz (tm':=[.isl false (List.map cGNode ([r73]))]) (h':=[(8,.row [.isl false (List.map cGNode r47.1.Nodes)] 25),(7,.row [.isl false (List.map cGNode r19.1.Nodes)] 25),(3,.row [.isl false (List.map cGNode r9.1.Nodes)] 25)]) 12 (.row [.int .i64 r73.Typex,.isl false (List.map cGArc r73.Arcs)] 43) 2 rfl (by simp) (by simp only [oneU,fzL_nil,fzL_cons,fz_int,fz_bool,fz_str,fz_nils,fz_nilp,fz_nilm,fz_nilf,fz_junk,fz_isl,fz_map,fz_agg,fz_tup,fz_fn,junkT,fz_sl,fz_p0,fz_cGNode,Nat.reduceLeDiff,Nat.reduceMul,List.length_cons,List.length_nil,Nat.reduceAdd]<;>simp only [chunks,List.take,List.drop,List.map,cGNode]) (by simp only [fzH,fzB,ug,Nat.beq,cond_true,cond_false,oneU,fzL_nil,fzL_cons,fz_int,fz_bool,fz_str,fz_nils,fz_nilp,fz_nilm,fz_nilf,fz_junk,fz_isl,fz_map,fz_agg,fz_tup,fz_fn,junkT,fz_sl,fz_p0,fz_cGNode,Nat.reduceLeDiff,Nat.reduceMul,List.length_cons,List.length_nil,Nat.reduceAdd]<;>simp only [chunks,List.take,List.drop,List.map,cGNode])) (Nat.le_of_ble_eq_true rfl) (law07_of_ok n ([r73]) r75 h76 _) rfl rfl ?_
 refine RD.free (u:=.bool r77) (args:=[.agg [.isl false (List.map cGNode r71.Nodes)],.agg [.isl false (List.map cGNode r75.Nodes)]]) (want1 rfl rfl rfl h70) (op_call rfl rfl fn14 hb14 rfl rfl) (fun s=>ref07_Equal_ok n r71 r75 r77 h78 s) rfl rfl (RD.q (u:=.bool r77) rfl (op_pick1 rfl h70 rfl) (RD.mv rfl rfl rfl rfl ?_))
 repeat refine RD.no (want0 rfl rfl rfl h79) rfl rfl ?_
 refine RD.q (u:=.bool false) rfl (op_pick0 rfl h79 rfl) (RD.mv rfl rfl rfl rfl ?_)
 repeat refine RD.no (want0 rfl rfl rfl rfl) rfl rfl ?_
 refine RD.q (u:=.bool false) rfl (op_pick0 rfl rfl rfl) (RD.as rfl rfl rfl rfl ?_)
 refine RD.done ⟨by kernel_rfl,trivial,?_⟩
 refine st ?_
 exact ⟨_,_,⟨rfl,rfl⟩,(Nat.zero_le _),Gh.toC (n1:=9) ⟨rfl,trivial⟩ rfl (Nat.zero_le _) (by simp)⟩
 replace h88:=cond_f h70 h88
 replace h88:=Option.some.inj h88
 subst h88
 refine WPU.drawE Try.tb_ok [] (by kernel_rfl) ?_
 refine RD.mv rfl rfl rfl rfl (RD.q rfl (op_int rfl rfl (ix_eql _ _ _) rfl) (RD.mv rfl rfl rfl rfl (RD.look (u:=.agg [.isl false (List.map cGNode r9.1.Nodes)]) (want1 rfl rfl rfl h49) (ld_agg und25 rfl (sz_of inf25) rfl rfl rfl) rfl rfl (RD.free (u:=.agg [.isl false (List.map cGNode r50.Nodes)]) (args:=[.agg [.isl false (List.map cGNode r9.1.Nodes)],.int .i64 1]) (want1 rfl rfl rfl h49) (op_call rfl rfl fn20 hb20 rfl rfl) (fun s=>graph_Sub_ok n (GFS.mk r9.1.Nodes) 1 r50 h51 s) rfl rfl (RD.freeO (u:=.isl false (List.map (cI .i64) ([0,1]))) (want1 rfl rfl rfl h49) (FreeO.bs (cs:=[.int .i64 0,.int .i64 1]) und55 inf3 rfl rfl rfl rfl rfl rfl rfl rfl rfl) rfl rfl (RD.free (u:=.agg (cGNode r52)) (args:=[.int .i64 3,.isl false (List.map (cI .i64) ([0,1]))]) (want1 rfl rfl rfl h49) (op_call rfl rfl fn29 hb29 rfl rfl) (fun s=>law07_node_ok n 3 ([0,1]) r52 h53 s) rfl rfl (RD.free (u:=.agg (cGNode r54)) (args:=[.int .i64 2,.nils]) (want1 rfl rfl rfl h49) (op_call rfl rfl fn29 hb29 rfl rfl) (fun s=>EvU.wkA (args':=[.int .i64 2,.isl false []]) (.cons (.refl _) (.cons (.nil false) .nil)) (fun s=>law07_node_ok n 2 [] r54 h55 s) s) rfl rfl ?_)))))))
 refine RD.act (u:=.sl 9 0 2 2) (σ':=⟨[(9,.row [.int .i64 r52.Typex,.isl false (List.map cGArc r52.Arcs),.int .i64 r54.Typex,.isl false (List.map cGArc r54.Arcs)] 43),(8,.row [.isl false (List.map cGNode r47.1.Nodes)] 25),(7,.row [.isl false (List.map cGNode r19.1.Nodes)] 25),(3,.row [.isl false (List.map cGNode r9.1.Nodes)] 25)],10⟩) (want1 rfl rfl rfl h49) (op_bsl und23 inf43 rfl rfl rfl rfl rfl rfl rfl) rfl rfl ?_
 refine RD.fcall (u:=.agg [.isl false (List.map cGNode r56.Nodes)]) (args:=[.sl 9 0 2 2]) (σ1:=⟨[(8,.row [.isl false (List.map cGNode r47.1.Nodes)] 25),(7,.row [.isl false (List.map cGNode r19.1.Nodes)] 25),(3,.row [.isl false (List.map cGNode r9.1.Nodes)] 25)],10⟩) (want1 rfl rfl rfl h49) (op_call rfl rfl fn32 hb32 rfl rfl) (Gh.fz (tm':=[.isl false (List.map cGNode ([r52,r54]))]) (h':=[(8,.row [.isl false (List.map cGNode r47.1.Nodes)] 25),(7,.row [.isl false (List.map cGNode r19.1.Nodes)] 25),(3,.row [.isl false (List.map cGNode r9.1.Nodes)] 25)]) 9 (.row [.int .i64 r52.Typex,.isl false (List.map cGArc r52.Arcs),.int .i64 r54.Typex,.isl false (List.map cGArc r54.Arcs)] 43) 2 rfl (by simp) (by simp only [oneU,fzL_nil,fzL_cons,fz_int,fz_bool,fz_str,fz_nils,fz_nilp,fz_nilm,fz_nilf,fz_junk,fz_isl,fz_map,fz_agg,fz_tup,fz_fn,junkT,fz_sl,fz_p0,Nat.reduceLeDiff,Nat.reduceMul,List.length_cons,List.length_nil,Nat.reduceAdd]<;>simp only [chunks,List.take,List.drop,List.map,cGNode]) (by simp only [fzH,fzB,ug,Nat.beq,cond_true,cond_false,oneU,fzL_nil,fzL_cons,fz_int,fz_bool,fz_str,fz_nils,fz_nilp,fz_nilm,fz_nilf,fz_junk,fz_isl,fz_map,fz_agg,fz_tup,fz_fn,junkT,fz_sl,fz_p0,Nat.reduceLeDiff,Nat.reduceMul,List.length_cons,List.length_nil,Nat.reduceAdd]<;>simp only [chunks,List.take,List.drop,List.map,cGNode])) (Nat.le_of_ble_eq_true rfl) (law07_of_ok n ([r52,r54]) r56 h57 _) rfl rfl ?_
 refine RD.free (u:=.bool r58) (args:=[.agg [.isl false (List.map cGNode r50.Nodes)],.agg [.isl false (List.map cGNode r56.Nodes)]]) (want1 rfl rfl rfl h49) (op_call rfl rfl fn14 hb14 rfl rfl) (fun s=>ref07_Equal_ok n r50 r56 r58 h59 s) rfl rfl (RD.q (u:=.bool r58) rfl (op_pick1 rfl h49 rfl) (RD.mv rfl rfl rfl rfl (RD.act (u:=.sl 10 0 2 2) (σ':=⟨[(10,.row [.int .i64 5,.int .i64 0] 3),(8,.row [.isl false (List.map cGNode r47.1.Nodes)] 25),(7,.row [.isl false (List.map cGNode r19.1.Nodes)] 25),(3,.row [.isl false (List.map cGNode r9.1.Nodes)] 25)],11⟩) (want1 rfl rfl rfl h60) (op_bsl und55 inf3 rfl rfl rfl rfl rfl rfl rfl) rfl rfl ?_)))
 refine RD.fcall (u:=.agg (cGNode r61)) (args:=[.int .i64 1,.sl 10 0 2 2]) (σ1:=⟨[(8,.row [.isl false (List.map cGNode r47.1.Nodes)] 25),(7,.row [.isl false (List.map cGNode r19.1.Nodes)] 25),(3,.row [.isl false (List.map cGNode r9.1.Nodes)] 25)],11⟩) (want1 rfl rfl rfl h60) (op_call rfl rfl fn29 hb29 rfl rfl) (Gh.fz (tm':=[.int .i64 1,.isl false (List.map (cI .i64) ([5,0]))]) (h':=[(8,.row [.isl false (List.map cGNode r47.1.Nodes)] 25),(7,.row [.isl false (List.map cGNode r19.1.Nodes)] 25),(3,.row [.isl false (List.map cGNode r9.1.Nodes)] 25)]) 10 (.row [.int .i64 5,.int .i64 0] 3) 1 rfl (by simp) (by simp only [oneU,fzL_nil,fzL_cons,fz_int,fz_bool,fz_str,fz_nils,fz_nilp,fz_nilm,fz_nilf,fz_junk,fz_isl,fz_map,fz_agg,fz_tup,fz_fn,junkT,fz_sl,fz_p0,Nat.reduceLeDiff,Nat.reduceMul,List.length_cons,List.length_nil,Nat.reduceAdd]<;>simp only [chunks,List.take,List.drop,List.map,cI,cB,cS,cL]) (by simp only [fzH,fzB,ug,Nat.beq,cond_true,cond_false,oneU,fzL_nil,fzL_cons,fz_int,fz_bool,fz_str,fz_nils,fz_nilp,fz_nilm,fz_nilf,fz_junk,fz_isl,fz_map,fz_agg,fz_tup,fz_fn,junkT,fz_sl,fz_p0,Nat.reduceLeDiff,Nat.reduceMul,List.length_cons,List.length_nil,Nat.reduceAdd]<;>simp only [chunks,List.take,List.drop,List.map,cI,cB,cS,cL])) (Nat.le_of_ble_eq_true rfl) (law07_node_ok n 1 ([5,0]) r61 h62 _) rfl rfl ?_
 refine RD.act (u:=.sl 11 0 1 1) (σ':=⟨[(11,.row (cGNode r61) 43),(8,.row [.isl false (List.map cGNode r47.1.Nodes)] 25),(7,.row [.isl false (List.map cGNode r19.1.Nodes)] 25),(3,.row [.isl false (List.map cGNode r9.1.Nodes)] 25)],12⟩) (want1 rfl rfl rfl h60) (op_bsl und23 inf43 rfl rfl rfl rfl rfl rfl rfl) rfl rfl ?_
 refine RD.fcall (u:=.agg [.isl false (List.map cGNode r63.Nodes)]) (args:=[.sl 11 0 1 1]) (σ1:=⟨[(8,.row [.isl false (List.map cGNode r47.1.Nodes)] 25),(7,.row [.isl false (List.map cGNode r19.1.Nodes)] 25),(3,.row [.isl false (List.map cGNode r9.1.Nodes)] 25)],12⟩) (want1 rfl rfl rfl h60) (op_call rfl rfl fn32 hb32 rfl rfl) (Gh.fz (tm':=[.isl false (List.map cGNode ([r61]))]) (h':=[(8,.row [.isl false (List.map cGNode r47.1.Nodes)] 25),(7,.row [.isl false (List.map cGNode r19.1.Nodes)] 25),(3,.row [.isl false (List.map cGNode r9.1.Nodes)] 25)]) 11 (.row [.int .i64 r61.Typex,.isl false (List.map cGArc r61.Arcs)] 43) 2 rfl (by simp) (by simp only [oneU,fzL_nil,fzL_cons,fz_int,fz_bool,fz_str,fz_nils,fz_nilp,fz_nilm,fz_nilf,fz_junk,fz_isl,fz_map,fz_agg,fz_tup,fz_fn,junkT,fz_sl,fz_p0,fz_cGNode,Nat.reduceLeDiff,Nat.reduceMul,List.length_cons,List.length_nil,Nat.reduceAdd]<;>simp only [chunks,List.take,List.drop,List.map,cGNode]) (by simp only [fzH,fzB,ug,Nat.beq,cond_true,cond_false,oneU,fzL_nil,fzL_cons,fz_int,fz_bool,fz_str,fz_nils,fz_nilp,fz_nilm,fz_nilf,fz_junk,fz_isl,fz_map,fz_agg,fz_tup,fz_fn,junkT,fz_sl,fz_p0,fz_cGNode,Nat.reduceLeDiff,Nat.reduceMul,List.length_cons,List.length_nil,Nat.reduceAdd]<;>simp only [chunks,List.take,List.drop,List.map,cGNode])) (Nat.le_of_ble_eq_true rfl) (law07_of_ok n ([r61]) r63 h64 _) rfl rfl ?_
 refine RD.free (u:=.bool r65) (args:=[.agg [.isl false (List.map cGNode r63.Nodes)]]) (want1 rfl rfl rfl h60) (op_call rfl rfl fn22 hb22 rfl rfl) (fun s=>graph_Cyclic_ok n r63 r65 h66 s) rfl rfl (RD.q (u:=.bool r65) rfl (op_pick1 rfl h60 rfl) (RD.mv rfl rfl rfl rfl (RD.look (u:=.agg [.isl false (List.map cGNode r9.1.Nodes)]) (want1 rfl rfl rfl h67) (ld_agg und25 rfl (sz_of inf25) rfl rfl rfl) rfl rfl (RD.free (u:=.bool r68) (args:=[.agg [.isl false (List.map cGNode r9.1.Nodes)]]) (want1 rfl rfl rfl h67) (op_call rfl rfl fn22 hb22 rfl rfl) (fun s=>graph_Cyclic_ok n (GFS.mk r9.1.Nodes) r68 h69 s) rfl rfl (RD.look (u:=.bool (!r68)) (want1 rfl rfl rfl h67) (op_un rfl rfl rfl rfl) rfl rfl (RD.q (u:=.bool (!r68)) rfl (op_pick1 rfl h67 rfl) (RD.mv rfl rfl rfl rfl ?_)))))))
 repeat refine RD.no (want0 rfl rfl rfl h70) rfl rfl ?_
 refine RD.q (u:=.bool false) rfl (op_pick0 rfl h70 rfl) (RD.mv rfl rfl rfl rfl ?_)
 repeat refine RD.no (want0 rfl rfl rfl rfl) rfl rfl ?_
 refine RD.q (u:=.bool false) rfl (op_pick0 rfl rfl rfl) (RD.mv rfl rfl rfl rfl ?_)
 repeat refine RD.no (want0 rfl rfl rfl rfl) rfl rfl ?_
 refine RD.q (u:=.bool false) rfl (op_pick0 rfl rfl rfl) (RD.as rfl rfl rfl rfl ?_)
 refine RD.done ⟨by kernel_rfl,trivial,?_⟩
 refine st ?_
 exact ⟨_,_,⟨rfl,rfl⟩,(Nat.zero_le _),Gh.toC (n1:=9) ⟨rfl,trivial⟩ rfl (Nat.zero_le _) (by simp)⟩
 replace h88:=cond_f h67 h88
 replace h88:=Option.some.inj h88
 subst h88
 refine WPU.drawE Try.tb_ok [] (by kernel_rfl) ?_
 refine RD.mv rfl rfl rfl rfl (RD.q rfl (op_int rfl rfl (ix_eql _ _ _) rfl) (RD.mv rfl rfl rfl rfl (RD.look (u:=.agg [.isl false (List.map cGNode r9.1.Nodes)]) (want1 rfl rfl rfl h49) (ld_agg und25 rfl (sz_of inf25) rfl rfl rfl) rfl rfl (RD.free (u:=.agg [.isl false (List.map cGNode r50.Nodes)]) (args:=[.agg [.isl false (List.map cGNode r9.1.Nodes)],.int .i64 1]) (want1 rfl rfl rfl h49) (op_call rfl rfl fn20 hb20 rfl rfl) (fun s=>graph_Sub_ok n (GFS.mk r9.1.Nodes) 1 r50 h51 s) rfl rfl (RD.freeO (u:=.isl false (List.map (cI .i64) ([0,1]))) (want1 rfl rfl rfl h49) (FreeO.bs (cs:=[.int .i64 0,.int .i64 1]) und55 inf3 rfl rfl rfl rfl rfl rfl rfl rfl rfl) rfl rfl (RD.free (u:=.agg (cGNode r52)) (args:=[.int .i64 3,.isl false (List.map (cI .i64) ([0,1]))]) (want1 rfl rfl rfl h49) (op_call rfl rfl fn29 hb29 rfl rfl) (fun s=>law07_node_ok n 3 ([0,1]) r52 h53 s) rfl rfl (RD.free (u:=.agg (cGNode r54)) (args:=[.int .i64 2,.nils]) (want1 rfl rfl rfl h49) (op_call rfl rfl fn29 hb29 rfl rfl) (fun s=>EvU.wkA (args':=[.int .i64 2,.isl false []]) (.cons (.refl _) (.cons (.nil false) .nil)) (fun s=>law07_node_ok n 2 [] r54 h55 s) s) rfl rfl ?_)))))))
 refine RD.act (u:=.sl 9 0 2 2) (σ':=⟨[(9,.row [.int .i64 r52.Typex,.isl false (List.map cGArc r52.Arcs),.int .i64 r54.Typex,.isl false (List.map cGArc r54.Arcs)] 43),(8,.row [.isl false (List.map cGNode r47.1.Nodes)] 25),(7,.row [.isl false (List.map cGNode r19.1.Nodes)] 25),(3,.row [.isl false (List.map cGNode r9.1.Nodes)] 25)],10⟩) (want1 rfl rfl rfl h49) (op_bsl und23 inf43 rfl rfl rfl rfl rfl rfl rfl) rfl rfl ?_
 refine RD.fcall (u:=.agg [.isl false (List.map cGNode r56.Nodes)]) (args:=[.sl 9 0 2 2]) (σ1:=⟨[(8,.row [.isl false (List.map cGNode r47.1.Nodes)] 25),(7,.row [.isl false (List.map cGNode r19.1.Nodes)] 25),(3,.row [.isl false (List.map cGNode r9.1.Nodes)] 25)],10⟩) (want1 rfl rfl rfl h49) (op_call rfl rfl fn32 hb32 rfl rfl) (Gh.fz (tm':=[.isl false (List.map cGNode ([r52,r54]))]) (h':=[(8,.row [.isl false (List.map cGNode r47.1.Nodes)] 25),(7,.row [.isl false (List.map cGNode r19.1.Nodes)] 25),(3,.row [.isl false (List.map cGNode r9.1.Nodes)] 25)]) 9 (.row [.int .i64 r52.Typex,.isl false (List.map cGArc r52.Arcs),.int .i64 r54.Typex,.isl false (List.map cGArc r54.Arcs)] 43) 2 rfl (by simp) (by simp only [oneU,fzL_nil,fzL_cons,fz_int,fz_bool,fz_str,fz_nils,fz_nilp,fz_nilm,fz_nilf,fz_junk,fz_isl,fz_map,fz_agg,fz_tup,fz_fn,junkT,fz_sl,fz_p0,Nat.reduceLeDiff,Nat.reduceMul,List.length_cons,List.length_nil,Nat.reduceAdd]<;>simp only [chunks,List.take,List.drop,List.map,cGNode]) (by simp only [fzH,fzB,ug,Nat.beq,cond_true,cond_false,oneU,fzL_nil,fzL_cons,fz_int,fz_bool,fz_str,fz_nils,fz_nilp,fz_nilm,fz_nilf,fz_junk,fz_isl,fz_map,fz_agg,fz_tup,fz_fn,junkT,fz_sl,fz_p0,Nat.reduceLeDiff,Nat.reduceMul,List.length_cons,List.length_nil,Nat.reduceAdd]<;>simp only [chunks,List.take,List.drop,List.map,cGNode])) (Nat.le_of_ble_eq_true rfl) (law07_of_ok n ([r52,r54]) r56 h57 _) rfl rfl ?_
 refine RD.free (u:=.bool r58) (args:=[.agg [.isl false (List.map cGNode r50.Nodes)],.agg [.isl false (List.map cGNode r56.Nodes)]]) (want1 rfl rfl rfl h49) (op_call rfl rfl fn14 hb14 rfl rfl) (fun s=>ref07_Equal_ok n r50 r56 r58 h59 s) rfl rfl (RD.q (u:=.bool r58) rfl (op_pick1 rfl h49 rfl) (RD.mv rfl rfl rfl rfl (RD.act (u:=.sl 10 0 2 2) (σ':=⟨[(10,.row [.int .i64 5,.int .i64 0] 3),(8,.row [.isl false (List.map cGNode r47.1.Nodes)] 25),(7,.row [.isl false (List.map cGNode r19.1.Nodes)] 25),(3,.row [.isl false (List.map cGNode r9.1.Nodes)] 25)],11⟩) (want1 rfl rfl rfl h60) (op_bsl und55 inf3 rfl rfl rfl rfl rfl rfl rfl) rfl rfl ?_)))
 refine RD.fcall (u:=.agg (cGNode r61)) (args:=[.int .i64 1,.sl 10 0 2 2]) (σ1:=⟨[(8,.row [.isl false (List.map cGNode r47.1.Nodes)] 25),(7,.row [.isl false (List.map cGNode r19.1.Nodes)] 25),(3,.row [.isl false (List.map cGNode r9.1.Nodes)] 25)],11⟩) (want1 rfl rfl rfl h60) (op_call rfl rfl fn29 hb29 rfl rfl) (Gh.fz (tm':=[.int .i64 1,.isl false (List.map (cI .i64) ([5,0]))]) (h':=[(8,.row [.isl false (List.map cGNode r47.1.Nodes)] 25),(7,.row [.isl false (List.map cGNode r19.1.Nodes)] 25),(3,.row [.isl false (List.map cGNode r9.1.Nodes)] 25)]) 10 (.row [.int .i64 5,.int .i64 0] 3) 1 rfl (by simp) (by simp only [oneU,fzL_nil,fzL_cons,fz_int,fz_bool,fz_str,fz_nils,fz_nilp,fz_nilm,fz_nilf,fz_junk,fz_isl,fz_map,fz_agg,fz_tup,fz_fn,junkT,fz_sl,fz_p0,Nat.reduceLeDiff,Nat.reduceMul,List.length_cons,List.length_nil,Nat.reduceAdd]<;>simp only [chunks,List.take,List.drop,List.map,cI,cB,cS,cL]) (by simp only [fzH,fzB,ug,Nat.beq,cond_true,cond_false,oneU,fzL_nil,fzL_cons,fz_int,fz_bool,fz_str,fz_nils,fz_nilp,fz_nilm,fz_nilf,fz_junk,fz_isl,fz_map,fz_agg,fz_tup,fz_fn,junkT,fz_sl,fz_p0,Nat.reduceLeDiff,Nat.reduceMul,List.length_cons,List.length_nil,Nat.reduceAdd]<;>simp only [chunks,List.take,List.drop,List.map,cI,cB,cS,cL])) (Nat.le_of_ble_eq_true rfl) (law07_node_ok n 1 ([5,0]) r61 h62 _) rfl rfl ?_
 refine RD.act (u:=.sl 11 0 1 1) (σ':=⟨[(11,.row (cGNode r61) 43),(8,.row [.isl false (List.map cGNode r47.1.Nodes)] 25),(7,.row [.isl false (List.map cGNode r19.1.Nodes)] 25),(3,.row [.isl false (List.map cGNode r9.1.Nodes)] 25)],12⟩) (want1 rfl rfl rfl h60) (op_bsl und23 inf43 rfl rfl rfl rfl rfl rfl rfl) rfl rfl ?_
 refine RD.fcall (u:=.agg [.isl false (List.map cGNode r63.Nodes)]) (args:=[.sl 11 0 1 1]) (σ1:=⟨[(8,.row [.isl false (List.map cGNode r47.1.Nodes)] 25),(7,.row [.isl false (List.map cGNode r19.1.Nodes)] 25),(3,.row [.isl false (List.map cGNode r9.1.Nodes)] 25)],12⟩) (want1 rfl rfl rfl h60) (op_call rfl rfl fn32 hb32 rfl rfl) (Gh.fz (tm':=[.isl false (List.map cGNode ([r61]))]) (h':=[(8,.row [.isl false (List.map cGNode r47.1.Nodes)] 25),(7,.row [.isl false (List.map cGNode r19.1.Nodes)] 25),(3,.row [.isl false (List.map cGNode r9.1.Nodes)] 25)]) 11 (.row [.int .i64 r61.Typex,.isl false (List.map cGArc r61.Arcs)] 43) 2 rfl (by simp) (by simp only [oneU,fzL_nil,fzL_cons,fz_int,fz_bool,fz_str,fz_nils,fz_nilp,fz_nilm,fz_nilf,fz_junk,fz_isl,fz_map,fz_agg,fz_tup,fz_fn,junkT,fz_sl,fz_p0,fz_cGNode,Nat.reduceLeDiff,Nat.reduceMul,List.length_cons,List.length_nil,Nat.reduceAdd]<;>simp only [chunks,List.take,List.drop,List.map,cGNode]) (by simp only [fzH,fzB,ug,Nat.beq,cond_true,cond_false,oneU,fzL_nil,fzL_cons,fz_int,fz_bool,fz_str,fz_nils,fz_nilp,fz_nilm,fz_nilf,fz_junk,fz_isl,fz_map,fz_agg,fz_tup,fz_fn,junkT,fz_sl,fz_p0,fz_cGNode,Nat.reduceLeDiff,Nat.reduceMul,List.length_cons,List.length_nil,Nat.reduceAdd]<;>simp only [chunks,List.take,List.drop,List.map,cGNode])) (Nat.le_of_ble_eq_true rfl) (law07_of_ok n ([r61]) r63 h64 _) rfl rfl ?_
 refine RD.free (u:=.bool r65) (args:=[.agg [.isl false (List.map cGNode r63.Nodes)]]) (want1 rfl rfl rfl h60) (op_call rfl rfl fn22 hb22 rfl rfl) (fun s=>graph_Cyclic_ok n r63 r65 h66 s) rfl rfl (RD.q (u:=.bool r65) rfl (op_pick1 rfl h60 rfl) (RD.mv rfl rfl rfl rfl ?_))
 repeat refine RD.no (want0 rfl rfl rfl h67) rfl rfl ?_
 refine RD.q (u:=.bool false) rfl (op_pick0 rfl h67 rfl) (RD.mv rfl rfl rfl rfl ?_)
 repeat refine RD.no (want0 rfl rfl rfl rfl) rfl rfl ?_
 refine RD.q (u:=.bool false) rfl (op_pick0 rfl rfl rfl) (RD.mv rfl rfl rfl rfl ?_)
 repeat refine RD.no (want0 rfl rfl rfl rfl) rfl rfl ?_
 refine RD.q (u:=.bool false) rfl (op_pick0 rfl rfl rfl) (RD.mv rfl rfl rfl rfl ?_)
 repeat refine RD.no (want0 rfl rfl rfl rfl) rfl rfl ?_
 refine RD.q (u:=.bool false) rfl (op_pick0 rfl rfl rfl) (RD.as rfl rfl rfl rfl ?_)
 refine RD.done ⟨by kernel_rfl,trivial,?_⟩
 refine st ?_
 exact ⟨_,_,⟨rfl,rfl⟩,(Nat.zero_le _),Gh.toC (n1:=9) ⟨rfl,trivial⟩ rfl (Nat.zero_le _) (by simp)⟩
 replace h88:=cond_f h60 h88
 replace h88:=Option.some.inj h88
 subst h88
 refine WPU.drawE Try.tb_ok [] (by kernel_rfl) ?_
 refine RD.mv rfl rfl rfl rfl (RD.q rfl (op_int rfl rfl (ix_eql _ _ _) rfl) (RD.mv rfl rfl rfl rfl (RD.look (u:=.agg [.isl false (List.map cGNode r9.1.Nodes)]) (want1 rfl rfl rfl h49) (ld_agg und25 rfl (sz_of inf25) rfl rfl rfl) rfl rfl (RD.free (u:=.agg [.isl false (List.map cGNode r50.Nodes)]) (args:=[.agg [.isl false (List.map cGNode r9.1.Nodes)],.int .i64 1]) (want1 rfl rfl rfl h49) (op_call rfl rfl fn20 hb20 rfl rfl) (fun s=>graph_Sub_ok n (GFS.mk r9.1.Nodes) 1 r50 h51 s) rfl rfl (RD.freeO (u:=.isl false (List.map (cI .i64) ([0,1]))) (want1 rfl rfl rfl h49) (FreeO.bs (cs:=[.int .i64 0,.int .i64 1]) und55 inf3 rfl rfl rfl rfl rfl rfl rfl rfl rfl) rfl rfl (RD.free (u:=.agg (cGNode r52)) (args:=[.int .i64 3,.isl false (List.map (cI .i64) ([0,1]))]) (want1 rfl rfl rfl h49) (op_call rfl rfl fn29 hb29 rfl rfl) (fun s=>law07_node_ok n 3 ([0,1]) r52 h53 s) rfl rfl (RD.free (u:=.agg (cGNode r54)) (args:=[.int .i64 2,.nils]) (want1 rfl rfl rfl h49) (op_call rfl rfl fn29 hb29 rfl rfl) (fun s=>EvU.wkA (args':=[.int .i64 2,.isl false []]) (.cons (.refl _) (.cons (.nil false) .nil)) (fun s=>law07_node_ok n 2 [] r54 h55 s) s) rfl rfl ?_)))))))
 refine RD.act (u:=.sl 9 0 2 2) (σ':=⟨[(9,.row [.int .i64 r52.Typex,.isl false (List.map cGArc r52.Arcs),.int .i64 r54.Typex,.isl false (List.map cGArc r54.Arcs)] 43),(8,.row [.isl false (List.map cGNode r47.1.Nodes)] 25),(7,.row [.isl false (List.map cGNode r19.1.Nodes)] 25),(3,.row [.isl false (List.map cGNode r9.1.Nodes)] 25)],10⟩) (want1 rfl rfl rfl h49) (op_bsl und23 inf43 rfl rfl rfl rfl rfl rfl rfl) rfl rfl ?_
 refine RD.fcall (u:=.agg [.isl false (List.map cGNode r56.Nodes)]) (args:=[.sl 9 0 2 2]) (σ1:=⟨[(8,.row [.isl false (List.map cGNode r47.1.Nodes)] 25),(7,.row [.isl false (List.map cGNode r19.1.Nodes)] 25),(3,.row [.isl false (List.map cGNode r9.1.Nodes)] 25)],10⟩) (want1 rfl rfl rfl h49) (op_call rfl rfl fn32 hb32 rfl rfl) (Gh.fz (tm':=[.isl false (List.map cGNode ([r52,r54]))]) (h':=[(8,.row [.isl false (List.map cGNode r47.1.Nodes)] 25),(7,.row [.isl false (List.map cGNode r19.1.Nodes)] 25),(3,.row [.isl false (List.map cGNode r9.1.Nodes)] 25)]) 9 (.row [.int .i64 r52.Typex,.isl false (List.map cGArc r52.Arcs),.int .i64 r54.Typex,.isl false (List.map cGArc r54.Arcs)] 43) 2 rfl (by simp) (by simp only [oneU,fzL_nil,fzL_cons,fz_int,fz_bool,fz_str,fz_nils,fz_nilp,fz_nilm,fz_nilf,fz_junk,fz_isl,fz_map,fz_agg,fz_tup,fz_fn,junkT,fz_sl,fz_p0,Nat.reduceLeDiff,Nat.reduceMul,List.length_cons,List.length_nil,Nat.reduceAdd]<;>simp only [chunks,List.take,List.drop,List.map,cGNode]) (by simp only [fzH,fzB,ug,Nat.beq,cond_true,cond_false,oneU,fzL_nil,fzL_cons,fz_int,fz_bool,fz_str,fz_nils,fz_nilp,fz_nilm,fz_nilf,fz_junk,fz_isl,fz_map,fz_agg,fz_tup,fz_fn,junkT,fz_sl,fz_p0,Nat.reduceLeDiff,Nat.reduceMul,List.length_cons,List.length_nil,Nat.reduceAdd]<;>simp only [chunks,List.take,List.drop,List.map,cGNode])) (Nat.le_of_ble_eq_true rfl) (law07_of_ok n ([r52,r54]) r56 h57 _) rfl rfl ?_
 refine RD.free (u:=.bool r58) (args:=[.agg [.isl false (List.map cGNode r50.Nodes)],.agg [.isl false (List.map cGNode r56.Nodes)]]) (want1 rfl rfl rfl h49) (op_call rfl rfl fn14 hb14 rfl rfl) (fun s=>ref07_Equal_ok n r50 r56 r58 h59 s) rfl rfl (RD.q (u:=.bool r58) rfl (op_pick1 rfl h49 rfl) (RD.mv rfl rfl rfl rfl ?_))
 repeat refine RD.no (want0 rfl rfl rfl h60) rfl rfl ?_
 refine RD.q (u:=.bool false) rfl (op_pick0 rfl h60 rfl) (RD.mv rfl rfl rfl rfl ?_)
 repeat refine RD.no (want0 rfl rfl rfl rfl) rfl rfl ?_
 refine RD.q (u:=.bool false) rfl (op_pick0 rfl rfl rfl) (RD.mv rfl rfl rfl rfl ?_)
 repeat refine RD.no (want0 rfl rfl rfl rfl) rfl rfl ?_
 refine RD.q (u:=.bool false) rfl (op_pick0 rfl rfl rfl) (RD.mv rfl rfl rfl rfl ?_)
 repeat refine RD.no (want0 rfl rfl rfl rfl) rfl rfl ?_
 refine RD.q (u:=.bool false) rfl (op_pick0 rfl rfl rfl) (RD.mv rfl rfl rfl rfl ?_)
 repeat refine RD.no (want0 rfl rfl rfl rfl) rfl rfl ?_
 refine RD.q (u:=.bool false) rfl (op_pick0 rfl rfl rfl) (RD.as rfl rfl rfl rfl ?_)
 refine RD.done ⟨by kernel_rfl,trivial,?_⟩
 refine st ?_
 exact ⟨_,_,⟨rfl,rfl⟩,(Nat.zero_le _),Gh.toC (n1:=9) ⟨rfl,trivial⟩ rfl (Nat.zero_le _) (by simp)⟩
 replace h88:=cond_f h49 h88
 replace h88:=Option.some.inj h88
 subst h88
 refine WPU.drawE Try.tb_ok [] (by kernel_rfl) ?_
 refine RD.mv rfl rfl rfl rfl (RD.q rfl (op_int rfl rfl (ix_eql _ _ _) rfl) (RD.mv rfl rfl rfl rfl ?_))
 repeat refine RD.no (want0 rfl rfl rfl h49) rfl rfl ?_
 refine RD.q (u:=.bool false) rfl (op_pick0 rfl h49 rfl) (RD.mv rfl rfl rfl rfl ?_)
 repeat refine RD.no (want0 rfl rfl rfl rfl) rfl rfl ?_
 refine RD.q (u:=.bool false) rfl (op_pick0 rfl rfl rfl) (RD.mv rfl rfl rfl rfl ?_)
 repeat refine RD.no (want0 rfl rfl rfl rfl) rfl rfl ?_
 refine RD.q (u:=.bool false) rfl (op_pick0 rfl rfl rfl) (RD.mv rfl rfl rfl rfl ?_)
 repeat refine RD.no (want0 rfl rfl rfl rfl) rfl rfl ?_
 refine RD.q (u:=.bool false) rfl (op_pick0 rfl rfl rfl) (RD.mv rfl rfl rfl rfl ?_)
 repeat refine RD.no (want0 rfl rfl rfl rfl) rfl rfl ?_
 refine RD.q (u:=.bool false) rfl (op_pick0 rfl rfl rfl) (RD.mv rfl rfl rfl rfl ?_)
 repeat refine RD.no (want0 rfl rfl rfl rfl) rfl rfl ?_
 refine RD.q (u:=.bool false) rfl (op_pick0 rfl rfl rfl) (RD.as rfl rfl rfl rfl ?_)
 refine RD.done ⟨by kernel_rfl,trivial,?_⟩
 refine st ?_
 exact ⟨_,_,⟨rfl,rfl⟩,(Nat.zero_le _),Gh.toC (n1:=9) ⟨rfl,trivial⟩ rfl (Nat.zero_le _) (by simp)⟩
 rcases bool_tf (r9.2 != 0) with h21 | h21
 replace h45:=cond_t h21 h45
 replace h45:=Option.some.inj h45
 subst h45
 refine WPU.drawE Try.tb_ok [] (by kernel_rfl) ?_
 refine RD.mv rfl rfl rfl rfl (RD.q rfl (op_int rfl rfl (ix_neq _ _ _) rfl) (RD.mv rfl rfl rfl rfl ?_))
 repeat refine RD.no (want0 rfl rfl rfl h21) rfl rfl ?_
 refine RD.q (u:=.bool true) rfl (op_pick1 rfl h21 rfl) (RD.mv rfl rfl rfl rfl ?_)
 repeat refine RD.no (want0 rfl rfl rfl rfl) rfl rfl ?_
 refine RD.q (u:=.bool true) rfl (op_pick1 rfl rfl rfl) (RD.mv rfl rfl rfl rfl ?_)
 repeat refine RD.no (want0 rfl rfl rfl rfl) rfl rfl ?_
 refine RD.q (u:=.bool true) rfl (op_pick1 rfl rfl rfl) ?_
 refine RD.done ⟨by kernel_rfl,trivial,?_⟩
 refine st ?_
 exact ⟨_,_,⟨rfl,rfl⟩,(Nat.zero_le _),Gh.toC (n1:=8) ⟨rfl,rfl,trivial⟩ rfl (Nat.zero_le _) (by simp)⟩
 replace h45:=cond_f h21 h45
 rcases bool_tf (r19.2 != 0) with h22 | h22
 replace h45:=cond_t h22 h45
 replace h45:=Option.some.inj h45
 subst h45
 refine WPU.drawE Try.tb_ok [] (by kernel_rfl) ?_
 refine RD.mv rfl rfl rfl rfl (RD.q rfl (op_int rfl rfl (ix_neq _ _ _) rfl) (RD.mv rfl rfl rfl rfl (RD.look (want1 rfl rfl rfl h21) (op_move rfl) rfl rfl (RD.look (want1 rfl rfl rfl h21) (op_int rfl rfl (ix_neq _ _ _) rfl) rfl rfl (RD.q (u:=.bool (r19.2 != 0)) rfl (op_pick0 rfl h21 rfl) (RD.mv rfl rfl rfl rfl ?_))))))
 repeat refine RD.no (want0 rfl rfl rfl h22) rfl rfl ?_
 refine RD.q (u:=.bool true) rfl (op_pick1 rfl h22 rfl) (RD.mv rfl rfl rfl rfl ?_)
 repeat refine RD.no (want0 rfl rfl rfl rfl) rfl rfl ?_
 refine RD.q (u:=.bool true) rfl (op_pick1 rfl rfl rfl) ?_
 refine RD.done ⟨by kernel_rfl,trivial,?_⟩
 refine st ?_
 exact ⟨_,_,⟨rfl,rfl⟩,(Nat.zero_le _),Gh.toC (n1:=8) ⟨rfl,rfl,trivial⟩ rfl (Nat.zero_le _) (by simp)⟩
 replace h45:=cond_f h22 h45
 obtain ⟨r23,h24,h45⟩:=bindO_some h45
 obtain ⟨r25,h26,h45⟩:=bindO_some h45
 obtain ⟨r27,h28,h45⟩:=bindO_some h45
 obtain ⟨r29,h30,h45⟩:=bindO_some h45
 obtain ⟨r31,h32,h45⟩:=bindO_some h45
 rcases bool_tf (!r31) with h33 | h33
 replace h45:=cond_t h33 h45
 replace h45:=Option.some.inj h45
 subst h45
 refine WPU.drawE Try.tb_ok [(7,13),(7,14)] (by kernel_rfl) ?_
 refine RD.mv rfl rfl rfl rfl (RD.q rfl (op_int rfl rfl (ix_neq _ _ _) rfl) (RD.mv rfl rfl rfl rfl (RD.look (want1 rfl rfl rfl h21) (op_move rfl) rfl rfl (RD.look (want1 rfl rfl rfl h21) (op_int rfl rfl (ix_neq _ _ _) rfl) rfl rfl (RD.q (u:=.bool (r19.2 != 0)) rfl (op_pick0 rfl h21 rfl) (RD.mv rfl rfl rfl rfl (RD.look (u:=.agg [.isl false (List.map cGNode r9.1.Nodes)]) (want1 rfl rfl rfl h22) (ld_agg und25 rfl (sz_of inf25) rfl rfl rfl) rfl rfl ?_)))))))
 refine RD.freeO (u:=.isl false (List.map (cI .i64) ([0,1,1,2]))) (want1 rfl rfl rfl h22) (FreeO.bs (cs:=[.int .i64 0,.int .i64 1,.int .i64 1,.int .i64 2]) und55 inf3 rfl rfl rfl rfl rfl rfl rfl rfl rfl) rfl rfl (RD.free (u:=.agg (cGNode r23)) (args:=[.int .i64 1,.isl false (List.map (cI .i64) ([0,1,1,2]))]) (want1 rfl rfl rfl h22) (op_call rfl rfl fn29 hb29 rfl rfl) (fun s=>law07_node_ok n 1 ([0,1,1,2]) r23 h24 s) rfl rfl (RD.freeO (u:=.isl false (List.map (cI .i64) ([0,2]))) (want1 rfl rfl rfl h22) (FreeO.bs (cs:=[.int .i64 0,.int .i64 2]) und55 inf3 rfl rfl rfl rfl rfl rfl rfl rfl rfl) rfl rfl (RD.free (u:=.agg (cGNode r25)) (args:=[.int .i64 3,.isl false (List.map (cI .i64) ([0,2]))]) (want1 rfl rfl rfl h22) (op_call rfl rfl fn29 hb29 rfl rfl) (fun s=>law07_node_ok n 3 ([0,2]) r25 h26 s) rfl rfl (RD.free (u:=.agg (cGNode r27)) (args:=[.int .i64 2,.nils]) (want1 rfl rfl rfl h22) (op_call rfl rfl fn29 hb29 rfl rfl) (fun s=>EvU.wkA (args':=[.int .i64 2,.isl false []]) (.cons (.refl _) (.cons (.nil false) .nil)) (fun s=>law07_node_ok n 2 [] r27 h28 s) s) rfl rfl (RD.act (u:=.sl 8 0 3 3) (σ':=⟨[(8,.row [.int .i64 r23.Typex,.isl false (List.map cGArc r23.Arcs),.int .i64 r25.Typex,.isl false (List.map cGArc r25.Arcs),.int .i64 r27.Typex,.isl false (List.map cGArc r27.Arcs)] 43),(7,.row [.isl false (List.map cGNode r19.1.Nodes)] 25),(3,.row [.isl false (List.map cGNode r9.1.Nodes)] 25)],9⟩) (want1 rfl rfl rfl h22) (op_bsl und23 inf43 rfl rfl rfl rfl rfl rfl rfl) rfl rfl ?_)))))
 refine RD.fcall (u:=.agg [.isl false (List.map cGNode r29.Nodes)]) (args:=[.sl 8 0 3 3]) (σ1:=⟨[(7,.row [.isl false (List.map cGNode r19.1.Nodes)] 25),(3,.row [.isl false (List.map cGNode r9.1.Nodes)] 25)],9⟩) (want1 rfl rfl rfl h22) (op_call rfl rfl fn32 hb32 rfl rfl) (Gh.fz (tm':=[.isl false (List.map cGNode ([r23,r25,r27]))]) (h':=[(7,.row [.isl false (List.map cGNode r19.1.Nodes)] 25),(3,.row [.isl false (List.map cGNode r9.1.Nodes)] 25)]) 8 (.row [.int .i64 r23.Typex,.isl false (List.map cGArc r23.Arcs),.int .i64 r25.Typex,.isl false (List.map cGArc r25.Arcs),.int .i64 r27.Typex,.isl false (List.map cGArc r27.Arcs)] 43) 2 rfl (by simp) (by simp only [oneU,fzL_nil,fzL_cons,fz_int,fz_bool,fz_str,fz_nils,fz_nilp,fz_nilm,fz_nilf,fz_junk,fz_isl,fz_map,fz_agg,fz_tup,fz_fn,junkT,fz_sl,fz_p0,Nat.reduceLeDiff,Nat.reduceMul,List.length_cons,List.length_nil,Nat.reduceAdd]<;>simp only [chunks,List.take,List.drop,List.map,cGNode]) (by simp only [fzH,fzB,ug,Nat.beq,cond_true,cond_false,oneU,fzL_nil,fzL_cons,fz_int,fz_bool,fz_str,fz_nils,fz_nilp,fz_nilm,fz_nilf,fz_junk,fz_isl,fz_map,fz_agg,fz_tup,fz_fn,junkT,fz_sl,fz_p0,Nat.reduceLeDiff,Nat.reduceMul,List.length_cons,List.length_nil,Nat.reduceAdd]<;>simp only [chunks,List.take,List.drop,List.map,cGNode])) (Nat.le_of_ble_eq_true rfl) (law07_of_ok n ([r23,r25,r27]) r29 h30 _) rfl rfl ?_
 refine RD.free (u:=.bool r31) (args:=[.agg [.isl false (List.map cGNode r9.1.Nodes)],.agg [.isl false (List.map cGNode r29.Nodes)]]) (want1 rfl rfl rfl h22) (op_call rfl rfl fn14 hb14 rfl rfl) (fun s=>ref07_Equal_ok n (GFS.mk r9.1.Nodes) r29 r31 h32 s) rfl rfl (RD.look (u:=.bool (!r31)) (want1 rfl rfl rfl h22) (op_un rfl rfl rfl rfl) rfl rfl (RD.q (u:=.bool (!r31)) rfl (op_pick0 rfl h22 rfl) (RD.mv rfl rfl rfl rfl ?_)))
 repeat refine RD.no (want0 rfl rfl rfl h33) rfl rfl ?_
 refine RD.q (u:=.bool true) rfl (op_pick1 rfl h33 rfl) ?_
 refine RD.done ⟨by kernel_rfl,⟨ld_agg und25 rfl (sz_of inf25) rfl rfl rfl,⟨ld_agg und25 rfl (sz_of inf25) rfl rfl rfl,trivial⟩⟩,?_⟩
 refine st ?_
 exact ⟨_,_,⟨rfl,rfl⟩,(Nat.zero_le _),Gh.toC (n1:=8) ⟨rfl,rfl,trivial⟩ rfl (Nat.zero_le _) (by simp)⟩
 replace h45:=cond_f h33 h45
 obtain ⟨r34,h35,h45⟩:=bindO_some h45
 obtain ⟨r36,h37,h45⟩:=bindO_some h45
 obtain ⟨r38,h39,h45⟩:=bindO_some h45
 obtain ⟨r40,h41,h45⟩:=bindO_some h45
 obtain ⟨r42,h43,h45⟩:=bindO_some h45
 replace h45:=Option.some.inj h45
 subst h45
 refine WPU.drawE Try.tb_ok [(7,13),(7,14),(19,25),(19,26)] (by kernel_rfl) ?_
 refine RD.mv rfl rfl rfl rfl (RD.q rfl (op_int rfl rfl (ix_neq _ _ _) rfl) (RD.mv rfl rfl rfl rfl (RD.look (want1 rfl rfl rfl h21) (op_move rfl) rfl rfl (RD.look (want1 rfl rfl rfl h21) (op_int rfl rfl (ix_neq _ _ _) rfl) rfl rfl (RD.q (u:=.bool (r19.2 != 0)) rfl (op_pick0 rfl h21 rfl) (RD.mv rfl rfl rfl rfl (RD.look (u:=.agg [.isl false (List.map cGNode r9.1.Nodes)]) (want1 rfl rfl rfl h22) (ld_agg und25 rfl (sz_of inf25) rfl rfl rfl) rfl rfl ?_)))))))
 refine RD.freeO (u:=.isl false (List.map (cI .i64) ([0,1,1,2]))) (want1 rfl rfl rfl h22) (FreeO.bs (cs:=[.int .i64 0,.int .i64 1,.int .i64 1,.int .i64 2]) und55 inf3 rfl rfl rfl rfl rfl rfl rfl rfl rfl) rfl rfl (RD.free (u:=.agg (cGNode r23)) (args:=[.int .i64 1,.isl false (List.map (cI .i64) ([0,1,1,2]))]) (want1 rfl rfl rfl h22) (op_call rfl rfl fn29 hb29 rfl rfl) (fun s=>law07_node_ok n 1 ([0,1,1,2]) r23 h24 s) rfl rfl (RD.freeO (u:=.isl false (List.map (cI .i64) ([0,2]))) (want1 rfl rfl rfl h22) (FreeO.bs (cs:=[.int .i64 0,.int .i64 2]) und55 inf3 rfl rfl rfl rfl rfl rfl rfl rfl rfl) rfl rfl (RD.free (u:=.agg (cGNode r25)) (args:=[.int .i64 3,.isl false (List.map (cI .i64) ([0,2]))]) (want1 rfl rfl rfl h22) (op_call rfl rfl fn29 hb29 rfl rfl) (fun s=>law07_node_ok n 3 ([0,2]) r25 h26 s) rfl rfl (RD.free (u:=.agg (cGNode r27)) (args:=[.int .i64 2,.nils]) (want1 rfl rfl rfl h22) (op_call rfl rfl fn29 hb29 rfl rfl) (fun s=>EvU.wkA (args':=[.int .i64 2,.isl false []]) (.cons (.refl _) (.cons (.nil false) .nil)) (fun s=>law07_node_ok n 2 [] r27 h28 s) s) rfl rfl (RD.act (u:=.sl 8 0 3 3) (σ':=⟨[(8,.row [.int .i64 r23.Typex,.isl false (List.map cGArc r23.Arcs),.int .i64 r25.Typex,.isl false (List.map cGArc r25.Arcs),.int .i64 r27.Typex,.isl false (List.map cGArc r27.Arcs)] 43),(7,.row [.isl false (List.map cGNode r19.1.Nodes)] 25),(3,.row [.isl false (List.map cGNode r9.1.Nodes)] 25)],9⟩) (want1 rfl rfl rfl h22) (op_bsl und23 inf43 rfl rfl rfl rfl rfl rfl rfl) rfl rfl ?_)))))
 refine RD.fcall (u:=.agg [.isl false (List.map cGNode r29.Nodes)]) (args:=[.sl 8 0 3 3]) (σ1:=⟨[(7,.row [.isl false (List.map cGNode r19.1.Nodes)] 25),(3,.row [.isl false (List.map cGNode r9.1.Nodes)] 25)],9⟩) (want1 rfl rfl rfl h22) (op_call rfl rfl fn32 hb32 rfl rfl) (Gh.fz (tm':=[.isl false (List.map cGNode ([r23,r25,r27]))]) (h':=[(7,.row [.isl false (List.map cGNode r19.1.Nodes)] 25),(3,.row [.isl false (List.map cGNode r9.1.Nodes)] 25)]) 8 (.row [.int .i64 r23.Typex,.isl false (List.map cGArc r23.Arcs),.int .i64 r25.Typex,.isl false (List.map cGArc r25.Arcs),.int .i64 r27.Typex,.isl false (List.map cGArc r27.Arcs)] 43) 2 rfl (by simp) (by simp only [oneU,fzL_nil,fzL_cons,fz_int,fz_bool,fz_str,fz_nils,fz_nilp,fz_nilm,fz_nilf,fz_junk,fz_isl,fz_map,fz_agg,fz_tup,fz_fn,junkT,fz_sl,fz_p0,Nat.reduceLeDiff,Nat.reduceMul,List.length_cons,List.length_nil,Nat.reduceAdd]<;>simp only [chunks,List.take,List.drop,List.map,cGNode]) (by simp only [fzH,fzB,ug,Nat.beq,cond_true,cond_false,oneU,fzL_nil,fzL_cons,fz_int,fz_bool,fz_str,fz_nils,fz_nilp,fz_nilm,fz_nilf,fz_junk,fz_isl,fz_map,fz_agg,fz_tup,fz_fn,junkT,fz_sl,fz_p0,Nat.reduceLeDiff,Nat.reduceMul,List.length_cons,List.length_nil,Nat.reduceAdd]<;>simp only [chunks,List.take,List.drop,List.map,cGNode])) (Nat.le_of_ble_eq_true rfl) (law07_of_ok n ([r23,r25,r27]) r29 h30 _) rfl rfl ?_
 refine RD.free (u:=.bool r31) (args:=[.agg [.isl false (List.map cGNode r9.1.Nodes)],.agg [.isl false (List.map cGNode r29.Nodes)]]) (want1 rfl rfl rfl h22) (op_call rfl rfl fn14 hb14 rfl rfl) (fun s=>ref07_Equal_ok n (GFS.mk r9.1.Nodes) r29 r31 h32 s) rfl rfl (RD.look (u:=.bool (!r31)) (want1 rfl rfl rfl h22) (op_un rfl rfl rfl rfl) rfl rfl (RD.q (u:=.bool (!r31)) rfl (op_pick0 rfl h22 rfl) (RD.mv rfl rfl rfl rfl (RD.look (u:=.agg [.isl false (List.map cGNode r19.1.Nodes)]) (want1 rfl rfl rfl h33) (ld_agg und25 rfl (sz_of inf25) rfl rfl rfl) rfl rfl (RD.freeO (u:=.isl false (List.map (cI .i64) ([3,1,7,2]))) (want1 rfl rfl rfl h33) (FreeO.bs (cs:=[.int .i64 3,.int .i64 1,.int .i64 7,.int .i64 2]) und55 inf3 rfl rfl rfl rfl rfl rfl rfl rfl rfl) rfl rfl (RD.free (u:=.agg (cGNode r34)) (args:=[.int .i64 4,.isl false (List.map (cI .i64) ([3,1,7,2]))]) (want1 rfl rfl rfl h33) (op_call rfl rfl fn29 hb29 rfl rfl) (fun s=>law07_node_ok n 4 ([3,1,7,2]) r34 h35 s) rfl rfl (RD.free (u:=.agg (cGNode r36)) (args:=[.int .i64 5,.nils]) (want1 rfl rfl rfl h33) (op_call rfl rfl fn29 hb29 rfl rfl) (fun s=>EvU.wkA (args':=[.int .i64 5,.isl false []]) (.cons (.refl _) (.cons (.nil false) .nil)) (fun s=>law07_node_ok n 5 [] r36 h37 s) s) rfl rfl ?_)))))))
 refine RD.freeO (u:=.isl false (List.map (cI .i64) ([2,0]))) (want1 rfl rfl rfl h33) (FreeO.bs (cs:=[.int .i64 2,.int .i64 0]) und55 inf3 rfl rfl rfl rfl rfl rfl rfl rfl rfl) rfl rfl (RD.free (u:=.agg (cGNode r38)) (args:=[.int .i64 6,.isl false (List.map (cI .i64) ([2,0]))]) (want1 rfl rfl rfl h33) (op_call rfl rfl fn29 hb29 rfl rfl) (fun s=>law07_node_ok n 6 ([2,0]) r38 h39 s) rfl rfl (RD.act (u:=.sl 9 0 3 3) (σ':=⟨[(9,.row [.int .i64 r34.Typex,.isl false (List.map cGArc r34.Arcs),.int .i64 r36.Typex,.isl false (List.map cGArc r36.Arcs),.int .i64 r38.Typex,.isl false (List.map cGArc r38.Arcs)] 43),(7,.row [.isl false (List.map cGNode r19.1.Nodes)] 25),(3,.row [.isl false (List.map cGNode r9.1.Nodes)] 25)],10⟩) (want1 rfl rfl rfl h33) (op_bsl und23 inf43 rfl rfl rfl rfl rfl rfl rfl) rfl rfl ?_))
 refine RD.fcall (u:=.agg [.isl false (List.map cGNode r40.Nodes)]) (args:=[.sl 9 0 3 3]) (σ1:=⟨[(7,.row [.isl false (List.map cGNode r19.1.Nodes)] 25),(3,.row [.isl false (List.map cGNode r9.1.Nodes)] 25)],10⟩) (want1 rfl rfl rfl h33) (op_call rfl rfl fn32 hb32 rfl rfl) (Gh.fz (tm':=[.isl false (List.map cGNode ([r34,r36,r38]))]) (h':=[(7,.row [.isl false (List.map cGNode r19.1.Nodes)] 25),(3,.row [.isl false (List.map cGNode r9.1.Nodes)] 25)]) 9 (.row [.int .i64 r34.Typex,.isl false (List.map cGArc r34.Arcs),.int .i64 r36.Typex,.isl false (List.map cGArc r36.Arcs),.int .i64 r38.Typex,.isl false (List.map cGArc r38.Arcs)] 43) 2 rfl (by simp) (by simp only [oneU,fzL_nil,fzL_cons,fz_int,fz_bool,fz_str,fz_nils,fz_nilp,fz_nilm,fz_nilf,fz_junk,fz_isl,fz_map,fz_agg,fz_tup,fz_fn,junkT,fz_sl,fz_p0,Nat.reduceLeDiff,Nat.reduceMul,List.length_cons,List.length_nil,Nat.reduceAdd]<;>simp only [chunks,List.take,List.drop,List.map,cGNode]) (by simp only [fzH,fzB,ug,Nat.beq,cond_true,cond_false,oneU,fzL_nil,fzL_cons,fz_int,fz_bool,fz_str,fz_nils,fz_nilp,fz_nilm,fz_nilf,fz_junk,fz_isl,fz_map,fz_agg,fz_tup,fz_fn,junkT,fz_sl,fz_p0,Nat.reduceLeDiff,Nat.reduceMul,List.length_cons,List.length_nil,Nat.reduceAdd]<;>simp only [chunks,List.take,List.drop,List.map,cGNode])) (Nat.le_of_ble_eq_true rfl) (law07_of_ok n ([r34,r36,r38]) r40 h41 _) rfl rfl ?_
 refine RD.free (u:=.bool r42) (args:=[.agg [.isl false (List.map cGNode r19.1.Nodes)],.agg [.isl false (List.map cGNode r40.Nodes)]]) (want1 rfl rfl rfl h33) (op_call rfl rfl fn14 hb14 rfl rfl) (fun s=>ref07_Equal_ok n (GFS.mk r19.1.Nodes) r40 r42 h43 s) rfl rfl (RD.look (u:=.bool (!r42)) (want1 rfl rfl rfl h33) (op_un rfl rfl rfl rfl) rfl rfl (RD.q (u:=.bool (!r42)) rfl (op_pick0 rfl h33 rfl) ?_))
 refine RD.done ⟨by kernel_rfl,⟨ld_agg und25 rfl (sz_of inf25) rfl rfl rfl,⟨ld_agg und25 rfl (sz_of inf25) rfl rfl rfl,⟨ld_agg und25 rfl (sz_of inf25) rfl rfl rfl,⟨ld_agg und25 rfl (sz_of inf25) rfl rfl rfl,trivial⟩⟩⟩⟩,?_⟩
 refine st ?_
 exact ⟨_,_,⟨rfl,rfl⟩,(Nat.zero_le _),Gh.toC (n1:=8) ⟨rfl,rfl,trivial⟩ rfl (Nat.zero_le _) (by simp)⟩
theorem law07_exampleHolds_ok (n:Nat)  (r:Bool) (hF:law07_exampleHolds n  = some r) (σ:Sg):EvU Try.prog 16 [] σ (fun u σ'=>u = .bool r∧σ'=σ) :=
 EvU.pure1C (law07_exampleHolds_0 n  r hF) σ
def law07_GraphAtoms (n:Nat) (p1:Int):Option (Bool) :=
 bindO (graph_Atom n (IntKind.i64.wrap p1)) fun r2 =>
 bindO (graph_Canon n r2) fun r4 =>
 bindO (bindO (ref07_Atom n (IntKind.i64.wrap p1)) fun r6 =>
 bindO (ref07_Equal n r2 r6) fun r8 =>
 cond r8
  (cond (r4.2 == 0)
   (bindO (ref07_Equal n r2 (GFS.mk r4.1.Nodes)) fun r12 =>
   cond r12
    (bindO (law07_exampleHolds n) fun r15 =>
    some r15)
    (some false))
   (some false))
  (some false)) fun b17 =>
 some b17
theorem law07_GraphAtoms_0 (n:Nat) (p1:Int) (r:Bool) (hF:law07_GraphAtoms n p1=some r):EvU Try.prog 3 [.int .u16 p1] ⟨[],0⟩ (fun u _=>u = .bool r∧Bel 0 u):=by
 unfold law07_GraphAtoms at hF
 refine EvU.of_body Try.tb_ok fn3 rfl ?_
 refine WPU.ghost (tm':=fr 31 [(0,.int .u16 p1)]) (Gh.start (Nat.le_of_ble_eq_true rfl)) (Nat.zero_le _) ?_
 refine sr ?_
 refine sd ?_
 obtain ⟨r2,h3,hF⟩:=bindO_some hF
 refine sr ?_
 refine RS.q (u:=.int .i64 (IntKind.i64.wrap p1)) rfl (op_conv rfl rfl (by simp only [convX,und22,und3]<;>rfl) rfl) ?_
 refine RS.call (u:=.agg [.isl false (List.map cGNode r2.Nodes)]) (args:=[.int .i64 (IntKind.i64.wrap p1)]) rfl (op_call rfl rfl fn12 hb12 rfl rfl) (graph_Atom_ok n (IntKind.i64.wrap p1) r2 h3 _) rfl rfl (RS.q (u:=.ptr 0 0 0) (σ':=⟨[(0,.row [.nils] 25)],1⟩) rfl (op_alloc inf25 rfl rfl) (RS.opn (u:=.junk) (σ':=⟨[(0,.row [.isl false (List.map cGNode r2.Nodes)] 25)],1⟩) rfl (op_store (sz_of inf25) rfl rfl rfl rfl rfl rfl rfl rfl) rfl ?_))
 refine sd ?_
 obtain ⟨r4,h5,hF⟩:=bindO_some hF
 refine sr ?_
 refine RS.q (u:=.agg [.isl false (List.map cGNode r2.Nodes)]) rfl (ld_agg und25 rfl (sz_of inf25) rfl rfl rfl) (RS.call (u:=.tup [.agg [.isl false (List.map cGNode r4.1.Nodes)],.int .i64 r4.2]) (args:=[.agg [.isl false (List.map cGNode r2.Nodes)]]) rfl (op_call rfl rfl fn13 hb13 rfl rfl) (graph_Canon_ok n r2 r4 h5 _) rfl rfl (RS.mv rfl rfl rfl rfl (RS.q rfl (op_ext rfl rfl) (RS.q rfl (op_ext rfl rfl) (RS.q (u:=.ptr 1 0 0) (σ':=⟨[(1,.row [.nils] 25),(0,.row [.isl false (List.map cGNode r2.Nodes)] 25)],2⟩) rfl (op_alloc inf25 rfl rfl) (RS.opn (u:=.junk) (σ':=⟨[(1,.row [.isl false (List.map cGNode r4.1.Nodes)] 25),(0,.row [.isl false (List.map cGNode r2.Nodes)] 25)],2⟩) rfl (op_store (sz_of inf25) rfl rfl rfl rfl rfl rfl rfl rfl) rfl ?_))))))
 refine sd ?_
 obtain ⟨b17,h18,hF⟩:=bindO_some hF
 refine WPU.joinK (fun tm σ=>tm=fr 31 [(2,.bool b17)]∧σ=⟨[(1,.row [.isl false (List.map cGNode r4.1.Nodes)] 25),(0,.row [.isl false (List.map cGNode r2.Nodes)] 25)],2⟩) ?_ ?_
 rintro _ _ ⟨rfl,rfl⟩
 refine st ?_
 refine WPU.ret ?_
 refine st ?_
 have hr:=Option.some.inj hF
 subst hr
 exact ⟨.inr rfl,[.bool b17],res_t rfl (res_n),.bool b17,⟨[],0⟩,Nat.le_refl _,Gh.toR (.bool b17) rfl,rfl,BU.h⟩
 obtain ⟨r6,h7,h18⟩:=bindO_some h18
 obtain ⟨r8,h9,h18⟩:=bindO_some h18
 rcases bool_tf r8 with h10 | h10
 replace h18:=cond_t h10 h18
 rcases bool_tf (r4.2 == 0) with h11 | h11
 replace h18:=cond_t h11 h18
 obtain ⟨r12,h13,h18⟩:=bindO_some h18
 rcases bool_tf r12 with h14 | h14
 replace h18:=cond_t h14 h18
 obtain ⟨r15,h16,h18⟩:=bindO_some h18
 replace h18:=Option.some.inj h18
 subst h18
 refine WPU.drawE Try.tb_ok [] (by kernel_rfl) ?_
 refine RD.q (u:=.agg [.isl false (List.map cGNode r2.Nodes)]) rfl (ld_agg und25 rfl (sz_of inf25) rfl rfl rfl) (RD.mv rfl rfl rfl rfl ?_)
 refine RD.q (u:=.int .i64 (IntKind.i64.wrap p1)) rfl (op_conv rfl rfl (by simp only [convX,und22,und3]<;>rfl) rfl) ?_
 refine RD.free (u:=.agg [.isl false (List.map cGNode r6.Nodes)]) (args:=[.int .i64 (IntKind.i64.wrap p1)]) rfl (op_call rfl rfl fn15 hb15 rfl rfl) (fun s=>ref07_Atom_ok n (IntKind.i64.wrap p1) r6 h7 s) rfl rfl (RD.free (u:=.bool r8) (args:=[.agg [.isl false (List.map cGNode r2.Nodes)],.agg [.isl false (List.map cGNode r6.Nodes)]]) rfl (op_call rfl rfl fn14 hb14 rfl rfl) (fun s=>ref07_Equal_ok n r2 r6 r8 h9 s) rfl rfl (RD.mv rfl rfl rfl rfl (RD.look (want1 rfl rfl rfl h10) (op_move rfl) rfl rfl (RD.look (want1 rfl rfl rfl h10) (op_int rfl rfl (ix_eql _ _ _) rfl) rfl rfl (RD.q (u:=.bool (r4.2 == 0)) rfl (op_pick1 rfl h10 rfl) (RD.mv rfl rfl rfl rfl (RD.look (u:=.agg [.isl false (List.map cGNode r2.Nodes)]) (want1 rfl rfl rfl h11) (ld_agg und25 rfl (sz_of inf25) rfl rfl rfl) rfl rfl ?_)))))))
 refine RD.look (u:=.agg [.isl false (List.map cGNode r4.1.Nodes)]) (want1 rfl rfl rfl h11) (ld_agg und25 rfl (sz_of inf25) rfl rfl rfl) rfl rfl (RD.free (u:=.bool r12) (args:=[.agg [.isl false (List.map cGNode r2.Nodes)],.agg [.isl false (List.map cGNode r4.1.Nodes)]]) (want1 rfl rfl rfl h11) (op_call rfl rfl fn14 hb14 rfl rfl) (fun s=>ref07_Equal_ok n r2 (GFS.mk r4.1.Nodes) r12 h13 s) rfl rfl (RD.q (u:=.bool r12) rfl (op_pick1 rfl h11 rfl) (RD.mv rfl rfl rfl rfl (RD.free (u:=.bool r15) (args:=[]) (want1 rfl rfl rfl h14) (op_call rfl rfl fn16 hb16 rfl rfl) (fun s=>law07_exampleHolds_ok n  r15 h16 s) rfl rfl (RD.q (u:=.bool r15) rfl (op_pick1 rfl h14 rfl) (RD.as rfl rfl rfl rfl ?_))))))
 refine RD.done ⟨by kernel_rfl,trivial,?_⟩
 refine st ?_
 exact ⟨_,_,⟨rfl,rfl⟩,(Nat.zero_le _),Gh.toC (n1:=2) ⟨rfl,trivial⟩ rfl (Nat.zero_le _) (by simp)⟩
 replace h18:=cond_f h14 h18
 replace h18:=Option.some.inj h18
 subst h18
 refine WPU.drawE Try.tb_ok [] (by kernel_rfl) ?_
 refine RD.q (u:=.agg [.isl false (List.map cGNode r2.Nodes)]) rfl (ld_agg und25 rfl (sz_of inf25) rfl rfl rfl) (RD.mv rfl rfl rfl rfl ?_)
 refine RD.q (u:=.int .i64 (IntKind.i64.wrap p1)) rfl (op_conv rfl rfl (by simp only [convX,und22,und3]<;>rfl) rfl) ?_
 refine RD.free (u:=.agg [.isl false (List.map cGNode r6.Nodes)]) (args:=[.int .i64 (IntKind.i64.wrap p1)]) rfl (op_call rfl rfl fn15 hb15 rfl rfl) (fun s=>ref07_Atom_ok n (IntKind.i64.wrap p1) r6 h7 s) rfl rfl (RD.free (u:=.bool r8) (args:=[.agg [.isl false (List.map cGNode r2.Nodes)],.agg [.isl false (List.map cGNode r6.Nodes)]]) rfl (op_call rfl rfl fn14 hb14 rfl rfl) (fun s=>ref07_Equal_ok n r2 r6 r8 h9 s) rfl rfl (RD.mv rfl rfl rfl rfl (RD.look (want1 rfl rfl rfl h10) (op_move rfl) rfl rfl (RD.look (want1 rfl rfl rfl h10) (op_int rfl rfl (ix_eql _ _ _) rfl) rfl rfl (RD.q (u:=.bool (r4.2 == 0)) rfl (op_pick1 rfl h10 rfl) (RD.mv rfl rfl rfl rfl (RD.look (u:=.agg [.isl false (List.map cGNode r2.Nodes)]) (want1 rfl rfl rfl h11) (ld_agg und25 rfl (sz_of inf25) rfl rfl rfl) rfl rfl ?_)))))))
 refine RD.look (u:=.agg [.isl false (List.map cGNode r4.1.Nodes)]) (want1 rfl rfl rfl h11) (ld_agg und25 rfl (sz_of inf25) rfl rfl rfl) rfl rfl (RD.free (u:=.bool r12) (args:=[.agg [.isl false (List.map cGNode r2.Nodes)],.agg [.isl false (List.map cGNode r4.1.Nodes)]]) (want1 rfl rfl rfl h11) (op_call rfl rfl fn14 hb14 rfl rfl) (fun s=>ref07_Equal_ok n r2 (GFS.mk r4.1.Nodes) r12 h13 s) rfl rfl (RD.q (u:=.bool r12) rfl (op_pick1 rfl h11 rfl) (RD.mv rfl rfl rfl rfl (RD.no (want0 rfl rfl rfl h14) rfl rfl (RD.q (u:=.bool false) rfl (op_pick0 rfl h14 rfl) (RD.as rfl rfl rfl rfl ?_))))))
 refine RD.done ⟨by kernel_rfl,trivial,?_⟩
 refine st ?_
 exact ⟨_,_,⟨rfl,rfl⟩,(Nat.zero_le _),Gh.toC (n1:=2) ⟨rfl,trivial⟩ rfl (Nat.zero_le _) (by simp)⟩
 replace h18:=cond_f h11 h18
 replace h18:=Option.some.inj h18
 subst h18
 refine WPU.drawE Try.tb_ok [] (by kernel_rfl) ?_
 refine RD.q (u:=.agg [.isl false (List.map cGNode r2.Nodes)]) rfl (ld_agg und25 rfl (sz_of inf25) rfl rfl rfl) (RD.mv rfl rfl rfl rfl ?_)
 refine RD.q (u:=.int .i64 (IntKind.i64.wrap p1)) rfl (op_conv rfl rfl (by simp only [convX,und22,und3]<;>rfl) rfl) ?_
 refine RD.free (u:=.agg [.isl false (List.map cGNode r6.Nodes)]) (args:=[.int .i64 (IntKind.i64.wrap p1)]) rfl (op_call rfl rfl fn15 hb15 rfl rfl) (fun s=>ref07_Atom_ok n (IntKind.i64.wrap p1) r6 h7 s) rfl rfl (RD.free (u:=.bool r8) (args:=[.agg [.isl false (List.map cGNode r2.Nodes)],.agg [.isl false (List.map cGNode r6.Nodes)]]) rfl (op_call rfl rfl fn14 hb14 rfl rfl) (fun s=>ref07_Equal_ok n r2 r6 r8 h9 s) rfl rfl (RD.mv rfl rfl rfl rfl (RD.look (want1 rfl rfl rfl h10) (op_move rfl) rfl rfl (RD.look (want1 rfl rfl rfl h10) (op_int rfl rfl (ix_eql _ _ _) rfl) rfl rfl (RD.q (u:=.bool (r4.2 == 0)) rfl (op_pick1 rfl h10 rfl) (RD.mv rfl rfl rfl rfl ?_))))))
 repeat refine RD.no (want0 rfl rfl rfl h11) rfl rfl ?_
 refine RD.q (u:=.bool false) rfl (op_pick0 rfl h11 rfl) (RD.mv rfl rfl rfl rfl (RD.no (want0 rfl rfl rfl rfl) rfl rfl (RD.q (u:=.bool false) rfl (op_pick0 rfl rfl rfl) (RD.as rfl rfl rfl rfl ?_))))
 refine RD.done ⟨by kernel_rfl,trivial,?_⟩
 refine st ?_
 exact ⟨_,_,⟨rfl,rfl⟩,(Nat.zero_le _),Gh.toC (n1:=2) ⟨rfl,trivial⟩ rfl (Nat.zero_le _) (by simp)⟩
 replace h18:=cond_f h10 h18
 replace h18:=Option.some.inj h18
 subst h18
 refine WPU.drawE Try.tb_ok [] (by kernel_rfl) ?_
 refine RD.q (u:=.agg [.isl false (List.map cGNode r2.Nodes)]) rfl (ld_agg und25 rfl (sz_of inf25) rfl rfl rfl) (RD.mv rfl rfl rfl rfl ?_)
 refine RD.q (u:=.int .i64 (IntKind.i64.wrap p1)) rfl (op_conv rfl rfl (by simp only [convX,und22,und3]<;>rfl) rfl) ?_
 refine RD.free (u:=.agg [.isl false (List.map cGNode r6.Nodes)]) (args:=[.int .i64 (IntKind.i64.wrap p1)]) rfl (op_call rfl rfl fn15 hb15 rfl rfl) (fun s=>ref07_Atom_ok n (IntKind.i64.wrap p1) r6 h7 s) rfl rfl (RD.free (u:=.bool r8) (args:=[.agg [.isl false (List.map cGNode r2.Nodes)],.agg [.isl false (List.map cGNode r6.Nodes)]]) rfl (op_call rfl rfl fn14 hb14 rfl rfl) (fun s=>ref07_Equal_ok n r2 r6 r8 h9 s) rfl rfl (RD.mv rfl rfl rfl rfl ?_))
 repeat refine RD.no (want0 rfl rfl rfl h10) rfl rfl ?_
 refine RD.q (u:=.bool false) rfl (op_pick0 rfl h10 rfl) (RD.mv rfl rfl rfl rfl ?_)
 repeat refine RD.no (want0 rfl rfl rfl rfl) rfl rfl ?_
 refine RD.q (u:=.bool false) rfl (op_pick0 rfl rfl rfl) (RD.mv rfl rfl rfl rfl (RD.no (want0 rfl rfl rfl rfl) rfl rfl (RD.q (u:=.bool false) rfl (op_pick0 rfl rfl rfl) (RD.as rfl rfl rfl rfl ?_))))
 refine RD.done ⟨by kernel_rfl,trivial,?_⟩
 refine st ?_
 exact ⟨_,_,⟨rfl,rfl⟩,(Nat.zero_le _),Gh.toC (n1:=2) ⟨rfl,trivial⟩ rfl (Nat.zero_le _) (by simp)⟩
end Go.Proofs
end
section
namespace Go.Proofs
open Go Go.Rx Go.Vx Go.Shelf Go.Sort
set_option linter.unusedVariables false
theorem bindO_s {α β:Type} (a:α) (k:α→Option β):bindO (some a) k=k a:=rfl
theorem wr {z:Int} (h1 : -9223372036854775808≤z) (h2:z≤9223372036854775807):IntKind.i64.wrap z=z:=wrap_i64 (by omega) (by omega)
theorem wr1 {i len:Nat} (h:i<len) (hl:len≤9223372036854775807):IntKind.i64.wrap ((i:Int)+1)=((i+1:Nat):Int):=by rw [wr (by omega) (by omega)]; simp
theorem get_of {α:Type} {l:List α} {i:Nat} (h:i<l.length):∃ x,l[i]? = some x∧x∈l:=⟨l[i],by simp [h],by simp⟩
theorem take_snoc {α:Type} {l:List α} {i:Nat} {x:α} (h:l[i]? = some x):l.take (i+1)=l.take i++[x]:=by rw [List.take_add_one,h]; rfl
theorem drop_cons' {α:Type} {l:List α} {i:Nat} {x:α} (h:l[i]? = some x):l.drop i=x::l.drop (i+1):=by
 have hlt:i<l.length:=(List.getElem?_eq_some_iff.1 h).1
 rw [List.drop_eq_getElem_cons hlt]
 congr 1
 rw [List.getElem?_eq_getElem hlt] at h
 exact Option.some.inj h
theorem dlt {i n:Nat} (h:i<n):decide ((i:Int)<(n:Int))=true:=by simp; omega
theorem dnlt {i n:Nat} (h:¬ i<n):decide ((i:Int)<(n:Int))=false:=by simp; omega
theorem drop_nil' {α:Type} {l:List α} {i:Nat} (h:¬ i<l.length):l.drop i=[]:=List.drop_eq_nil_of_le (by omega)
structure Cmp {α:Type} (c:α→α→Int):Prop where
 val:∀ x y,c x y = -1∨c x y=0∨c x y=1
 anti:∀ x y,c y x = - c x y
 trans:∀ x y z,c x y≤0→c y z≤0→c x z≤0
theorem Cmp.self {α:Type} {c:α→α→Int} (h:Cmp c) (x:α):c x x=0:=by have:=h.anti x x; omega
theorem Cmp.congr {α:Type} {c:α→α→Int} (h:Cmp c) {x y:α} (hxy:c x y=0) (z:α):c x z=c y z:=by
 have h1:=h.val x z
 have h2:=h.val y z
 have a1:=h.anti x y
 have a2:=h.anti x z
 have a3:=h.anti y z
 have t1:=h.trans x y z
 have t2:=h.trans y x z
 have t3:=h.trans z x y
 have t4:=h.trans z y x
 omega
theorem Cmp.congr' {α:Type} {c:α→α→Int} (h:Cmp c) {x y:α} (hxy:c x y=0) (z:α):c z x=c z y:=by
 have h1:=h.congr hxy z
 have a2:=h.anti x z
 have a3:=h.anti y z
 omega
theorem Cmp.lt_of {α:Type} {c:α→α→Int} (h:Cmp c) {x y z:α} (h1:c x y<0) (h2:c y z≤0):c x z<0:=by
 have t1:=h.trans x y z (by omega) h2
 rcases Int.lt_or_eq_of_le t1 with h3 | h3
 ·exact h3
 ·have:=h.congr h3 y
  have a3:=h.anti y z
  omega
def lexC {α:Type} (c d:α→α→Int) (x y:α):Int:=if c x y≠0 then c x y else d x y
theorem Cmp.lex {α:Type} {c d:α→α→Int} (hc:Cmp c) (hd:Cmp d):Cmp (lexC c d) where
 val x y:=by unfold lexC; split; exact hc.val x y; exact hd.val x y
 anti x y:=by
  unfold lexC
  have a1:=hc.anti x y
  have a2:=hd.anti x y
  by_cases h:c x y=0
  ·have:c y x=0:=by omega
   simp [h,this,a2]
  ·have:¬ c y x=0:=by omega
   simp [h,this,a1]
 trans x y z h1 h2:=by
  unfold lexC at *
  by_cases h:c x y=0
  ·have e:=hc.congr h z
   simp only [h,ne_eq,not_true,if_false] at h1
   rw [e]
   by_cases h':c y z=0
   ·simp only [h',ne_eq,not_true,if_false] at h2 ⊢
    exact hd.trans x y z h1 h2
   ·simp only [h',ne_eq,not_false_eq_true,if_true] at h2 ⊢
    exact h2
  ·simp only [h,ne_eq,not_false_eq_true,if_true] at h1
   have h1':c x y<0:=by omega
   by_cases h':c y z=0
   ·have e:=hc.congr' h' x
    rw [← e]
    simp only [h,ne_eq,not_false_eq_true,if_true]
    exact h1
   ·simp only [h',ne_eq,not_false_eq_true,if_true] at h2
    have:=hc.lt_of h1' h2
    have hne:¬ c x z=0:=by omega
    simp only [hne,ne_eq,not_false_eq_true,if_true]
    omega
theorem Cmp.pull {α β:Type} {c:α→α→Int} (h:Cmp c) (f:β→α):Cmp (fun x y=>c (f x) (f y)):=⟨fun x y=>h.val _ _,fun x y=>h.anti _ _,fun x y z=>h.trans _ _ _⟩
def cmpI (a b:Int):Int:=if a<b then -1 else if b<a then 1 else 0
theorem cmpI_zero {a b : Int} : cmpI a b = 0 ↔ a = b := by unfold cmpI; split; · omega
                                                           split <;> omega
theorem cmpI_ok : Cmp cmpI where
  val x y := by unfold cmpI; split; · simp
                split <;> simp
  anti x y := by unfold cmpI; split <;> split <;> (try split) <;> omega
  trans x y z := by
    unfold cmpI
    intro h1 h2
    split at h1 <;> split at h2 <;> (try split at h1) <;> (try split at h2) <;> (try split) <;> (try split) <;> omega
theorem ltOf_iff {α:Type} (c:α→α→Int) (x y:α):ltOf c x y=true↔c x y<0:=by simp [ltOf]
theorem Cmp.swo {α:Type} {c:α→α→Int} (h:Cmp c):SWO (ltOf c) where
 irrefl x:=by have:=h.self x; simp [ltOf,this]
 trans x y z h1 h2:=by rw [ltOf_iff] at *; exact h.lt_of h1 (by omega)
 ntrans x y z h1 h2:=by
  have e:∀ a b,ltOf c a b=false↔c b a≤0:=fun a b=>by have:=h.anti a b; simp [ltOf]; omega
  rw [e] at *
  exact h.trans z y x h2 h1
section
variable {α:Type} {c:α→α→Int}
end
end Go.Proofs
end
section
namespace Go.Proofs
open Go Go.Rx Go.Vx Go.Shelf Go.Sort
set_option linter.unusedVariables false
set_option linter.unusedSimpArgs false
set_option maxRecDepth 10000
theorem ex_ok (m:Nat):law07_exampleHolds (m+60)=some true:=by kernel_rfl
theorem ex_n {n:Nat} (h:60≤n):law07_exampleHolds n=some true:=by
 have:=ex_ok (n - 60)
 rwa [Nat.sub_add_cancel h] at this
theorem cmpInt_eq (n:Nat) (a b:Int):cmp_Compare_int n a b=some (cmpI a b):=by
 have e1:(a != a)=false:=by simp
 have e2:(b != b)=false:=by simp
 simp only [cmp_Compare_int,cmp_isNaN_int,bindO_s,e1,e2,cond_false,cmpI]
 by_cases h1:a<b
 ·simp [h1]
 ·by_cases h2:b<a<;>simp [h1,h2]
def lexL {α:Type} (c:α→α→Int):List α→List α→Int
 | [],[]=>0
 | [],_::_=>-1
 | _::_,[]=>1
 | x::xs,y::ys=>if c x y≠0 then c x y else lexL c xs ys
theorem Cmp.list {α:Type} {c:α→α→Int} (h:Cmp c):Cmp (lexL c) where
 val:=by
  intro x
  induction x with
  | nil=>intro y; cases y<;>simp [lexL]
  | cons a x ih =>
   intro y
   cases y with
   | nil=>simp [lexL]
   | cons b y=>simp only [lexL]; split; exact h.val a b; exact ih y
 anti:=by
  intro x
  induction x with
  | nil=>intro y; cases y<;>simp [lexL]
  | cons a x ih =>
   intro y
   cases y with
   | nil=>simp [lexL]
   | cons b y =>
    simp only [lexL]
    have a1:=h.anti a b
    have a2:=ih y
    by_cases e:c a b=0
    ·have:c b a=0:=by omega
     simp [e,this,a2]
    ·have:¬ c b a=0:=by omega
     simp [e,this,a1]
 trans:=by
  intro x
  induction x with
  | nil =>
   intro y z h1 h2
   cases z<;>simp [lexL]
  | cons a x ih =>
   intro y z h1 h2
   cases y with
   | nil=>simp [lexL] at h1
   | cons b y =>
    cases z with
    | nil=>simp [lexL] at h2
    | cons d z =>
     simp only [lexL] at *
     by_cases e:c a b=0
     ·have e2:=h.congr e d
      simp only [e,ne_eq,not_true,if_false] at h1
      rw [e2]
      by_cases e3:c b d=0
      ·simp only [e3,ne_eq,not_true,if_false] at h2 ⊢
       exact ih y z h1 h2
      ·simp only [e3,ne_eq,not_false_eq_true,if_true] at h2 ⊢
       exact h2
     ·simp only [e,ne_eq,not_false_eq_true,if_true] at h1
      have h1':c a b<0:=by omega
      by_cases e3:c b d=0
      ·have e4:=h.congr' e3 a
       rw [← e4]
       simp only [e,ne_eq,not_false_eq_true,if_true]
       exact h1
      ·simp only [e3,ne_eq,not_false_eq_true,if_true] at h2
       have:=h.lt_of h1' h2
       have hne:¬ c a d=0:=by omega
       simp only [hne,ne_eq,not_false_eq_true,if_true]
       omega
def ccA:GArc→GArc→Int:=lexC (fun x y=>cmpI x.Feat y.Feat) (fun x y=>cmpI x.To y.To)
theorem ccA_ok:Cmp ccA:=(cmpI_ok.pull _).lex (cmpI_ok.pull _)
def ccN:GNode→GNode→Int:=lexC (lexC (fun x y=>cmpI x.Typex y.Typex) (fun x y=>cmpI x.Arcs.length y.Arcs.length)) (fun x y=>lexL ccA x.Arcs y.Arcs)
theorem ccN_ok:Cmp ccN:=((cmpI_ok.pull _).lex (cmpI_ok.pull (fun x:GNode=>(x.Arcs.length:Int)))).lex (ccA_ok.list.pull _)
def ccG:GFS→GFS→Int:=lexC (fun x y=>cmpI x.Nodes.length y.Nodes.length) (fun x y=>lexL ccN x.Nodes y.Nodes)
theorem ccG_ok:Cmp ccG:=(cmpI_ok.pull (fun x:GFS=>(x.Nodes.length:Int))).lex (ccN_ok.list.pull _)
structure Small (f:GFS) (k:Nat):Prop where
 nodes:f.Nodes.length≤k
 arcs:∀ x∈f.Nodes,x.Arcs.length≤k
def arcN (l:List GArc):List Int:=l.flatMap fun a=>[a.Feat,a.To]
def nodeN (x:GNode):List Int:=[x.Typex,(x.Arcs.length:Int)]++arcN x.Arcs
def numN (f:GFS):List Int:=(f.Nodes.length:Int)::f.Nodes.flatMap nodeN
theorem arcN_len:∀ l:List GArc,(arcN l).length=2*l.length
 | []=>rfl
 | a::l=>by have:=arcN_len l; simp only [arcN,List.flatMap_cons,List.length_append,List.length_cons,List.length_nil] at *; omega
theorem nums_L2 {x:GNode} {i:Int} {rc:Int→List Int→Option (List Int)} (hx:x.Arcs.length≤1000000):∀ (m k:Nat) (acc:List Int),x.Arcs.length - k<m→k≤x.Arcs.length→acc.length+2*(x.Arcs.length - k)≤1000000000 →
  ref07_numbers_L2 i rc x m k acc=rc (IntKind.i64.wrap (i+1)) (acc++arcN (x.Arcs.drop k))
 | 0,k,acc,hm,_,_=>by omega
 | m+1,k,acc,hm,hk,ha=>by
  unfold ref07_numbers_L2
  by_cases hlt:k<x.Arcs.length
  ·obtain ⟨a,h1,_⟩:=get_of hlt
   have hn:(acc.length+2)*8≤140737488355328∧acc.length+2≤140737488355328:=by omega
   simp only [dlt hlt,cond_true,idxO_nat,h1,bindO_s,needO,hn,and_self,if_true,wr1 hlt (show x.Arcs.length≤9223372036854775807 by omega)]
   rw [nums_L2 hx m (k+1) _ (by omega) (by omega) (by simp only [List.length_append,List.length_cons,List.length_nil]; omega),drop_cons' h1]
   simp [arcN]
  ·simp only [dnlt hlt,cond_false,ref07_numbers_K2,drop_nil' hlt,arcN,List.flatMap_nil,List.append_nil]
theorem nums_L1 {f:GFS} {n:Nat} (hf:Small f 1000) (hn:1001≤n):∀ (m i:Nat) (acc:List Int),f.Nodes.length - i<m→i≤f.Nodes.length→acc.length+2002*(f.Nodes.length - i)≤900000000 →
  ref07_numbers_L1 f n m i acc=some (acc++(f.Nodes.drop i).flatMap nodeN)
 | 0,i,acc,hm,_,_=>by omega
 | m+1,i,acc,hm,hi,ha=>by
  unfold ref07_numbers_L1
  have hl:=hf.nodes
  by_cases hlt:i<f.Nodes.length
  ·obtain ⟨x,hx,hxm⟩:=get_of hlt
   have h2:=hf.arcs x hxm
   have hn:(acc.length+2)*8≤140737488355328∧acc.length+2≤140737488355328:=by omega
   have h0:=nums_L2 (i:=(i:Int)) (rc:=ref07_numbers_L1 f n m) (x:=x) (by omega) n 0 (acc++[x.Typex,(x.Arcs.length:Int)]) (by omega) (by omega) (by simp only [List.length_append,List.length_cons,List.length_nil]; omega)
   rw [Int.ofNat_zero,List.drop_zero] at h0
   simp only [dlt hlt,cond_true,idxO_nat,hx,bindO_s,needO,hn,and_self,if_true,h0,wr1 hlt (show f.Nodes.length≤9223372036854775807 by omega)]
   rw [nums_L1 hf (by omega) m (i+1) _ (by omega) (by omega) (by simp only [List.length_append,List.length_cons,List.length_nil,arcN_len]; omega),drop_cons' hx]
   simp [nodeN]
  ·simp only [dnlt hlt,cond_false,ref07_numbers_K1,drop_nil' hlt,List.flatMap_nil,List.append_nil]
theorem nums_ok {f:GFS} {n:Nat} (hf:Small f 1000) (hn:1001≤n):ref07_numbers n f=some (numN f):=by
 have hl:=hf.nodes
 have:=nums_L1 hf hn n 0 [(f.Nodes.length:Int)] (by omega) (by omega) (by simp only [List.length_cons,List.length_nil]; omega)
 rw [Int.ofNat_zero,List.drop_zero] at this
 simp only [ref07_numbers,this,numN,List.singleton_append]
def lexM:List Int→List Int→Int
 | x::xs,y::ys=>if cmpI x y≠0 then cmpI x y else lexM xs ys
 | _,_=>0
theorem refCmp_L {l m:List Int} (hl:l.length≤1000000000):∀ (n i:Nat),l.length - i<n→i≤l.length→ref07_Compare_L1 l m n i=some (lexM (l.drop i) (m.drop i))
 | 0,i,hn,_=>by omega
 | n+1,i,hn,hi=>by
  unfold ref07_Compare_L1
  by_cases h1:i<l.length
  ·obtain ⟨x,hx,_⟩:=get_of h1
   by_cases h2:i<m.length
   ·obtain ⟨y,hy,_⟩:=get_of h2
    simp only [dlt h1,dlt h2,cond_true,bindO_s,idxO_nat,hx,hy,wr1 h1 (show l.length≤9223372036854775807 by omega),drop_cons' hx,drop_cons' hy,lexM,cmpI]
    by_cases h3:x<y
    ·simp [h3]
    ·by_cases h4:y<x
     ·simp [h3,h4]
     ·simp only [h3,h4,decide_false,cond_false,if_false,ne_eq,not_true,gt_iff_lt]
      exact refCmp_L hl n (i+1) (by omega) (by omega)
   ·simp only [dlt h1,dnlt h2,cond_true,cond_false,bindO_s,ref07_Compare_K1,drop_cons' hx,drop_nil' h2,lexM]
  ·simp only [dnlt h1,cond_false,bindO_s,ref07_Compare_K1,drop_nil' h1,lexM]
theorem numN_len {f:GFS} {k:Nat} (hf:Small f k):(numN f).length≤1+f.Nodes.length*(2+2*k):=by
 have:∀ l:List GNode,(∀ x∈l,x.Arcs.length≤k)→(l.flatMap nodeN).length≤l.length*(2+2*k):=by
  intro l
  induction l with
  | nil=>intro _; simp
  | cons x l ih =>
   intro h
   have h1:=ih fun y hy=>h y (List.mem_cons_of_mem _ hy)
   have h2:=h x (by simp)
   have h3:(l.length+1)*(2+2*k)=l.length*(2+2*k)+(2+2*k):=by rw [Nat.add_mul,Nat.one_mul]
   simp only [List.flatMap_cons,List.length_append,nodeN,List.length_cons,List.length_nil,arcN_len]
   rw [h3]
   omega
 have:=this f.Nodes hf.arcs
 simp only [numN,List.length_cons]
 omega
theorem refCmp_ok {f g:GFS} {n:Nat} (hf:Small f 1000) (hg:Small g 1000) (hn:3000000≤n):ref07_Compare n f g=some (lexM (numN f) (numN g)):=by
 have h1:=numN_len hf
 have h2:=hf.nodes
 have h3:f.Nodes.length*(2+2*1000)≤1000*(2+2*1000):=Nat.mul_le_mul_right _ h2
 have:=refCmp_L (l:=numN f) (m:=numN g) (by omega) n 0 (by omega) (by omega)
 rw [Int.ofNat_zero,List.drop_zero,List.drop_zero] at this
 simp only [ref07_Compare,nums_ok hf (show 1001≤n by omega),nums_ok hg (show 1001≤n by omega),bindO_s,this]
theorem lexM_arcs {c d:List Int}:∀ {xs ys:List GArc},xs.length=ys.length→lexM (arcN xs++c) (arcN ys++d)=if lexL ccA xs ys≠0 then lexL ccA xs ys else lexM c d
 | [],[],_=>by simp [arcN,lexL]
 | [],_::_,h=>by simp at h
 | _::_,[],h=>by simp at h
 | x::xs,y::ys,h=>by
  simp only [List.length_cons,Nat.add_right_cancel_iff] at h
  have ih:=lexM_arcs (c:=c) (d:=d) h
  simp only [arcN,List.flatMap_cons,List.cons_append,List.nil_append,lexM,lexL] at ih ⊢
  rw [ih]
  unfold ccA lexC
  by_cases e:cmpI x.Feat y.Feat=0
  ·by_cases e2:cmpI x.To y.To=0<;>simp [e,e2]
  ·simp [e]
theorem lexM_nodes {c d:List Int}:∀ {xs ys:List GNode},xs.length=ys.length→lexM (xs.flatMap nodeN++c) (ys.flatMap nodeN++d)=if lexL ccN xs ys≠0 then lexL ccN xs ys else lexM c d
 | [],[],_=>by simp [lexL]
 | [],_::_,h=>by simp at h
 | _::_,[],h=>by simp at h
 | x::xs,y::ys,h=>by
  simp only [List.length_cons,Nat.add_right_cancel_iff] at h
  have ih:=lexM_nodes (c:=c) (d:=d) h
  simp only [List.flatMap_cons,nodeN,List.append_assoc,List.cons_append,List.nil_append,lexM,lexL]
  have hN:ccN x y=(if (if cmpI x.Typex y.Typex≠0 then cmpI x.Typex y.Typex else cmpI (x.Arcs.length:Int) y.Arcs.length)≠0 then (if cmpI x.Typex y.Typex≠0 then cmpI x.Typex y.Typex else cmpI (x.Arcs.length:Int) y.Arcs.length) else lexL ccA x.Arcs y.Arcs):=rfl
  simp only [hN]
  by_cases e:cmpI x.Typex y.Typex=0
  ·by_cases e2:cmpI (x.Arcs.length:Int) y.Arcs.length=0
   ·have hl:x.Arcs.length=y.Arcs.length:=by have:=cmpI_zero.1 e2; omega
    simp only [e,e2,ne_eq,not_true,if_false]
    rw [lexM_arcs hl,ih]
    by_cases e3:lexL ccA x.Arcs y.Arcs=0<;>simp [e3]
   ·simp [e,e2]
  ·simp [e]
theorem both_eq (f g:GFS):lexM (numN f) (numN g)=ccG f g:=by
 simp only [numN,lexM,ccG]
 unfold lexC
 by_cases e:cmpI (f.Nodes.length:Int) g.Nodes.length=0
 ·have hl:f.Nodes.length=g.Nodes.length:=by have:=cmpI_zero.1 e; omega
  have:=lexM_nodes (c:=[]) (d:=[]) hl
  simp only [List.append_nil,lexM] at this
  simp only [e,ne_eq,not_true,if_false,this]
  by_cases e2:lexL ccN f.Nodes g.Nodes=0<;>simp [e2]
 ·simp [e]
theorem refEq_ok {f g:GFS} {n:Nat} (hf:Small f 1000) (hg:Small g 1000) (hn:3000000≤n):ref07_Equal n f g=some (ccG f g == 0):=by
 simp only [ref07_Equal,refCmp_ok hf hg hn,bindO_s,both_eq]
theorem Small.up {f:GFS} {k k':Nat} (h:Small f k) (hk:k≤k'):Small f k':=⟨by have:=h.nodes; omega,fun x hx=>by have:=h.arcs x hx; omega⟩
end Go.Proofs
end
section
namespace Go.Vx
open Go Go.Rx
set_option linter.unusedVariables false
section
variable {K V:Type} [DecidableEq K]
def aget (k:K):List (K×V×Nat)→Option V
 | []=>none
 | e::es=>if k=e.1 then some e.2.1 else aget k es
variable {eq:K→K→Bool} (he:∀ a b,eq a b=true↔a=b)
include he
omit [DecidableEq K] in
theorem eq_f {a b:K} (h:¬ a=b):eq a b=false:=by
 cases h':eq a b with
 | false=>rfl
 | true=>exact absurd ((he a b).1 h') h
theorem find_get (k:K):∀ (es:List (K×V×Nat)) (i:Nat),(mFindL eq k es i).map (fun x=>x.2.1)=aget k es
 | [],i=>rfl
 | e::es,i=>by
  simp only [mFindL,aget]
  by_cases h:k=e.1
  ·rw [(he k e.1).2 h,if_pos h]; rfl
  ·rw [eq_f he h,if_neg h]; exact find_get k es (i+1)
theorem mGet_get (m:MapL K V) (k:K):mGet eq m k=aget k m.es:=find_get he k m.es 0
theorem get_set (k:K) (v:V):∀ {es:List (K×V×Nat)} {i j:Nat} {q:V×Nat},mFindL eq k es i=some (j,q)→i≤j∧∀ x,aget x (mSetL v es (j - i))=if x=k then some v else aget x es
 | [],i,j,q,h=>by cases h
 | e::es,i,j,q,h=>by
  simp only [mFindL] at h
  by_cases hk:k=e.1
  ·rw [(he k e.1).2 hk] at h
   simp only [cond_true,Option.some.injEq,Prod.mk.injEq] at h
   obtain ⟨rfl,_⟩:=h
   refine ⟨Nat.le_refl _,fun x=>?_⟩
   simp only [Nat.sub_self,mSetL,aget,hk]
   split<;>rfl
  ·rw [eq_f he hk] at h
   simp only [cond_false] at h
   obtain ⟨h1,h2⟩:=get_set k v h
   refine ⟨by omega,fun x=>?_⟩
   rw [show j - i=(j - (i+1))+1 by omega]
   simp only [mSetL,aget,h2]
   by_cases hx:x=e.1
   ·have:¬ x=k:=fun h=>hk (h ▸ hx)
    simp [hx]
    intro h; exact absurd h.symm hk
   ·simp [hx]
omit he [DecidableEq K] in
theorem set_keys (v:V):∀ (es:List (K×V×Nat)) (i:Nat),(mSetL v es i).map (fun e=>e.1)=es.map (fun e=>e.1)∧(mSetL v es i).map (fun e=>e.2.2)=es.map (fun e=>e.2.2)
 | [],i=>by simp [mSetL]
 | e::es,0=>by simp [mSetL]
 | e::es,i+1=>by simp [mSetL,set_keys v es i]
omit he in
theorem get_none {k:K}:∀ {es:List (K×V×Nat)},k ∉ es.map (fun e=>e.1)→aget k es=none
 | [],_=>rfl
 | e::es,h=>by
  simp only [List.map_cons,List.mem_cons,not_or] at h
  simp only [aget,h.1,if_false]
  exact get_none h.2
theorem get_del (k:K):∀ {es:List (K×V×Nat)} {i j:Nat} {q:V×Nat},(es.map (fun e=>e.1)).Nodup→mFindL eq k es i=some (j,q)→i≤j∧∀ x,aget x (mDelL es (j - i))=if x=k then none else aget x es
 | [],i,j,q,_,h=>by cases h
 | e::es,i,j,q,hn,h=>by
  simp only [mFindL] at h
  simp only [List.map_cons,List.nodup_cons] at hn
  by_cases hk:k=e.1
  ·rw [(he k e.1).2 hk] at h
   simp only [cond_true,Option.some.injEq,Prod.mk.injEq] at h
   obtain ⟨rfl,_⟩:=h
   refine ⟨Nat.le_refl _,fun x=>?_⟩
   simp only [Nat.sub_self,mDelL,aget]
   by_cases hx:x=k
   ·rw [if_pos hx,hx,hk]; exact get_none hn.1
   ·have:¬ x=e.1:=fun h=>hx (h.trans hk.symm)
    simp [hx,this]
  ·rw [eq_f he hk] at h
   simp only [cond_false] at h
   obtain ⟨h1,h2⟩:=get_del k hn.2 h
   refine ⟨by omega,fun x=>?_⟩
   rw [show j - i=(j - (i+1))+1 by omega]
   simp only [mDelL,aget,h2]
   by_cases hx:x=e.1
   ·have:¬ x=k:=fun h=>hk (h ▸ hx)
    simp [hx]
    intro h; exact absurd h.symm hk
   ·simp [hx]
omit he [DecidableEq K] in
theorem del_sub:∀ (es:List (K×V×Nat)) (i:Nat),(mDelL es i).Sublist es
 | [],i=>by simp [mDelL]
 | e::es,0=>by simp [mDelL]
 | e::es,i+1=>by simp [mDelL,del_sub es i]
omit he in
theorem get_app (x k:K) (v:V) (b:Nat):∀ es:List (K×V×Nat),aget x (es++[(k,v,b)])=if aget x es=none then (if x=k then some v else none) else aget x es
 | []=>by simp [aget]
 | e::es=>by
  simp only [List.cons_append,aget]
  by_cases hx:x=e.1
  ·simp [hx]
  ·simp only [hx,if_false]; exact get_app x k v b es
structure MInv (m:MapL K V):Prop where
 keys:(m.es.map (fun e=>e.1)).Nodup
 borns:(m.es.map (fun e=>e.2.2)).Nodup
 lt:∀ e∈m.es,e.2.2<m.cl
omit he in
theorem MInv.app {m:MapL K V} (h:MInv m) {k:K} (hf:aget k m.es=none) (v:V):MInv (⟨m.es++[(k,v,m.cl)],m.cl+1⟩:MapL K V):=by
 refine ⟨?_,?_,?_⟩
 ·simp only [List.map_append,List.map_cons,List.map_nil]
  rw [List.nodup_append]
  refine ⟨h.keys,by simp,?_⟩
  intro a ha b hb hab
  simp only [List.mem_singleton] at hb
  subst hab hb
  clear h
  generalize m.es=es at *
  induction es with
  | nil=>simp at ha
  | cons e es ih =>
   simp only [aget] at hf
   by_cases hx:a=e.1
   ·simp [hx] at hf
   ·simp only [hx,if_false] at hf
    simp only [List.map_cons,List.mem_cons,hx,false_or] at ha
    exact ih ha hf
 ·simp only [List.map_append,List.map_cons,List.map_nil]
  rw [List.nodup_append]
  refine ⟨h.borns,by simp,?_⟩
  intro a ha b hb hab
  simp only [List.mem_singleton] at hb
  obtain ⟨e,he,rfl⟩:=List.mem_map.1 ha
  have:=h.lt e he
  omega
 ·intro e he
  rcases List.mem_append.1 he with he | he
  ·have:=h.lt e he; simp only; omega
  ·simp only [List.mem_singleton] at he; subst he; simp
omit he [DecidableEq K] in
theorem MInv.set {m:MapL K V} (h:MInv m) (v:V) (i:Nat):MInv (⟨mSetL v m.es i,m.cl⟩:MapL K V):=by
 obtain ⟨h1,h2⟩:=set_keys v m.es i
 refine ⟨by simp only [h1]; exact h.keys,by simp only [h2]; exact h.borns,fun e he=>?_⟩
 have:e.2.2∈(mSetL v m.es i).map (fun e=>e.2.2):=List.mem_map.2 ⟨e,he,rfl⟩
 rw [h2] at this
 obtain ⟨e',g1,g2⟩:=List.mem_map.1 this
 have:=h.lt e' g1
 simp only at g2 ⊢
 omega
theorem upd_ok {m:MapL K V} (h:MInv m) (k:K) (v:V):MInv (mUpd eq m k v)∧∀ x,aget x (mUpd eq m k v).es=if x=k then some v else aget x m.es:=by
 unfold mUpd
 cases hf:mFindL eq k m.es 0 with
 | none =>
  have hg:aget k m.es=none:=by rw [← find_get he k m.es 0,hf]; rfl
  refine ⟨h.app hg v,fun x=>?_⟩
  simp only [get_app]
  by_cases hx:x=k
  ·simp [hx,hg]
  ·simp only [hx,if_false]; split<;>simp_all
 | some q =>
  obtain ⟨j,q⟩:=q
  have:=(get_set he k v hf).2
  exact ⟨h.set v j,fun x=>by simpa using this x⟩
theorem del_ok {m:MapL K V} (h:MInv m) (k:K):MInv (mDel eq m k)∧∀ x,aget x (mDel eq m k).es=if x=k then none else aget x m.es:=by
 unfold mDel
 cases hf:mFindL eq k m.es 0 with
 | none =>
  have hg:aget k m.es=none:=by rw [← find_get he k m.es 0,hf]; rfl
  refine ⟨h,fun x=>?_⟩
  by_cases hx:x=k
  ·simp [hx,hg]
  ·simp [hx]
 | some q =>
  obtain ⟨j,q⟩:=q
  have:=(get_del he k h.keys hf).2
  have hs:=del_sub m.es j
  exact ⟨⟨(hs.map _).nodup h.keys,(hs.map _).nodup h.borns,fun e he=>h.lt e (hs.subset he)⟩,fun x=>by simpa using this x⟩
end
end Go.Vx
end
section
namespace Go.Proofs
open Go Go.Rx Go.Vx Go.Shelf Go.Sort
set_option linter.unusedVariables false
set_option linter.unusedSimpArgs false
set_option maxRecDepth 10000
theorem insB_congr {α:Type} {lt lt':α→α→Bool} (x:α):∀ {l:List α},(∀ y∈l,lt y x=lt' y x)→insB lt x l=insB lt' x l
 | [],_=>rfl
 | y::l,h=>by
  have ih:=insB_congr (lt:=lt) (lt':=lt') x (l:=l) fun z hz=>h z (List.mem_cons_of_mem _ hz)
  simp only [insB,h y (by simp),ih]
theorem srt_congr {α:Type} {lt lt':α→α→Bool}:∀ {l:List α},(∀ x∈l,∀ y∈l,lt x y=lt' x y)→srt lt l=srt lt' l
 | [],_=>rfl
 | x::l,h=>by
  simp only [srt]
  rw [srt_congr fun a ha b hb=>h a (by simp [ha]) b (by simp [hb])]
  exact insB_congr x fun y hy=>h y (by simp [(srt_perm lt' l).mem_iff.1 hy]) x (by simp)
theorem okSort_of {α:Type} {eq:α→α→Bool} (heq:∀ x,eq x x=true) {f:α→α→Option Int} {c:α→α→Int} (hc:Cmp c) {ds:List α} (hf:∀ x∈ds,∀ y∈ds,f x y=some (c x y)) (hz:∀ x∈ds,∀ y∈ds,c x y=0→x=y):okSort eq f ds=true:=by
 have hlt:∀ x∈ds,∀ y∈ds,fLt f x y=ltOf c x y:=fun x hx y hy=>by simp [fLt,hf x hx y hy,ltOf]
 have hs:=hc.swo
 unfold okSort
 rw [List.all_eq_true]
 intro x hx
 rw [Bool.and_eq_true,Bool.not_eq_true',List.all_eq_true]
 refine ⟨by rw [hlt x hx x hx]; exact hs.irrefl x,fun y hy=>?_⟩
 rw [Bool.and_eq_true,Bool.and_eq_true,List.all_eq_true]
 refine ⟨by rw [hf x hx y hy]; rfl,?_,fun z hzm=>?_⟩
 ·rw [hlt x hx y hy,hlt y hy x hx]
  cases h1:ltOf c x y with
  | true=>rfl
  | false =>
   cases h2:ltOf c y x with
   | true=>rfl
   | false =>
    have a:=hc.anti x y
    simp [ltOf] at h1 h2
    have:=hz x hx y hy (by omega)
    subst this
    simp [heq]
 ·rw [hlt x hx y hy,hlt y hy z hzm,hlt x hx z hzm]
  cases h1:ltOf c x y with
  | true =>
   cases h2:ltOf c y z with
   | true=>simp [hs.trans x y z h1 h2]
   | false=>simp
  | false =>
   cases h2:ltOf c y z with
   | true=>simp
   | false=>simp [hs.ntrans x y z h1 h2]
theorem sortO_of {α:Type} {eq:α→α→Bool} (heq:∀ x,eq x x=true) {f:α→α→Option Int} {c:α→α→Int} (hc:Cmp c) {ds:List α} (hl:ds.length≤1000000) (hf:∀ x∈ds,∀ y∈ds,f x y=some (c x y)) (hz:∀ x∈ds,∀ y∈ds,c x y=0→x=y):sortO eq f ds=some (srt (ltOf c) ds):=by
 unfold sortO
 have hb:Nat.ble ds.length 1000000=true:=by rw [Nat.ble_eq]; exact hl
 rw [okSort_of heq hc hf hz,hb]
 simp only [Bool.and_self,cond_true]
 have e:srt (fLt f) ds=srt (ltOf c) ds:=srt_congr fun x hx y hy=>by simp [fLt,hf x hx y hy,ltOf]
 rw [e]
def cF (a b:GArc):Int:=cmpI a.Feat b.Feat
theorem cF_ok:Cmp cF:=cmpI_ok.pull GArc.Feat
def srtA (l:List GArc):List GArc:=srt (ltOf cF) l
theorem srtA_perm (l:List GArc):(srtA l).Perm l:=srt_perm _ l
def Dis (l:List GArc):Prop:=l.Pairwise (fun a b=>a.Feat≠b.Feat)
theorem Dis.eq:∀ {l:List GArc},Dis l→∀ x∈l,∀ y∈l,x.Feat=y.Feat→x=y
 | [],_,x,hx,_,_,_=>by cases hx
 | a::l,h,x,hx,y,hy,e=>by
  obtain ⟨h1,h2⟩:=List.pairwise_cons.1 h
  rcases List.mem_cons.1 hx with e1 | hx'
  ·rcases List.mem_cons.1 hy with e2 | hy'
   ·rw [e1,e2]
   ·subst e1; exact absurd e (h1 y hy')
  ·rcases List.mem_cons.1 hy with e2 | hy'
   ·subst e2; exact absurd e.symm (h1 x hx')
   ·exact Dis.eq h2 x hx' y hy' e
theorem append_L {l:List GArc} (hl:l.length≤1000000):∀ (m i:Nat),l.length - i<m→i≤l.length→slices_AppendSeq_Arc_s1_L2 l m i (l.take i)=some l
 | 0,i,hm,_=>by omega
 | m+1,i,hm,hi=>by
  unfold slices_AppendSeq_Arc_s1_L2
  by_cases hlt:i<l.length
  ·obtain ⟨x,hx,_⟩:=get_of hlt
   have hn:((l.take i).length+1)*16≤140737488355328∧(l.take i).length+1≤140737488355328:=by rw [List.length_take]; omega
   simp only [dlt hlt,cond_true,idxO_nat,hx,bindO_s,needO,hn,and_self,if_true,slices_AppendSeq_Arc_s1_Y3,wr1 hlt (show l.length≤9223372036854775807 by omega),← take_snoc hx]
   exact append_L hl m (i+1) (by omega) (by omega)
  ·simp only [dnlt hlt,cond_false,slices_AppendSeq_Arc_s1_K2]
   rw [List.take_of_length_le (by omega)]
theorem byF_ok (n:Nat) (a b:GArc):graph_byFeature n a b=some (cF a b):=by simp [graph_byFeature,cmpInt_eq,bindO_s,cF]
theorem eqA_refl (x:GArc):eqA x x=true:=by simp [eqA]
theorem sorted_ok {l:List GArc} (hl:l.length≤1000000) (hd:Dis l) {n:Nat} (hn:l.length<n):slices_SortedFunc_Arc_s1 n l=some (srtA l):=by
 have h1:=append_L hl n 0 (by omega) (by omega)
 rw [Int.ofNat_zero,List.take_zero] at h1
 have h2:=sortO_of eqA_refl (f:=fun a b=>graph_byFeature n a b) cF_ok hl (fun x _ y _=>byF_ok n x y) (fun x hx y hy h=>hd.eq x hx y hy (cmpI_zero.1 h))
 simp only [slices_SortedFunc_Arc_s1,slices_Collect_Arc_s1,slices_AppendSeq_Arc_s1,h1,bindO_s,h2,srtA]
structure NOk (x:GNode) (N:Nat):Prop where
 ty:0≤x.Typex
 dis:Dis x.Arcs
 arc:∀ a∈x.Arcs,0≤a.Feat∧0≤a.To∧a.To<N
def GOK (f:GFS):Prop:=∀ x∈f.Nodes,NOk x f.Nodes.length
def nd (f:GFS) (v:Int):GNode:=(f.Nodes[v.toNat]?).getD (GNode.mk 0 [])
def InG (f:GFS) (v:Int):Prop:=0≤v∧v<f.Nodes.length
theorem nd_at {f:GFS} {v:Int} (h:InG f v):idxO f.Nodes v=some (nd f v)∧nd f v∈f.Nodes:=by
 have hv:v.toNat<f.Nodes.length:=by have:=h.1; have:=h.2; omega
 have h1:0≤v∧v<(f.Nodes.length:Int):=h
 simp [idxO,h1,nd,hv]
def sar (f:GFS) (v:Int):List GArc:=srtA (nd f v).Arcs
theorem sar_mem {f:GFS} {v:Int} {a:GArc}:a∈sar f v↔a∈(nd f v).Arcs:=(srtA_perm _).mem_iff
def dfsF (g:List Int→Int→List Int) (o:List Int) (a:GArc):List Int:=if a.To∈o then o else g o a.To
def dfs (f:GFS):Nat→List Int→Int→List Int
 | 0,o,_=>o
 | k+1,o,v=>(sar f v).foldl (dfsF (dfs f k)) (o++[v])
structure Seen (f:GFS) (o:List Int):Prop where
 nd:o.Nodup
 ing:∀ v∈o,InG f v
theorem nodup_bound:∀ (N:Nat) {o:List Int},o.Nodup→(∀ v∈o,0≤v∧v<N)→o.length≤N
 | 0,o,_,h=>by
  cases o with
  | nil=>simp
  | cons v o=>have:=h v (by simp); omega
 | N+1,o,hn,h=>by
  have h1:=nodup_bound N (o:=o.filter (fun v=>v != (N:Int))) (hn.filter _) fun v hv=>by
   rw [List.mem_filter] at hv
   have:=h v hv.1
   have h2:=hv.2
   simp at h2
   omega
  have h2:o.length≤(o.filter (fun v=>v != (N:Int))).length+1:=by
   clear h1 h
   induction o with
   | nil=>simp
   | cons x o ih =>
    obtain ⟨h3,h4⟩:=List.nodup_cons.1 hn
    have:=ih h4
    by_cases e:x=N
    ·subst e
     have:o.filter (fun v=>v != (N:Int))=o:=List.filter_eq_self.2 fun v hv=>by
      simp only [bne_iff_ne,ne_eq]
      intro e; subst e; exact h3 hv
     simp [this]
    ·have e2:(x != (N:Int))=true:=by simpa using e
     rw [List.filter_cons_of_pos (by simpa using e)]
     simp only [List.length_cons]
     omega
  omega
theorem Seen.len {f:GFS} {o:List Int} (h:Seen f o):o.length≤f.Nodes.length:=nodup_bound _ h.nd h.ing
theorem Seen.snoc {f:GFS} {o:List Int} (h:Seen f o) {v:Int} (hv:InG f v) (hn:v ∉ o):Seen f (o++[v]):=⟨by
 rw [List.nodup_append]
 refine ⟨h.nd,by simp,?_⟩
 intro a ha b hb
 simp at hb
 subst hb
 intro e; subst e; exact hn ha,fun u hu=>by
 rcases List.mem_append.1 hu with hu | hu
 ·exact h.ing u hu
 ·simp at hu; subst hu; exact hv⟩
theorem dfs_ok {f:GFS} (hg:GOK f):∀ (k:Nat) (o:List Int) (v:Int),Seen f o→InG f v→v ∉ o→f.Nodes.length - o.length≤k →
  Seen f (dfs f k o v)∧(∃ t,dfs f k o v=o++v::t)∧(∀ u∈dfs f k o v,u ∉ o→∀ a∈(nd f u).Arcs,a.To∈dfs f k o v)∧(∀ k',f.Nodes.length - o.length≤k'→dfs f k' o v=dfs f k o v)
 | 0,o,v,hs,hv,hn,hk=>by
  have h1:=(hs.snoc hv hn).len
  simp only [List.length_append,List.length_cons,List.length_nil] at h1
  omega
 | k+1,o,v,hs,hv,hn,hk=>by
  have hs1:=hs.snoc hv hn
  have hl1:=hs1.len
  simp only [List.length_append,List.length_cons,List.length_nil] at hl1
  have key:∀ (l:List GArc),(∀ a∈l,InG f a.To)→∀ (p:List Int),Seen f p→(∃ t,p=o++v::t)→(∀ u∈p,u ∉ o→u≠v→∀ a∈(nd f u).Arcs,a.To∈p) →
    Seen f (l.foldl (dfsF (dfs f k)) p)∧(∃ t,l.foldl (dfsF (dfs f k)) p=p++t)∧(∀ u∈l.foldl (dfsF (dfs f k)) p,u ∉ o→u≠v→∀ a∈(nd f u).Arcs,a.To∈l.foldl (dfsF (dfs f k)) p)∧(∀ a∈l,a.To∈l.foldl (dfsF (dfs f k)) p) ∧
     (∀ k',f.Nodes.length - (o.length+1)≤k'→l.foldl (dfsF (dfs f k')) p=l.foldl (dfsF (dfs f k)) p):=by
   intro l
   induction l with
   | nil=>intro _ p hp hpre hcl; exact ⟨hp,⟨[],by simp⟩,hcl,⟨fun a ha=>(List.not_mem_nil ha).elim,fun _ _=>rfl⟩⟩
   | cons a l ih =>
    intro hl p hp hpre hcl
    have hla:=hl a (by simp)
    have hll:=fun b hb=>hl b (List.mem_cons_of_mem a hb)
    simp only [List.foldl_cons]
    by_cases hm:a.To∈p
    ·have e:∀ k',dfsF (dfs f k') p a=p:=fun k'=>by simp [dfsF,hm]
     simp only [e]
     obtain ⟨g1,⟨t,g2⟩,g3,g4,g5⟩:=ih hll p hp hpre hcl
     refine ⟨g1,⟨t,g2⟩,g3,fun b hb=>?_,g5⟩
     rcases List.mem_cons.1 hb with rfl | hb
     ·rw [g2]; exact List.mem_append_left _ hm
     ·exact g4 b hb
    ·have e:∀ k',dfsF (dfs f k') p a=dfs f k' p a.To:=fun k'=>by simp [dfsF,hm]
     obtain ⟨t0,hpre⟩:=hpre
     have hpl:o.length+1≤p.length:=by rw [hpre]; simp
     obtain ⟨d1,⟨t1,d2⟩,d3,d4⟩:=dfs_ok hg k p a.To hp hla hm (by omega)
     have hsub:∀ u∈p,u∈dfs f k p a.To:=fun u hu=>by rw [d2]; exact List.mem_append_left _ hu
     obtain ⟨g1,⟨t,g2⟩,g3,g4,g5⟩:=ih hll (dfs f k p a.To) d1 ⟨t0++a.To::t1,by rw [d2,hpre]; simp⟩ (fun u hu h1 h2 b hb=>by
      by_cases hup:u∈p
      ·exact hsub _ (hcl u hup h1 h2 b hb)
      ·exact d3 u hu hup b hb)
     rw [e k]
     refine ⟨g1,⟨a.To::t1++t,by rw [g2,d2]; simp⟩,g3,fun b hb=>?_,fun k' hk'=>?_⟩
     ·rcases List.mem_cons.1 hb with rfl | hb
      ·rw [g2,d2]; simp
      ·exact g4 b hb
     ·rw [e k',d4 k' (by omega)]; exact g5 k' hk'
  have hla:∀ a∈sar f v,InG f a.To:=fun a ha=>by
   have h1:=(hg _ (nd_at hv).2).arc a (sar_mem.1 ha)
   exact ⟨h1.2.1,h1.2.2⟩
  obtain ⟨g1,⟨t,g2⟩,g3,g4,g5⟩:=key (sar f v) hla (o++[v]) hs1 ⟨[],rfl⟩ (fun u hu h1 h2=>by
   rcases List.mem_append.1 hu with hu | hu
   ·exact absurd hu h1
   ·simp at hu; exact absurd hu h2)
  refine ⟨g1,⟨t,by show (sar f v).foldl _ _=_; rw [g2]; simp⟩,fun u hu h1 a ha=>?_,fun k' hk'=>?_⟩
  ·by_cases e:u=v
   ·subst e; exact g4 a (sar_mem.2 ha)
   ·exact g3 u hu h1 e a ha
  ·cases k' with
   | zero=>omega
   | succ k'=>exact g5 k' (by omega)
def ordG (f:GFS) (r:Int):List Int:=dfs f f.Nodes.length [] r
theorem Seen.nil (f:GFS):Seen f []:=⟨List.nodup_nil,fun v hv=>by cases hv⟩
structure OrdOk (f:GFS) (r:Int) (o:List Int):Prop where
 seen:Seen f o
 head:∃ t,o=r::t
 clo:∀ u∈o,∀ a∈(nd f u).Arcs,a.To∈o
theorem ordG_ok {f:GFS} (hg:GOK f) {r:Int} (hr:InG f r):OrdOk f r (ordG f r)∧∀ k,f.Nodes.length≤k→dfs f k [] r=ordG f r:=by
 obtain ⟨h1,⟨t,h2⟩,h3,h4⟩:=dfs_ok hg f.Nodes.length [] r (Seen.nil f) hr (by simp) (by simp)
 exact ⟨⟨h1,⟨t,by have h5:=h2; rw [List.nil_append] at h5; exact h5⟩,fun u hu=>h3 u hu (by simp)⟩,fun k hk=>h4 k (by simpa using hk)⟩
def arcC (o:List Int) (a:GArc):GArc:=⟨a.Feat,(o.idxOf a.To:Int)⟩
def nodeC (f:GFS) (o:List Int) (v:Int):GNode:=⟨(nd f v).Typex,(sar f v).map (arcC o)⟩
def canonG (f:GFS) (r:Int):GFS:=⟨(ordG f r).map (nodeC f (ordG f r))⟩
structure Rep (w:MapL Int Int) (o:List Int):Prop where
 inv:MInv w
 get:∀ x,aget x w.es=if x∈o then some (o.idxOf x:Int) else none
theorem beqI (a b:Int):(a == b)=true↔a=b:=by simp
theorem Rep.nil:Rep (mNew:MapL Int Int) []:=⟨⟨by simp [mNew],by simp [mNew],by simp [mNew]⟩,fun x=>by simp [mNew,aget]⟩
theorem Rep.snoc {w:MapL Int Int} {o:List Int} (h:Rep w o) {v:Int} (hv:v ∉ o):Rep (mUpd (fun a b=>a == b) w v (o.length:Int)) (o++[v]):=by
 obtain ⟨h1,h2⟩:=upd_ok (eq:=fun a b:Int=>a == b) beqI h.inv v (o.length:Int)
 refine ⟨h1,fun x=>?_⟩
 rw [h2,h.get]
 by_cases e:x=v
 ·subst e
  simp [List.idxOf_append,hv]
 ·by_cases hx:x∈o
  ·simp [e,hx,List.idxOf_append]
  ·simp [e,hx]
theorem Rep.mget {w:MapL Int Int} {o:List Int} (h:Rep w o) (x:Int):mGet (fun a b=>a == b) w x=if x∈o then some (o.idxOf x:Int) else none:=by
 rw [mGet_get (eq:=fun a b:Int=>a == b) beqI,h.get]
theorem visit_ok {f:GFS} {k:Nat} (hg:GOK f) (hf:Small f k) (hk:k≤1000000):∀ (n:Nat) (o:List Int) (v:Int) (w:MapL Int Int),Seen f o→InG f v→v ∉ o→Rep w o→f.Nodes.length - o.length+k+2≤n →
  ∃ w',graph_canonical_1_s1 n v f.Nodes o w=some (dfs f n o v,w')∧Rep w' (dfs f n o v)
 | 0,o,v,w,hs,hv,hn,hw,hfu=>by omega
 | n+1,o,v,w,hs,hv,hn,hw,hfu=>by
  have hs1:=hs.snoc hv hn
  have hl1:=hs1.len
  simp only [List.length_append,List.length_cons,List.length_nil] at hl1
  obtain ⟨hx,hxm⟩:=nd_at hv
  have hno:=hg _ hxm
  have hal:=hf.arcs _ hxm
  have hnl:=hf.nodes
  have hsl:(sar f v).length=(nd f v).Arcs.length:=(srtA_perm _).length_eq
  have key:∀ (m i:Nat) (p:List Int) (w:MapL Int Int),(sar f v).length - i<m→i≤(sar f v).length→Seen f p→o.length+1≤p.length→Rep w p →
    ∃ w',graph_canonical_1_s1_L1 f.Nodes (sar f v) (graph_canonical_1_s1 n) m i p w=some (((sar f v).drop i).foldl (dfsF (dfs f n)) p,w')∧Rep w' (((sar f v).drop i).foldl (dfsF (dfs f n)) p):=by
   intro m
   induction m with
   | zero=>intro i p w hm; omega
   | succ m ih =>
    intro i p w hm hi hp hpl hw
    unfold graph_canonical_1_s1_L1
    by_cases hlt:i<(sar f v).length
    ·obtain ⟨a,ha,ham⟩:=get_of hlt
     have h1:=hno.arc a (sar_mem.1 ham)
     have hw1:IntKind.i64.wrap ((i:Int)+1)=((i+1:Nat):Int):=wr1 hlt (by omega)
     simp only [dlt hlt,cond_true,idxO_nat,ha,bindO_s,hw.mget,drop_cons' ha,List.foldl_cons]
     by_cases hm2:a.To∈p
     ·simp only [hm2,if_true,Option.isSome_some,Bool.not_true,cond_false,graph_canonical_1_s1_J2,hw1,dfsF]
      exact ih (i+1) p w (by omega) (by omega) hp hpl hw
     ·simp only [hm2,if_false,Option.isSome_none,Bool.not_false,cond_true,graph_canonical_1_s1_J2,hw1,dfsF]
      obtain ⟨w1,g1,g2⟩:=visit_ok hg hf hk n p a.To w hp ⟨h1.2.1,h1.2.2⟩ hm2 hw (by omega)
      obtain ⟨d1,⟨t,d2⟩,_,_⟩:=dfs_ok hg n p a.To hp ⟨h1.2.1,h1.2.2⟩ hm2 (by omega)
      simp only [g1,bindO_s]
      exact ih (i+1) _ w1 (by omega) (by omega) d1 (by rw [d2]; simp; omega) g2
    ·rw [drop_nil' hlt]
     simp only [dnlt hlt,cond_false,graph_canonical_1_s1_K1,List.foldl_nil]
     exact ⟨w,rfl,hw⟩
  have hneed:(o.length+1)*8≤140737488355328∧o.length+1≤140737488355328:=by omega
  obtain ⟨w',g1,g2⟩:=key n 0 (o++[v]) _ (by omega) (by omega) hs1 (by simp) (hw.snoc hn)
  rw [Int.ofNat_zero,List.drop_zero] at g1
  rw [List.drop_zero] at g2
  refine ⟨w',?_,g2⟩
  show graph_canonical_1_s1_b n (graph_canonical_1_s1 n) v f.Nodes o w=_
  simp only [graph_canonical_1_s1_b,needO,hneed,and_self,if_true,hx,bindO_s,slices_Values_Arc_s1,sorted_ok (show (nd f v).Arcs.length≤1000000 by omega) hno.dis (show (nd f v).Arcs.length<n by omega)]
  exact g1
theorem set_at {α:Type} (a b:List α) (x y:α):(a++x::b).set a.length y=a++y::b:=by simp
theorem build_L2 {f:GFS} {o:List Int} {w:MapL Int Int} {z:Int} {l15:List GNode} {rc:Int→List GNode→Option GFS} {x:Int} {l:List GArc} (hl:l.length≤1000000) (hw:Rep w o) (hin:∀ a∈l,a.To∈o):∀ (m i:Nat),l.length - i<m→i≤l.length →
  graph_canonical_L2 f (o,w) z l15 rc x l m i ((l.take i).map (arcC o)++l.drop i)=graph_canonical_K2 f (o,w) z l15 rc x (l.map (arcC o))
 | 0,i,hm,_=>by omega
 | m+1,i,hm,hi=>by
  unfold graph_canonical_L2
  by_cases hlt:i<l.length
  ·obtain ⟨a,ha,ham⟩:=get_of hlt
   have e1:(((l.take i).map (arcC o)++l.drop i))[i]? = some a:=by
    rw [List.getElem?_append_right (by simp; omega)]
    simp [show min i l.length=i by omega,ha]
   have e2:(((l.take i).map (arcC o)++l.drop i)).set (0+(i:Int).toNat) (arcC o a)=(l.take (i+1)).map (arcC o)++l.drop (i+1):=by
    rw [drop_cons' ha,take_snoc ha]
    have h3:((l.take i).map (arcC o)).length=i:=by simp; omega
    have:=set_at ((l.take i).map (arcC o)) (l.drop (i+1)) a (arcC o a)
    rw [h3] at this
    rw [Nat.zero_add,Int.toNat_natCast,this,List.map_append,List.map_cons,List.map_nil,List.append_assoc]
    rfl
   have e3:(⟨a.Feat,((if a.To∈o then some (o.idxOf a.To:Int) else none).getD 0)⟩:GArc)=arcC o a:=by simp [hin a ham,arcC]
   simp only [dlt hlt,cond_true,idxO_nat,e1,bindO_s,hw.mget,e3,e2,wr1 hlt (show l.length≤9223372036854775807 by omega)]
   exact build_L2 hl hw hin m (i+1) (by omega) (by omega)
  ·simp only [dnlt hlt,cond_false]
   rw [List.take_of_length_le (by omega),List.drop_eq_nil_of_le (by omega),List.append_nil]
theorem build_L1 {f:GFS} {k:Nat} (hg:GOK f) (hf:Small f k) (hk:k≤1000000) {n:Nat} (hn:k+2≤n) {r:Int} {o:List Int} {w:MapL Int Int} (ho:OrdOk f r o) (hw:Rep w o):∀ (m i:Nat),o.length - i<m→i≤o.length →
  graph_canonical_L1 f n (o,w) m i ((o.take i).map (nodeC f o)++List.replicate (o.length - i) (GNode.mk 0 []))=some ⟨o.map (nodeC f o)⟩
 | 0,i,hm,_=>by omega
 | m+1,i,hm,hi=>by
  have hol:=ho.seen.len
  have hnl:=hf.nodes
  unfold graph_canonical_L1
  by_cases hlt:i<o.length
  ·obtain ⟨v,hv,hvm⟩:=get_of hlt
   obtain ⟨hx,hxm⟩:=nd_at (ho.seen.ing v hvm)
   have hno:=hg _ hxm
   have hal:=hf.arcs _ hxm
   have hsl:(sar f v).length=(nd f v).Arcs.length:=(srtA_perm _).length_eq
   have h2:=build_L2 (f:=f) (z:=(i:Int)) (l15:=(o.take i).map (nodeC f o)++List.replicate (o.length - i) (GNode.mk 0 [])) (rc:=graph_canonical_L1 f n (o,w) m) (x:=v) (l:=sar f v) (by omega) hw (fun a ha=>ho.clo v hvm a (sar_mem.1 ha)) n 0 (by omega) (by omega)
   rw [Int.ofNat_zero,List.take_zero,List.map_nil,List.nil_append,List.drop_zero] at h2
   have h3:((o.take i).map (nodeC f o)).length=i:=by simp; omega
   have e0:o.length - i=(o.length - (i+1))+1:=by omega
   have e1:idxV ((o.take i).map (nodeC f o)++List.replicate (o.length - i) (GNode.mk 0 [])) 0 ((o.length:Int).toNat) (i:Int)=some (GNode.mk 0 []):=by
    have hi:0≤(i:Int)∧(i:Int)<(((o.length:Int).toNat:Nat):Int):=by rw [Int.toNat_natCast]; omega
    rw [idxV,if_pos hi,Nat.zero_add,Int.toNat_natCast,List.getElem?_append_right (by omega),h3,e0]
    simp
   have e2:((o.take i).map (nodeC f o)++List.replicate (o.length - i) (GNode.mk 0 [])).set (i:Int).toNat (nodeC f o v)=(o.take (i+1)).map (nodeC f o)++List.replicate (o.length - (i+1)) (GNode.mk 0 []):=by
    rw [e0,List.replicate_succ,take_snoc hv]
    have:=set_at ((o.take i).map (nodeC f o)) (List.replicate (o.length - (i+1)) (GNode.mk 0 [])) (GNode.mk 0 []) (nodeC f o v)
    rw [h3] at this
    simp only [Int.toNat_natCast]
    rw [this]
    simp
   have e3:(⟨(nd f v).Typex,(sar f v).map (arcC o)⟩:GNode)=nodeC f o v:=rfl
   have hso:=sorted_ok (show (nd f v).Arcs.length≤1000000 by omega) hno.dis (show (nd f v).Arcs.length<n by omega)
   simp only [dlt hlt,cond_true,idxO_nat,hv,hx,bindO_s,slices_Values_Arc_s1,hso]
   show graph_canonical_L2 f (o,w) i _ _ v (sar f v) n 0 (sar f v)=_
   rw [h2]
   simp only [graph_canonical_K2,hx,bindO_s,e1,e3,wr1 hlt (show o.length≤9223372036854775807 by omega)]
   rw [e2]
   exact build_L1 hg hf hk hn ho hw m (i+1) (by omega) (by omega)
  ·have e:((o.length:Int)).toNat=((o.take i).map (nodeC f o)++List.replicate (o.length - i) (GNode.mk 0 [])).length:=by simp; omega
   simp only [dnlt hlt,cond_false,graph_canonical_K1,needO,← e,if_true]
   rw [List.take_of_length_le (by omega),show o.length - i=0 by omega]
   simp
theorem canonical_ok {f:GFS} {k:Nat} (hg:GOK f) (hf:Small f k) (hk:k≤1000000) {r:Int} (hr:InG f r) {n:Nat} (hn:2*k+4≤n):graph_canonical n f r=some (canonG f r):=by
 obtain ⟨ho,hst⟩:=ordG_ok hg hr
 have hnl:=hf.nodes
 obtain ⟨w,g1,g2⟩:=visit_ok hg hf hk n [] r mNew (Seen.nil f) hr (by simp) Rep.nil (by simp; omega)
 rw [hst n (by omega)] at g1 g2
 have hol:=ho.seen.len
 have h1:=build_L1 hg hf hk (show k+2≤n by omega) ho g2 n 0 (by omega) (by omega)
 rw [Int.ofNat_zero,List.take_zero,List.map_nil,List.nil_append,Nat.sub_zero] at h1
 have hneed:0≤((ordG f r).length:Int)∧32*((ordG f r).length:Int).toNat≤281474976710656∧((ordG f r).length:Int)≤281474976710656:=by simp; omega
 simp only [graph_canonical,g1,bindO_s,needO,hneed,and_self,if_true]
 rw [Int.toNat_natCast]
 exact h1
end Go.Proofs
end
section
namespace Go.Proofs
open Go Go.Rx Go.Vx Go.Shelf Go.Sort
set_option linter.unusedVariables false
set_option linter.unusedSimpArgs false
set_option maxRecDepth 10000
def errA (N:Nat) (seen:List Int):List GArc→Int
 | []=>0
 | a::l=>if a.Feat<0∨a.To<0∨a.To ≥ (N:Int) then 2 else if a.Feat∈seen then 4 else errA N (a.Feat::seen) l
def errN (N:Nat) (x:GNode):Int:=if x.Typex<0 then 2 else errA N [] x.Arcs
structure RepB (w:MapL Int Bool) (o:List Int):Prop where
 inv:MInv w
 get:∀ x,aget x w.es=if x∈o then some true else none
theorem RepB.nil:RepB (mNew:MapL Int Bool) []:=⟨⟨by simp [mNew],by simp [mNew],by simp [mNew]⟩,fun x=>by simp [mNew,aget]⟩
theorem RepB.cons {w:MapL Int Bool} {o:List Int} (h:RepB w o) (v:Int):RepB (mUpd (fun a b=>a == b) w v true) (v::o):=by
 obtain ⟨h1,h2⟩:=upd_ok (eq:=fun a b:Int=>a == b) beqI h.inv v true
 refine ⟨h1,fun x=>?_⟩
 rw [h2,h.get]
 by_cases e:x=v
 ·simp [e]
 ·by_cases hx:x∈o<;>simp [e,hx]
theorem RepB.mget {w:MapL Int Bool} {o:List Int} (h:RepB w o) (x:Int):(mGet (fun a b=>a == b) w x).getD false=decide (x∈o):=by
 rw [mGet_get (eq:=fun a b:Int=>a == b) beqI,h.get]
 by_cases hx:x∈o<;>simp [hx]
theorem nodeErr_L {x:GNode} {N:Nat} (hl:x.Arcs.length≤1000000):∀ (m i:Nat) (w:MapL Int Bool) (o:List Int),x.Arcs.length - i<m→i≤x.Arcs.length→RepB w o →
  graph_nodeError_L1 x N m i w=some (errA N o (x.Arcs.drop i))
 | 0,i,w,o,hm,_,_=>by omega
 | m+1,i,w,o,hm,hi,hw=>by
  unfold graph_nodeError_L1
  by_cases hlt:i<x.Arcs.length
  ·obtain ⟨a,ha,_⟩:=get_of hlt
   simp only [dlt hlt,cond_true,idxO_nat,ha,bindO_s,drop_cons' ha,errA,hw.mget,wr1 hlt (show x.Arcs.length≤9223372036854775807 by omega)]
   by_cases h1:a.Feat<0
   ·simp [h1,bindO_s]
   ·by_cases h2:a.To<0
    ·simp [h1,h2,bindO_s]
    ·by_cases h3:a.To ≥ (N:Int)
     ·simp [h1,h2,h3,bindO_s]
     ·simp only [h1,h2,h3,decide_false,cond_false,bindO_s,or_self,if_false]
      by_cases h4:a.Feat∈o
      ·simp [h4]
      ·simp only [h4,decide_false,cond_false,if_false]
       exact nodeErr_L hl m (i+1) _ _ (by omega) (by omega) (hw.cons _)
  ·simp only [dnlt hlt,cond_false,graph_nodeError_K1,drop_nil' hlt,errA]
theorem nodeErr_ok {x:GNode} {N n:Nat} (hl:x.Arcs.length≤1000000) (hn:x.Arcs.length<n):graph_nodeError n x N=some (errN N x):=by
 have h:=nodeErr_L (N:=N) hl n 0 mNew [] (by omega) (by omega) RepB.nil
 rw [Int.ofNat_zero,List.drop_zero] at h
 simp only [graph_nodeError,h,errN]
 by_cases h1:x.Typex<0<;>simp [h1]
theorem errA_zero {N:Nat}:∀ {l:List GArc} {seen:List Int},errA N seen l=0↔(∀ a∈l,0≤a.Feat∧0≤a.To∧a.To<N)∧Dis l∧∀ a∈l,a.Feat ∉ seen
 | [],seen=>by simp [errA,Dis]
 | a::l,seen=>by
  simp only [errA]
  by_cases h1:a.Feat<0∨a.To<0∨a.To ≥ (N:Int)
  ·simp only [h1,if_true]
   refine ⟨fun h=>absurd h (by decide),fun h=>?_⟩
   have:=h.1 a (by simp)
   omega
  ·by_cases h2:a.Feat∈seen
   ·simp only [h1,h2,if_true,if_false]
    exact ⟨fun h=>absurd h (by decide),fun h=>absurd h2 (h.2.2 a (by simp))⟩
   ·simp only [h1,h2,if_false]
    rw [errA_zero (l:=l)]
    unfold Dis
    rw [List.pairwise_cons]
    constructor
    ·rintro ⟨g1,g2,g3⟩
     refine ⟨fun b hb=>?_,⟨fun b hb=>?_,g2⟩,fun b hb=>?_⟩
     ·rcases List.mem_cons.1 hb with rfl | hb
      ·omega
      ·exact g1 b hb
     ·have:=g3 b hb
      simp only [List.mem_cons,not_or] at this
      exact fun e=>this.1 e.symm
     ·rcases List.mem_cons.1 hb with rfl | hb
      ·exact h2
      ·have:=g3 b hb
       simp only [List.mem_cons,not_or] at this
       exact this.2
    ·rintro ⟨g1,⟨g2,g3⟩,g4⟩
     refine ⟨fun b hb=>g1 b (by simp [hb]),g3,fun b hb=>?_⟩
     simp only [List.mem_cons,not_or]
     exact ⟨fun e=>g2 b hb e.symm,g4 b (by simp [hb])⟩
theorem errN_zero {N:Nat} {x:GNode}:errN N x=0↔NOk x N:=by
 unfold errN
 by_cases h:x.Typex<0
 ·simp only [h,if_true]
  exact ⟨fun h=>absurd h (by decide),fun h'=>by have:=h'.ty; omega⟩
 ·simp only [h,if_false]
  rw [errA_zero]
  exact ⟨fun ⟨h1,h2,_⟩=>⟨by omega,h2,h1⟩,fun h=>⟨h.arc,h.dis,fun _ _=>by simp⟩⟩
def errL (N:Nat):List GNode→Int
 | []=>0
 | x::l=>if errN N x≠0 then errN N x else errL N l
theorem errL_zero {N:Nat}:∀ {l:List GNode},errL N l=0↔∀ x∈l,NOk x N
 | []=>by simp [errL]
 | x::l=>by
  simp only [errL]
  by_cases h:errN N x=0
  ·simp only [h,ne_eq,not_true,if_false,errL_zero (l:=l),List.mem_cons,forall_eq_or_imp,errN_zero.1 h,true_and]
  ·simp only [h,ne_eq,not_false_eq_true,if_true,List.mem_cons,forall_eq_or_imp,false_iff,not_and]
   exact fun h2=>absurd (errN_zero.2 h2) h
def errG (f:GFS):Int:=if f.Nodes.length=0 then 1 else if f.Nodes.length > 4096 then 7 else errL f.Nodes.length f.Nodes
theorem Canon_L {f:GFS} {k:Nat} (hf:Small f k) (hk:k≤1000000) {n:Nat} (hn:2*k+4≤n) (h0:0<f.Nodes.length) (hfull:errL f.Nodes.length f.Nodes=0→GOK f):∀ (m i:Nat),f.Nodes.length - i<m→i≤f.Nodes.length→(∀ x∈f.Nodes.take i,NOk x f.Nodes.length) →
  graph_Canon_L1 f n m i=some (if errL f.Nodes.length (f.Nodes.drop i)=0 then (canonG f 0,0) else (⟨[]⟩,errL f.Nodes.length (f.Nodes.drop i)))
 | 0,i,hm,_,_=>by omega
 | m+1,i,hm,hi,hok=>by
  have hnl:=hf.nodes
  unfold graph_Canon_L1
  by_cases hlt:i<f.Nodes.length
  ·obtain ⟨x,hx,hxm⟩:=get_of hlt
   have hal:=hf.arcs x hxm
   simp only [dlt hlt,cond_true,idxO_nat,hx,bindO_s,nodeErr_ok (N:=f.Nodes.length) (show x.Arcs.length≤1000000 by omega) (show x.Arcs.length<n by omega),drop_cons' hx,errL,wr1 hlt (show f.Nodes.length≤9223372036854775807 by omega)]
   by_cases h:errN f.Nodes.length x=0
   ·simp only [h,bne_self_eq_false,cond_false,ne_eq,not_true,if_false]
    refine Canon_L hf hk hn h0 hfull m (i+1) (by omega) (by omega) fun y hy=>?_
    rw [take_snoc hx] at hy
    rcases List.mem_append.1 hy with hy | hy
    ·exact hok y hy
    ·simp at hy; subst hy; exact errN_zero.1 h
   ·have hb:(errN f.Nodes.length x != 0)=true:=by simpa using h
    simp only [hb,cond_true,h,ne_eq,not_false_eq_true,if_true,if_false]
  ·simp only [dnlt hlt,cond_false,graph_Canon_K1,drop_nil' hlt,errL,if_true]
   have hg:GOK f:=fun x hx=>hok x (by rw [List.take_of_length_le (by omega)]; exact hx)
   rw [canonical_ok hg hf hk ⟨by omega,by omega⟩ hn,bindO_s]
theorem Canon_ok {f:GFS} {k:Nat} (hf:Small f k) (hk:k≤1000000) {n:Nat} (hn:2*k+4≤n):graph_Canon n f=some (if errG f=0 then (canonG f 0,0) else (⟨[]⟩,errG f)):=by
 have hnl:=hf.nodes
 unfold graph_Canon errG
 by_cases h0:f.Nodes.length=0
 ·simp [h0]
 ·have e0:((f.Nodes.length:Int) == 0)=false:=by simp; intro h; simp [h] at h0
  simp only [e0,cond_false,h0,if_false]
  by_cases h1:f.Nodes.length > 4096
  ·have:(f.Nodes.length:Int) > 4096:=by omega
   simp [h1,this]
  ·have:¬ (f.Nodes.length:Int) > 4096:=by omega
   simp only [h1,this,decide_false,cond_false,if_false]
   have h:=Canon_L hf hk hn (by omega) (fun h=>errL_zero.1 h) n 0 (by omega) (by omega) (by simp)
   rw [Int.ofNat_zero,List.drop_zero] at h
   exact h
theorem errG_zero {f:GFS}:errG f=0↔f.Nodes.length≠0∧f.Nodes.length≤4096∧GOK f:=by
 unfold errG
 by_cases h0:f.Nodes.length=0
 ·simp [h0]
 ·by_cases h1:f.Nodes.length > 4096
  ·simp [h0,h1]; intro _; omega
  ·simp only [h0,h1,if_false,errL_zero]
   exact ⟨fun h=>⟨by simpa using h0,by omega,h⟩,fun h=>h.2.2⟩
structure Sim (f g:GFS) (π:Int→Int) (S:Int→Prop):Prop where
 clo:∀ v,S v→∀ a∈sar f v,S a.To
 inj:∀ u v,S u→S v→π u=π v→u=v
 ty:∀ v,S v→(nd g (π v)).Typex=(nd f v).Typex
 arc:∀ v,S v→sar g (π v)=(sar f v).map fun a=>⟨a.Feat,π a.To⟩
theorem atoms_law {t:Int} (ht:0≤t∧t≤65535) {n:Nat} (hn:3000000≤n):law07_GraphAtoms n t=some true:=by
 have hw:IntKind.i64.wrap t=t:=wr (by omega) (by omega)
 have hg:GOK ⟨[⟨t,[]⟩]⟩:=fun x hx=>by
  simp at hx; subst hx
  exact ⟨ht.1,List.Pairwise.nil,fun a ha=>by cases ha⟩
 have hs:Small ⟨[⟨t,[]⟩]⟩ 1:=⟨by simp,fun x hx=>by simp at hx; subst hx; simp⟩
 have he:errG ⟨[⟨t,[]⟩]⟩=0:=errG_zero.2 ⟨by simp,by simp,hg⟩
 have hc:canonG ⟨[⟨t,[]⟩]⟩ 0=⟨[⟨t,[]⟩]⟩:=by
  simp [canonG,ordG,dfs,sar,nd,srtA,srt,nodeC]
 have h1:=Canon_ok hs (by omega) (show 2*1+4≤n by omega)
 rw [he,hc] at h1
 have hq:=refEq_ok (hs.up (show 1≤1000 by omega)) (hs.up (show 1≤1000 by omega)) hn
 simp [law07_GraphAtoms,hw,graph_Atom,ref07_Atom,h1,hq,bindO_s,ccG_ok.self,ex_n (show 60≤n by omega)]
end Go.Proofs
end
