/-
  Texts of the walk: H4 PlA H5.
-/
import Derived.Test.YtdpffcolmflpjaaP15
section
namespace Go.Proofs
open Go Go.Rx Go.Vx Try
set_option maxRecDepth 10000
set_option linter.unusedSimpArgs false
set_option linter.unusedVariables false
def law07_of (n:Nat) (p1:List GNode):Option (GFS) :=
 some (GFS.mk p1)
theorem law07_of_0 (n:Nat) (p1:List GNode) (r:GFS) (hF:law07_of n p1=some r):EvU Try.prog 32 [.isl false (List.map cGNode p1)] ⟨[],0⟩ (fun u _=>u = .agg [.isl false (List.map cGNode r.Nodes)]∧Bel 0 u):=by
 unfold law07_of at hF
 refine EvU.of_body Try.tb_ok fn32 rfl ?_
 refine WPU.ghost (tm':=fr 5 [(0,.isl false (List.map cGNode p1))]) (Gh.start (Nat.le_of_ble_eq_true rfl)) (Nat.zero_le _) ?_
 refine sr ?_
 refine RS.q (u:=.ptr 0 0 0) (σ':=⟨[(0,.row [.nils] 25)],1⟩) rfl (op_alloc inf25 rfl rfl) ?_
 refine se ?_
 refine RS.q (u:=.agg [.isl false (List.map cGNode p1)]) rfl (op_bld bd25 rfl rfl rfl) (RS.opn (u:=.junk) (σ':=⟨[(0,.row [.isl false (List.map cGNode p1)] 25)],1⟩) rfl (op_store (sz_of inf25) rfl rfl rfl rfl rfl rfl rfl rfl) rfl ?_)
 refine sd ?_
 refine WPU.ret ?_
 refine st ?_
 have hr:=Option.some.inj hF
 subst hr
 exact ⟨.inr rfl,[.agg [.isl false (List.map cGNode p1)]],res_c (ld_agg und25 rfl (sz_of inf25) rfl rfl rfl) (res_n),.agg [.isl false (List.map cGNode p1)],⟨[],0⟩,Nat.le_refl _,Gh.toR (.agg [.isl false (List.map cGNode p1)]) rfl,rfl,BU.h⟩
theorem law07_of_ok (n:Nat) (p1:List GNode) (r:GFS) (hF:law07_of n p1=some r) (σ:Sg):EvU Try.prog 32 [.isl false (List.map cGNode p1)] σ (fun u σ'=>u = .agg [.isl false (List.map cGNode r.Nodes)]∧σ'=σ) :=
 EvU.pure1C (law07_of_0 n p1 r hF) σ
def law07_exampleHolds (n:Nat)  : Option (Bool) :=
 bindO (law07_node n 1 ([0,2,1,1])) fun r1 =>
 bindO (law07_node n 2 []) fun r3 =>
 bindO (law07_node n 3 ([0,1])) fun r5 =>
 bindO (law07_of n ([r1,r3,r5])) fun r7 =>
 bindO (graph_Canon n r7) fun r9 =>
 bindO (law07_node n 4 ([7,2,3,1])) fun r11 =>
 bindO (law07_node n 5 []) fun r13 =>
 bindO (law07_node n 6 ([2,0])) fun r15 =>
 bindO (law07_of n ([r11,r13,r15])) fun r17 =>
 bindO (graph_Canon n r17) fun r19 =>
 bindO (cond (r9.2 != 0)
  (some true)
  (cond (r19.2 != 0)
   (some true)
   (bindO (law07_node n 1 ([0,1,1,2])) fun r23 =>
   bindO (law07_node n 3 ([0,2])) fun r25 =>
   bindO (law07_node n 2 []) fun r27 =>
   bindO (law07_of n ([r23,r25,r27])) fun r29 =>
   bindO (ref07_Equal n (GFS.mk r9.1.Nodes) r29) fun r31 =>
   cond (!r31)
    (some true)
    (bindO (law07_node n 4 ([3,1,7,2])) fun r34 =>
    bindO (law07_node n 5 []) fun r36 =>
    bindO (law07_node n 6 ([2,0])) fun r38 =>
    bindO (law07_of n ([r34,r36,r38])) fun r40 =>
    bindO (ref07_Equal n (GFS.mk r19.1.Nodes) r40) fun r42 =>
    some (!r42))))) fun b44 =>
 cond b44
  (some false)
  (bindO (graph_Canon n (GFS.mk [])) fun r47 =>
  bindO (cond (r47.2 == 1)
   (bindO (graph_Sub n (GFS.mk r9.1.Nodes) 1) fun r50 =>
   bindO (law07_node n 3 ([0,1])) fun r52 =>
   bindO (law07_node n 2 []) fun r54 =>
   bindO (law07_of n ([r52,r54])) fun r56 =>
   bindO (ref07_Equal n r50 r56) fun r58 =>
   cond r58
    (bindO (law07_node n 1 ([5,0])) fun r61 =>
    bindO (law07_of n ([r61])) fun r63 =>
    bindO (graph_Cyclic n r63) fun r65 =>
    cond r65
     (bindO (graph_Cyclic n (GFS.mk r9.1.Nodes)) fun r68 =>
     cond (!r68)
      (bindO (graph_Atom n 4) fun r71 =>
      bindO (law07_node n 4 []) fun r73 =>
      bindO (law07_of n ([r73])) fun r75 =>
      bindO (ref07_Equal n r71 r75) fun r77 =>
      cond r77
       (bindO (graph_Equal n (GFS.mk r9.1.Nodes) (GFS.mk r9.1.Nodes)) fun r80 =>
       cond r80
        (bindO (graph_Atom n 9) fun r83 =>
        bindO (graph_Compare n r83 (GFS.mk r9.1.Nodes)) fun r85 =>
        some (r85 == (-1)))
        (some false))
       (some false))
      (some false))
     (some false))
    (some false))
   (some false)) fun b87 =>
  some b87)
theorem law07_exampleHolds_0 (n:Nat)  (r:Bool) (hF:law07_exampleHolds n  = some r):EvU Try.prog 16 [] ⟨[],0⟩ (fun u _=>u = .bool r∧Bel 0 u):=by
 unfold law07_exampleHolds at hF
 refine EvU.of_body Try.tb_ok fn16 rfl ?_
 refine WPU.ghost (tm':=fr 106 []) (Gh.start (Nat.le_of_ble_eq_true rfl)) (Nat.zero_le _) ?_
 refine sr ?_
 refine sd ?_
 obtain ⟨r1,h2,hF⟩:=bindO_some hF
 obtain ⟨r3,h4,hF⟩:=bindO_some hF
 obtain ⟨r5,h6,hF⟩:=bindO_some hF
 obtain ⟨r7,h8,hF⟩:=bindO_some hF
 obtain ⟨r9,h10,hF⟩:=bindO_some hF
 refine sr ?_
 refine RS.q (u:=.sl 0 0 4 4) (σ':=⟨[(0,.row [.int .i64 0,.int .i64 2,.int .i64 1,.int .i64 1] 3)],1⟩) rfl (op_bsl und55 inf3 rfl rfl rfl rfl rfl rfl rfl) ?_
 refine RS.fcall (u:=.agg (cGNode r1)) (args:=[.int .i64 1,.sl 0 0 4 4]) (σ1:=⟨[],1⟩) rfl (op_call rfl rfl fn29 hb29 rfl rfl) (Gh.fz (tm':=[.int .i64 1,.isl false (List.map (cI .i64) ([0,2,1,1]))]) (h':=[]) 0 (.row [.int .i64 0,.int .i64 2,.int .i64 1,.int .i64 1] 3) 1 rfl (by simp) (by simp only [oneU,fzL_nil,fzL_cons,fz_int,fz_bool,fz_str,fz_nils,fz_nilp,fz_nilm,fz_nilf,fz_junk,fz_isl,fz_map,fz_agg,fz_tup,fz_fn,junkT,fz_sl,fz_p0,Nat.reduceLeDiff,Nat.reduceMul,List.length_cons,List.length_nil,Nat.reduceAdd]<;>simp only [chunks,List.take,List.drop,List.map,cI,cB,cS,cL]) (by simp only [fzH,fzB,ug,Nat.beq,cond_true,cond_false,oneU,fzL_nil,fzL_cons,fz_int,fz_bool,fz_str,fz_nils,fz_nilp,fz_nilm,fz_nilf,fz_junk,fz_isl,fz_map,fz_agg,fz_tup,fz_fn,junkT,fz_sl,fz_p0,Nat.reduceLeDiff,Nat.reduceMul,List.length_cons,List.length_nil,Nat.reduceAdd]<;>simp only [chunks,List.take,List.drop,List.map,cI,cB,cS,cL])) (Nat.le_of_ble_eq_true rfl) (law07_node_ok n 1 ([0,2,1,1]) r1 h2 _) rfl rfl ?_
 refine RS.call (u:=.agg (cGNode r3)) (args:=[.int .i64 2,.nils]) rfl (op_call rfl rfl fn29 hb29 rfl rfl) (EvU.wkA (args':=[.int .i64 2,.isl false []]) (.cons (.refl _) (.cons (.nil false) .nil)) (fun s=>law07_node_ok n 2 [] r3 h4 s) _) rfl rfl (RS.q (u:=.sl 1 0 2 2) (σ':=⟨[(1,.row [.int .i64 0,.int .i64 1] 3)],2⟩) rfl (op_bsl und55 inf3 rfl rfl rfl rfl rfl rfl rfl) ?_)
 refine RS.fcall (u:=.agg (cGNode r5)) (args:=[.int .i64 3,.sl 1 0 2 2]) (σ1:=⟨[],2⟩) rfl (op_call rfl rfl fn29 hb29 rfl rfl) (Gh.fz (tm':=[.int .i64 3,.isl false (List.map (cI .i64) ([0,1]))]) (h':=[]) 1 (.row [.int .i64 0,.int .i64 1] 3) 1 rfl (by simp) (by simp only [oneU,fzL_nil,fzL_cons,fz_int,fz_bool,fz_str,fz_nils,fz_nilp,fz_nilm,fz_nilf,fz_junk,fz_isl,fz_map,fz_agg,fz_tup,fz_fn,junkT,fz_sl,fz_p0,Nat.reduceLeDiff,Nat.reduceMul,List.length_cons,List.length_nil,Nat.reduceAdd]<;>simp only [chunks,List.take,List.drop,List.map,cI,cB,cS,cL]) (by simp only [fzH,fzB,ug,Nat.beq,cond_true,cond_false,oneU,fzL_nil,fzL_cons,fz_int,fz_bool,fz_str,fz_nils,fz_nilp,fz_nilm,fz_nilf,fz_junk,fz_isl,fz_map,fz_agg,fz_tup,fz_fn,junkT,fz_sl,fz_p0,Nat.reduceLeDiff,Nat.reduceMul,List.length_cons,List.length_nil,Nat.reduceAdd]<;>simp only [chunks,List.take,List.drop,List.map,cI,cB,cS,cL])) (Nat.le_of_ble_eq_true rfl) (law07_node_ok n 3 ([0,1]) r5 h6 _) rfl rfl ?_
 refine RS.q (u:=.sl 2 0 3 3) (σ':=⟨[(2,.row [.int .i64 r1.Typex,.isl false (List.map cGArc r1.Arcs),.int .i64 r3.Typex,.isl false (List.map cGArc r3.Arcs),.int .i64 r5.Typex,.isl false (List.map cGArc r5.Arcs)] 43)],3⟩) rfl (op_bsl und23 inf43 rfl rfl rfl rfl rfl rfl rfl) ?_
 refine RS.fcall (u:=.agg [.isl false (List.map cGNode r7.Nodes)]) (args:=[.sl 2 0 3 3]) (σ1:=⟨[],3⟩) rfl (op_call rfl rfl fn32 hb32 rfl rfl) (Gh.fz (tm':=[.isl false (List.map cGNode ([r1,r3,r5]))]) (h':=[]) 2 (.row [.int .i64 r1.Typex,.isl false (List.map cGArc r1.Arcs),.int .i64 r3.Typex,.isl false (List.map cGArc r3.Arcs),.int .i64 r5.Typex,.isl false (List.map cGArc r5.Arcs)] 43) 2 rfl (by simp) (by simp only [oneU,fzL_nil,fzL_cons,fz_int,fz_bool,fz_str,fz_nils,fz_nilp,fz_nilm,fz_nilf,fz_junk,fz_isl,fz_map,fz_agg,fz_tup,fz_fn,junkT,fz_sl,fz_p0,Nat.reduceLeDiff,Nat.reduceMul,List.length_cons,List.length_nil,Nat.reduceAdd]<;>simp only [chunks,List.take,List.drop,List.map,cGNode]) (by simp only [fzH,fzB,ug,Nat.beq,cond_true,cond_false,oneU,fzL_nil,fzL_cons,fz_int,fz_bool,fz_str,fz_nils,fz_nilp,fz_nilm,fz_nilf,fz_junk,fz_isl,fz_map,fz_agg,fz_tup,fz_fn,junkT,fz_sl,fz_p0,Nat.reduceLeDiff,Nat.reduceMul,List.length_cons,List.length_nil,Nat.reduceAdd]<;>simp only [chunks,List.take,List.drop,List.map,cGNode])) (Nat.le_of_ble_eq_true rfl) (law07_of_ok n ([r1,r3,r5]) r7 h8 _) rfl rfl ?_
 refine RS.call (u:=.tup [.agg [.isl false (List.map cGNode r9.1.Nodes)],.int .i64 r9.2]) (args:=[.agg [.isl false (List.map cGNode r7.Nodes)]]) rfl (op_call rfl rfl fn13 hb13 rfl rfl) (graph_Canon_ok n r7 r9 h10 _) rfl rfl (RS.mv rfl rfl rfl rfl (RS.q rfl (op_ext rfl rfl) (RS.q rfl (op_ext rfl rfl) (RS.q (u:=.ptr 3 0 0) (σ':=⟨[(3,.row [.nils] 25)],4⟩) rfl (op_alloc inf25 rfl rfl) (RS.opn (u:=.junk) (σ':=⟨[(3,.row [.isl false (List.map cGNode r9.1.Nodes)] 25)],4⟩) rfl (op_store (sz_of inf25) rfl rfl rfl rfl rfl rfl rfl rfl) rfl ?_)))))
 refine sd ?_
 obtain ⟨r11,h12,hF⟩:=bindO_some hF
 obtain ⟨r13,h14,hF⟩:=bindO_some hF
 obtain ⟨r15,h16,hF⟩:=bindO_some hF
 obtain ⟨r17,h18,hF⟩:=bindO_some hF
 obtain ⟨r19,h20,hF⟩:=bindO_some hF
 refine sr ?_
 refine RS.q (u:=.sl 4 0 4 4) (σ':=⟨[(4,.row [.int .i64 7,.int .i64 2,.int .i64 3,.int .i64 1] 3),(3,.row [.isl false (List.map cGNode r9.1.Nodes)] 25)],5⟩) rfl (op_bsl und55 inf3 rfl rfl rfl rfl rfl rfl rfl) ?_
 refine RS.fcall (u:=.agg (cGNode r11)) (args:=[.int .i64 4,.sl 4 0 4 4]) (σ1:=⟨[(3,.row [.isl false (List.map cGNode r9.1.Nodes)] 25)],5⟩) rfl (op_call rfl rfl fn29 hb29 rfl rfl) (Gh.fz (tm':=[.int .i64 4,.isl false (List.map (cI .i64) ([7,2,3,1]))]) (h':=[(3,.row [.isl false (List.map cGNode r9.1.Nodes)] 25)]) 4 (.row [.int .i64 7,.int .i64 2,.int .i64 3,.int .i64 1] 3) 1 rfl (by simp) (by simp only [oneU,fzL_nil,fzL_cons,fz_int,fz_bool,fz_str,fz_nils,fz_nilp,fz_nilm,fz_nilf,fz_junk,fz_isl,fz_map,fz_agg,fz_tup,fz_fn,junkT,fz_sl,fz_p0,Nat.reduceLeDiff,Nat.reduceMul,List.length_cons,List.length_nil,Nat.reduceAdd]<;>simp only [chunks,List.take,List.drop,List.map,cI,cB,cS,cL]) (by simp only [fzH,fzB,ug,Nat.beq,cond_true,cond_false,oneU,fzL_nil,fzL_cons,fz_int,fz_bool,fz_str,fz_nils,fz_nilp,fz_nilm,fz_nilf,fz_junk,fz_isl,fz_map,fz_agg,fz_tup,fz_fn,junkT,fz_sl,fz_p0,Nat.reduceLeDiff,Nat.reduceMul,List.length_cons,List.length_nil,Nat.reduceAdd]<;>simp only [chunks,List.take,List.drop,List.map,cI,cB,cS,cL])) (Nat.le_of_ble_eq_true rfl) (law07_node_ok n 4 ([7,2,3,1]) r11 h12 _) rfl rfl ?_
 refine RS.call (u:=.agg (cGNode r13)) (args:=[.int .i64 5,.nils]) rfl (op_call rfl rfl fn29 hb29 rfl rfl) (EvU.wkA (args':=[.int .i64 5,.isl false []]) (.cons (.refl _) (.cons (.nil false) .nil)) (fun s=>law07_node_ok n 5 [] r13 h14 s) _) rfl rfl (RS.q (u:=.sl 5 0 2 2) (σ':=⟨[(5,.row [.int .i64 2,.int .i64 0] 3),(3,.row [.isl false (List.map cGNode r9.1.Nodes)] 25)],6⟩) rfl (op_bsl und55 inf3 rfl rfl rfl rfl rfl rfl rfl) ?_)
 refine RS.fcall (u:=.agg (cGNode r15)) (args:=[.int .i64 6,.sl 5 0 2 2]) (σ1:=⟨[(3,.row [.isl false (List.map cGNode r9.1.Nodes)] 25)],6⟩) rfl (op_call rfl rfl fn29 hb29 rfl rfl) (Gh.fz (tm':=[.int .i64 6,.isl false (List.map (cI .i64) ([2,0]))]) (h':=[(3,.row [.isl false (List.map cGNode r9.1.Nodes)] 25)]) 5 (.row [.int .i64 2,.int .i64 0] 3) 1 rfl (by simp) (by simp only [oneU,fzL_nil,fzL_cons,fz_int,fz_bool,fz_str,fz_nils,fz_nilp,fz_nilm,fz_nilf,fz_junk,fz_isl,fz_map,fz_agg,fz_tup,fz_fn,junkT,fz_sl,fz_p0,Nat.reduceLeDiff,Nat.reduceMul,List.length_cons,List.length_nil,Nat.reduceAdd]<;>simp only [chunks,List.take,List.drop,List.map,cI,cB,cS,cL]) (by simp only [fzH,fzB,ug,Nat.beq,cond_true,cond_false,oneU,fzL_nil,fzL_cons,fz_int,fz_bool,fz_str,fz_nils,fz_nilp,fz_nilm,fz_nilf,fz_junk,fz_isl,fz_map,fz_agg,fz_tup,fz_fn,junkT,fz_sl,fz_p0,Nat.reduceLeDiff,Nat.reduceMul,List.length_cons,List.length_nil,Nat.reduceAdd]<;>simp only [chunks,List.take,List.drop,List.map,cI,cB,cS,cL])) (Nat.le_of_ble_eq_true rfl) (law07_node_ok n 6 ([2,0]) r15 h16 _) rfl rfl ?_
 refine RS.q (u:=.sl 6 0 3 3) (σ':=⟨[(6,.row [.int .i64 r11.Typex,.isl false (List.map cGArc r11.Arcs),.int .i64 r13.Typex,.isl false (List.map cGArc r13.Arcs),.int .i64 r15.Typex,.isl false (List.map cGArc r15.Arcs)] 43),(3,.row [.isl false (List.map cGNode r9.1.Nodes)] 25)],7⟩) rfl (op_bsl und23 inf43 rfl rfl rfl rfl rfl rfl rfl) ?_
 refine RS.fcall (u:=.agg [.isl false (List.map cGNode r17.Nodes)]) (args:=[.sl 6 0 3 3]) (σ1:=⟨[(3,.row [.isl false (List.map cGNode r9.1.Nodes)] 25)],7⟩) rfl (op_call rfl rfl fn32 hb32 rfl rfl) (Gh.fz (tm':=[.isl false (List.map cGNode ([r11,r13,r15]))]) (h':=[(3,.row [.isl false (List.map cGNode r9.1.Nodes)] 25)]) 6 (.row [.int .i64 r11.Typex,.isl false (List.map cGArc r11.Arcs),.int .i64 r13.Typex,.isl false (List.map cGArc r13.Arcs),.int .i64 r15.Typex,.isl false (List.map cGArc r15.Arcs)] 43) 2 rfl (by simp) (by simp only [oneU,fzL_nil,fzL_cons,fz_int,fz_bool,fz_str,fz_nils,fz_nilp,fz_nilm,fz_nilf,fz_junk,fz_isl,fz_map,fz_agg,fz_tup,fz_fn,junkT,fz_sl,fz_p0,Nat.reduceLeDiff,Nat.reduceMul,List.length_cons,List.length_nil,Nat.reduceAdd]<;>simp only [chunks,List.take,List.drop,List.map,cGNode]) (by simp only [fzH,fzB,ug,Nat.beq,cond_true,cond_false,oneU,fzL_nil,fzL_cons,fz_int,fz_bool,fz_str,fz_nils,fz_nilp,fz_nilm,fz_nilf,fz_junk,fz_isl,fz_map,fz_agg,fz_tup,fz_fn,junkT,fz_sl,fz_p0,Nat.reduceLeDiff,Nat.reduceMul,List.length_cons,List.length_nil,Nat.reduceAdd]<;>simp only [chunks,List.take,List.drop,List.map,cGNode])) (Nat.le_of_ble_eq_true rfl) (law07_of_ok n ([r11,r13,r15]) r17 h18 _) rfl rfl ?_
 refine RS.call (u:=.tup [.agg [.isl false (List.map cGNode r19.1.Nodes)],.int .i64 r19.2]) (args:=[.agg [.isl false (List.map cGNode r17.Nodes)]]) rfl (op_call rfl rfl fn13 hb13 rfl rfl) (graph_Canon_ok n r17 r19 h20 _) rfl rfl (RS.mv rfl rfl rfl rfl (RS.q rfl (op_ext rfl rfl) (RS.q rfl (op_ext rfl rfl) (RS.q (u:=.ptr 7 0 0) (σ':=⟨[(7,.row [.nils] 25),(3,.row [.isl false (List.map cGNode r9.1.Nodes)] 25)],8⟩) rfl (op_alloc inf25 rfl rfl) (RS.opn (u:=.junk) (σ':=⟨[(7,.row [.isl false (List.map cGNode r19.1.Nodes)] 25),(3,.row [.isl false (List.map cGNode r9.1.Nodes)] 25)],8⟩) rfl (op_store (sz_of inf25) rfl rfl rfl rfl rfl rfl rfl rfl) rfl ?_)))))
 refine sd ?_
 obtain ⟨b44,h45,hF⟩:=bindO_some hF
 refine WPU.joinK (fun tm σ=>tm=fr 106 [(1,.ptr 3 0 0),(58,.bool b44)]∧σ=⟨[(7,.row [.isl false (List.map cGNode r19.1.Nodes)] 25),(3,.row [.isl false (List.map cGNode r9.1.Nodes)] 25)],8⟩) ?_ ?_
 rintro _ _ ⟨rfl,rfl⟩
 refine st ?_
 refine WPU.condS (t:=b44) rfl (fun h46=>?_) (fun h46=>?_)
 replace hF:=cond_t h46 hF
 refine sr ?_
 refine sd ?_
 refine WPU.ret ?_
 refine st ?_
 have hr:=Option.some.inj hF
 subst hr
 exact ⟨.inr rfl,[.bool false],res_t rfl (res_n),.bool false,⟨[],0⟩,Nat.le_refl _,Gh.toR (.bool false) rfl,rfl,BU.h⟩
 replace hF:=cond_f h46 hF
 refine st ?_
 refine WPU.skip ?_
 refine st ?_
 obtain ⟨r47,h48,hF⟩:=bindO_some hF
 refine sr ?_
 refine RS.q (u:=.agg [.nils]) rfl (op_bld bd25 rfl rfl rfl) (RS.call (u:=.tup [.agg [.isl false (List.map cGNode r47.1.Nodes)],.int .i64 r47.2]) (args:=[.agg [.nils]]) rfl (op_call rfl rfl fn13 hb13 rfl rfl) (EvU.wkA (args':=[.agg [.isl false []]]) (.cons (.agg (.cons (.nil false) .nil)) .nil) (fun s=>graph_Canon_ok n (GFS.mk []) r47 h48 s) _) rfl rfl (RS.mv rfl rfl rfl rfl (RS.q rfl (op_ext rfl rfl) (RS.q rfl (op_ext rfl rfl) (RS.q (u:=.ptr 8 0 0) (σ':=⟨[(8,.row [.nils] 25),(7,.row [.isl false (List.map cGNode r19.1.Nodes)] 25),(3,.row [.isl false (List.map cGNode r9.1.Nodes)] 25)],9⟩) rfl (op_alloc inf25 rfl rfl) (RS.opn (u:=.junk) (σ':=⟨[(8,.row [.isl false (List.map cGNode r47.1.Nodes)] 25),(7,.row [.isl false (List.map cGNode r19.1.Nodes)] 25),(3,.row [.isl false (List.map cGNode r9.1.Nodes)] 25)],9⟩) rfl (op_store (sz_of inf25) rfl rfl rfl rfl rfl rfl rfl rfl) rfl ?_))))))
 refine sd ?_
 obtain ⟨b87,h88,hF⟩:=bindO_some hF
 refine WPU.joinK (fun tm σ=>tm=fr 106 [(0,.bool b87)]∧σ=⟨[(8,.row [.isl false (List.map cGNode r47.1.Nodes)] 25),(7,.row [.isl false (List.map cGNode r19.1.Nodes)] 25),(3,.row [.isl false (List.map cGNode r9.1.Nodes)] 25)],9⟩) ?_ ?_
 rintro _ _ ⟨rfl,rfl⟩
 refine st ?_
 refine WPU.ret ?_
 refine st ?_
 have hr:=Option.some.inj hF
 subst hr
 exact ⟨.inr rfl,[.bool b87],res_t rfl (res_n),.bool b87,⟨[],0⟩,Nat.le_refl _,Gh.toR (.bool b87) rfl,rfl,BU.h⟩
 rcases bool_tf (r47.2 == 1) with h49 | h49
 replace h88:=cond_t h49 h88
 obtain ⟨r50,h51,h88⟩:=bindO_some h88
 obtain ⟨r52,h53,h88⟩:=bindO_some h88
 obtain ⟨r54,h55,h88⟩:=bindO_some h88
 obtain ⟨r56,h57,h88⟩:=bindO_some h88
 obtain ⟨r58,h59,h88⟩:=bindO_some h88
 rcases bool_tf r58 with h60 | h60
 replace h88:=cond_t h60 h88
 obtain ⟨r61,h62,h88⟩:=bindO_some h88
 obtain ⟨r63,h64,h88⟩:=bindO_some h88
 obtain ⟨r65,h66,h88⟩:=bindO_some h88
 rcases bool_tf r65 with h67 | h67
 replace h88:=cond_t h67 h88
 obtain ⟨r68,h69,h88⟩:=bindO_some h88
 rcases bool_tf (!r68) with h70 | h70
 replace h88:=cond_t h70 h88
 obtain ⟨r71,h72,h88⟩:=bindO_some h88
 obtain ⟨r73,h74,h88⟩:=bindO_some h88
 obtain ⟨r75,h76,h88⟩:=bindO_some h88
 obtain ⟨r77,h78,h88⟩:=bindO_some h88
 rcases bool_tf r77 with h79 | h79
 replace h88:=cond_t h79 h88
 obtain ⟨r80,h81,h88⟩:=bindO_some h88
 rcases bool_tf r80 with h82 | h82
 replace h88:=cond_t h82 h88
 obtain ⟨r83,h84,h88⟩:=bindO_some h88
 obtain ⟨r85,h86,h88⟩:=bindO_some h88
 replace h88:=Option.some.inj h88
 subst h88
 refine WPU.drawE Try.tb_ok [] (by kernel_rfl) ?_
 refine RD.mv rfl rfl rfl rfl (RD.q rfl (op_int rfl rfl (ix_eql _ _ _) rfl) (RD.mv rfl rfl rfl rfl (RD.look (u:=.agg [.isl false (List.map cGNode r9.1.Nodes)]) (want1 rfl rfl rfl h49) (ld_agg und25 rfl (sz_of inf25) rfl rfl rfl) rfl rfl (RD.free (u:=.agg [.isl false (List.map cGNode r50.Nodes)]) (args:=[.agg [.isl false (List.map cGNode r9.1.Nodes)],.int .i64 1]) (want1 rfl rfl rfl h49) (op_call rfl rfl fn20 hb20 rfl rfl) (fun s=>graph_Sub_ok n (GFS.mk r9.1.Nodes) 1 r50 h51 s) rfl rfl (RD.freeO (u:=.isl false (List.map (cI .i64) ([0,1]))) (want1 rfl rfl rfl h49) (FreeO.bs (cs:=[.int .i64 0,.int .i64 1]) und55 inf3 rfl rfl rfl rfl rfl rfl rfl rfl rfl) rfl rfl (RD.free (u:=.agg (cGNode r52)) (args:=[.int .i64 3,.isl false (List.map (cI .i64) ([0,1]))]) (want1 rfl rfl rfl h49) (op_call rfl rfl fn29 hb29 rfl rfl) (fun s=>law07_node_ok n 3 ([0,1]) r52 h53 s) rfl rfl (RD.free (u:=.agg (cGNode r54)) (args:=[.int .i64 2,.nils]) (want1 rfl rfl rfl h49) (op_call rfl rfl fn29 hb29 rfl rfl) (fun s=>EvU.wkA (args':=[.int .i64 2,.isl false []]) (.cons (.refl _) (.cons (.nil false) .nil)) (fun s=>law07_node_ok n 2 [] r54 h55 s) s) rfl rfl ?_)))))))
 refine RD.act (u:=.sl 9 0 2 2) (σ':=⟨[(9,.row [.int .i64 r52.Typex,.isl false (List.map cGArc r52.Arcs),.int .i64 r54.Typex,.isl false (List.map cGArc r54.Arcs)] 43),(8,.row [.isl false (List.map cGNode r47.1.Nodes)] 25),(7,.row [.isl false (List.map cGNode r19.1.Nodes)] 25),(3,.row [.isl false (List.map cGNode r9.1.Nodes)] 25)],10⟩) (want1 rfl rfl rfl h49) (op_bsl und23 inf43 rfl rfl rfl rfl rfl rfl rfl) rfl rfl ?_
 refine RD.fcall (u:=.agg [.isl false (List.map cGNode r56.Nodes)]) (args:=[.sl 9 0 2 2]) (σ1:=⟨[(8,.row [.isl false (List.map cGNode r47.1.Nodes)] 25),(7,.row [.isl false (List.map cGNode r19.1.Nodes)] 25),(3,.row [.isl false (List.map cGNode r9.1.Nodes)] 25)],10⟩) (want1 rfl rfl rfl h49) (op_call rfl rfl fn32 hb32 rfl rfl) (Gh.fz (tm':=[.isl false (List.map cGNode ([r52,r54]))]) (h':=[(8,.row [.isl false (List.map cGNode r47.1.Nodes)] 25),(7,.row [.isl false (List.map cGNode r19.1.Nodes)] 25),(3,.row [.isl false (List.map cGNode r9.1.Nodes)] 25)]) 9 (.row [.int .i64 r52.Typex,.isl false (List.map cGArc r52.Arcs),.int .i64 r54.Typex,.isl false (List.map cGArc r54.Arcs)] 43) 2 rfl (by simp) (by simp only [oneU,fzL_nil,fzL_cons,fz_int,fz_bool,fz_str,fz_nils,fz_nilp,fz_nilm,fz_nilf,fz_junk,fz_isl,fz_map,fz_agg,fz_tup,fz_fn,junkT,fz_sl,fz_p0,Nat.reduceLeDiff,Nat.reduceMul,List.length_cons,List.length_nil,Nat.reduceAdd]<;>simp only [chunks,List.take,List.drop,List.map,cGNode]) (by simp only [fzH,fzB,ug,Nat.beq,cond_true,cond_false,oneU,fzL_nil,fzL_cons,fz_int,fz_bool,fz_str,fz_nils,fz_nilp,fz_nilm,fz_nilf,fz_junk,fz_isl,fz_map,fz_agg,fz_tup,fz_fn,junkT,fz_sl,fz_p0,Nat.reduceLeDiff,Nat.reduceMul,List.length_cons,List.length_nil,Nat.reduceAdd]<;>simp only [chunks,List.take,List.drop,List.map,cGNode])) (Nat.le_of_ble_eq_true rfl) (law07_of_ok n ([r52,r54]) r56 h57 _) rfl rfl ?_
 refine RD.free (u:=.bool r58) (args:=[.agg [.isl false (List.map cGNode r50.Nodes)],.agg [.isl false (List.map cGNode r56.Nodes)]]) (want1 rfl rfl rfl h49) (op_call rfl rfl fn14 hb14 rfl rfl) (fun s=>ref07_Equal_ok n r50 r56 r58 h59 s) rfl rfl (RD.q (u:=.bool r58) rfl (op_pick1 rfl h49 rfl) (RD.mv rfl rfl rfl rfl (RD.act (u:=.sl 10 0 2 2) (σ':=⟨[(10,.row [.int .i64 5,.int .i64 0] 3),(8,.row [.isl false (List.map cGNode r47.1.Nodes)] 25),(7,.row [.isl false (List.map cGNode r19.1.Nodes)] 25),(3,.row [.isl false (List.map cGNode r9.1.Nodes)] 25)],11⟩) (want1 rfl rfl rfl h60) (op_bsl und55 inf3 rfl rfl rfl rfl rfl rfl rfl) rfl rfl ?_)))
 refine RD.fcall (u:=.agg (cGNode r61)) (args:=[.int .i64 1,.sl 10 0 2 2]) (σ1:=⟨[(8,.row [.isl false (List.map cGNode r47.1.Nodes)] 25),(7,.row [.isl false (List.map cGNode r19.1.Nodes)] 25),(3,.row [.isl false (List.map cGNode r9.1.Nodes)] 25)],11⟩) (want1 rfl rfl rfl h60) (op_call rfl rfl fn29 hb29 rfl rfl) (Gh.fz (tm':=[.int .i64 1,.isl false (List.map (cI .i64) ([5,0]))]) (h':=[(8,.row [.isl false (List.map cGNode r47.1.Nodes)] 25),(7,.row [.isl false (List.map cGNode r19.1.Nodes)] 25),(3,.row [.isl false (List.map cGNode r9.1.Nodes)] 25)]) 10 (.row [.int .i64 5,.int .i64 0] 3) 1 rfl (by simp) (by simp only [oneU,fzL_nil,fzL_cons,fz_int,fz_bool,fz_str,fz_nils,fz_nilp,fz_nilm,fz_nilf,fz_junk,fz_isl,fz_map,fz_agg,fz_tup,fz_fn,junkT,fz_sl,fz_p0,Nat.reduceLeDiff,Nat.reduceMul,List.length_cons,List.length_nil,Nat.reduceAdd]<;>simp only [chunks,List.take,List.drop,List.map,cI,cB,cS,cL]) (by simp only [fzH,fzB,ug,Nat.beq,cond_true,cond_false,oneU,fzL_nil,fzL_cons,fz_int,fz_bool,fz_str,fz_nils,fz_nilp,fz_nilm,fz_nilf,fz_junk,fz_isl,fz_map,fz_agg,fz_tup,fz_fn,junkT,fz_sl,fz_p0,Nat.reduceLeDiff,Nat.reduceMul,List.length_cons,List.length_nil,Nat.reduceAdd]<;>simp only [chunks,List.take,List.drop,List.map,cI,cB,cS,cL])) (Nat.le_of_ble_eq_true rfl) (law07_node_ok n 1 ([5,0]) r61 h62 _) rfl rfl ?_
 refine RD.act (u:=.sl 11 0 1 1) (σ':=⟨[(11,.row (cGNode r61) 43),(8,.row [.isl false (List.map cGNode r47.1.Nodes)] 25),(7,.row [.isl false (List.map cGNode r19.1.Nodes)] 25),(3,.row [.isl false (List.map cGNode r9.1.Nodes)] 25)],12⟩) (want1 rfl rfl rfl h60) (op_bsl und23 inf43 rfl rfl rfl rfl rfl rfl rfl) rfl rfl ?_
 refine RD.fcall (u:=.agg [.isl false (List.map cGNode r63.Nodes)]) (args:=[.sl 11 0 1 1]) (σ1:=⟨[(8,.row [.isl false (List.map cGNode r47.1.Nodes)] 25),(7,.row [.isl false (List.map cGNode r19.1.Nodes)] 25),(3,.row [.isl false (List.map cGNode r9.1.Nodes)] 25)],12⟩) (want1 rfl rfl rfl h60) (op_call rfl rfl fn32 hb32 rfl rfl) (Gh.fz (tm':=[.isl false (List.map cGNode ([r61]))]) (h':=[(8,.row [.isl false (List.map cGNode r47.1.Nodes)] 25),(7,.row [.isl false (List.map cGNode r19.1.Nodes)] 25),(3,.row [.isl false (List.map cGNode r9.1.Nodes)] 25)]) 11 (.row [.int .i64 r61.Typex,.isl false (List.map cGArc r61.Arcs)] 43) 2 rfl (by simp) (by simp only [oneU,fzL_nil,fzL_cons,fz_int,fz_bool,fz_str,fz_nils,fz_nilp,fz_nilm,fz_nilf,fz_junk,fz_isl,fz_map,fz_agg,fz_tup,fz_fn,junkT,fz_sl,fz_p0,fz_cGNode,Nat.reduceLeDiff,Nat.reduceMul,List.length_cons,List.length_nil,Nat.reduceAdd]<;>simp only [chunks,List.take,List.drop,List.map,cGNode]) (by simp only [fzH,fzB,ug,Nat.beq,cond_true,cond_false,oneU,fzL_nil,fzL_cons,fz_int,fz_bool,fz_str,fz_nils,fz_nilp,fz_nilm,fz_nilf,fz_junk,fz_isl,fz_map,fz_agg,fz_tup,fz_fn,junkT,fz_sl,fz_p0,fz_cGNode,Nat.reduceLeDiff,Nat.reduceMul,List.length_cons,List.length_nil,Nat.reduceAdd]<;>simp only [chunks,List.take,List.drop,List.map,cGNode])) (Nat.le_of_ble_eq_true rfl) (law07_of_ok n ([r61]) r63 h64 _) rfl rfl ?_
 refine RD.free (u:=.bool r65) (args:=[.agg [.isl false (List.map cGNode r63.Nodes)]]) (want1 rfl rfl rfl h60) (op_call rfl rfl fn22 hb22 rfl rfl) (fun s=>graph_Cyclic_ok n r63 r65 h66 s) rfl rfl (RD.q (u:=.bool r65) rfl (op_pick1 rfl h60 rfl) (RD.mv rfl rfl rfl rfl (RD.look (u:=.agg [.isl false (List.map cGNode r9.1.Nodes)]) (want1 rfl rfl rfl h67) (ld_agg und25 rfl (sz_of inf25) rfl rfl rfl) rfl rfl (RD.free (u:=.bool r68) (args:=[.agg [.isl false (List.map cGNode r9.1.Nodes)]]) (want1 rfl rfl rfl h67) (op_call rfl rfl fn22 hb22 rfl rfl) (fun s=>graph_Cyclic_ok n (GFS.mk r9.1.Nodes) r68 h69 s) rfl rfl (RD.look (u:=.bool (!r68)) (want1 rfl rfl rfl h67) (op_un rfl rfl rfl rfl) rfl rfl (RD.q (u:=.bool (!r68)) rfl (op_pick1 rfl h67 rfl) (RD.mv rfl rfl rfl rfl ?_)))))))
 refine RD.free (u:=.agg [.isl false (List.map cGNode r71.Nodes)]) (args:=[.int .i64 4]) (want1 rfl rfl rfl h70) (op_call rfl rfl fn12 hb12 rfl rfl) (fun s=>graph_Atom_ok n 4 r71 h72 s) rfl rfl (RD.free (u:=.agg (cGNode r73)) (args:=[.int .i64 4,.nils]) (want1 rfl rfl rfl h70) (op_call rfl rfl fn29 hb29 rfl rfl) (fun s=>EvU.wkA (args':=[.int .i64 4,.isl false []]) (.cons (.refl _) (.cons (.nil false) .nil)) (fun s=>law07_node_ok n 4 [] r73 h74 s) s) rfl rfl (RD.act (u:=.sl 12 0 1 1) (σ':=⟨[(12,.row (cGNode r73) 43),(8,.row [.isl false (List.map cGNode r47.1.Nodes)] 25),(7,.row [.isl false (List.map cGNode r19.1.Nodes)] 25),(3,.row [.isl false (List.map cGNode r9.1.Nodes)] 25)],13⟩) (want1 rfl rfl rfl h70) (op_bsl und23 inf43 rfl rfl rfl rfl rfl rfl rfl) rfl rfl ?_))
 refine RD.fcall (u:=.agg [.isl false (List.map cGNode r75.Nodes)]) (args:=[.sl 12 0 1 1]) (σ1:=⟨[(8,.row [.isl false (List.map cGNode r47.1.Nodes)] 25),(7,.row [.isl false (List.map cGNode r19.1.Nodes)] 25),(3,.row [.isl false (List.map cGNode r9.1.Nodes)] 25)],13⟩) (want1 rfl rfl rfl h70) (op_call rfl rfl fn32 hb32 rfl rfl) (Gh.fz (tm':=[.isl false (List.map cGNode ([r73]))]) (h':=[(8,.row [.isl false (List.map cGNode r47.1.Nodes)] 25),(7,.row [.isl false (List.map cGNode r19.1.Nodes)] 25),(3,.row [.isl false (List.map cGNode r9.1.Nodes)] 25)]) 12 (.row [.int .i64 r73.Typex,.isl false (List.map cGArc r73.Arcs)] 43) 2 rfl (by simp) (by simp only [oneU,fzL_nil,fzL_cons,fz_int,fz_bool,fz_str,fz_nils,fz_nilp,fz_nilm,fz_nilf,fz_junk,fz_isl,fz_map,fz_agg,fz_tup,fz_fn,junkT,fz_sl,fz_p0,fz_cGNode,Nat.reduceLeDiff,Nat.reduceMul,List.length_cons,List.length_nil,Nat.reduceAdd]<;>simp only [chunks,List.take,List.drop,List.map,cGNode]) (by simp only [fzH,fzB,ug,Nat.beq,cond_true,cond_false,oneU,fzL_nil,fzL_cons,fz_int,fz_bool,fz_str,fz_nils,fz_nilp,fz_nilm,fz_nilf,fz_junk,fz_isl,fz_map,fz_agg,fz_tup,fz_fn,junkT,fz_sl,fz_p0,fz_cGNode,Nat.reduceLeDiff,Nat.reduceMul,List.length_cons,List.length_nil,Nat.reduceAdd]<;>simp only [chunks,List.take,List.drop,List.map,cGNode])) (Nat.le_of_ble_eq_true rfl) (law07_of_ok n ([r73]) r75 h76 _) rfl rfl ?_
 refine RD.free (u:=.bool r77) (args:=[.agg [.isl false (List.map cGNode r71.Nodes)],.agg [.isl false (List.map cGNode r75.Nodes)]]) (want1 rfl rfl rfl h70) (op_call rfl rfl fn14 hb14 rfl rfl) (fun s=>ref07_Equal_ok n r71 r75 r77 h78 s) rfl rfl (RD.q (u:=.bool r77) rfl (op_pick1 rfl h70 rfl) (RD.mv rfl rfl rfl rfl (RD.look (u:=.agg [.isl false (List.map cGNode r9.1.Nodes)]) (want1 rfl rfl rfl h79) (ld_agg und25 rfl (sz_of inf25) rfl rfl rfl) rfl rfl (RD.look (u:=.agg [.isl false (List.map cGNode r9.1.Nodes)]) (want1 rfl rfl rfl h79) (ld_agg und25 rfl (sz_of inf25) rfl rfl rfl) rfl rfl (RD.free (u:=.bool r80) (args:=[.agg [.isl false (List.map cGNode r9.1.Nodes)],.agg [.isl false (List.map cGNode r9.1.Nodes)]]) (want1 rfl rfl rfl h79) (op_call rfl rfl fn26 hb26 rfl rfl) (fun s=>graph_Equal_ok n (GFS.mk r9.1.Nodes) (GFS.mk r9.1.Nodes) r80 h81 s) rfl rfl (RD.q (u:=.bool r80) rfl (op_pick1 rfl h79 rfl) (RD.mv rfl rfl rfl rfl ?_)))))))
 refine RD.free (u:=.agg [.isl false (List.map cGNode r83.Nodes)]) (args:=[.int .i64 9]) (want1 rfl rfl rfl h82) (op_call rfl rfl fn12 hb12 rfl rfl) (fun s=>graph_Atom_ok n 9 r83 h84 s) rfl rfl (RD.look (u:=.agg [.isl false (List.map cGNode r9.1.Nodes)]) (want1 rfl rfl rfl h82) (ld_agg und25 rfl (sz_of inf25) rfl rfl rfl) rfl rfl (RD.free (u:=.int .i64 r85) (args:=[.agg [.isl false (List.map cGNode r83.Nodes)],.agg [.isl false (List.map cGNode r9.1.Nodes)]]) (want1 rfl rfl rfl h82) (op_call rfl rfl fn24 hb24 rfl rfl) (fun s=>graph_Compare_ok n r83 (GFS.mk r9.1.Nodes) r85 h86 s) rfl rfl (RD.look (want1 rfl rfl rfl h82) (op_int rfl rfl (ix_eql _ _ _) rfl) rfl rfl (RD.q (u:=.bool (r85 == (-1))) rfl (op_pick1 rfl h82 rfl) (RD.as rfl rfl rfl rfl ?_)))))
 refine RD.done ⟨by kernel_rfl,trivial,?_⟩
 refine st ?_
 exact ⟨_,_,⟨rfl,rfl⟩,(Nat.zero_le _),Gh.toC (n1:=9) ⟨rfl,trivial⟩ rfl (Nat.zero_le _) (by simp)⟩
 replace h88:=cond_f h82 h88
 replace h88:=Option.some.inj h88
 subst h88
 refine WPU.drawE Try.tb_ok [] (by kernel_rfl) ?_
 refine RD.mv rfl rfl rfl rfl (RD.q rfl (op_int rfl rfl (ix_eql _ _ _) rfl) (RD.mv rfl rfl rfl rfl (RD.look (u:=.agg [.isl false (List.map cGNode r9.1.Nodes)]) (want1 rfl rfl rfl h49) (ld_agg und25 rfl (sz_of inf25) rfl rfl rfl) rfl rfl (RD.free (u:=.agg [.isl false (List.map cGNode r50.Nodes)]) (args:=[.agg [.isl false (List.map cGNode r9.1.Nodes)],.int .i64 1]) (want1 rfl rfl rfl h49) (op_call rfl rfl fn20 hb20 rfl rfl) (fun s=>graph_Sub_ok n (GFS.mk r9.1.Nodes) 1 r50 h51 s) rfl rfl (RD.freeO (u:=.isl false (List.map (cI .i64) ([0,1]))) (want1 rfl rfl rfl h49) (FreeO.bs (cs:=[.int .i64 0,.int .i64 1]) und55 inf3 rfl rfl rfl rfl rfl rfl rfl rfl rfl) rfl rfl (RD.free (u:=.agg (cGNode r52)) (args:=[.int .i64 3,.isl false (List.map (cI .i64) ([0,1]))]) (want1 rfl rfl rfl h49) (op_call rfl rfl fn29 hb29 rfl rfl) (fun s=>law07_node_ok n 3 ([0,1]) r52 h53 s) rfl rfl (RD.free (u:=.agg (cGNode r54)) (args:=[.int .i64 2,.nils]) (want1 rfl rfl rfl h49) (op_call rfl rfl fn29 hb29 rfl rfl) (fun s=>EvU.wkA (args':=[.int .i64 2,.isl false []]) (.cons (.refl _) (.cons (.nil false) .nil)) (fun s=>law07_node_ok n 2 [] r54 h55 s) s) rfl rfl ?_)))))))
 refine RD.act (u:=.sl 9 0 2 2) (σ':=⟨[(9,.row [.int .i64 r52.Typex,.isl false (List.map cGArc r52.Arcs),.int .i64 r54.Typex,.isl false (List.map cGArc r54.Arcs)] 43),(8,.row [.isl false (List.map cGNode r47.1.Nodes)] 25),(7,.row [.isl false (List.map cGNode r19.1.Nodes)] 25),(3,.row [.isl false (List.map cGNode r9.1.Nodes)] 25)],10⟩) (want1 rfl rfl rfl h49) (op_bsl und23 inf43 rfl rfl rfl rfl rfl rfl rfl) rfl rfl ?_
 refine RD.fcall (u:=.agg [.isl false (List.map cGNode r56.Nodes)]) (args:=[.sl 9 0 2 2]) (σ1:=⟨[(8,.row [.isl false (List.map cGNode r47.1.Nodes)] 25),(7,.row [.isl false (List.map cGNode r19.1.Nodes)] 25),(3,.row [.isl false (List.map cGNode r9.1.Nodes)] 25)],10⟩) (want1 rfl rfl rfl h49) (op_call rfl rfl fn32 hb32 rfl rfl) (Gh.fz (tm':=[.isl false (List.map cGNode ([r52,r54]))]) (h':=[(8,.row [.isl false (List.map cGNode r47.1.Nodes)] 25),(7,.row [.isl false (List.map cGNode r19.1.Nodes)] 25),(3,.row [.isl false (List.map cGNode r9.1.Nodes)] 25)]) 9 (.row [.int .i64 r52.Typex,.isl false (List.map cGArc r52.Arcs),.int .i64 r54.Typex,.isl false (List.map cGArc r54.Arcs)] 43) 2 rfl (by simp) (by simp only [oneU,fzL_nil,fzL_cons,fz_int,fz_bool,fz_str,fz_nils,fz_nilp,fz_nilm,fz_nilf,fz_junk,fz_isl,fz_map,fz_agg,fz_tup,fz_fn,junkT,fz_sl,fz_p0,Nat.reduceLeDiff,Nat.reduceMul,List.length_cons,List.length_nil,Nat.reduceAdd]<;>simp only [chunks,List.take,List.drop,List.map,cGNode]) (by simp only [fzH,fzB,ug,Nat.beq,cond_true,cond_false,oneU,fzL_nil,fzL_cons,fz_int,fz_bool,fz_str,fz_nils,fz_nilp,fz_nilm,fz_nilf,fz_junk,fz_isl,fz_map,fz_agg,fz_tup,fz_fn,junkT,fz_sl,fz_p0,Nat.reduceLeDiff,Nat.reduceMul,List.length_cons,List.length_nil,Nat.reduceAdd]<;>simp only [chunks,List.take,List.drop,List.map,cGNode])) (Nat.le_of_ble_eq_true rfl) (law07_of_ok n ([r52,r54]) r56 h57 _) rfl rfl ?_
 refine RD.free (u:=.bool r58) (args:=[.agg [.isl false (List.map cGNode r50.Nodes)],.agg [.isl false (List.map cGNode r56.Nodes)]]) (want1 rfl rfl rfl h49) (op_call rfl rfl fn14 hb14 rfl rfl) (fun s=>ref07_Equal_ok n r50 r56 r58 h59 s) rfl rfl (RD.q (u:=.bool r58) rfl (op_pick1 rfl h49 rfl) (RD.mv rfl rfl rfl rfl (RD.act (u:=.sl 10 0 2 2) (σ':=⟨[(10,.row [.int .i64 5,.int .i64 0] 3),(8,.row [.isl false (List.map cGNode r47.1.Nodes)] 25),(7,.row [.isl false (List.map cGNode r19.1.Nodes)] 25),(3,.row [.isl false (List.map cGNode r9.1.Nodes)] 25)],11⟩) (want1 rfl rfl rfl h60) (op_bsl und55 inf3 rfl rfl rfl rfl rfl rfl rfl) rfl rfl ?_)))
 refine RD.fcall (u:=.agg (cGNode r61)) (args:=[.int .i64 1,.sl 10 0 2 2]) (σ1:=⟨[(8,.row [.isl false (List.map cGNode r47.1.Nodes)] 25),(7,.row [.isl false (List.map cGNode r19.1.Nodes)] 25),(3,.row [.isl false (List.map cGNode r9.1.Nodes)] 25)],11⟩) (want1 rfl rfl rfl h60) (op_call rfl rfl fn29 hb29 rfl rfl) (Gh.fz (tm':=[.int .i64 1,.isl false (List.map (cI .i64) ([5,0]))]) (h':=[(8,.row [.isl false (List.map cGNode r47.1.Nodes)] 25),(7,.row [.isl false (List.map cGNode r19.1.Nodes)] 25),(3,.row [.isl false (List.map cGNode r9.1.Nodes)] 25)]) 10 (.row [.int .i64 5,.int .i64 0] 3) 1 rfl (by simp) (by simp only [oneU,fzL_nil,fzL_cons,fz_int,fz_bool,fz_str,fz_nils,fz_nilp,fz_nilm,fz_nilf,fz_junk,fz_isl,fz_map,fz_agg,fz_tup,fz_fn,junkT,fz_sl,fz_p0,Nat.reduceLeDiff,Nat.reduceMul,List.length_cons,List.length_nil,Nat.reduceAdd]<;>simp only [chunks,List.take,List.drop,List.map,cI,cB,cS,cL]) (by simp only [fzH,fzB,ug,Nat.beq,cond_true,cond_false,oneU,fzL_nil,fzL_cons,fz_int,fz_bool,fz_str,fz_nils,fz_nilp,fz_nilm,fz_nilf,fz_junk,fz_isl,fz_map,fz_agg,fz_tup,fz_fn,junkT,fz_sl,fz_p0,Nat.reduceLeDiff,Nat.reduceMul,List.length_cons,List.length_nil,Nat.reduceAdd]<;>simp only [chunks,List.take,List.drop,List.map,cI,cB,cS,cL])) (Nat.le_of_ble_eq_true rfl) (law07_node_ok n 1 ([5,0]) r61 h62 _) rfl rfl ?_
 refine RD.act (u:=.sl 11 0 1 1) (σ':=⟨[(11,.row (cGNode r61) 43),(8,.row [.isl false (List.map cGNode r47.1.Nodes)] 25),(7,.row [.isl false (List.map cGNode r19.1.Nodes)] 25),(3,.row [.isl false (List.map cGNode r9.1.Nodes)] 25)],12⟩) (want1 rfl rfl rfl h60) (op_bsl und23 inf43 rfl rfl rfl rfl rfl rfl rfl) rfl rfl ?_
 refine RD.fcall (u:=.agg [.isl false (List.map cGNode r63.Nodes)]) (args:=[.sl 11 0 1 1]) (σ1:=⟨[(8,.row [.isl false (List.map cGNode r47.1.Nodes)] 25),(7,.row [.isl false (List.map cGNode r19.1.Nodes)] 25),(3,.row [.isl false (List.map cGNode r9.1.Nodes)] 25)],12⟩) (want1 rfl rfl rfl h60) (op_call rfl rfl fn32 hb32 rfl rfl) (Gh.fz (tm':=[.isl false (List.map cGNode ([r61]))]) (h':=[(8,.row [.isl false (List.map cGNode r47.1.Nodes)] 25),(7,.row [.isl false (List.map cGNode r19.1.Nodes)] 25),(3,.row [.isl false (List.map cGNode r9.1.Nodes)] 25)]) 11 (.row [.int .i64 r61.Typex,.isl false (List.map cGArc r61.Arcs)] 43) 2 rfl (by simp) (by simp only [oneU,fzL_nil,fzL_cons,fz_int,fz_bool,fz_str,fz_nils,fz_nilp,fz_nilm,fz_nilf,fz_junk,fz_isl,fz_map,fz_agg,fz_tup,fz_fn,junkT,fz_sl,fz_p0,fz_cGNode,Nat.reduceLeDiff,Nat.reduceMul,List.length_cons,List.length_nil,Nat.reduceAdd]<;>simp only [chunks,List.take,List.drop,List.map,cGNode]) (by simp only [fzH,fzB,ug,Nat.beq,cond_true,cond_false,oneU,fzL_nil,fzL_cons,fz_int,fz_bool,fz_str,fz_nils,fz_nilp,fz_nilm,fz_nilf,fz_junk,fz_isl,fz_map,fz_agg,fz_tup,fz_fn,junkT,fz_sl,fz_p0,fz_cGNode,Nat.reduceLeDiff,Nat.reduceMul,List.length_cons,List.length_nil,Nat.reduceAdd]<;>simp only [chunks,List.take,List.drop,List.map,cGNode])) (Nat.le_of_ble_eq_true rfl) (law07_of_ok n ([r61]) r63 h64 _) rfl rfl ?_
 refine RD.free (u:=.bool r65) (args:=[.agg [.isl false (List.map cGNode r63.Nodes)]]) (want1 rfl rfl rfl h60) (op_call rfl rfl fn22 hb22 rfl rfl) (fun s=>graph_Cyclic_ok n r63 r65 h66 s) rfl rfl (RD.q (u:=.bool r65) rfl (op_pick1 rfl h60 rfl) (RD.mv rfl rfl rfl rfl (RD.look (u:=.agg [.isl false (List.map cGNode r9.1.Nodes)]) (want1 rfl rfl rfl h67) (ld_agg und25 rfl (sz_of inf25) rfl rfl rfl) rfl rfl (RD.free (u:=.bool r68) (args:=[.agg [.isl false (List.map cGNode r9.1.Nodes)]]) (want1 rfl rfl rfl h67) (op_call rfl rfl fn22 hb22 rfl rfl) (fun s=>graph_Cyclic_ok n (GFS.mk r9.1.Nodes) r68 h69 s) rfl rfl (RD.look (u:=.bool (!r68)) (want1 rfl rfl rfl h67) (op_un rfl rfl rfl rfl) rfl rfl (RD.q (u:=.bool (!r68)) rfl (op_pick1 rfl h67 rfl) (RD.mv rfl rfl rfl rfl ?_)))))))
 refine RD.free (u:=.agg [.isl false (List.map cGNode r71.Nodes)]) (args:=[.int .i64 4]) (want1 rfl rfl rfl h70) (op_call rfl rfl fn12 hb12 rfl rfl) (fun s=>graph_Atom_ok n 4 r71 h72 s) rfl rfl (RD.free (u:=.agg (cGNode r73)) (args:=[.int .i64 4,.nils]) (want1 rfl rfl rfl h70) (op_call rfl rfl fn29 hb29 rfl rfl) (fun s=>EvU.wkA (args':=[.int .i64 4,.isl false []]) (.cons (.refl _) (.cons (.nil false) .nil)) (fun s=>law07_node_ok n 4 [] r73 h74 s) s) rfl rfl (RD.act (u:=.sl 12 0 1 1) (σ':=⟨[(12,.row (cGNode r73) 43),(8,.row [.isl false (List.map cGNode r47.1.Nodes)] 25),(7,.row [.isl false (List.map cGNode r19.1.Nodes)] 25),(3,.row [.isl false (List.map cGNode r9.1.Nodes)] 25)],13⟩) (want1 rfl rfl rfl h70) (op_bsl und23 inf43 rfl rfl rfl rfl rfl rfl rfl) rfl rfl ?_))
 refine RD.fcall (u:=.agg [.isl false (List.map cGNode r75.Nodes)]) (args:=[.sl 12 0 1 1]) (σ1:=⟨[(8,.row [.isl false (List.map cGNode r47.1.Nodes)] 25),(7,.row [.isl false (List.map cGNode r19.1.Nodes)] 25),(3,.row [.isl false (List.map cGNode r9.1.Nodes)] 25)],13⟩) (want1 rfl rfl rfl h70) (op_call rfl rfl fn32 hb32 rfl rfl) (Gh.fz (tm':=[.isl false (List.map cGNode ([r73]))]) (h':=[(8,.row [.isl false (List.map cGNode r47.1.Nodes)] 25),(7,.row [.isl false (List.map cGNode r19.1.Nodes)] 25),(3,.row [.isl false (List.map cGNode r9.1.Nodes)] 25)]) 12 (.row [.int .i64 r73.Typex,.isl false (List.map cGArc r73.Arcs)] 43) 2 rfl (by simp) (by simp only [oneU,fzL_nil,fzL_cons,fz_int,fz_bool,fz_str,fz_nils,fz_nilp,fz_nilm,fz_nilf,fz_junk,fz_isl,fz_map,fz_agg,fz_tup,fz_fn,junkT,fz_sl,fz_p0,fz_cGNode,Nat.reduceLeDiff,Nat.reduceMul,List.length_cons,List.length_nil,Nat.reduceAdd]<;>simp only [chunks,List.take,List.drop,List.map,cGNode]) (by simp only [fzH,fzB,ug,Nat.beq,cond_true,cond_false,oneU,fzL_nil,fzL_cons,fz_int,fz_bool,fz_str,fz_nils,fz_nilp,fz_nilm,fz_nilf,fz_junk,fz_isl,fz_map,fz_agg,fz_tup,fz_fn,junkT,fz_sl,fz_p0,fz_cGNode,Nat.reduceLeDiff,Nat.reduceMul,List.length_cons,List.length_nil,Nat.reduceAdd]<;>simp only [chunks,List.take,List.drop,List.map,cGNode])) (Nat.le_of_ble_eq_true rfl) (law07_of_ok n ([r73]) r75 h76 _) rfl rfl ?_
 refine RD.free (u:=.bool r77) (args:=[.agg [.isl false (List.map cGNode r71.Nodes)],.agg [.isl false (List.map cGNode r75.Nodes)]]) (want1 rfl rfl rfl h70) (op_call rfl rfl fn14 hb14 rfl rfl) (fun s=>ref07_Equal_ok n r71 r75 r77 h78 s) rfl rfl (RD.q (u:=.bool r77) rfl (op_pick1 rfl h70 rfl) (RD.mv rfl rfl rfl rfl (RD.look (u:=.agg [.isl false (List.map cGNode r9.1.Nodes)]) (want1 rfl rfl rfl h79) (ld_agg und25 rfl (sz_of inf25) rfl rfl rfl) rfl rfl (RD.look (u:=.agg [.isl false (List.map cGNode r9.1.Nodes)]) (want1 rfl rfl rfl h79) (ld_agg und25 rfl (sz_of inf25) rfl rfl rfl) rfl rfl (RD.free (u:=.bool r80) (args:=[.agg [.isl false (List.map cGNode r9.1.Nodes)],.agg [.isl false (List.map cGNode r9.1.Nodes)]]) (want1 rfl rfl rfl h79) (op_call rfl rfl fn26 hb26 rfl rfl) (fun s=>graph_Equal_ok n (GFS.mk r9.1.Nodes) (GFS.mk r9.1.Nodes) r80 h81 s) rfl rfl (RD.q (u:=.bool r80) rfl (op_pick1 rfl h79 rfl) (RD.mv rfl rfl rfl rfl ?_)))))))
 repeat refine RD.no (want0 rfl rfl rfl h82) rfl rfl ?_
 refine RD.q (u:=.bool false) rfl (op_pick0 rfl h82 rfl) (RD.as rfl rfl rfl rfl ?_)
 refine RD.done ⟨by kernel_rfl,trivial,?_⟩
 refine st ?_
 exact ⟨_,_,⟨rfl,rfl⟩,(Nat.zero_le _),Gh.toC (n1:=9) ⟨rfl,trivial⟩ rfl (Nat.zero_le _) (by simp)⟩
 replace h88:=cond_f h79 h88
 replace h88:=Option.some.inj h88
 subst h88
 refine WPU.drawE Try.tb_ok [] (by kernel_rfl) ?_
 refine RD.mv rfl rfl rfl rfl (RD.q rfl (op_int rfl rfl (ix_eql _ _ _) rfl) (RD.mv rfl rfl rfl rfl (RD.look (u:=.agg [.isl false (List.map cGNode r9.1.Nodes)]) (want1 rfl rfl rfl h49) (ld_agg und25 rfl (sz_of inf25) rfl rfl rfl) rfl rfl (RD.free (u:=.agg [.isl false (List.map cGNode r50.Nodes)]) (args:=[.agg [.isl false (List.map cGNode r9.1.Nodes)],.int .i64 1]) (want1 rfl rfl rfl h49) (op_call rfl rfl fn20 hb20 rfl rfl) (fun s=>graph_Sub_ok n (GFS.mk r9.1.Nodes) 1 r50 h51 s) rfl rfl (RD.freeO (u:=.isl false (List.map (cI .i64) ([0,1]))) (want1 rfl rfl rfl h49) (FreeO.bs (cs:=[.int .i64 0,.int .i64 1]) und55 inf3 rfl rfl rfl rfl rfl rfl rfl rfl rfl) rfl rfl (RD.free (u:=.agg (cGNode r52)) (args:=[.int .i64 3,.isl false (List.map (cI .i64) ([0,1]))]) (want1 rfl rfl rfl h49) (op_call rfl rfl fn29 hb29 rfl rfl) (fun s=>law07_node_ok n 3 ([0,1]) r52 h53 s) rfl rfl (RD.free (u:=.agg (cGNode r54)) (args:=[.int .i64 2,.nils]) (want1 rfl rfl rfl h49) (op_call rfl rfl fn29 hb29 rfl rfl) (fun s=>EvU.wkA (args':=[.int .i64 2,.isl false []]) (.cons (.refl _) (.cons (.nil false) .nil)) (fun s=>law07_node_ok n 2 [] r54 h55 s) s) rfl rfl ?_)))))))
 refine RD.act (u:=.sl 9 0 2 2) (σ':=⟨[(9,.row [.int .i64 r52.Typex,.isl false (List.map cGArc r52.Arcs),.int .i64 r54.Typex,.isl false (List.map cGArc r54.Arcs)] 43),(8,.row [.isl false (List.map cGNode r47.1.Nodes)] 25),(7,.row [.isl false (List.map cGNode r19.1.Nodes)] 25),(3,.row [.isl false (List.map cGNode r9.1.Nodes)] 25)],10⟩) (want1 rfl rfl rfl h49) (op_bsl und23 inf43 rfl rfl rfl rfl rfl rfl rfl) rfl rfl ?_
 refine RD.fcall (u:=.agg [.isl false (List.map cGNode r56.Nodes)]) (args:=[.sl 9 0 2 2]) (σ1:=⟨[(8,.row [.isl false (List.map cGNode r47.1.Nodes)] 25),(7,.row [.isl false (List.map cGNode r19.1.Nodes)] 25),(3,.row [.isl false (List.map cGNode r9.1.Nodes)] 25)],10⟩) (want1 rfl rfl rfl h49) (op_call rfl rfl fn32 hb32 rfl rfl) (Gh.fz (tm':=[.isl false (List.map cGNode ([r52,r54]))]) (h':=[(8,.row [.isl false (List.map cGNode r47.1.Nodes)] 25),(7,.row [.isl false (List.map cGNode r19.1.Nodes)] 25),(3,.row [.isl false (List.map cGNode r9.1.Nodes)] 25)]) 9 (.row [.int .i64 r52.Typex,.isl false (List.map cGArc r52.Arcs),.int .i64 r54.Typex,.isl false (List.map cGArc r54.Arcs)] 43) 2 rfl (by simp) (by simp only [oneU,fzL_nil,fzL_cons,fz_int,fz_bool,fz_str,fz_nils,fz_nilp,fz_nilm,fz_nilf,fz_junk,fz_isl,fz_map,fz_agg,fz_tup,fz_fn,junkT,fz_sl,fz_p0,Nat.reduceLeDiff,Nat.reduceMul,List.length_cons,List.length_nil,Nat.reduceAdd]<;>simp only [chunks,List.take,List.drop,List.map,cGNode]) (by simp only [fzH,fzB,ug,Nat.beq,cond_true,cond_false,oneU,fzL_nil,fzL_cons,fz_int,fz_bool,fz_str,fz_nils,fz_nilp,fz_nilm,fz_nilf,fz_junk,fz_isl,fz_map,fz_agg,fz_tup,fz_fn,junkT,fz_sl,fz_p0,Nat.reduceLeDiff,Nat.reduceMul,List.length_cons,List.length_nil,Nat.reduceAdd]<;>simp only [chunks,List.take,List.drop,List.map,cGNode])) (Nat.le_of_ble_eq_true rfl) (law07_of_ok n ([r52,r54]) r56 h57 _) rfl rfl ?_
 refine RD.free (u:=.bool r58) (args:=[.agg [.isl false (List.map cGNode r50.Nodes)],.agg [.isl false (List.map cGNode r56.Nodes)]]) (want1 rfl rfl rfl h49) (op_call rfl rfl fn14 hb14 rfl rfl) (fun s=>ref07_Equal_ok n r50 r56 r58 h59 s) rfl rfl (RD.q (u:=.bool r58) rfl (op_pick1 rfl h49 rfl) (RD.mv rfl rfl rfl rfl (RD.act (u:=.sl 10 0 2 2) (σ':=⟨[(10,.row [.int .i64 5,.int .i64 0] 3),(8,.row [.isl false (List.map cGNode r47.1.Nodes)] 25),(7,.row [.isl false (List.map cGNode r19.1.Nodes)] 25),(3,.row [.isl false (List.map cGNode r9.1.Nodes)] 25)],11⟩) (want1 rfl rfl rfl h60) (op_bsl und55 inf3 rfl rfl rfl rfl rfl rfl rfl) rfl rfl ?_)))
 refine RD.fcall (u:=.agg (cGNode r61)) (args:=[.int .i64 1,.sl 10 0 2 2]) (σ1:=⟨[(8,.row [.isl false (List.map cGNode r47.1.Nodes)] 25),(7,.row [.isl false (List.map cGNode r19.1.Nodes)] 25),(3,.row [.isl false (List.map cGNode r9.1.Nodes)] 25)],11⟩) (want1 rfl rfl rfl h60) (op_call rfl rfl fn29 hb29 rfl rfl) (Gh.fz (tm':=[.int .i64 1,.isl false (List.map (cI .i64) ([5,0]))]) (h':=[(8,.row [.isl false (List.map cGNode r47.1.Nodes)] 25),(7,.row [.isl false (List.map cGNode r19.1.Nodes)] 25),(3,.row [.isl false (List.map cGNode r9.1.Nodes)] 25)]) 10 (.row [.int .i64 5,.int .i64 0] 3) 1 rfl (by simp) (by simp only [oneU,fzL_nil,fzL_cons,fz_int,fz_bool,fz_str,fz_nils,fz_nilp,fz_nilm,fz_nilf,fz_junk,fz_isl,fz_map,fz_agg,fz_tup,fz_fn,junkT,fz_sl,fz_p0,Nat.reduceLeDiff,Nat.reduceMul,List.length_cons,List.length_nil,Nat.reduceAdd]<;>simp only [chunks,List.take,List.drop,List.map,cI,cB,cS,cL]) (by simp only [fzH,fzB,ug,Nat.beq,cond_true,cond_false,oneU,fzL_nil,fzL_cons,fz_int,fz_bool,fz_str,fz_nils,fz_nilp,fz_nilm,fz_nilf,fz_junk,fz_isl,fz_map,fz_agg,fz_tup,fz_fn,junkT,fz_sl,fz_p0,Nat.reduceLeDiff,Nat.reduceMul,List.length_cons,List.length_nil,Nat.reduceAdd]<;>simp only [chunks,List.take,List.drop,List.map,cI,cB,cS,cL])) (Nat.le_of_ble_eq_true rfl) (law07_node_ok n 1 ([5,0]) r61 h62 _) rfl rfl ?_
 refine RD.act (u:=.sl 11 0 1 1) (σ':=⟨[(11,.row (cGNode r61) 43),(8,.row [.isl false (List.map cGNode r47.1.Nodes)] 25),(7,.row [.isl false (List.map cGNode r19.1.Nodes)] 25),(3,.row [.isl false (List.map cGNode r9.1.Nodes)] 25)],12⟩) (want1 rfl rfl rfl h60) (op_bsl und23 inf43 rfl rfl rfl rfl rfl rfl rfl) rfl rfl ?_
 refine RD.fcall (u:=.agg [.isl false (List.map cGNode r63.Nodes)]) (args:=[.sl 11 0 1 1]) (σ1:=⟨[(8,.row [.isl false (List.map cGNode r47.1.Nodes)] 25),(7,.row [.isl false (List.map cGNode r19.1.Nodes)] 25),(3,.row [.isl false (List.map cGNode r9.1.Nodes)] 25)],12⟩) (want1 rfl rfl rfl h60) (op_call rfl rfl fn32 hb32 rfl rfl) (Gh.fz (tm':=[.isl false (List.map cGNode ([r61]))]) (h':=[(8,.row [.isl false (List.map cGNode r47.1.Nodes)] 25),(7,.row [.isl false (List.map cGNode r19.1.Nodes)] 25),(3,.row [.isl false (List.map cGNode r9.1.Nodes)] 25)]) 11 (.row [.int .i64 r61.Typex,.isl false (List.map cGArc r61.Arcs)] 43) 2 rfl (by simp) (by simp only [oneU,fzL_nil,fzL_cons,fz_int,fz_bool,fz_str,fz_nils,fz_nilp,fz_nilm,fz_nilf,fz_junk,fz_isl,fz_map,fz_agg,fz_tup,fz_fn,junkT,fz_sl,fz_p0,fz_cGNode,Nat.reduceLeDiff,Nat.reduceMul,List.length_cons,List.length_nil,Nat.reduceAdd]<;>simp only [chunks,List.take,List.drop,List.map,cGNode]) (by simp only [fzH,fzB,ug,Nat.beq,cond_true,cond_false,oneU,fzL_nil,fzL_cons,fz_int,fz_bool,fz_str,fz_nils,fz_nilp,fz_nilm,fz_nilf,fz_junk,fz_isl,fz_map,fz_agg,fz_tup,fz_fn,junkT,fz_sl,fz_p0,fz_cGNode,Nat.reduceLeDiff,Nat.reduceMul,List.length_cons,List.length_nil,Nat.reduceAdd]<;>simp only [chunks,List.take,List.drop,List.map,cGNode])) (Nat.le_of_ble_eq_true rfl) (law07_of_ok n ([r61]) r63 h64 _) rfl rfl ?_
 refine RD.free (u:=.bool r65) (args:=[.agg [.isl false (List.map cGNode r63.Nodes)]]) (want1 rfl rfl rfl h60) (op_call rfl rfl fn22 hb22 rfl rfl) (fun s=>graph_Cyclic_ok n r63 r65 h66 s) rfl rfl (RD.q (u:=.bool r65) rfl (op_pick1 rfl h60 rfl) (RD.mv rfl rfl rfl rfl (RD.look (u:=.agg [.isl false (List.map cGNode r9.1.Nodes)]) (want1 rfl rfl rfl h67) (ld_agg und25 rfl (sz_of inf25) rfl rfl rfl) rfl rfl (RD.free (u:=.bool r68) (args:=[.agg [.isl false (List.map cGNode r9.1.Nodes)]]) (want1 rfl rfl rfl h67) (op_call rfl rfl fn22 hb22 rfl rfl) (fun s=>graph_Cyclic_ok n (GFS.mk r9.1.Nodes) r68 h69 s) rfl rfl (RD.look (u:=.bool (!r68)) (want1 rfl rfl rfl h67) (op_un rfl rfl rfl rfl) rfl rfl (RD.q (u:=.bool (!r68)) rfl (op_pick1 rfl h67 rfl) (RD.mv rfl rfl rfl rfl ?_)))))))
 refine RD.free (u:=.agg [.isl false (List.map cGNode r71.Nodes)]) (args:=[.int .i64 4]) (want1 rfl rfl rfl h70) (op_call rfl rfl fn12 hb12 rfl rfl) (fun s=>graph_Atom_ok n 4 r71 h72 s) rfl rfl (RD.free (u:=.agg (cGNode r73)) (args:=[.int .i64 4,.nils]) (want1 rfl rfl rfl h70) (op_call rfl rfl fn29 hb29 rfl rfl) (fun s=>EvU.wkA (args':=[.int .i64 4,.isl false []]) (.cons (.refl _) (.cons (.nil false) .nil)) (fun s=>law07_node_ok n 4 [] r73 h74 s) s) rfl rfl (RD.act (u:=.sl 12 0 1 1) (σ':=⟨[(12,.row (cGNode r73) 43),(8,.row [.isl false (List.map cGNode r47.1.Nodes)] 25),(7,.row [.isl false (List.map cGNode r19.1.Nodes)] 25),(3,.row [.isl false (List.map cGNode r9.1.Nodes)] 25)],13⟩) (want1 rfl rfl rfl h70) (op_bsl und23 inf43 rfl rfl rfl rfl rfl rfl rfl) rfl rfl ?_))
 refine RD.fcall (u:=.agg [.isl false (List.map cGNode r75.Nodes)]) (args:=[.sl 12 0 1 1]) (σ1:=⟨[(8,.row [.isl false (List.map cGNode r47.1.Nodes)] 25),(7,.row [.isl false (List.map cGNode r19.1.Nodes)] 25),(3,.row [.isl false (List.map cGNode r9.1.Nodes)] 25)],13⟩) (want1 rfl rfl rfl h70) (op_call rfl rfl fn32 hb32 rfl rfl) (Gh.fz (tm':=[.isl false (List.map cGNode ([r73]))]) (h':=[(8,.row [.isl false (List.map cGNode r47.1.Nodes)] 25),(7,.row [.isl false (List.map cGNode r19.1.Nodes)] 25),(3,.row [.isl false (List.map cGNode r9.1.Nodes)] 25)]) 12 (.row [.int .i64 r73.Typex,.isl false (List.map cGArc r73.Arcs)] 43) 2 rfl (by simp) (by simp only [oneU,fzL_nil,fzL_cons,fz_int,fz_bool,fz_str,fz_nils,fz_nilp,fz_nilm,fz_nilf,fz_junk,fz_isl,fz_map,fz_agg,fz_tup,fz_fn,junkT,fz_sl,fz_p0,fz_cGNode,Nat.reduceLeDiff,Nat.reduceMul,List.length_cons,List.length_nil,Nat.reduceAdd]<;>simp only [chunks,List.take,List.drop,List.map,cGNode]) (by simp only [fzH,fzB,ug,Nat.beq,cond_true,cond_false,oneU,fzL_nil,fzL_cons,fz_int,fz_bool,fz_str,fz_nils,fz_nilp,fz_nilm,fz_nilf,fz_junk,fz_isl,fz_map,fz_agg,fz_tup,fz_fn,junkT,fz_sl,fz_p0,fz_cGNode,Nat.reduceLeDiff,Nat.reduceMul,List.length_cons,List.length_nil,Nat.reduceAdd]<;>simp only [chunks,List.take,List.drop,List.map,cGNode])) (Nat.le_of_ble_eq_true rfl) (law07_of_ok n ([r73]) r75 h76 _) rfl rfl ?_
 refine RD.free (u:=.bool r77) (args:=[.agg [.isl false (List.map cGNode r71.Nodes)],.agg [.isl false (List.map cGNode r75.Nodes)]]) (want1 rfl rfl rfl h70) (op_call rfl rfl fn14 hb14 rfl rfl) (fun s=>ref07_Equal_ok n r71 r75 r77 h78 s) rfl rfl (RD.q (u:=.bool r77) rfl (op_pick1 rfl h70 rfl) (RD.mv rfl rfl rfl rfl ?_))
 repeat refine RD.no (want0 rfl rfl rfl h79) rfl rfl ?_
 refine RD.q (u:=.bool false) rfl (op_pick0 rfl h79 rfl) (RD.mv rfl rfl rfl rfl ?_)
 repeat refine RD.no (want0 rfl rfl rfl rfl) rfl rfl ?_
 refine RD.q (u:=.bool false) rfl (op_pick0 rfl rfl rfl) (RD.as rfl rfl rfl rfl ?_)
 refine RD.done ⟨by kernel_rfl,trivial,?_⟩
 refine st ?_
 exact ⟨_,_,⟨rfl,rfl⟩,(Nat.zero_le _),Gh.toC (n1:=9) ⟨rfl,trivial⟩ rfl (Nat.zero_le _) (by simp)⟩
 replace h88:=cond_f h70 h88
 replace h88:=Option.some.inj h88
 subst h88
 refine WPU.drawE Try.tb_ok [] (by kernel_rfl) ?_
 refine RD.mv rfl rfl rfl rfl (RD.q rfl (op_int rfl rfl (ix_eql _ _ _) rfl) (RD.mv rfl rfl rfl rfl (RD.look (u:=.agg [.isl false (List.map cGNode r9.1.Nodes)]) (want1 rfl rfl rfl h49) (ld_agg und25 rfl (sz_of inf25) rfl rfl rfl) rfl rfl (RD.free (u:=.agg [.isl false (List.map cGNode r50.Nodes)]) (args:=[.agg [.isl false (List.map cGNode r9.1.Nodes)],.int .i64 1]) (want1 rfl rfl rfl h49) (op_call rfl rfl fn20 hb20 rfl rfl) (fun s=>graph_Sub_ok n (GFS.mk r9.1.Nodes) 1 r50 h51 s) rfl rfl (RD.freeO (u:=.isl false (List.map (cI .i64) ([0,1]))) (want1 rfl rfl rfl h49) (FreeO.bs (cs:=[.int .i64 0,.int .i64 1]) und55 inf3 rfl rfl rfl rfl rfl rfl rfl rfl rfl) rfl rfl (RD.free (u:=.agg (cGNode r52)) (args:=[.int .i64 3,.isl false (List.map (cI .i64) ([0,1]))]) (want1 rfl rfl rfl h49) (op_call rfl rfl fn29 hb29 rfl rfl) (fun s=>law07_node_ok n 3 ([0,1]) r52 h53 s) rfl rfl (RD.free (u:=.agg (cGNode r54)) (args:=[.int .i64 2,.nils]) (want1 rfl rfl rfl h49) (op_call rfl rfl fn29 hb29 rfl rfl) (fun s=>EvU.wkA (args':=[.int .i64 2,.isl false []]) (.cons (.refl _) (.cons (.nil false) .nil)) (fun s=>law07_node_ok n 2 [] r54 h55 s) s) rfl rfl ?_)))))))
 refine RD.act (u:=.sl 9 0 2 2) (σ':=⟨[(9,.row [.int .i64 r52.Typex,.isl false (List.map cGArc r52.Arcs),.int .i64 r54.Typex,.isl false (List.map cGArc r54.Arcs)] 43),(8,.row [.isl false (List.map cGNode r47.1.Nodes)] 25),(7,.row [.isl false (List.map cGNode r19.1.Nodes)] 25),(3,.row [.isl false (List.map cGNode r9.1.Nodes)] 25)],10⟩) (want1 rfl rfl rfl h49) (op_bsl und23 inf43 rfl rfl rfl rfl rfl rfl rfl) rfl rfl ?_
 refine RD.fcall (u:=.agg [.isl false (List.map cGNode r56.Nodes)]) (args:=[.sl 9 0 2 2]) (σ1:=⟨[(8,.row [.isl false (List.map cGNode r47.1.Nodes)] 25),(7,.row [.isl false (List.map cGNode r19.1.Nodes)] 25),(3,.row [.isl false (List.map cGNode r9.1.Nodes)] 25)],10⟩) (want1 rfl rfl rfl h49) (op_call rfl rfl fn32 hb32 rfl rfl) (Gh.fz (tm':=[.isl false (List.map cGNode ([r52,r54]))]) (h':=[(8,.row [.isl false (List.map cGNode r47.1.Nodes)] 25),(7,.row [.isl false (List.map cGNode r19.1.Nodes)] 25),(3,.row [.isl false (List.map cGNode r9.1.Nodes)] 25)]) 9 (.row [.int .i64 r52.Typex,.isl false (List.map cGArc r52.Arcs),.int .i64 r54.Typex,.isl false (List.map cGArc r54.Arcs)] 43) 2 rfl (by simp) (by simp only [oneU,fzL_nil,fzL_cons,fz_int,fz_bool,fz_str,fz_nils,fz_nilp,fz_nilm,fz_nilf,fz_junk,fz_isl,fz_map,fz_agg,fz_tup,fz_fn,junkT,fz_sl,fz_p0,Nat.reduceLeDiff,Nat.reduceMul,List.length_cons,List.length_nil,Nat.reduceAdd]<;>simp only [chunks,List.take,List.drop,List.map,cGNode]) (by simp only [fzH,fzB,ug,Nat.beq,cond_true,cond_false,oneU,fzL_nil,fzL_cons,fz_int,fz_bool,fz_str,fz_nils,fz_nilp,fz_nilm,fz_nilf,fz_junk,fz_isl,fz_map,fz_agg,fz_tup,fz_fn,junkT,fz_sl,fz_p0,Nat.reduceLeDiff,Nat.reduceMul,List.length_cons,List.length_nil,Nat.reduceAdd]<;>simp only [chunks,List.take,List.drop,List.map,cGNode])) (Nat.le_of_ble_eq_true rfl) (law07_of_ok n ([r52,r54]) r56 h57 _) rfl rfl ?_
 refine RD.free (u:=.bool r58) (args:=[.agg [.isl false (List.map cGNode r50.Nodes)],.agg [.isl false (List.map cGNode r56.Nodes)]]) (want1 rfl rfl rfl h49) (op_call rfl rfl fn14 hb14 rfl rfl) (fun s=>ref07_Equal_ok n r50 r56 r58 h59 s) rfl rfl (RD.q (u:=.bool r58) rfl (op_pick1 rfl h49 rfl) (RD.mv rfl rfl rfl rfl (RD.act (u:=.sl 10 0 2 2) (σ':=⟨[(10,.row [.int .i64 5,.int .i64 0] 3),(8,.row [.isl false (List.map cGNode r47.1.Nodes)] 25),(7,.row [.isl false (List.map cGNode r19.1.Nodes)] 25),(3,.row [.isl false (List.map cGNode r9.1.Nodes)] 25)],11⟩) (want1 rfl rfl rfl h60) (op_bsl und55 inf3 rfl rfl rfl rfl rfl rfl rfl) rfl rfl ?_)))
 refine RD.fcall (u:=.agg (cGNode r61)) (args:=[.int .i64 1,.sl 10 0 2 2]) (σ1:=⟨[(8,.row [.isl false (List.map cGNode r47.1.Nodes)] 25),(7,.row [.isl false (List.map cGNode r19.1.Nodes)] 25),(3,.row [.isl false (List.map cGNode r9.1.Nodes)] 25)],11⟩) (want1 rfl rfl rfl h60) (op_call rfl rfl fn29 hb29 rfl rfl) (Gh.fz (tm':=[.int .i64 1,.isl false (List.map (cI .i64) ([5,0]))]) (h':=[(8,.row [.isl false (List.map cGNode r47.1.Nodes)] 25),(7,.row [.isl false (List.map cGNode r19.1.Nodes)] 25),(3,.row [.isl false (List.map cGNode r9.1.Nodes)] 25)]) 10 (.row [.int .i64 5,.int .i64 0] 3) 1 rfl (by simp) (by simp only [oneU,fzL_nil,fzL_cons,fz_int,fz_bool,fz_str,fz_nils,fz_nilp,fz_nilm,fz_nilf,fz_junk,fz_isl,fz_map,fz_agg,fz_tup,fz_fn,junkT,fz_sl,fz_p0,Nat.reduceLeDiff,Nat.reduceMul,List.length_cons,List.length_nil,Nat.reduceAdd]<;>simp only [chunks,List.take,List.drop,List.map,cI,cB,cS,cL]) (by simp only [fzH,fzB,ug,Nat.beq,cond_true,cond_false,oneU,fzL_nil,fzL_cons,fz_int,fz_bool,fz_str,fz_nils,fz_nilp,fz_nilm,fz_nilf,fz_junk,fz_isl,fz_map,fz_agg,fz_tup,fz_fn,junkT,fz_sl,fz_p0,Nat.reduceLeDiff,Nat.reduceMul,List.length_cons,List.length_nil,Nat.reduceAdd]<;>simp only [chunks,List.take,List.drop,List.map,cI,cB,cS,cL])) (Nat.le_of_ble_eq_true rfl) (law07_node_ok n 1 ([5,0]) r61 h62 _) rfl rfl ?_
 refine RD.act (u:=.sl 11 0 1 1) (σ':=⟨[(11,.row (cGNode r61) 43),(8,.row [.isl false (List.map cGNode r47.1.Nodes)] 25),(7,.row [.isl false (List.map cGNode r19.1.Nodes)] 25),(3,.row [.isl false (List.map cGNode r9.1.Nodes)] 25)],12⟩) (want1 rfl rfl rfl h60) (op_bsl und23 inf43 rfl rfl rfl rfl rfl rfl rfl) rfl rfl ?_
 refine RD.fcall (u:=.agg [.isl false (List.map cGNode r63.Nodes)]) (args:=[.sl 11 0 1 1]) (σ1:=⟨[(8,.row [.isl false (List.map cGNode r47.1.Nodes)] 25),(7,.row [.isl false (List.map cGNode r19.1.Nodes)] 25),(3,.row [.isl false (List.map cGNode r9.1.Nodes)] 25)],12⟩) (want1 rfl rfl rfl h60) (op_call rfl rfl fn32 hb32 rfl rfl) (Gh.fz (tm':=[.isl false (List.map cGNode ([r61]))]) (h':=[(8,.row [.isl false (List.map cGNode r47.1.Nodes)] 25),(7,.row [.isl false (List.map cGNode r19.1.Nodes)] 25),(3,.row [.isl false (List.map cGNode r9.1.Nodes)] 25)]) 11 (.row [.int .i64 r61.Typex,.isl false (List.map cGArc r61.Arcs)] 43) 2 rfl (by simp) (by simp only [oneU,fzL_nil,fzL_cons,fz_int,fz_bool,fz_str,fz_nils,fz_nilp,fz_nilm,fz_nilf,fz_junk,fz_isl,fz_map,fz_agg,fz_tup,fz_fn,junkT,fz_sl,fz_p0,fz_cGNode,Nat.reduceLeDiff,Nat.reduceMul,List.length_cons,List.length_nil,Nat.reduceAdd]<;>simp only [chunks,List.take,List.drop,List.map,cGNode]) (by simp only [fzH,fzB,ug,Nat.beq,cond_true,cond_false,oneU,fzL_nil,fzL_cons,fz_int,fz_bool,fz_str,fz_nils,fz_nilp,fz_nilm,fz_nilf,fz_junk,fz_isl,fz_map,fz_agg,fz_tup,fz_fn,junkT,fz_sl,fz_p0,fz_cGNode,Nat.reduceLeDiff,Nat.reduceMul,List.length_cons,List.length_nil,Nat.reduceAdd]<;>simp only [chunks,List.take,List.drop,List.map,cGNode])) (Nat.le_of_ble_eq_true rfl) (law07_of_ok n ([r61]) r63 h64 _) rfl rfl ?_
 refine RD.free (u:=.bool r65) (args:=[.agg [.isl false (List.map cGNode r63.Nodes)]]) (want1 rfl rfl rfl h60) (op_call rfl rfl fn22 hb22 rfl rfl) (fun s=>graph_Cyclic_ok n r63 r65 h66 s) rfl rfl (RD.q (u:=.bool r65) rfl (op_pick1 rfl h60 rfl) (RD.mv rfl rfl rfl rfl (RD.look (u:=.agg [.isl false (List.map cGNode r9.1.Nodes)]) (want1 rfl rfl rfl h67) (ld_agg und25 rfl (sz_of inf25) rfl rfl rfl) rfl rfl (RD.free (u:=.bool r68) (args:=[.agg [.isl false (List.map cGNode r9.1.Nodes)]]) (want1 rfl rfl rfl h67) (op_call rfl rfl fn22 hb22 rfl rfl) (fun s=>graph_Cyclic_ok n (GFS.mk r9.1.Nodes) r68 h69 s) rfl rfl (RD.look (u:=.bool (!r68)) (want1 rfl rfl rfl h67) (op_un rfl rfl rfl rfl) rfl rfl (RD.q (u:=.bool (!r68)) rfl (op_pick1 rfl h67 rfl) (RD.mv rfl rfl rfl rfl ?_)))))))
 repeat refine RD.no (want0 rfl rfl rfl h70) rfl rfl ?_
 refine RD.q (u:=.bool false) rfl (op_pick0 rfl h70 rfl) (RD.mv rfl rfl rfl rfl ?_)
 repeat refine RD.no (want0 rfl rfl rfl rfl) rfl rfl ?_
 refine RD.q (u:=.bool false) rfl (op_pick0 rfl rfl rfl) (RD.mv rfl rfl rfl rfl ?_)
 repeat refine RD.no (want0 rfl rfl rfl rfl) rfl rfl ?_
 refine RD.q (u:=.bool false) rfl (op_pick0 rfl rfl rfl) (RD.as rfl rfl rfl rfl ?_)
 refine RD.done ⟨by kernel_rfl,trivial,?_⟩
 refine st ?_
 exact ⟨_,_,⟨rfl,rfl⟩,(Nat.zero_le _),Gh.toC (n1:=9) ⟨rfl,trivial⟩ rfl (Nat.zero_le _) (by simp)⟩
 replace h88:=cond_f h67 h88
 replace h88:=Option.some.inj h88
 subst h88
 refine WPU.drawE Try.tb_ok [] (by kernel_rfl) ?_
 refine RD.mv rfl rfl rfl rfl (RD.q rfl (op_int rfl rfl (ix_eql _ _ _) rfl) (RD.mv rfl rfl rfl rfl (RD.look (u:=.agg [.isl false (List.map cGNode r9.1.Nodes)]) (want1 rfl rfl rfl h49) (ld_agg und25 rfl (sz_of inf25) rfl rfl rfl) rfl rfl (RD.free (u:=.agg [.isl false (List.map cGNode r50.Nodes)]) (args:=[.agg [.isl false (List.map cGNode r9.1.Nodes)],.int .i64 1]) (want1 rfl rfl rfl h49) (op_call rfl rfl fn20 hb20 rfl rfl) (fun s=>graph_Sub_ok n (GFS.mk r9.1.Nodes) 1 r50 h51 s) rfl rfl (RD.freeO (u:=.isl false (List.map (cI .i64) ([0,1]))) (want1 rfl rfl rfl h49) (FreeO.bs (cs:=[.int .i64 0,.int .i64 1]) und55 inf3 rfl rfl rfl rfl rfl rfl rfl rfl rfl) rfl rfl (RD.free (u:=.agg (cGNode r52)) (args:=[.int .i64 3,.isl false (List.map (cI .i64) ([0,1]))]) (want1 rfl rfl rfl h49) (op_call rfl rfl fn29 hb29 rfl rfl) (fun s=>law07_node_ok n 3 ([0,1]) r52 h53 s) rfl rfl (RD.free (u:=.agg (cGNode r54)) (args:=[.int .i64 2,.nils]) (want1 rfl rfl rfl h49) (op_call rfl rfl fn29 hb29 rfl rfl) (fun s=>EvU.wkA (args':=[.int .i64 2,.isl false []]) (.cons (.refl _) (.cons (.nil false) .nil)) (fun s=>law07_node_ok n 2 [] r54 h55 s) s) rfl rfl ?_)))))))
 refine RD.act (u:=.sl 9 0 2 2) (σ':=⟨[(9,.row [.int .i64 r52.Typex,.isl false (List.map cGArc r52.Arcs),.int .i64 r54.Typex,.isl false (List.map cGArc r54.Arcs)] 43),(8,.row [.isl false (List.map cGNode r47.1.Nodes)] 25),(7,.row [.isl false (List.map cGNode r19.1.Nodes)] 25),(3,.row [.isl false (List.map cGNode r9.1.Nodes)] 25)],10⟩) (want1 rfl rfl rfl h49) (op_bsl und23 inf43 rfl rfl rfl rfl rfl rfl rfl) rfl rfl ?_
 refine RD.fcall (u:=.agg [.isl false (List.map cGNode r56.Nodes)]) (args:=[.sl 9 0 2 2]) (σ1:=⟨[(8,.row [.isl false (List.map cGNode r47.1.Nodes)] 25),(7,.row [.isl false (List.map cGNode r19.1.Nodes)] 25),(3,.row [.isl false (List.map cGNode r9.1.Nodes)] 25)],10⟩) (want1 rfl rfl rfl h49) (op_call rfl rfl fn32 hb32 rfl rfl) (Gh.fz (tm':=[.isl false (List.map cGNode ([r52,r54]))]) (h':=[(8,.row [.isl false (List.map cGNode r47.1.Nodes)] 25),(7,.row [.isl false (List.map cGNode r19.1.Nodes)] 25),(3,.row [.isl false (List.map cGNode r9.1.Nodes)] 25)]) 9 (.row [.int .i64 r52.Typex,.isl false (List.map cGArc r52.Arcs),.int .i64 r54.Typex,.isl false (List.map cGArc r54.Arcs)] 43) 2 rfl (by simp) (by simp only [oneU,fzL_nil,fzL_cons,fz_int,fz_bool,fz_str,fz_nils,fz_nilp,fz_nilm,fz_nilf,fz_junk,fz_isl,fz_map,fz_agg,fz_tup,fz_fn,junkT,fz_sl,fz_p0,Nat.reduceLeDiff,Nat.reduceMul,List.length_cons,List.length_nil,Nat.reduceAdd]<;>simp only [chunks,List.take,List.drop,List.map,cGNode]) (by simp only [fzH,fzB,ug,Nat.beq,cond_true,cond_false,oneU,fzL_nil,fzL_cons,fz_int,fz_bool,fz_str,fz_nils,fz_nilp,fz_nilm,fz_nilf,fz_junk,fz_isl,fz_map,fz_agg,fz_tup,fz_fn,junkT,fz_sl,fz_p0,Nat.reduceLeDiff,Nat.reduceMul,List.length_cons,List.length_nil,Nat.reduceAdd]<;>simp only [chunks,List.take,List.drop,List.map,cGNode])) (Nat.le_of_ble_eq_true rfl) (law07_of_ok n ([r52,r54]) r56 h57 _) rfl rfl ?_
 refine RD.free (u:=.bool r58) (args:=[.agg [.isl false (List.map cGNode r50.Nodes)],.agg [.isl false (List.map cGNode r56.Nodes)]]) (want1 rfl rfl rfl h49) (op_call rfl rfl fn14 hb14 rfl rfl) (fun s=>ref07_Equal_ok n r50 r56 r58 h59 s) rfl rfl (RD.q (u:=.bool r58) rfl (op_pick1 rfl h49 rfl) (RD.mv rfl rfl rfl rfl (RD.act (u:=.sl 10 0 2 2) (σ':=⟨[(10,.row [.int .i64 5,.int .i64 0] 3),(8,.row [.isl false (List.map cGNode r47.1.Nodes)] 25),(7,.row [.isl false (List.map cGNode r19.1.Nodes)] 25),(3,.row [.isl false (List.map cGNode r9.1.Nodes)] 25)],11⟩) (want1 rfl rfl rfl h60) (op_bsl und55 inf3 rfl rfl rfl rfl rfl rfl rfl) rfl rfl ?_)))
 refine RD.fcall (u:=.agg (cGNode r61)) (args:=[.int .i64 1,.sl 10 0 2 2]) (σ1:=⟨[(8,.row [.isl false (List.map cGNode r47.1.Nodes)] 25),(7,.row [.isl false (List.map cGNode r19.1.Nodes)] 25),(3,.row [.isl false (List.map cGNode r9.1.Nodes)] 25)],11⟩) (want1 rfl rfl rfl h60) (op_call rfl rfl fn29 hb29 rfl rfl) (Gh.fz (tm':=[.int .i64 1,.isl false (List.map (cI .i64) ([5,0]))]) (h':=[(8,.row [.isl false (List.map cGNode r47.1.Nodes)] 25),(7,.row [.isl false (List.map cGNode r19.1.Nodes)] 25),(3,.row [.isl false (List.map cGNode r9.1.Nodes)] 25)]) 10 (.row [.int .i64 5,.int .i64 0] 3) 1 rfl (by simp) (by simp only [oneU,fzL_nil,fzL_cons,fz_int,fz_bool,fz_str,fz_nils,fz_nilp,fz_nilm,fz_nilf,fz_junk,fz_isl,fz_map,fz_agg,fz_tup,fz_fn,junkT,fz_sl,fz_p0,Nat.reduceLeDiff,Nat.reduceMul,List.length_cons,List.length_nil,Nat.reduceAdd]<;>simp only [chunks,List.take,List.drop,List.map,cI,cB,cS,cL]) (by simp only [fzH,fzB,ug,Nat.beq,cond_true,cond_false,oneU,fzL_nil,fzL_cons,fz_int,fz_bool,fz_str,fz_nils,fz_nilp,fz_nilm,fz_nilf,fz_junk,fz_isl,fz_map,fz_agg,fz_tup,fz_fn,junkT,fz_sl,fz_p0,Nat.reduceLeDiff,Nat.reduceMul,List.length_cons,List.length_nil,Nat.reduceAdd]<;>simp only [chunks,List.take,List.drop,List.map,cI,cB,cS,cL])) (Nat.le_of_ble_eq_true rfl) (law07_node_ok n 1 ([5,0]) r61 h62 _) rfl rfl ?_
 refine RD.act (u:=.sl 11 0 1 1) (σ':=⟨[(11,.row (cGNode r61) 43),(8,.row [.isl false (List.map cGNode r47.1.Nodes)] 25),(7,.row [.isl false (List.map cGNode r19.1.Nodes)] 25),(3,.row [.isl false (List.map cGNode r9.1.Nodes)] 25)],12⟩) (want1 rfl rfl rfl h60) (op_bsl und23 inf43 rfl rfl rfl rfl rfl rfl rfl) rfl rfl ?_
 refine RD.fcall (u:=.agg [.isl false (List.map cGNode r63.Nodes)]) (args:=[.sl 11 0 1 1]) (σ1:=⟨[(8,.row [.isl false (List.map cGNode r47.1.Nodes)] 25),(7,.row [.isl false (List.map cGNode r19.1.Nodes)] 25),(3,.row [.isl false (List.map cGNode r9.1.Nodes)] 25)],12⟩) (want1 rfl rfl rfl h60) (op_call rfl rfl fn32 hb32 rfl rfl) (Gh.fz (tm':=[.isl false (List.map cGNode ([r61]))]) (h':=[(8,.row [.isl false (List.map cGNode r47.1.Nodes)] 25),(7,.row [.isl false (List.map cGNode r19.1.Nodes)] 25),(3,.row [.isl false (List.map cGNode r9.1.Nodes)] 25)]) 11 (.row [.int .i64 r61.Typex,.isl false (List.map cGArc r61.Arcs)] 43) 2 rfl (by simp) (by simp only [oneU,fzL_nil,fzL_cons,fz_int,fz_bool,fz_str,fz_nils,fz_nilp,fz_nilm,fz_nilf,fz_junk,fz_isl,fz_map,fz_agg,fz_tup,fz_fn,junkT,fz_sl,fz_p0,fz_cGNode,Nat.reduceLeDiff,Nat.reduceMul,List.length_cons,List.length_nil,Nat.reduceAdd]<;>simp only [chunks,List.take,List.drop,List.map,cGNode]) (by simp only [fzH,fzB,ug,Nat.beq,cond_true,cond_false,oneU,fzL_nil,fzL_cons,fz_int,fz_bool,fz_str,fz_nils,fz_nilp,fz_nilm,fz_nilf,fz_junk,fz_isl,fz_map,fz_agg,fz_tup,fz_fn,junkT,fz_sl,fz_p0,fz_cGNode,Nat.reduceLeDiff,Nat.reduceMul,List.length_cons,List.length_nil,Nat.reduceAdd]<;>simp only [chunks,List.take,List.drop,List.map,cGNode])) (Nat.le_of_ble_eq_true rfl) (law07_of_ok n ([r61]) r63 h64 _) rfl rfl ?_
 refine RD.free (u:=.bool r65) (args:=[.agg [.isl false (List.map cGNode r63.Nodes)]]) (want1 rfl rfl rfl h60) (op_call rfl rfl fn22 hb22 rfl rfl) (fun s=>graph_Cyclic_ok n r63 r65 h66 s) rfl rfl (RD.q (u:=.bool r65) rfl (op_pick1 rfl h60 rfl) (RD.mv rfl rfl rfl rfl ?_))
 repeat refine RD.no (want0 rfl rfl rfl h67) rfl rfl ?_
 refine RD.q (u:=.bool false) rfl (op_pick0 rfl h67 rfl) (RD.mv rfl rfl rfl rfl ?_)
 repeat refine RD.no (want0 rfl rfl rfl rfl) rfl rfl ?_
 refine RD.q (u:=.bool false) rfl (op_pick0 rfl rfl rfl) (RD.mv rfl rfl rfl rfl ?_)
 repeat refine RD.no (want0 rfl rfl rfl rfl) rfl rfl ?_
 refine RD.q (u:=.bool false) rfl (op_pick0 rfl rfl rfl) (RD.mv rfl rfl rfl rfl ?_)
 repeat refine RD.no (want0 rfl rfl rfl rfl) rfl rfl ?_
 refine RD.q (u:=.bool false) rfl (op_pick0 rfl rfl rfl) (RD.as rfl rfl rfl rfl ?_)
 refine RD.done ⟨by kernel_rfl,trivial,?_⟩
 refine st ?_
 exact ⟨_,_,⟨rfl,rfl⟩,(Nat.zero_le _),Gh.toC (n1:=9) ⟨rfl,trivial⟩ rfl (Nat.zero_le _) (by simp)⟩
 replace h88:=cond_f h60 h88
 replace h88:=Option.some.inj h88
 subst h88
 refine WPU.drawE Try.tb_ok [] (by kernel_rfl) ?_
 refine RD.mv rfl rfl rfl rfl (RD.q rfl (op_int rfl rfl (ix_eql _ _ _) rfl) (RD.mv rfl rfl rfl rfl (RD.look (u:=.agg [.isl false (List.map cGNode r9.1.Nodes)]) (want1 rfl rfl rfl h49) (ld_agg und25 rfl (sz_of inf25) rfl rfl rfl) rfl rfl (RD.free (u:=.agg [.isl false (List.map cGNode r50.Nodes)]) (args:=[.agg [.isl false (List.map cGNode r9.1.Nodes)],.int .i64 1]) (want1 rfl rfl rfl h49) (op_call rfl rfl fn20 hb20 rfl rfl) (fun s=>graph_Sub_ok n (GFS.mk r9.1.Nodes) 1 r50 h51 s) rfl rfl (RD.freeO (u:=.isl false (List.map (cI .i64) ([0,1]))) (want1 rfl rfl rfl h49) (FreeO.bs (cs:=[.int .i64 0,.int .i64 1]) und55 inf3 rfl rfl rfl rfl rfl rfl rfl rfl rfl) rfl rfl (RD.free (u:=.agg (cGNode r52)) (args:=[.int .i64 3,.isl false (List.map (cI .i64) ([0,1]))]) (want1 rfl rfl rfl h49) (op_call rfl rfl fn29 hb29 rfl rfl) (fun s=>law07_node_ok n 3 ([0,1]) r52 h53 s) rfl rfl (RD.free (u:=.agg (cGNode r54)) (args:=[.int .i64 2,.nils]) (want1 rfl rfl rfl h49) (op_call rfl rfl fn29 hb29 rfl rfl) (fun s=>EvU.wkA (args':=[.int .i64 2,.isl false []]) (.cons (.refl _) (.cons (.nil false) .nil)) (fun s=>law07_node_ok n 2 [] r54 h55 s) s) rfl rfl ?_)))))))
 refine RD.act (u:=.sl 9 0 2 2) (σ':=⟨[(9,.row [.int .i64 r52.Typex,.isl false (List.map cGArc r52.Arcs),.int .i64 r54.Typex,.isl false (List.map cGArc r54.Arcs)] 43),(8,.row [.isl false (List.map cGNode r47.1.Nodes)] 25),(7,.row [.isl false (List.map cGNode r19.1.Nodes)] 25),(3,.row [.isl false (List.map cGNode r9.1.Nodes)] 25)],10⟩) (want1 rfl rfl rfl h49) (op_bsl und23 inf43 rfl rfl rfl rfl rfl rfl rfl) rfl rfl ?_
 refine RD.fcall (u:=.agg [.isl false (List.map cGNode r56.Nodes)]) (args:=[.sl 9 0 2 2]) (σ1:=⟨[(8,.row [.isl false (List.map cGNode r47.1.Nodes)] 25),(7,.row [.isl false (List.map cGNode r19.1.Nodes)] 25),(3,.row [.isl false (List.map cGNode r9.1.Nodes)] 25)],10⟩) (want1 rfl rfl rfl h49) (op_call rfl rfl fn32 hb32 rfl rfl) (Gh.fz (tm':=[.isl false (List.map cGNode ([r52,r54]))]) (h':=[(8,.row [.isl false (List.map cGNode r47.1.Nodes)] 25),(7,.row [.isl false (List.map cGNode r19.1.Nodes)] 25),(3,.row [.isl false (List.map cGNode r9.1.Nodes)] 25)]) 9 (.row [.int .i64 r52.Typex,.isl false (List.map cGArc r52.Arcs),.int .i64 r54.Typex,.isl false (List.map cGArc r54.Arcs)] 43) 2 rfl (by simp) (by simp only [oneU,fzL_nil,fzL_cons,fz_int,fz_bool,fz_str,fz_nils,fz_nilp,fz_nilm,fz_nilf,fz_junk,fz_isl,fz_map,fz_agg,fz_tup,fz_fn,junkT,fz_sl,fz_p0,Nat.reduceLeDiff,Nat.reduceMul,List.length_cons,List.length_nil,Nat.reduceAdd]<;>simp only [chunks,List.take,List.drop,List.map,cGNode]) (by simp only [fzH,fzB,ug,Nat.beq,cond_true,cond_false,oneU,fzL_nil,fzL_cons,fz_int,fz_bool,fz_str,fz_nils,fz_nilp,fz_nilm,fz_nilf,fz_junk,fz_isl,fz_map,fz_agg,fz_tup,fz_fn,junkT,fz_sl,fz_p0,Nat.reduceLeDiff,Nat.reduceMul,List.length_cons,List.length_nil,Nat.reduceAdd]<;>simp only [chunks,List.take,List.drop,List.map,cGNode])) (Nat.le_of_ble_eq_true rfl) (law07_of_ok n ([r52,r54]) r56 h57 _) rfl rfl ?_
 refine RD.free (u:=.bool r58) (args:=[.agg [.isl false (List.map cGNode r50.Nodes)],.agg [.isl false (List.map cGNode r56.Nodes)]]) (want1 rfl rfl rfl h49) (op_call rfl rfl fn14 hb14 rfl rfl) (fun s=>ref07_Equal_ok n r50 r56 r58 h59 s) rfl rfl (RD.q (u:=.bool r58) rfl (op_pick1 rfl h49 rfl) (RD.mv rfl rfl rfl rfl ?_))
 repeat refine RD.no (want0 rfl rfl rfl h60) rfl rfl ?_
 refine RD.q (u:=.bool false) rfl (op_pick0 rfl h60 rfl) (RD.mv rfl rfl rfl rfl ?_)
 repeat refine RD.no (want0 rfl rfl rfl rfl) rfl rfl ?_
 refine RD.q (u:=.bool false) rfl (op_pick0 rfl rfl rfl) (RD.mv rfl rfl rfl rfl ?_)
 repeat refine RD.no (want0 rfl rfl rfl rfl) rfl rfl ?_
 refine RD.q (u:=.bool false) rfl (op_pick0 rfl rfl rfl) (RD.mv rfl rfl rfl rfl ?_)
 repeat refine RD.no (want0 rfl rfl rfl rfl) rfl rfl ?_
 refine RD.q (u:=.bool false) rfl (op_pick0 rfl rfl rfl) (RD.mv rfl rfl rfl rfl ?_)
 repeat refine RD.no (want0 rfl rfl rfl rfl) rfl rfl ?_
 refine RD.q (u:=.bool false) rfl (op_pick0 rfl rfl rfl) (RD.as rfl rfl rfl rfl ?_)
 refine RD.done ⟨by kernel_rfl,trivial,?_⟩
 refine st ?_
 exact ⟨_,_,⟨rfl,rfl⟩,(Nat.zero_le _),Gh.toC (n1:=9) ⟨rfl,trivial⟩ rfl (Nat.zero_le _) (by simp)⟩
 replace h88:=cond_f h49 h88
 replace h88:=Option.some.inj h88
 subst h88
 refine WPU.drawE Try.tb_ok [] (by kernel_rfl) ?_
 refine RD.mv rfl rfl rfl rfl (RD.q rfl (op_int rfl rfl (ix_eql _ _ _) rfl) (RD.mv rfl rfl rfl rfl ?_))
 repeat refine RD.no (want0 rfl rfl rfl h49) rfl rfl ?_
 refine RD.q (u:=.bool false) rfl (op_pick0 rfl h49 rfl) (RD.mv rfl rfl rfl rfl ?_)
 repeat refine RD.no (want0 rfl rfl rfl rfl) rfl rfl ?_
 refine RD.q (u:=.bool false) rfl (op_pick0 rfl rfl rfl) (RD.mv rfl rfl rfl rfl ?_)
 repeat refine RD.no (want0 rfl rfl rfl rfl) rfl rfl ?_
 refine RD.q (u:=.bool false) rfl (op_pick0 rfl rfl rfl) (RD.mv rfl rfl rfl rfl ?_)
 repeat refine RD.no (want0 rfl rfl rfl rfl) rfl rfl ?_
 refine RD.q (u:=.bool false) rfl (op_pick0 rfl rfl rfl) (RD.mv rfl rfl rfl rfl ?_)
 repeat refine RD.no (want0 rfl rfl rfl rfl) rfl rfl ?_
 refine RD.q (u:=.bool false) rfl (op_pick0 rfl rfl rfl) (RD.mv rfl rfl rfl rfl ?_)
 repeat refine RD.no (want0 rfl rfl rfl rfl) rfl rfl ?_
 refine RD.q (u:=.bool false) rfl (op_pick0 rfl rfl rfl) (RD.as rfl rfl rfl rfl ?_)
 refine RD.done ⟨by kernel_rfl,trivial,?_⟩
 refine st ?_
 exact ⟨_,_,⟨rfl,rfl⟩,(Nat.zero_le _),Gh.toC (n1:=9) ⟨rfl,trivial⟩ rfl (Nat.zero_le _) (by simp)⟩
 rcases bool_tf (r9.2 != 0) with h21 | h21
 replace h45:=cond_t h21 h45
 replace h45:=Option.some.inj h45
 subst h45
 refine WPU.drawE Try.tb_ok [] (by kernel_rfl) ?_
 refine RD.mv rfl rfl rfl rfl (RD.q rfl (op_int rfl rfl (ix_neq _ _ _) rfl) (RD.mv rfl rfl rfl rfl ?_))
 repeat refine RD.no (want0 rfl rfl rfl h21) rfl rfl ?_
 refine RD.q (u:=.bool true) rfl (op_pick1 rfl h21 rfl) (RD.mv rfl rfl rfl rfl ?_)
 repeat refine RD.no (want0 rfl rfl rfl rfl) rfl rfl ?_
 refine RD.q (u:=.bool true) rfl (op_pick1 rfl rfl rfl) (RD.mv rfl rfl rfl rfl ?_)
 repeat refine RD.no (want0 rfl rfl rfl rfl) rfl rfl ?_
 refine RD.q (u:=.bool true) rfl (op_pick1 rfl rfl rfl) ?_
 refine RD.done ⟨by kernel_rfl,trivial,?_⟩
 refine st ?_
 exact ⟨_,_,⟨rfl,rfl⟩,(Nat.zero_le _),Gh.toC (n1:=8) ⟨rfl,rfl,trivial⟩ rfl (Nat.zero_le _) (by simp)⟩
 replace h45:=cond_f h21 h45
 rcases bool_tf (r19.2 != 0) with h22 | h22
 replace h45:=cond_t h22 h45
 replace h45:=Option.some.inj h45
 subst h45
 refine WPU.drawE Try.tb_ok [] (by kernel_rfl) ?_
 refine RD.mv rfl rfl rfl rfl (RD.q rfl (op_int rfl rfl (ix_neq _ _ _) rfl) (RD.mv rfl rfl rfl rfl (RD.look (want1 rfl rfl rfl h21) (op_move rfl) rfl rfl (RD.look (want1 rfl rfl rfl h21) (op_int rfl rfl (ix_neq _ _ _) rfl) rfl rfl (RD.q (u:=.bool (r19.2 != 0)) rfl (op_pick0 rfl h21 rfl) (RD.mv rfl rfl rfl rfl ?_))))))
 repeat refine RD.no (want0 rfl rfl rfl h22) rfl rfl ?_
 refine RD.q (u:=.bool true) rfl (op_pick1 rfl h22 rfl) (RD.mv rfl rfl rfl rfl ?_)
 repeat refine RD.no (want0 rfl rfl rfl rfl) rfl rfl ?_
 refine RD.q (u:=.bool true) rfl (op_pick1 rfl rfl rfl) ?_
 refine RD.done ⟨by kernel_rfl,trivial,?_⟩
 refine st ?_
 exact ⟨_,_,⟨rfl,rfl⟩,(Nat.zero_le _),Gh.toC (n1:=8) ⟨rfl,rfl,trivial⟩ rfl (Nat.zero_le _) (by simp)⟩
 replace h45:=cond_f h22 h45
 obtain ⟨r23,h24,h45⟩:=bindO_some h45
 obtain ⟨r25,h26,h45⟩:=bindO_some h45
 obtain ⟨r27,h28,h45⟩:=bindO_some h45
 obtain ⟨r29,h30,h45⟩:=bindO_some h45
 obtain ⟨r31,h32,h45⟩:=bindO_some h45
 rcases bool_tf (!r31) with h33 | h33
 replace h45:=cond_t h33 h45
 replace h45:=Option.some.inj h45
 subst h45
 refine WPU.drawE Try.tb_ok [(7,13),(7,14)] (by kernel_rfl) ?_
 refine RD.mv rfl rfl rfl rfl (RD.q rfl (op_int rfl rfl (ix_neq _ _ _) rfl) (RD.mv rfl rfl rfl rfl (RD.look (want1 rfl rfl rfl h21) (op_move rfl) rfl rfl (RD.look (want1 rfl rfl rfl h21) (op_int rfl rfl (ix_neq _ _ _) rfl) rfl rfl (RD.q (u:=.bool (r19.2 != 0)) rfl (op_pick0 rfl h21 rfl) (RD.mv rfl rfl rfl rfl (RD.look (u:=.agg [.isl false (List.map cGNode r9.1.Nodes)]) (want1 rfl rfl rfl h22) (ld_agg und25 rfl (sz_of inf25) rfl rfl rfl) rfl rfl ?_)))))))
 refine RD.freeO (u:=.isl false (List.map (cI .i64) ([0,1,1,2]))) (want1 rfl rfl rfl h22) (FreeO.bs (cs:=[.int .i64 0,.int .i64 1,.int .i64 1,.int .i64 2]) und55 inf3 rfl rfl rfl rfl rfl rfl rfl rfl rfl) rfl rfl (RD.free (u:=.agg (cGNode r23)) (args:=[.int .i64 1,.isl false (List.map (cI .i64) ([0,1,1,2]))]) (want1 rfl rfl rfl h22) (op_call rfl rfl fn29 hb29 rfl rfl) (fun s=>law07_node_ok n 1 ([0,1,1,2]) r23 h24 s) rfl rfl (RD.freeO (u:=.isl false (List.map (cI .i64) ([0,2]))) (want1 rfl rfl rfl h22) (FreeO.bs (cs:=[.int .i64 0,.int .i64 2]) und55 inf3 rfl rfl rfl rfl rfl rfl rfl rfl rfl) rfl rfl (RD.free (u:=.agg (cGNode r25)) (args:=[.int .i64 3,.isl false (List.map (cI .i64) ([0,2]))]) (want1 rfl rfl rfl h22) (op_call rfl rfl fn29 hb29 rfl rfl) (fun s=>law07_node_ok n 3 ([0,2]) r25 h26 s) rfl rfl (RD.free (u:=.agg (cGNode r27)) (args:=[.int .i64 2,.nils]) (want1 rfl rfl rfl h22) (op_call rfl rfl fn29 hb29 rfl rfl) (fun s=>EvU.wkA (args':=[.int .i64 2,.isl false []]) (.cons (.refl _) (.cons (.nil false) .nil)) (fun s=>law07_node_ok n 2 [] r27 h28 s) s) rfl rfl (RD.act (u:=.sl 8 0 3 3) (σ':=⟨[(8,.row [.int .i64 r23.Typex,.isl false (List.map cGArc r23.Arcs),.int .i64 r25.Typex,.isl false (List.map cGArc r25.Arcs),.int .i64 r27.Typex,.isl false (List.map cGArc r27.Arcs)] 43),(7,.row [.isl false (List.map cGNode r19.1.Nodes)] 25),(3,.row [.isl false (List.map cGNode r9.1.Nodes)] 25)],9⟩) (want1 rfl rfl rfl h22) (op_bsl und23 inf43 rfl rfl rfl rfl rfl rfl rfl) rfl rfl ?_)))))
 refine RD.fcall (u:=.agg [.isl false (List.map cGNode r29.Nodes)]) (args:=[.sl 8 0 3 3]) (σ1:=⟨[(7,.row [.isl false (List.map cGNode r19.1.Nodes)] 25),(3,.row [.isl false (List.map cGNode r9.1.Nodes)] 25)],9⟩) (want1 rfl rfl rfl h22) (op_call rfl rfl fn32 hb32 rfl rfl) (Gh.fz (tm':=[.isl false (List.map cGNode ([r23,r25,r27]))]) (h':=[(7,.row [.isl false (List.map cGNode r19.1.Nodes)] 25),(3,.row [.isl false (List.map cGNode r9.1.Nodes)] 25)]) 8 (.row [.int .i64 r23.Typex,.isl false (List.map cGArc r23.Arcs),.int .i64 r25.Typex,.isl false (List.map cGArc r25.Arcs),.int .i64 r27.Typex,.isl false (List.map cGArc r27.Arcs)] 43) 2 rfl (by simp) (by simp only [oneU,fzL_nil,fzL_cons,fz_int,fz_bool,fz_str,fz_nils,fz_nilp,fz_nilm,fz_nilf,fz_junk,fz_isl,fz_map,fz_agg,fz_tup,fz_fn,junkT,fz_sl,fz_p0,Nat.reduceLeDiff,Nat.reduceMul,List.length_cons,List.length_nil,Nat.reduceAdd]<;>simp only [chunks,List.take,List.drop,List.map,cGNode]) (by simp only [fzH,fzB,ug,Nat.beq,cond_true,cond_false,oneU,fzL_nil,fzL_cons,fz_int,fz_bool,fz_str,fz_nils,fz_nilp,fz_nilm,fz_nilf,fz_junk,fz_isl,fz_map,fz_agg,fz_tup,fz_fn,junkT,fz_sl,fz_p0,Nat.reduceLeDiff,Nat.reduceMul,List.length_cons,List.length_nil,Nat.reduceAdd]<;>simp only [chunks,List.take,List.drop,List.map,cGNode])) (Nat.le_of_ble_eq_true rfl) (law07_of_ok n ([r23,r25,r27]) r29 h30 _) rfl rfl ?_
 refine RD.free (u:=.bool r31) (args:=[.agg [.isl false (List.map cGNode r9.1.Nodes)],.agg [.isl false (List.map cGNode r29.Nodes)]]) (want1 rfl rfl rfl h22) (op_call rfl rfl fn14 hb14 rfl rfl) (fun s=>ref07_Equal_ok n (GFS.mk r9.1.Nodes) r29 r31 h32 s) rfl rfl (RD.look (u:=.bool (!r31)) (want1 rfl rfl rfl h22) (op_un rfl rfl rfl rfl) rfl rfl (RD.q (u:=.bool (!r31)) rfl (op_pick0 rfl h22 rfl) (RD.mv rfl rfl rfl rfl ?_)))
 repeat refine RD.no (want0 rfl rfl rfl h33) rfl rfl ?_
 refine RD.q (u:=.bool true) rfl (op_pick1 rfl h33 rfl) ?_
 refine RD.done ⟨by kernel_rfl,⟨ld_agg und25 rfl (sz_of inf25) rfl rfl rfl,⟨ld_agg und25 rfl (sz_of inf25) rfl rfl rfl,trivial⟩⟩,?_⟩
 refine st ?_
 exact ⟨_,_,⟨rfl,rfl⟩,(Nat.zero_le _),Gh.toC (n1:=8) ⟨rfl,rfl,trivial⟩ rfl (Nat.zero_le _) (by simp)⟩
 replace h45:=cond_f h33 h45
 obtain ⟨r34,h35,h45⟩:=bindO_some h45
 obtain ⟨r36,h37,h45⟩:=bindO_some h45
 obtain ⟨r38,h39,h45⟩:=bindO_some h45
 obtain ⟨r40,h41,h45⟩:=bindO_some h45
 obtain ⟨r42,h43,h45⟩:=bindO_some h45
 replace h45:=Option.some.inj h45
 subst h45
 refine WPU.drawE Try.tb_ok [(7,13),(7,14),(19,25),(19,26)] (by kernel_rfl) ?_
 refine RD.mv rfl rfl rfl rfl (RD.q rfl (op_int rfl rfl (ix_neq _ _ _) rfl) (RD.mv rfl rfl rfl rfl (RD.look (want1 rfl rfl rfl h21) (op_move rfl) rfl rfl (RD.look (want1 rfl rfl rfl h21) (op_int rfl rfl (ix_neq _ _ _) rfl) rfl rfl (RD.q (u:=.bool (r19.2 != 0)) rfl (op_pick0 rfl h21 rfl) (RD.mv rfl rfl rfl rfl (RD.look (u:=.agg [.isl false (List.map cGNode r9.1.Nodes)]) (want1 rfl rfl rfl h22) (ld_agg und25 rfl (sz_of inf25) rfl rfl rfl) rfl rfl ?_)))))))
 refine RD.freeO (u:=.isl false (List.map (cI .i64) ([0,1,1,2]))) (want1 rfl rfl rfl h22) (FreeO.bs (cs:=[.int .i64 0,.int .i64 1,.int .i64 1,.int .i64 2]) und55 inf3 rfl rfl rfl rfl rfl rfl rfl rfl rfl) rfl rfl (RD.free (u:=.agg (cGNode r23)) (args:=[.int .i64 1,.isl false (List.map (cI .i64) ([0,1,1,2]))]) (want1 rfl rfl rfl h22) (op_call rfl rfl fn29 hb29 rfl rfl) (fun s=>law07_node_ok n 1 ([0,1,1,2]) r23 h24 s) rfl rfl (RD.freeO (u:=.isl false (List.map (cI .i64) ([0,2]))) (want1 rfl rfl rfl h22) (FreeO.bs (cs:=[.int .i64 0,.int .i64 2]) und55 inf3 rfl rfl rfl rfl rfl rfl rfl rfl rfl) rfl rfl (RD.free (u:=.agg (cGNode r25)) (args:=[.int .i64 3,.isl false (List.map (cI .i64) ([0,2]))]) (want1 rfl rfl rfl h22) (op_call rfl rfl fn29 hb29 rfl rfl) (fun s=>law07_node_ok n 3 ([0,2]) r25 h26 s) rfl rfl (RD.free (u:=.agg (cGNode r27)) (args:=[.int .i64 2,.nils]) (want1 rfl rfl rfl h22) (op_call rfl rfl fn29 hb29 rfl rfl) (fun s=>EvU.wkA (args':=[.int .i64 2,.isl false []]) (.cons (.refl _) (.cons (.nil false) .nil)) (fun s=>law07_node_ok n 2 [] r27 h28 s) s) rfl rfl (RD.act (u:=.sl 8 0 3 3) (σ':=⟨[(8,.row [.int .i64 r23.Typex,.isl false (List.map cGArc r23.Arcs),.int .i64 r25.Typex,.isl false (List.map cGArc r25.Arcs),.int .i64 r27.Typex,.isl false (List.map cGArc r27.Arcs)] 43),(7,.row [.isl false (List.map cGNode r19.1.Nodes)] 25),(3,.row [.isl false (List.map cGNode r9.1.Nodes)] 25)],9⟩) (want1 rfl rfl rfl h22) (op_bsl und23 inf43 rfl rfl rfl rfl rfl rfl rfl) rfl rfl ?_)))))
 refine RD.fcall (u:=.agg [.isl false (List.map cGNode r29.Nodes)]) (args:=[.sl 8 0 3 3]) (σ1:=⟨[(7,.row [.isl false (List.map cGNode r19.1.Nodes)] 25),(3,.row [.isl false (List.map cGNode r9.1.Nodes)] 25)],9⟩) (want1 rfl rfl rfl h22) (op_call rfl rfl fn32 hb32 rfl rfl) (Gh.fz (tm':=[.isl false (List.map cGNode ([r23,r25,r27]))]) (h':=[(7,.row [.isl false (List.map cGNode r19.1.Nodes)] 25),(3,.row [.isl false (List.map cGNode r9.1.Nodes)] 25)]) 8 (.row [.int .i64 r23.Typex,.isl false (List.map cGArc r23.Arcs),.int .i64 r25.Typex,.isl false (List.map cGArc r25.Arcs),.int .i64 r27.Typex,.isl false (List.map cGArc r27.Arcs)] 43) 2 rfl (by simp) (by simp only [oneU,fzL_nil,fzL_cons,fz_int,fz_bool,fz_str,fz_nils,fz_nilp,fz_nilm,fz_nilf,fz_junk,fz_isl,fz_map,fz_agg,fz_tup,fz_fn,junkT,fz_sl,fz_p0,Nat.reduceLeDiff,Nat.reduceMul,List.length_cons,List.length_nil,Nat.reduceAdd]<;>simp only [chunks,List.take,List.drop,List.map,cGNode]) (by simp only [fzH,fzB,ug,Nat.beq,cond_true,cond_false,oneU,fzL_nil,fzL_cons,fz_int,fz_bool,fz_str,fz_nils,fz_nilp,fz_nilm,fz_nilf,fz_junk,fz_isl,fz_map,fz_agg,fz_tup,fz_fn,junkT,fz_sl,fz_p0,Nat.reduceLeDiff,Nat.reduceMul,List.length_cons,List.length_nil,Nat.reduceAdd]<;>simp only [chunks,List.take,List.drop,List.map,cGNode])) (Nat.le_of_ble_eq_true rfl) (law07_of_ok n ([r23,r25,r27]) r29 h30 _) rfl rfl ?_
 refine RD.free (u:=.bool r31) (args:=[.agg [.isl false (List.map cGNode r9.1.Nodes)],.agg [.isl false (List.map cGNode r29.Nodes)]]) (want1 rfl rfl rfl h22) (op_call rfl rfl fn14 hb14 rfl rfl) (fun s=>ref07_Equal_ok n (GFS.mk r9.1.Nodes) r29 r31 h32 s) rfl rfl (RD.look (u:=.bool (!r31)) (want1 rfl rfl rfl h22) (op_un rfl rfl rfl rfl) rfl rfl (RD.q (u:=.bool (!r31)) rfl (op_pick0 rfl h22 rfl) (RD.mv rfl rfl rfl rfl (RD.look (u:=.agg [.isl false (List.map cGNode r19.1.Nodes)]) (want1 rfl rfl rfl h33) (ld_agg und25 rfl (sz_of inf25) rfl rfl rfl) rfl rfl (RD.freeO (u:=.isl false (List.map (cI .i64) ([3,1,7,2]))) (want1 rfl rfl rfl h33) (FreeO.bs (cs:=[.int .i64 3,.int .i64 1,.int .i64 7,.int .i64 2]) und55 inf3 rfl rfl rfl rfl rfl rfl rfl rfl rfl) rfl rfl (RD.free (u:=.agg (cGNode r34)) (args:=[.int .i64 4,.isl false (List.map (cI .i64) ([3,1,7,2]))]) (want1 rfl rfl rfl h33) (op_call rfl rfl fn29 hb29 rfl rfl) (fun s=>law07_node_ok n 4 ([3,1,7,2]) r34 h35 s) rfl rfl (RD.free (u:=.agg (cGNode r36)) (args:=[.int .i64 5,.nils]) (want1 rfl rfl rfl h33) (op_call rfl rfl fn29 hb29 rfl rfl) (fun s=>EvU.wkA (args':=[.int .i64 5,.isl false []]) (.cons (.refl _) (.cons (.nil false) .nil)) (fun s=>law07_node_ok n 5 [] r36 h37 s) s) rfl rfl ?_)))))))
 refine RD.freeO (u:=.isl false (List.map (cI .i64) ([2,0]))) (want1 rfl rfl rfl h33) (FreeO.bs (cs:=[.int .i64 2,.int .i64 0]) und55 inf3 rfl rfl rfl rfl rfl rfl rfl rfl rfl) rfl rfl (RD.free (u:=.agg (cGNode r38)) (args:=[.int .i64 6,.isl false (List.map (cI .i64) ([2,0]))]) (want1 rfl rfl rfl h33) (op_call rfl rfl fn29 hb29 rfl rfl) (fun s=>law07_node_ok n 6 ([2,0]) r38 h39 s) rfl rfl (RD.act (u:=.sl 9 0 3 3) (σ':=⟨[(9,.row [.int .i64 r34.Typex,.isl false (List.map cGArc r34.Arcs),.int .i64 r36.Typex,.isl false (List.map cGArc r36.Arcs),.int .i64 r38.Typex,.isl false (List.map cGArc r38.Arcs)] 43),(7,.row [.isl false (List.map cGNode r19.1.Nodes)] 25),(3,.row [.isl false (List.map cGNode r9.1.Nodes)] 25)],10⟩) (want1 rfl rfl rfl h33) (op_bsl und23 inf43 rfl rfl rfl rfl rfl rfl rfl) rfl rfl ?_))
 refine RD.fcall (u:=.agg [.isl false (List.map cGNode r40.Nodes)]) (args:=[.sl 9 0 3 3]) (σ1:=⟨[(7,.row [.isl false (List.map cGNode r19.1.Nodes)] 25),(3,.row [.isl false (List.map cGNode r9.1.Nodes)] 25)],10⟩) (want1 rfl rfl rfl h33) (op_call rfl rfl fn32 hb32 rfl rfl) (Gh.fz (tm':=[.isl false (List.map cGNode ([r34,r36,r38]))]) (h':=[(7,.row [.isl false (List.map cGNode r19.1.Nodes)] 25),(3,.row [.isl false (List.map cGNode r9.1.Nodes)] 25)]) 9 (.row [.int .i64 r34.Typex,.isl false (List.map cGArc r34.Arcs),.int .i64 r36.Typex,.isl false (List.map cGArc r36.Arcs),.int .i64 r38.Typex,.isl false (List.map cGArc r38.Arcs)] 43) 2 rfl (by simp) (by simp only [oneU,fzL_nil,fzL_cons,fz_int,fz_bool,fz_str,fz_nils,fz_nilp,fz_nilm,fz_nilf,fz_junk,fz_isl,fz_map,fz_agg,fz_tup,fz_fn,junkT,fz_sl,fz_p0,Nat.reduceLeDiff,Nat.reduceMul,List.length_cons,List.length_nil,Nat.reduceAdd]<;>simp only [chunks,List.take,List.drop,List.map,cGNode]) (by simp only [fzH,fzB,ug,Nat.beq,cond_true,cond_false,oneU,fzL_nil,fzL_cons,fz_int,fz_bool,fz_str,fz_nils,fz_nilp,fz_nilm,fz_nilf,fz_junk,fz_isl,fz_map,fz_agg,fz_tup,fz_fn,junkT,fz_sl,fz_p0,Nat.reduceLeDiff,Nat.reduceMul,List.length_cons,List.length_nil,Nat.reduceAdd]<;>simp only [chunks,List.take,List.drop,List.map,cGNode])) (Nat.le_of_ble_eq_true rfl) (law07_of_ok n ([r34,r36,r38]) r40 h41 _) rfl rfl ?_
 refine RD.free (u:=.bool r42) (args:=[.agg [.isl false (List.map cGNode r19.1.Nodes)],.agg [.isl false (List.map cGNode r40.Nodes)]]) (want1 rfl rfl rfl h33) (op_call rfl rfl fn14 hb14 rfl rfl) (fun s=>ref07_Equal_ok n (GFS.mk r19.1.Nodes) r40 r42 h43 s) rfl rfl (RD.look (u:=.bool (!r42)) (want1 rfl rfl rfl h33) (op_un rfl rfl rfl rfl) rfl rfl (RD.q (u:=.bool (!r42)) rfl (op_pick0 rfl h33 rfl) ?_))
 refine RD.done ⟨by kernel_rfl,⟨ld_agg und25 rfl (sz_of inf25) rfl rfl rfl,⟨ld_agg und25 rfl (sz_of inf25) rfl rfl rfl,⟨ld_agg und25 rfl (sz_of inf25) rfl rfl rfl,⟨ld_agg und25 rfl (sz_of inf25) rfl rfl rfl,trivial⟩⟩⟩⟩,?_⟩
 refine st ?_
 exact ⟨_,_,⟨rfl,rfl⟩,(Nat.zero_le _),Gh.toC (n1:=8) ⟨rfl,rfl,trivial⟩ rfl (Nat.zero_le _) (by simp)⟩
theorem law07_exampleHolds_ok (n:Nat)  (r:Bool) (hF:law07_exampleHolds n  = some r) (σ:Sg):EvU Try.prog 16 [] σ (fun u σ'=>u = .bool r∧σ'=σ) :=
 EvU.pure1C (law07_exampleHolds_0 n  r hF) σ
def law07_GraphOrders (n:Nat) (p1:GFS) (p2:GFS) (p3:GFS):Option (Bool) :=
 bindO (bindO (ref07_Light n p1) fun r4 =>
 cond (!r4)
  (some true)
  (bindO (ref07_Light n p2) fun r7 =>
  cond (!r7)
   (some true)
   (bindO (ref07_Light n p3) fun r10 =>
   some (!r10)))) fun b12 =>
 cond b12
  (bindO (law07_exampleHolds n) fun r15 =>
  some r15)
  (bindO (graph_Compare n p1 p2) fun r17 =>
  bindO (graph_Compare n p2 p3) fun r19 =>
  bindO (graph_Compare n p1 p3) fun r21 =>
  bindO (cond (decide (r17<(-1)))
   (some true)
   (cond (decide (r17 > 1))
    (some true)
    (bindO (graph_Compare n p2 p1) fun r25 =>
    cond (r25 != (IntKind.i64.wrap (0 - r17)))
     (some true)
     (bindO (graph_Equal n p1 p2) fun r28 =>
     cond (!(r28 == (r17 == 0)))
      (some true)
      (cond (decide (r17<0))
       (cond (decide (r19<0))
        (cond (decide (r21 ≥ 0))
         (some true)
         (cond (r17 == 0)
          (some (r19 != r21))
          (some false)))
        (cond (r17 == 0)
         (some (r19 != r21))
         (some false)))
       (cond (r17 == 0)
        (some (r19 != r21))
        (some false))))))) fun b37 =>
  cond b37
   (some false)
   (bindO (law07_exampleHolds n) fun r40 =>
   some r40))
theorem law07_GraphOrders_0 (n:Nat) (p1:GFS) (p2:GFS) (p3:GFS) (r:Bool) (hF:law07_GraphOrders n p1 p2 p3=some r):EvU Try.prog 7 [.agg [.isl false (List.map cGNode p1.Nodes)],.agg [.isl false (List.map cGNode p2.Nodes)],.agg [.isl false (List.map cGNode p3.Nodes)]] ⟨[],0⟩ (fun u _=>u = .bool r∧Bel 0 u):=by
 unfold law07_GraphOrders at hF
 refine EvU.of_body Try.tb_ok fn7 rfl ?_
 refine WPU.ghost (tm':=fr 77 [(0,.agg [.isl false (List.map cGNode p1.Nodes)]),(1,.agg [.isl false (List.map cGNode p2.Nodes)]),(2,.agg [.isl false (List.map cGNode p3.Nodes)])]) (Gh.start (Nat.le_of_ble_eq_true rfl)) (Nat.zero_le _) ?_
 refine sr ?_
 refine RS.q (u:=.ptr 0 0 0) (σ':=⟨[(0,.row [.isl false (List.map cGNode p1.Nodes)] 25)],1⟩) rfl (op_box rfl rfl rfl) (RS.q (u:=.ptr 1 0 0) (σ':=⟨[(1,.row [.isl false (List.map cGNode p2.Nodes)] 25),(0,.row [.isl false (List.map cGNode p1.Nodes)] 25)],2⟩) rfl (op_box rfl rfl rfl) (RS.q (u:=.ptr 2 0 0) (σ':=⟨[(2,.row [.isl false (List.map cGNode p3.Nodes)] 25),(1,.row [.isl false (List.map cGNode p2.Nodes)] 25),(0,.row [.isl false (List.map cGNode p1.Nodes)] 25)],3⟩) rfl (op_box rfl rfl rfl) ?_))
 refine sd ?_
 obtain ⟨b12,h13,hF⟩:=bindO_some hF
 refine WPU.joinK (fun tm σ=>tm=fr 77 [(3,.ptr 0 0 0),(4,.ptr 1 0 0),(5,.ptr 2 0 0),(22,.bool b12)]∧σ=⟨[(2,.row [.isl false (List.map cGNode p3.Nodes)] 25),(1,.row [.isl false (List.map cGNode p2.Nodes)] 25),(0,.row [.isl false (List.map cGNode p1.Nodes)] 25)],3⟩) ?_ ?_
 rintro _ _ ⟨rfl,rfl⟩
 refine st ?_
 refine WPU.condS (t:=b12) rfl (fun h14=>?_) (fun h14=>?_)
 replace hF:=cond_t h14 hF
 refine st ?_
 obtain ⟨r15,h16,hF⟩:=bindO_some hF
 refine sr ?_
 refine RS.call (u:=.bool r15) (args:=[]) rfl (op_call rfl rfl fn16 hb16 rfl rfl) (law07_exampleHolds_ok n  r15 h16 _) rfl rfl ?_
 refine sd ?_
 refine WPU.ret ?_
 refine st ?_
 have hr:=Option.some.inj hF
 subst hr
 exact ⟨.inr rfl,[.bool r15],res_t rfl (res_n),.bool r15,⟨[],0⟩,Nat.le_refl _,Gh.toR (.bool r15) rfl,rfl,BU.h⟩
 replace hF:=cond_f h14 hF
 refine st ?_
 refine WPU.skip ?_
 refine st ?_
 obtain ⟨r17,h18,hF⟩:=bindO_some hF
 obtain ⟨r19,h20,hF⟩:=bindO_some hF
 obtain ⟨r21,h22,hF⟩:=bindO_some hF
 refine WPU.drawE Try.tb_ok [] (by kernel_rfl) ?_
 refine RD.q (u:=.agg [.isl false (List.map cGNode p1.Nodes)]) rfl (ld_agg und25 rfl (sz_of inf25) rfl rfl rfl) (RD.q (u:=.agg [.isl false (List.map cGNode p2.Nodes)]) rfl (ld_agg und25 rfl (sz_of inf25) rfl rfl rfl) (RD.free (u:=.int .i64 r17) (args:=[.agg [.isl false (List.map cGNode p1.Nodes)],.agg [.isl false (List.map cGNode p2.Nodes)]]) rfl (op_call rfl rfl fn24 hb24 rfl rfl) (fun s=>graph_Compare_ok n p1 p2 r17 h18 s) rfl rfl (RD.q (u:=.agg [.isl false (List.map cGNode p2.Nodes)]) rfl (ld_agg und25 rfl (sz_of inf25) rfl rfl rfl) (RD.q (u:=.agg [.isl false (List.map cGNode p3.Nodes)]) rfl (ld_agg und25 rfl (sz_of inf25) rfl rfl rfl) (RD.free (u:=.int .i64 r19) (args:=[.agg [.isl false (List.map cGNode p2.Nodes)],.agg [.isl false (List.map cGNode p3.Nodes)]]) rfl (op_call rfl rfl fn24 hb24 rfl rfl) (fun s=>graph_Compare_ok n p2 p3 r19 h20 s) rfl rfl (RD.q (u:=.agg [.isl false (List.map cGNode p1.Nodes)]) rfl (ld_agg und25 rfl (sz_of inf25) rfl rfl rfl) (RD.q (u:=.agg [.isl false (List.map cGNode p3.Nodes)]) rfl (ld_agg und25 rfl (sz_of inf25) rfl rfl rfl) ?_)))))))
 refine RD.free (u:=.int .i64 r21) (args:=[.agg [.isl false (List.map cGNode p1.Nodes)],.agg [.isl false (List.map cGNode p3.Nodes)]]) rfl (op_call rfl rfl fn24 hb24 rfl rfl) (fun s=>graph_Compare_ok n p1 p3 r21 h22 s) rfl rfl ?_
 repeat refine RD.as rfl rfl rfl rfl ?_
 refine RD.done ⟨by kernel_rfl,trivial,?_⟩
 refine st ?_
 obtain ⟨b37,h38,hF⟩:=bindO_some hF
 refine WPU.joinK (fun tm σ=>tm=fr 77 [(75,.bool b37)]∧σ=⟨[(2,.row [.isl false (List.map cGNode p3.Nodes)] 25),(1,.row [.isl false (List.map cGNode p2.Nodes)] 25),(0,.row [.isl false (List.map cGNode p1.Nodes)] 25)],3⟩) ?_ ?_
 rintro _ _ ⟨rfl,rfl⟩
 refine st ?_
 refine WPU.condS (t:=b37) rfl (fun h39=>?_) (fun h39=>?_)
 replace hF:=cond_t h39 hF
 refine sr ?_
 refine sd ?_
 refine WPU.ret ?_
 refine st ?_
 have hr:=Option.some.inj hF
 subst hr
 exact ⟨.inr rfl,[.bool false],res_t rfl (res_n),.bool false,⟨[],0⟩,Nat.le_refl _,Gh.toR (.bool false) rfl,rfl,BU.h⟩
 replace hF:=cond_f h39 hF
 refine st ?_
 refine WPU.skip ?_
 refine st ?_
 obtain ⟨r40,h41,hF⟩:=bindO_some hF
 refine sr ?_
 refine RS.call (u:=.bool r40) (args:=[]) rfl (op_call rfl rfl fn16 hb16 rfl rfl) (law07_exampleHolds_ok n  r40 h41 _) rfl rfl ?_
 refine sd ?_
 refine WPU.ret ?_
 refine st ?_
 have hr:=Option.some.inj hF
 subst hr
 exact ⟨.inr rfl,[.bool r40],res_t rfl (res_n),.bool r40,⟨[],0⟩,Nat.le_refl _,Gh.toR (.bool r40) rfl,rfl,BU.h⟩
 rcases bool_tf (decide (r17<(-1))) with h23 | h23
 replace h38:=cond_t h23 h38
 replace h38:=Option.some.inj h38
 subst h38
 refine sr ?_
 refine RS.q rfl (op_int rfl rfl (ix_lss _ _ _) rfl) (RS.mv rfl rfl rfl rfl ?_)
 repeat refine RS.no (want0 rfl rfl rfl h23) rfl rfl ?_
 refine RS.q (u:=.bool true) rfl (op_pick1 rfl h23 rfl) (RS.mv rfl rfl rfl rfl ?_)
 repeat refine RS.no (want0 rfl rfl rfl rfl) rfl rfl ?_
 refine RS.q (u:=.bool true) rfl (op_pick1 rfl rfl rfl) (RS.mv rfl rfl rfl rfl ?_)
 repeat refine RS.no (want0 rfl rfl rfl rfl) rfl rfl ?_
 refine RS.q (u:=.bool true) rfl (op_pick1 rfl rfl rfl) (RS.mv rfl rfl rfl rfl ?_)
 repeat refine RS.no (want0 rfl rfl rfl rfl) rfl rfl ?_
 repeat refine RS.no (wantT rfl rfl rfl) rfl rfl ?_
 repeat refine RS.no (want0 rfl rfl rfl rfl) rfl rfl ?_
 repeat refine RS.no (wantT rfl rfl rfl) rfl rfl ?_
 refine RS.no (want0 rfl rfl rfl rfl) rfl rfl (RS.q (u:=.bool true) rfl (op_pick1 rfl rfl rfl) (RS.mv rfl rfl rfl rfl ?_))
 repeat refine RS.no (want0 rfl rfl rfl rfl) rfl rfl ?_
 repeat refine RS.no (wantT rfl rfl rfl) rfl rfl ?_
 refine RS.no (want0 rfl rfl rfl rfl) rfl rfl (RS.q (u:=.bool true) rfl (op_pick1 rfl rfl rfl) ?_)
 refine sd ?_
 exact ⟨_,_,⟨rfl,rfl⟩,(Nat.zero_le _),Gh.toC (n1:=3) ⟨rfl,trivial⟩ rfl (Nat.zero_le _) (by simp)⟩
 replace h38:=cond_f h23 h38
 rcases bool_tf (decide (r17 > 1)) with h24 | h24
 replace h38:=cond_t h24 h38
 replace h38:=Option.some.inj h38
 subst h38
 refine sr ?_
 refine RS.q rfl (op_int rfl rfl (ix_lss _ _ _) rfl) (RS.mv rfl rfl rfl rfl (RS.op (want1 rfl rfl rfl h23) (op_move rfl) rfl rfl (RS.op (want1 rfl rfl rfl h23) (op_int rfl rfl (ix_gtr _ _ _) rfl) rfl rfl (RS.q (u:=.bool (decide (r17 > 1))) rfl (op_pick0 rfl h23 rfl) (RS.mv rfl rfl rfl rfl ?_)))))
 repeat refine RS.no (want0 rfl rfl rfl h24) rfl rfl ?_
 refine RS.q (u:=.bool true) rfl (op_pick1 rfl h24 rfl) (RS.mv rfl rfl rfl rfl ?_)
 repeat refine RS.no (want0 rfl rfl rfl rfl) rfl rfl ?_
 refine RS.q (u:=.bool true) rfl (op_pick1 rfl rfl rfl) (RS.mv rfl rfl rfl rfl ?_)
 repeat refine RS.no (want0 rfl rfl rfl rfl) rfl rfl ?_
 repeat refine RS.no (wantT rfl rfl rfl) rfl rfl ?_
 repeat refine RS.no (want0 rfl rfl rfl rfl) rfl rfl ?_
 repeat refine RS.no (wantT rfl rfl rfl) rfl rfl ?_
 refine RS.no (want0 rfl rfl rfl rfl) rfl rfl (RS.q (u:=.bool true) rfl (op_pick1 rfl rfl rfl) (RS.mv rfl rfl rfl rfl ?_))
 repeat refine RS.no (want0 rfl rfl rfl rfl) rfl rfl ?_
 repeat refine RS.no (wantT rfl rfl rfl) rfl rfl ?_
 refine RS.no (want0 rfl rfl rfl rfl) rfl rfl (RS.q (u:=.bool true) rfl (op_pick1 rfl rfl rfl) ?_)
 refine sd ?_
 exact ⟨_,_,⟨rfl,rfl⟩,(Nat.zero_le _),Gh.toC (n1:=3) ⟨rfl,trivial⟩ rfl (Nat.zero_le _) (by simp)⟩
 replace h38:=cond_f h24 h38
 obtain ⟨r25,h26,h38⟩:=bindO_some h38
 rcases bool_tf (r25 != (IntKind.i64.wrap (0 - r17))) with h27 | h27
 replace h38:=cond_t h27 h38
 replace h38:=Option.some.inj h38
 subst h38
 refine sr ?_
 refine RS.q rfl (op_int rfl rfl (ix_lss _ _ _) rfl) (RS.mv rfl rfl rfl rfl (RS.op (want1 rfl rfl rfl h23) (op_move rfl) rfl rfl (RS.op (want1 rfl rfl rfl h23) (op_int rfl rfl (ix_gtr _ _ _) rfl) rfl rfl (RS.q (u:=.bool (decide (r17 > 1))) rfl (op_pick0 rfl h23 rfl) (RS.mv rfl rfl rfl rfl (RS.op (u:=.agg [.isl false (List.map cGNode p2.Nodes)]) (want1 rfl rfl rfl h24) (ld_agg und25 rfl (sz_of inf25) rfl rfl rfl) rfl rfl (RS.op (u:=.agg [.isl false (List.map cGNode p1.Nodes)]) (want1 rfl rfl rfl h24) (ld_agg und25 rfl (sz_of inf25) rfl rfl rfl) rfl rfl ?_)))))))
 refine RS.call (u:=.int .i64 r25) (args:=[.agg [.isl false (List.map cGNode p2.Nodes)],.agg [.isl false (List.map cGNode p1.Nodes)]]) (want1 rfl rfl rfl h24) (op_call rfl rfl fn24 hb24 rfl rfl) (graph_Compare_ok n p2 p1 r25 h26 _) rfl rfl (RS.op (want1 rfl rfl rfl h24) (op_move rfl) rfl rfl (RS.op (u:=.int .i64 (IntKind.i64.wrap (0 - r17))) (want1 rfl rfl rfl h24) (op_un rfl rfl rfl rfl) rfl rfl (RS.op (want1 rfl rfl rfl h24) (op_int rfl rfl (ix_neq _ _ _) rfl) rfl rfl (RS.q (u:=.bool (r25 != (IntKind.i64.wrap (0 - r17)))) rfl (op_pick0 rfl h24 rfl) (RS.mv rfl rfl rfl rfl ?_)))))
 repeat refine RS.no (want0 rfl rfl rfl h27) rfl rfl ?_
 refine RS.q (u:=.bool true) rfl (op_pick1 rfl h27 rfl) (RS.mv rfl rfl rfl rfl ?_)
 repeat refine RS.no (want0 rfl rfl rfl rfl) rfl rfl ?_
 repeat refine RS.no (wantT rfl rfl rfl) rfl rfl ?_
 repeat refine RS.no (want0 rfl rfl rfl rfl) rfl rfl ?_
 repeat refine RS.no (wantT rfl rfl rfl) rfl rfl ?_
 refine RS.no (want0 rfl rfl rfl rfl) rfl rfl (RS.q (u:=.bool true) rfl (op_pick1 rfl rfl rfl) (RS.mv rfl rfl rfl rfl ?_))
 repeat refine RS.no (want0 rfl rfl rfl rfl) rfl rfl ?_
 repeat refine RS.no (wantT rfl rfl rfl) rfl rfl ?_
 refine RS.no (want0 rfl rfl rfl rfl) rfl rfl (RS.q (u:=.bool true) rfl (op_pick1 rfl rfl rfl) ?_)
 refine sd ?_
 exact ⟨_,_,⟨rfl,rfl⟩,(Nat.zero_le _),Gh.toC (n1:=3) ⟨rfl,trivial⟩ rfl (Nat.zero_le _) (by simp)⟩
 replace h38:=cond_f h27 h38
 obtain ⟨r28,h29,h38⟩:=bindO_some h38
 rcases bool_tf (!(r28 == (r17 == 0))) with h30 | h30
 replace h38:=cond_t h30 h38
 replace h38:=Option.some.inj h38
 subst h38
 refine sr ?_
 refine RS.q rfl (op_int rfl rfl (ix_lss _ _ _) rfl) (RS.mv rfl rfl rfl rfl (RS.op (want1 rfl rfl rfl h23) (op_move rfl) rfl rfl (RS.op (want1 rfl rfl rfl h23) (op_int rfl rfl (ix_gtr _ _ _) rfl) rfl rfl (RS.q (u:=.bool (decide (r17 > 1))) rfl (op_pick0 rfl h23 rfl) (RS.mv rfl rfl rfl rfl (RS.op (u:=.agg [.isl false (List.map cGNode p2.Nodes)]) (want1 rfl rfl rfl h24) (ld_agg und25 rfl (sz_of inf25) rfl rfl rfl) rfl rfl (RS.op (u:=.agg [.isl false (List.map cGNode p1.Nodes)]) (want1 rfl rfl rfl h24) (ld_agg und25 rfl (sz_of inf25) rfl rfl rfl) rfl rfl ?_)))))))
 refine RS.call (u:=.int .i64 r25) (args:=[.agg [.isl false (List.map cGNode p2.Nodes)],.agg [.isl false (List.map cGNode p1.Nodes)]]) (want1 rfl rfl rfl h24) (op_call rfl rfl fn24 hb24 rfl rfl) (graph_Compare_ok n p2 p1 r25 h26 _) rfl rfl (RS.op (want1 rfl rfl rfl h24) (op_move rfl) rfl rfl (RS.op (u:=.int .i64 (IntKind.i64.wrap (0 - r17))) (want1 rfl rfl rfl h24) (op_un rfl rfl rfl rfl) rfl rfl (RS.op (want1 rfl rfl rfl h24) (op_int rfl rfl (ix_neq _ _ _) rfl) rfl rfl (RS.q (u:=.bool (r25 != (IntKind.i64.wrap (0 - r17)))) rfl (op_pick0 rfl h24 rfl) (RS.mv rfl rfl rfl rfl (RS.op (u:=.agg [.isl false (List.map cGNode p1.Nodes)]) (want1 rfl rfl rfl h27) (ld_agg und25 rfl (sz_of inf25) rfl rfl rfl) rfl rfl (RS.op (u:=.agg [.isl false (List.map cGNode p2.Nodes)]) (want1 rfl rfl rfl h27) (ld_agg und25 rfl (sz_of inf25) rfl rfl rfl) rfl rfl ?_)))))))
 refine RS.call (u:=.bool r28) (args:=[.agg [.isl false (List.map cGNode p1.Nodes)],.agg [.isl false (List.map cGNode p2.Nodes)]]) (want1 rfl rfl rfl h27) (op_call rfl rfl fn26 hb26 rfl rfl) (graph_Equal_ok n p1 p2 r28 h29 _) rfl rfl (RS.op (want1 rfl rfl rfl h27) (op_move rfl) rfl rfl (RS.op (want1 rfl rfl rfl h27) (op_int rfl rfl (ix_eql _ _ _) rfl) rfl rfl ?_))
 refine RS.op (u:=.bool (!(r28 == (r17 == 0)))) (want1 rfl rfl rfl h27) (op_bin rfl rfl (by simp only [g2,toV,binX,guardX,eqv,cond_true,ofV,und4])) rfl rfl ?_
 refine RS.q (u:=.bool (!(r28 == (r17 == 0)))) rfl (op_pick0 rfl h27 rfl) (RS.mv rfl rfl rfl rfl ?_)
 repeat refine RS.no (want0 rfl rfl rfl h30) rfl rfl ?_
 repeat refine RS.no (wantT rfl rfl rfl) rfl rfl ?_
 repeat refine RS.no (want0 rfl rfl rfl h30) rfl rfl ?_
 repeat refine RS.no (wantT rfl rfl rfl) rfl rfl ?_
 refine RS.no (want0 rfl rfl rfl h30) rfl rfl (RS.q (u:=.bool true) rfl (op_pick1 rfl h30 rfl) (RS.mv rfl rfl rfl rfl ?_))
 repeat refine RS.no (want0 rfl rfl rfl rfl) rfl rfl ?_
 repeat refine RS.no (wantT rfl rfl rfl) rfl rfl ?_
 refine RS.no (want0 rfl rfl rfl rfl) rfl rfl (RS.q (u:=.bool true) rfl (op_pick1 rfl rfl rfl) ?_)
 refine sd ?_
 exact ⟨_,_,⟨rfl,rfl⟩,(Nat.zero_le _),Gh.toC (n1:=3) ⟨rfl,trivial⟩ rfl (Nat.zero_le _) (by simp)⟩
 replace h38:=cond_f h30 h38
 rcases bool_tf (decide (r17<0)) with h31 | h31
 replace h38:=cond_t h31 h38
 rcases bool_tf (decide (r19<0)) with h32 | h32
 replace h38:=cond_t h32 h38
 rcases bool_tf (decide (r21 ≥ 0)) with h33 | h33
 replace h38:=cond_t h33 h38
 replace h38:=Option.some.inj h38
 subst h38
 refine sr ?_
 refine RS.q rfl (op_int rfl rfl (ix_lss _ _ _) rfl) (RS.mv rfl rfl rfl rfl (RS.op (want1 rfl rfl rfl h23) (op_move rfl) rfl rfl (RS.op (want1 rfl rfl rfl h23) (op_int rfl rfl (ix_gtr _ _ _) rfl) rfl rfl (RS.q (u:=.bool (decide (r17 > 1))) rfl (op_pick0 rfl h23 rfl) (RS.mv rfl rfl rfl rfl (RS.op (u:=.agg [.isl false (List.map cGNode p2.Nodes)]) (want1 rfl rfl rfl h24) (ld_agg und25 rfl (sz_of inf25) rfl rfl rfl) rfl rfl (RS.op (u:=.agg [.isl false (List.map cGNode p1.Nodes)]) (want1 rfl rfl rfl h24) (ld_agg und25 rfl (sz_of inf25) rfl rfl rfl) rfl rfl ?_)))))))
 refine RS.call (u:=.int .i64 r25) (args:=[.agg [.isl false (List.map cGNode p2.Nodes)],.agg [.isl false (List.map cGNode p1.Nodes)]]) (want1 rfl rfl rfl h24) (op_call rfl rfl fn24 hb24 rfl rfl) (graph_Compare_ok n p2 p1 r25 h26 _) rfl rfl (RS.op (want1 rfl rfl rfl h24) (op_move rfl) rfl rfl (RS.op (u:=.int .i64 (IntKind.i64.wrap (0 - r17))) (want1 rfl rfl rfl h24) (op_un rfl rfl rfl rfl) rfl rfl (RS.op (want1 rfl rfl rfl h24) (op_int rfl rfl (ix_neq _ _ _) rfl) rfl rfl (RS.q (u:=.bool (r25 != (IntKind.i64.wrap (0 - r17)))) rfl (op_pick0 rfl h24 rfl) (RS.mv rfl rfl rfl rfl (RS.op (u:=.agg [.isl false (List.map cGNode p1.Nodes)]) (want1 rfl rfl rfl h27) (ld_agg und25 rfl (sz_of inf25) rfl rfl rfl) rfl rfl (RS.op (u:=.agg [.isl false (List.map cGNode p2.Nodes)]) (want1 rfl rfl rfl h27) (ld_agg und25 rfl (sz_of inf25) rfl rfl rfl) rfl rfl ?_)))))))
 refine RS.call (u:=.bool r28) (args:=[.agg [.isl false (List.map cGNode p1.Nodes)],.agg [.isl false (List.map cGNode p2.Nodes)]]) (want1 rfl rfl rfl h27) (op_call rfl rfl fn26 hb26 rfl rfl) (graph_Equal_ok n p1 p2 r28 h29 _) rfl rfl (RS.op (want1 rfl rfl rfl h27) (op_move rfl) rfl rfl (RS.op (want1 rfl rfl rfl h27) (op_int rfl rfl (ix_eql _ _ _) rfl) rfl rfl ?_))
 refine RS.op (u:=.bool (!(r28 == (r17 == 0)))) (want1 rfl rfl rfl h27) (op_bin rfl rfl (by simp only [g2,toV,binX,guardX,eqv,cond_true,ofV,und4])) rfl rfl ?_
 refine RS.q (u:=.bool (!(r28 == (r17 == 0)))) rfl (op_pick0 rfl h27 rfl) (RS.mv rfl rfl rfl rfl (RS.op (want1 rfl rfl rfl h30) (op_move rfl) rfl rfl (RS.op (want1 rfl rfl rfl h30) (op_int rfl rfl (ix_lss _ _ _) rfl) rfl rfl (RS.op (want1 rfl rfl rfl h30) (op_move rfl) rfl rfl (RS.op (want1 rfl rfl rfl h31) (op_move rfl) rfl rfl (RS.op (want1 rfl rfl rfl h31) (op_int rfl rfl (ix_lss _ _ _) rfl) rfl rfl (RS.op (u:=.bool (decide (r19<0))) (want1 rfl rfl rfl h30) (op_pick1 rfl h31 rfl) rfl rfl ?_)))))))
 refine RS.op (want1 rfl rfl rfl h30) (op_move rfl) rfl rfl (RS.op (want1 rfl rfl rfl h32) (op_move rfl) rfl rfl (RS.op (want1 rfl rfl rfl h32) (op_int rfl rfl (ix_geq _ _ _) rfl) rfl rfl (RS.op (u:=.bool (decide (r21 ≥ 0))) (want1 rfl rfl rfl h30) (op_pick1 rfl h32 rfl) rfl rfl (RS.q (u:=.bool (decide (r21 ≥ 0))) rfl (op_pick0 rfl h30 rfl) (RS.mv rfl rfl rfl rfl ?_)))))
 repeat refine RS.no (want0 rfl rfl rfl h33) rfl rfl ?_
 repeat refine RS.no (wantT rfl rfl rfl) rfl rfl ?_
 refine RS.no (want0 rfl rfl rfl h33) rfl rfl (RS.q (u:=.bool true) rfl (op_pick1 rfl h33 rfl) ?_)
 refine sd ?_
 exact ⟨_,_,⟨rfl,rfl⟩,(Nat.zero_le _),Gh.toC (n1:=3) ⟨rfl,trivial⟩ rfl (Nat.zero_le _) (by simp)⟩
 replace h38:=cond_f h33 h38
 rcases bool_tf (r17 == 0) with h34 | h34
 replace h38:=cond_t h34 h38
 replace h38:=Option.some.inj h38
 subst h38
 refine sr ?_
 refine RS.q rfl (op_int rfl rfl (ix_lss _ _ _) rfl) (RS.mv rfl rfl rfl rfl (RS.op (want1 rfl rfl rfl h23) (op_move rfl) rfl rfl (RS.op (want1 rfl rfl rfl h23) (op_int rfl rfl (ix_gtr _ _ _) rfl) rfl rfl (RS.q (u:=.bool (decide (r17 > 1))) rfl (op_pick0 rfl h23 rfl) (RS.mv rfl rfl rfl rfl (RS.op (u:=.agg [.isl false (List.map cGNode p2.Nodes)]) (want1 rfl rfl rfl h24) (ld_agg und25 rfl (sz_of inf25) rfl rfl rfl) rfl rfl (RS.op (u:=.agg [.isl false (List.map cGNode p1.Nodes)]) (want1 rfl rfl rfl h24) (ld_agg und25 rfl (sz_of inf25) rfl rfl rfl) rfl rfl ?_)))))))
 refine RS.call (u:=.int .i64 r25) (args:=[.agg [.isl false (List.map cGNode p2.Nodes)],.agg [.isl false (List.map cGNode p1.Nodes)]]) (want1 rfl rfl rfl h24) (op_call rfl rfl fn24 hb24 rfl rfl) (graph_Compare_ok n p2 p1 r25 h26 _) rfl rfl (RS.op (want1 rfl rfl rfl h24) (op_move rfl) rfl rfl (RS.op (u:=.int .i64 (IntKind.i64.wrap (0 - r17))) (want1 rfl rfl rfl h24) (op_un rfl rfl rfl rfl) rfl rfl (RS.op (want1 rfl rfl rfl h24) (op_int rfl rfl (ix_neq _ _ _) rfl) rfl rfl (RS.q (u:=.bool (r25 != (IntKind.i64.wrap (0 - r17)))) rfl (op_pick0 rfl h24 rfl) (RS.mv rfl rfl rfl rfl (RS.op (u:=.agg [.isl false (List.map cGNode p1.Nodes)]) (want1 rfl rfl rfl h27) (ld_agg und25 rfl (sz_of inf25) rfl rfl rfl) rfl rfl (RS.op (u:=.agg [.isl false (List.map cGNode p2.Nodes)]) (want1 rfl rfl rfl h27) (ld_agg und25 rfl (sz_of inf25) rfl rfl rfl) rfl rfl ?_)))))))
 refine RS.call (u:=.bool r28) (args:=[.agg [.isl false (List.map cGNode p1.Nodes)],.agg [.isl false (List.map cGNode p2.Nodes)]]) (want1 rfl rfl rfl h27) (op_call rfl rfl fn26 hb26 rfl rfl) (graph_Equal_ok n p1 p2 r28 h29 _) rfl rfl (RS.op (want1 rfl rfl rfl h27) (op_move rfl) rfl rfl (RS.op (want1 rfl rfl rfl h27) (op_int rfl rfl (ix_eql _ _ _) rfl) rfl rfl ?_))
 refine RS.op (u:=.bool (!(r28 == (r17 == 0)))) (want1 rfl rfl rfl h27) (op_bin rfl rfl (by simp only [g2,toV,binX,guardX,eqv,cond_true,ofV,und4])) rfl rfl ?_
 refine RS.q (u:=.bool (!(r28 == (r17 == 0)))) rfl (op_pick0 rfl h27 rfl) (RS.mv rfl rfl rfl rfl (RS.op (want1 rfl rfl rfl h30) (op_move rfl) rfl rfl (RS.op (want1 rfl rfl rfl h30) (op_int rfl rfl (ix_lss _ _ _) rfl) rfl rfl (RS.op (want1 rfl rfl rfl h30) (op_move rfl) rfl rfl (RS.op (want1 rfl rfl rfl h31) (op_move rfl) rfl rfl (RS.op (want1 rfl rfl rfl h31) (op_int rfl rfl (ix_lss _ _ _) rfl) rfl rfl (RS.op (u:=.bool (decide (r19<0))) (want1 rfl rfl rfl h30) (op_pick1 rfl h31 rfl) rfl rfl ?_)))))))
 refine RS.op (want1 rfl rfl rfl h30) (op_move rfl) rfl rfl (RS.op (want1 rfl rfl rfl h32) (op_move rfl) rfl rfl (RS.op (want1 rfl rfl rfl h32) (op_int rfl rfl (ix_geq _ _ _) rfl) rfl rfl (RS.op (u:=.bool (decide (r21 ≥ 0))) (want1 rfl rfl rfl h30) (op_pick1 rfl h32 rfl) rfl rfl (RS.q (u:=.bool (decide (r21 ≥ 0))) rfl (op_pick0 rfl h30 rfl) (RS.mv rfl rfl rfl rfl (RS.op (want1 rfl rfl rfl h33) (op_move rfl) rfl rfl (RS.op (want1 rfl rfl rfl h33) (op_int rfl rfl (ix_eql _ _ _) rfl) rfl rfl ?_)))))))
 refine RS.op (want1 rfl rfl rfl h33) (op_move rfl) rfl rfl (RS.op (want1 rfl rfl rfl h34) (op_move rfl) rfl rfl (RS.op (want1 rfl rfl rfl h34) (op_move rfl) rfl rfl (RS.op (want1 rfl rfl rfl h34) (op_int rfl rfl (ix_neq _ _ _) rfl) rfl rfl (RS.op (u:=.bool (r19 != r21)) (want1 rfl rfl rfl h33) (op_pick1 rfl h34 rfl) rfl rfl (RS.q (u:=.bool (r19 != r21)) rfl (op_pick0 rfl h33 rfl) ?_)))))
 refine sd ?_
 exact ⟨_,_,⟨rfl,rfl⟩,(Nat.zero_le _),Gh.toC (n1:=3) ⟨rfl,trivial⟩ rfl (Nat.zero_le _) (by simp)⟩
 replace h38:=cond_f h34 h38
 replace h38:=Option.some.inj h38
 subst h38
 refine sr ?_
 refine RS.q rfl (op_int rfl rfl (ix_lss _ _ _) rfl) (RS.mv rfl rfl rfl rfl (RS.op (want1 rfl rfl rfl h23) (op_move rfl) rfl rfl (RS.op (want1 rfl rfl rfl h23) (op_int rfl rfl (ix_gtr _ _ _) rfl) rfl rfl (RS.q (u:=.bool (decide (r17 > 1))) rfl (op_pick0 rfl h23 rfl) (RS.mv rfl rfl rfl rfl (RS.op (u:=.agg [.isl false (List.map cGNode p2.Nodes)]) (want1 rfl rfl rfl h24) (ld_agg und25 rfl (sz_of inf25) rfl rfl rfl) rfl rfl (RS.op (u:=.agg [.isl false (List.map cGNode p1.Nodes)]) (want1 rfl rfl rfl h24) (ld_agg und25 rfl (sz_of inf25) rfl rfl rfl) rfl rfl ?_)))))))
 refine RS.call (u:=.int .i64 r25) (args:=[.agg [.isl false (List.map cGNode p2.Nodes)],.agg [.isl false (List.map cGNode p1.Nodes)]]) (want1 rfl rfl rfl h24) (op_call rfl rfl fn24 hb24 rfl rfl) (graph_Compare_ok n p2 p1 r25 h26 _) rfl rfl (RS.op (want1 rfl rfl rfl h24) (op_move rfl) rfl rfl (RS.op (u:=.int .i64 (IntKind.i64.wrap (0 - r17))) (want1 rfl rfl rfl h24) (op_un rfl rfl rfl rfl) rfl rfl (RS.op (want1 rfl rfl rfl h24) (op_int rfl rfl (ix_neq _ _ _) rfl) rfl rfl (RS.q (u:=.bool (r25 != (IntKind.i64.wrap (0 - r17)))) rfl (op_pick0 rfl h24 rfl) (RS.mv rfl rfl rfl rfl (RS.op (u:=.agg [.isl false (List.map cGNode p1.Nodes)]) (want1 rfl rfl rfl h27) (ld_agg und25 rfl (sz_of inf25) rfl rfl rfl) rfl rfl (RS.op (u:=.agg [.isl false (List.map cGNode p2.Nodes)]) (want1 rfl rfl rfl h27) (ld_agg und25 rfl (sz_of inf25) rfl rfl rfl) rfl rfl ?_)))))))
 refine RS.call (u:=.bool r28) (args:=[.agg [.isl false (List.map cGNode p1.Nodes)],.agg [.isl false (List.map cGNode p2.Nodes)]]) (want1 rfl rfl rfl h27) (op_call rfl rfl fn26 hb26 rfl rfl) (graph_Equal_ok n p1 p2 r28 h29 _) rfl rfl (RS.op (want1 rfl rfl rfl h27) (op_move rfl) rfl rfl (RS.op (want1 rfl rfl rfl h27) (op_int rfl rfl (ix_eql _ _ _) rfl) rfl rfl ?_))
 refine RS.op (u:=.bool (!(r28 == (r17 == 0)))) (want1 rfl rfl rfl h27) (op_bin rfl rfl (by simp only [g2,toV,binX,guardX,eqv,cond_true,ofV,und4])) rfl rfl ?_
 refine RS.q (u:=.bool (!(r28 == (r17 == 0)))) rfl (op_pick0 rfl h27 rfl) (RS.mv rfl rfl rfl rfl (RS.op (want1 rfl rfl rfl h30) (op_move rfl) rfl rfl (RS.op (want1 rfl rfl rfl h30) (op_int rfl rfl (ix_lss _ _ _) rfl) rfl rfl (RS.op (want1 rfl rfl rfl h30) (op_move rfl) rfl rfl (RS.op (want1 rfl rfl rfl h31) (op_move rfl) rfl rfl (RS.op (want1 rfl rfl rfl h31) (op_int rfl rfl (ix_lss _ _ _) rfl) rfl rfl (RS.op (u:=.bool (decide (r19<0))) (want1 rfl rfl rfl h30) (op_pick1 rfl h31 rfl) rfl rfl ?_)))))))
 refine RS.op (want1 rfl rfl rfl h30) (op_move rfl) rfl rfl (RS.op (want1 rfl rfl rfl h32) (op_move rfl) rfl rfl (RS.op (want1 rfl rfl rfl h32) (op_int rfl rfl (ix_geq _ _ _) rfl) rfl rfl (RS.op (u:=.bool (decide (r21 ≥ 0))) (want1 rfl rfl rfl h30) (op_pick1 rfl h32 rfl) rfl rfl (RS.q (u:=.bool (decide (r21 ≥ 0))) rfl (op_pick0 rfl h30 rfl) (RS.mv rfl rfl rfl rfl (RS.op (want1 rfl rfl rfl h33) (op_move rfl) rfl rfl (RS.op (want1 rfl rfl rfl h33) (op_int rfl rfl (ix_eql _ _ _) rfl) rfl rfl ?_)))))))
 refine RS.op (want1 rfl rfl rfl h33) (op_move rfl) rfl rfl ?_
 repeat refine RS.no (want0 rfl rfl rfl h34) rfl rfl ?_
 refine RS.op (u:=.bool false) (want1 rfl rfl rfl h33) (op_pick0 rfl h34 rfl) rfl rfl (RS.q (u:=.bool false) rfl (op_pick0 rfl h33 rfl) ?_)
 refine sd ?_
 exact ⟨_,_,⟨rfl,rfl⟩,(Nat.zero_le _),Gh.toC (n1:=3) ⟨rfl,trivial⟩ rfl (Nat.zero_le _) (by simp)⟩
 replace h38:=cond_f h32 h38
 rcases bool_tf (r17 == 0) with h35 | h35
 replace h38:=cond_t h35 h38
 replace h38:=Option.some.inj h38
 subst h38
 refine sr ?_
 refine RS.q rfl (op_int rfl rfl (ix_lss _ _ _) rfl) (RS.mv rfl rfl rfl rfl (RS.op (want1 rfl rfl rfl h23) (op_move rfl) rfl rfl (RS.op (want1 rfl rfl rfl h23) (op_int rfl rfl (ix_gtr _ _ _) rfl) rfl rfl (RS.q (u:=.bool (decide (r17 > 1))) rfl (op_pick0 rfl h23 rfl) (RS.mv rfl rfl rfl rfl (RS.op (u:=.agg [.isl false (List.map cGNode p2.Nodes)]) (want1 rfl rfl rfl h24) (ld_agg und25 rfl (sz_of inf25) rfl rfl rfl) rfl rfl (RS.op (u:=.agg [.isl false (List.map cGNode p1.Nodes)]) (want1 rfl rfl rfl h24) (ld_agg und25 rfl (sz_of inf25) rfl rfl rfl) rfl rfl ?_)))))))
 refine RS.call (u:=.int .i64 r25) (args:=[.agg [.isl false (List.map cGNode p2.Nodes)],.agg [.isl false (List.map cGNode p1.Nodes)]]) (want1 rfl rfl rfl h24) (op_call rfl rfl fn24 hb24 rfl rfl) (graph_Compare_ok n p2 p1 r25 h26 _) rfl rfl (RS.op (want1 rfl rfl rfl h24) (op_move rfl) rfl rfl (RS.op (u:=.int .i64 (IntKind.i64.wrap (0 - r17))) (want1 rfl rfl rfl h24) (op_un rfl rfl rfl rfl) rfl rfl (RS.op (want1 rfl rfl rfl h24) (op_int rfl rfl (ix_neq _ _ _) rfl) rfl rfl (RS.q (u:=.bool (r25 != (IntKind.i64.wrap (0 - r17)))) rfl (op_pick0 rfl h24 rfl) (RS.mv rfl rfl rfl rfl (RS.op (u:=.agg [.isl false (List.map cGNode p1.Nodes)]) (want1 rfl rfl rfl h27) (ld_agg und25 rfl (sz_of inf25) rfl rfl rfl) rfl rfl (RS.op (u:=.agg [.isl false (List.map cGNode p2.Nodes)]) (want1 rfl rfl rfl h27) (ld_agg und25 rfl (sz_of inf25) rfl rfl rfl) rfl rfl ?_)))))))
 refine RS.call (u:=.bool r28) (args:=[.agg [.isl false (List.map cGNode p1.Nodes)],.agg [.isl false (List.map cGNode p2.Nodes)]]) (want1 rfl rfl rfl h27) (op_call rfl rfl fn26 hb26 rfl rfl) (graph_Equal_ok n p1 p2 r28 h29 _) rfl rfl (RS.op (want1 rfl rfl rfl h27) (op_move rfl) rfl rfl (RS.op (want1 rfl rfl rfl h27) (op_int rfl rfl (ix_eql _ _ _) rfl) rfl rfl ?_))
 refine RS.op (u:=.bool (!(r28 == (r17 == 0)))) (want1 rfl rfl rfl h27) (op_bin rfl rfl (by simp only [g2,toV,binX,guardX,eqv,cond_true,ofV,und4])) rfl rfl ?_
 refine RS.q (u:=.bool (!(r28 == (r17 == 0)))) rfl (op_pick0 rfl h27 rfl) (RS.mv rfl rfl rfl rfl (RS.op (want1 rfl rfl rfl h30) (op_move rfl) rfl rfl (RS.op (want1 rfl rfl rfl h30) (op_int rfl rfl (ix_lss _ _ _) rfl) rfl rfl (RS.op (want1 rfl rfl rfl h30) (op_move rfl) rfl rfl (RS.op (want1 rfl rfl rfl h31) (op_move rfl) rfl rfl (RS.op (want1 rfl rfl rfl h31) (op_int rfl rfl (ix_lss _ _ _) rfl) rfl rfl (RS.op (u:=.bool (decide (r19<0))) (want1 rfl rfl rfl h30) (op_pick1 rfl h31 rfl) rfl rfl ?_)))))))
 refine RS.op (want1 rfl rfl rfl h30) (op_move rfl) rfl rfl ?_
 repeat refine RS.no (want0 rfl rfl rfl h32) rfl rfl ?_
 refine RS.op (u:=.bool false) (want1 rfl rfl rfl h30) (op_pick0 rfl h32 rfl) rfl rfl (RS.q (u:=.bool false) rfl (op_pick0 rfl h30 rfl) (RS.mv rfl rfl rfl rfl (RS.op (want1 rfl rfl rfl rfl) (op_move rfl) rfl rfl (RS.op (want1 rfl rfl rfl rfl) (op_int rfl rfl (ix_eql _ _ _) rfl) rfl rfl (RS.op (want1 rfl rfl rfl rfl) (op_move rfl) rfl rfl (RS.op (want1 rfl rfl rfl h35) (op_move rfl) rfl rfl (RS.op (want1 rfl rfl rfl h35) (op_move rfl) rfl rfl ?_)))))))
 refine RS.op (want1 rfl rfl rfl h35) (op_int rfl rfl (ix_neq _ _ _) rfl) rfl rfl (RS.op (u:=.bool (r19 != r21)) (want1 rfl rfl rfl rfl) (op_pick1 rfl h35 rfl) rfl rfl (RS.q (u:=.bool (r19 != r21)) rfl (op_pick0 rfl rfl rfl) ?_))
 refine sd ?_
 exact ⟨_,_,⟨rfl,rfl⟩,(Nat.zero_le _),Gh.toC (n1:=3) ⟨rfl,trivial⟩ rfl (Nat.zero_le _) (by simp)⟩
 replace h38:=cond_f h35 h38
 replace h38:=Option.some.inj h38
 subst h38
 refine sr ?_
 refine RS.q rfl (op_int rfl rfl (ix_lss _ _ _) rfl) (RS.mv rfl rfl rfl rfl (RS.op (want1 rfl rfl rfl h23) (op_move rfl) rfl rfl (RS.op (want1 rfl rfl rfl h23) (op_int rfl rfl (ix_gtr _ _ _) rfl) rfl rfl (RS.q (u:=.bool (decide (r17 > 1))) rfl (op_pick0 rfl h23 rfl) (RS.mv rfl rfl rfl rfl (RS.op (u:=.agg [.isl false (List.map cGNode p2.Nodes)]) (want1 rfl rfl rfl h24) (ld_agg und25 rfl (sz_of inf25) rfl rfl rfl) rfl rfl (RS.op (u:=.agg [.isl false (List.map cGNode p1.Nodes)]) (want1 rfl rfl rfl h24) (ld_agg und25 rfl (sz_of inf25) rfl rfl rfl) rfl rfl ?_)))))))
 refine RS.call (u:=.int .i64 r25) (args:=[.agg [.isl false (List.map cGNode p2.Nodes)],.agg [.isl false (List.map cGNode p1.Nodes)]]) (want1 rfl rfl rfl h24) (op_call rfl rfl fn24 hb24 rfl rfl) (graph_Compare_ok n p2 p1 r25 h26 _) rfl rfl (RS.op (want1 rfl rfl rfl h24) (op_move rfl) rfl rfl (RS.op (u:=.int .i64 (IntKind.i64.wrap (0 - r17))) (want1 rfl rfl rfl h24) (op_un rfl rfl rfl rfl) rfl rfl (RS.op (want1 rfl rfl rfl h24) (op_int rfl rfl (ix_neq _ _ _) rfl) rfl rfl (RS.q (u:=.bool (r25 != (IntKind.i64.wrap (0 - r17)))) rfl (op_pick0 rfl h24 rfl) (RS.mv rfl rfl rfl rfl (RS.op (u:=.agg [.isl false (List.map cGNode p1.Nodes)]) (want1 rfl rfl rfl h27) (ld_agg und25 rfl (sz_of inf25) rfl rfl rfl) rfl rfl (RS.op (u:=.agg [.isl false (List.map cGNode p2.Nodes)]) (want1 rfl rfl rfl h27) (ld_agg und25 rfl (sz_of inf25) rfl rfl rfl) rfl rfl ?_)))))))
 refine RS.call (u:=.bool r28) (args:=[.agg [.isl false (List.map cGNode p1.Nodes)],.agg [.isl false (List.map cGNode p2.Nodes)]]) (want1 rfl rfl rfl h27) (op_call rfl rfl fn26 hb26 rfl rfl) (graph_Equal_ok n p1 p2 r28 h29 _) rfl rfl (RS.op (want1 rfl rfl rfl h27) (op_move rfl) rfl rfl (RS.op (want1 rfl rfl rfl h27) (op_int rfl rfl (ix_eql _ _ _) rfl) rfl rfl ?_))
 refine RS.op (u:=.bool (!(r28 == (r17 == 0)))) (want1 rfl rfl rfl h27) (op_bin rfl rfl (by simp only [g2,toV,binX,guardX,eqv,cond_true,ofV,und4])) rfl rfl ?_
 refine RS.q (u:=.bool (!(r28 == (r17 == 0)))) rfl (op_pick0 rfl h27 rfl) (RS.mv rfl rfl rfl rfl (RS.op (want1 rfl rfl rfl h30) (op_move rfl) rfl rfl (RS.op (want1 rfl rfl rfl h30) (op_int rfl rfl (ix_lss _ _ _) rfl) rfl rfl (RS.op (want1 rfl rfl rfl h30) (op_move rfl) rfl rfl (RS.op (want1 rfl rfl rfl h31) (op_move rfl) rfl rfl (RS.op (want1 rfl rfl rfl h31) (op_int rfl rfl (ix_lss _ _ _) rfl) rfl rfl (RS.op (u:=.bool (decide (r19<0))) (want1 rfl rfl rfl h30) (op_pick1 rfl h31 rfl) rfl rfl ?_)))))))
 refine RS.op (want1 rfl rfl rfl h30) (op_move rfl) rfl rfl ?_
 repeat refine RS.no (want0 rfl rfl rfl h32) rfl rfl ?_
 refine RS.op (u:=.bool false) (want1 rfl rfl rfl h30) (op_pick0 rfl h32 rfl) rfl rfl (RS.q (u:=.bool false) rfl (op_pick0 rfl h30 rfl) (RS.mv rfl rfl rfl rfl (RS.op (want1 rfl rfl rfl rfl) (op_move rfl) rfl rfl (RS.op (want1 rfl rfl rfl rfl) (op_int rfl rfl (ix_eql _ _ _) rfl) rfl rfl (RS.op (want1 rfl rfl rfl rfl) (op_move rfl) rfl rfl ?_)))))
 repeat refine RS.no (want0 rfl rfl rfl h35) rfl rfl ?_
 refine RS.op (u:=.bool false) (want1 rfl rfl rfl rfl) (op_pick0 rfl h35 rfl) rfl rfl (RS.q (u:=.bool false) rfl (op_pick0 rfl rfl rfl) ?_)
 refine sd ?_
 exact ⟨_,_,⟨rfl,rfl⟩,(Nat.zero_le _),Gh.toC (n1:=3) ⟨rfl,trivial⟩ rfl (Nat.zero_le _) (by simp)⟩
 replace h38:=cond_f h31 h38
 rcases bool_tf (r17 == 0) with h36 | h36
 replace h38:=cond_t h36 h38
 replace h38:=Option.some.inj h38
 subst h38
 refine sr ?_
 refine RS.q rfl (op_int rfl rfl (ix_lss _ _ _) rfl) (RS.mv rfl rfl rfl rfl (RS.op (want1 rfl rfl rfl h23) (op_move rfl) rfl rfl (RS.op (want1 rfl rfl rfl h23) (op_int rfl rfl (ix_gtr _ _ _) rfl) rfl rfl (RS.q (u:=.bool (decide (r17 > 1))) rfl (op_pick0 rfl h23 rfl) (RS.mv rfl rfl rfl rfl (RS.op (u:=.agg [.isl false (List.map cGNode p2.Nodes)]) (want1 rfl rfl rfl h24) (ld_agg und25 rfl (sz_of inf25) rfl rfl rfl) rfl rfl (RS.op (u:=.agg [.isl false (List.map cGNode p1.Nodes)]) (want1 rfl rfl rfl h24) (ld_agg und25 rfl (sz_of inf25) rfl rfl rfl) rfl rfl ?_)))))))
 refine RS.call (u:=.int .i64 r25) (args:=[.agg [.isl false (List.map cGNode p2.Nodes)],.agg [.isl false (List.map cGNode p1.Nodes)]]) (want1 rfl rfl rfl h24) (op_call rfl rfl fn24 hb24 rfl rfl) (graph_Compare_ok n p2 p1 r25 h26 _) rfl rfl (RS.op (want1 rfl rfl rfl h24) (op_move rfl) rfl rfl (RS.op (u:=.int .i64 (IntKind.i64.wrap (0 - r17))) (want1 rfl rfl rfl h24) (op_un rfl rfl rfl rfl) rfl rfl (RS.op (want1 rfl rfl rfl h24) (op_int rfl rfl (ix_neq _ _ _) rfl) rfl rfl (RS.q (u:=.bool (r25 != (IntKind.i64.wrap (0 - r17)))) rfl (op_pick0 rfl h24 rfl) (RS.mv rfl rfl rfl rfl (RS.op (u:=.agg [.isl false (List.map cGNode p1.Nodes)]) (want1 rfl rfl rfl h27) (ld_agg und25 rfl (sz_of inf25) rfl rfl rfl) rfl rfl (RS.op (u:=.agg [.isl false (List.map cGNode p2.Nodes)]) (want1 rfl rfl rfl h27) (ld_agg und25 rfl (sz_of inf25) rfl rfl rfl) rfl rfl ?_)))))))
 refine RS.call (u:=.bool r28) (args:=[.agg [.isl false (List.map cGNode p1.Nodes)],.agg [.isl false (List.map cGNode p2.Nodes)]]) (want1 rfl rfl rfl h27) (op_call rfl rfl fn26 hb26 rfl rfl) (graph_Equal_ok n p1 p2 r28 h29 _) rfl rfl (RS.op (want1 rfl rfl rfl h27) (op_move rfl) rfl rfl (RS.op (want1 rfl rfl rfl h27) (op_int rfl rfl (ix_eql _ _ _) rfl) rfl rfl ?_))
 refine RS.op (u:=.bool (!(r28 == (r17 == 0)))) (want1 rfl rfl rfl h27) (op_bin rfl rfl (by simp only [g2,toV,binX,guardX,eqv,cond_true,ofV,und4])) rfl rfl ?_
 refine RS.q (u:=.bool (!(r28 == (r17 == 0)))) rfl (op_pick0 rfl h27 rfl) (RS.mv rfl rfl rfl rfl (RS.op (want1 rfl rfl rfl h30) (op_move rfl) rfl rfl (RS.op (want1 rfl rfl rfl h30) (op_int rfl rfl (ix_lss _ _ _) rfl) rfl rfl (RS.op (want1 rfl rfl rfl h30) (op_move rfl) rfl rfl ?_))))
 repeat refine RS.no (want0 rfl rfl rfl h31) rfl rfl ?_
 refine RS.op (u:=.bool false) (want1 rfl rfl rfl h30) (op_pick0 rfl h31 rfl) rfl rfl (RS.op (want1 rfl rfl rfl h30) (op_move rfl) rfl rfl ?_)
 repeat refine RS.no (want0 rfl rfl rfl rfl) rfl rfl ?_
 refine RS.op (u:=.bool false) (want1 rfl rfl rfl h30) (op_pick0 rfl rfl rfl) rfl rfl (RS.q (u:=.bool false) rfl (op_pick0 rfl h30 rfl) (RS.mv rfl rfl rfl rfl (RS.op (want1 rfl rfl rfl rfl) (op_move rfl) rfl rfl (RS.op (want1 rfl rfl rfl rfl) (op_int rfl rfl (ix_eql _ _ _) rfl) rfl rfl (RS.op (want1 rfl rfl rfl rfl) (op_move rfl) rfl rfl (RS.op (want1 rfl rfl rfl h36) (op_move rfl) rfl rfl (RS.op (want1 rfl rfl rfl h36) (op_move rfl) rfl rfl ?_)))))))
 refine RS.op (want1 rfl rfl rfl h36) (op_int rfl rfl (ix_neq _ _ _) rfl) rfl rfl (RS.op (u:=.bool (r19 != r21)) (want1 rfl rfl rfl rfl) (op_pick1 rfl h36 rfl) rfl rfl (RS.q (u:=.bool (r19 != r21)) rfl (op_pick0 rfl rfl rfl) ?_))
 refine sd ?_
 exact ⟨_,_,⟨rfl,rfl⟩,(Nat.zero_le _),Gh.toC (n1:=3) ⟨rfl,trivial⟩ rfl (Nat.zero_le _) (by simp)⟩
 replace h38:=cond_f h36 h38
 replace h38:=Option.some.inj h38
 subst h38
 refine sr ?_
 refine RS.q rfl (op_int rfl rfl (ix_lss _ _ _) rfl) (RS.mv rfl rfl rfl rfl (RS.op (want1 rfl rfl rfl h23) (op_move rfl) rfl rfl (RS.op (want1 rfl rfl rfl h23) (op_int rfl rfl (ix_gtr _ _ _) rfl) rfl rfl (RS.q (u:=.bool (decide (r17 > 1))) rfl (op_pick0 rfl h23 rfl) (RS.mv rfl rfl rfl rfl (RS.op (u:=.agg [.isl false (List.map cGNode p2.Nodes)]) (want1 rfl rfl rfl h24) (ld_agg und25 rfl (sz_of inf25) rfl rfl rfl) rfl rfl (RS.op (u:=.agg [.isl false (List.map cGNode p1.Nodes)]) (want1 rfl rfl rfl h24) (ld_agg und25 rfl (sz_of inf25) rfl rfl rfl) rfl rfl ?_)))))))
 refine RS.call (u:=.int .i64 r25) (args:=[.agg [.isl false (List.map cGNode p2.Nodes)],.agg [.isl false (List.map cGNode p1.Nodes)]]) (want1 rfl rfl rfl h24) (op_call rfl rfl fn24 hb24 rfl rfl) (graph_Compare_ok n p2 p1 r25 h26 _) rfl rfl (RS.op (want1 rfl rfl rfl h24) (op_move rfl) rfl rfl (RS.op (u:=.int .i64 (IntKind.i64.wrap (0 - r17))) (want1 rfl rfl rfl h24) (op_un rfl rfl rfl rfl) rfl rfl (RS.op (want1 rfl rfl rfl h24) (op_int rfl rfl (ix_neq _ _ _) rfl) rfl rfl (RS.q (u:=.bool (r25 != (IntKind.i64.wrap (0 - r17)))) rfl (op_pick0 rfl h24 rfl) (RS.mv rfl rfl rfl rfl (RS.op (u:=.agg [.isl false (List.map cGNode p1.Nodes)]) (want1 rfl rfl rfl h27) (ld_agg und25 rfl (sz_of inf25) rfl rfl rfl) rfl rfl (RS.op (u:=.agg [.isl false (List.map cGNode p2.Nodes)]) (want1 rfl rfl rfl h27) (ld_agg und25 rfl (sz_of inf25) rfl rfl rfl) rfl rfl ?_)))))))
 refine RS.call (u:=.bool r28) (args:=[.agg [.isl false (List.map cGNode p1.Nodes)],.agg [.isl false (List.map cGNode p2.Nodes)]]) (want1 rfl rfl rfl h27) (op_call rfl rfl fn26 hb26 rfl rfl) (graph_Equal_ok n p1 p2 r28 h29 _) rfl rfl (RS.op (want1 rfl rfl rfl h27) (op_move rfl) rfl rfl (RS.op (want1 rfl rfl rfl h27) (op_int rfl rfl (ix_eql _ _ _) rfl) rfl rfl ?_))
 refine RS.op (u:=.bool (!(r28 == (r17 == 0)))) (want1 rfl rfl rfl h27) (op_bin rfl rfl (by simp only [g2,toV,binX,guardX,eqv,cond_true,ofV,und4])) rfl rfl ?_
 refine RS.q (u:=.bool (!(r28 == (r17 == 0)))) rfl (op_pick0 rfl h27 rfl) (RS.mv rfl rfl rfl rfl (RS.op (want1 rfl rfl rfl h30) (op_move rfl) rfl rfl (RS.op (want1 rfl rfl rfl h30) (op_int rfl rfl (ix_lss _ _ _) rfl) rfl rfl (RS.op (want1 rfl rfl rfl h30) (op_move rfl) rfl rfl ?_))))
 repeat refine RS.no (want0 rfl rfl rfl h31) rfl rfl ?_
 refine RS.op (u:=.bool false) (want1 rfl rfl rfl h30) (op_pick0 rfl h31 rfl) rfl rfl (RS.op (want1 rfl rfl rfl h30) (op_move rfl) rfl rfl ?_)
 repeat refine RS.no (want0 rfl rfl rfl rfl) rfl rfl ?_
 refine RS.op (u:=.bool false) (want1 rfl rfl rfl h30) (op_pick0 rfl rfl rfl) rfl rfl (RS.q (u:=.bool false) rfl (op_pick0 rfl h30 rfl) (RS.mv rfl rfl rfl rfl (RS.op (want1 rfl rfl rfl rfl) (op_move rfl) rfl rfl (RS.op (want1 rfl rfl rfl rfl) (op_int rfl rfl (ix_eql _ _ _) rfl) rfl rfl (RS.op (want1 rfl rfl rfl rfl) (op_move rfl) rfl rfl ?_)))))
 repeat refine RS.no (want0 rfl rfl rfl h36) rfl rfl ?_
 refine RS.op (u:=.bool false) (want1 rfl rfl rfl rfl) (op_pick0 rfl h36 rfl) rfl rfl (RS.q (u:=.bool false) rfl (op_pick0 rfl rfl rfl) ?_)
 refine sd ?_
 exact ⟨_,_,⟨rfl,rfl⟩,(Nat.zero_le _),Gh.toC (n1:=3) ⟨rfl,trivial⟩ rfl (Nat.zero_le _) (by simp)⟩
 obtain ⟨r4,h5,h13⟩:=bindO_some h13
 rcases bool_tf (!r4) with h6 | h6
 replace h13:=cond_t h6 h13
 replace h13:=Option.some.inj h13
 subst h13
 refine sr ?_
 refine RS.q (u:=.agg [.isl false (List.map cGNode p1.Nodes)]) rfl (ld_agg und25 rfl (sz_of inf25) rfl rfl rfl) (RS.call (u:=.bool r4) (args:=[.agg [.isl false (List.map cGNode p1.Nodes)]]) rfl (op_call rfl rfl fn17 hb17 rfl rfl) (ref07_Light_ok n p1 r4 h5 _) rfl rfl (RS.q (u:=.bool (!r4)) rfl (op_un rfl rfl rfl rfl) (RS.mv rfl rfl rfl rfl ?_)))
 repeat refine RS.no (want0 rfl rfl rfl h6) rfl rfl ?_
 refine RS.q (u:=.bool true) rfl (op_pick1 rfl h6 rfl) (RS.mv rfl rfl rfl rfl ?_)
 repeat refine RS.no (want0 rfl rfl rfl rfl) rfl rfl ?_
 refine RS.q (u:=.bool true) rfl (op_pick1 rfl rfl rfl) ?_
 refine sd ?_
 exact ⟨_,_,⟨rfl,rfl⟩,(Nat.zero_le _),Gh.toC (n1:=3) ⟨rfl,rfl,rfl,rfl,trivial⟩ rfl (Nat.zero_le _) (by simp)⟩
 replace h13:=cond_f h6 h13
 obtain ⟨r7,h8,h13⟩:=bindO_some h13
 rcases bool_tf (!r7) with h9 | h9
 replace h13:=cond_t h9 h13
 replace h13:=Option.some.inj h13
 subst h13
 refine sr ?_
 refine RS.q (u:=.agg [.isl false (List.map cGNode p1.Nodes)]) rfl (ld_agg und25 rfl (sz_of inf25) rfl rfl rfl) (RS.call (u:=.bool r4) (args:=[.agg [.isl false (List.map cGNode p1.Nodes)]]) rfl (op_call rfl rfl fn17 hb17 rfl rfl) (ref07_Light_ok n p1 r4 h5 _) rfl rfl (RS.q (u:=.bool (!r4)) rfl (op_un rfl rfl rfl rfl) (RS.mv rfl rfl rfl rfl (RS.op (u:=.agg [.isl false (List.map cGNode p2.Nodes)]) (want1 rfl rfl rfl h6) (ld_agg und25 rfl (sz_of inf25) rfl rfl rfl) rfl rfl (RS.call (u:=.bool r7) (args:=[.agg [.isl false (List.map cGNode p2.Nodes)]]) (want1 rfl rfl rfl h6) (op_call rfl rfl fn17 hb17 rfl rfl) (ref07_Light_ok n p2 r7 h8 _) rfl rfl (RS.op (u:=.bool (!r7)) (want1 rfl rfl rfl h6) (op_un rfl rfl rfl rfl) rfl rfl (RS.q (u:=.bool (!r7)) rfl (op_pick0 rfl h6 rfl) ?_)))))))
 refine RS.mv rfl rfl rfl rfl ?_
 repeat refine RS.no (want0 rfl rfl rfl h9) rfl rfl ?_
 refine RS.q (u:=.bool true) rfl (op_pick1 rfl h9 rfl) ?_
 refine sd ?_
 exact ⟨_,_,⟨rfl,rfl⟩,(Nat.zero_le _),Gh.toC (n1:=3) ⟨rfl,rfl,rfl,rfl,trivial⟩ rfl (Nat.zero_le _) (by simp)⟩
 replace h13:=cond_f h9 h13
 obtain ⟨r10,h11,h13⟩:=bindO_some h13
 replace h13:=Option.some.inj h13
 subst h13
 refine sr ?_
 refine RS.q (u:=.agg [.isl false (List.map cGNode p1.Nodes)]) rfl (ld_agg und25 rfl (sz_of inf25) rfl rfl rfl) (RS.call (u:=.bool r4) (args:=[.agg [.isl false (List.map cGNode p1.Nodes)]]) rfl (op_call rfl rfl fn17 hb17 rfl rfl) (ref07_Light_ok n p1 r4 h5 _) rfl rfl (RS.q (u:=.bool (!r4)) rfl (op_un rfl rfl rfl rfl) (RS.mv rfl rfl rfl rfl (RS.op (u:=.agg [.isl false (List.map cGNode p2.Nodes)]) (want1 rfl rfl rfl h6) (ld_agg und25 rfl (sz_of inf25) rfl rfl rfl) rfl rfl (RS.call (u:=.bool r7) (args:=[.agg [.isl false (List.map cGNode p2.Nodes)]]) (want1 rfl rfl rfl h6) (op_call rfl rfl fn17 hb17 rfl rfl) (ref07_Light_ok n p2 r7 h8 _) rfl rfl (RS.op (u:=.bool (!r7)) (want1 rfl rfl rfl h6) (op_un rfl rfl rfl rfl) rfl rfl (RS.q (u:=.bool (!r7)) rfl (op_pick0 rfl h6 rfl) ?_)))))))
 refine RS.mv rfl rfl rfl rfl (RS.op (u:=.agg [.isl false (List.map cGNode p3.Nodes)]) (want1 rfl rfl rfl h9) (ld_agg und25 rfl (sz_of inf25) rfl rfl rfl) rfl rfl (RS.call (u:=.bool r10) (args:=[.agg [.isl false (List.map cGNode p3.Nodes)]]) (want1 rfl rfl rfl h9) (op_call rfl rfl fn17 hb17 rfl rfl) (ref07_Light_ok n p3 r10 h11 _) rfl rfl (RS.op (u:=.bool (!r10)) (want1 rfl rfl rfl h9) (op_un rfl rfl rfl rfl) rfl rfl (RS.q (u:=.bool (!r10)) rfl (op_pick0 rfl h9 rfl) ?_))))
 refine sd ?_
 exact ⟨_,_,⟨rfl,rfl⟩,(Nat.zero_le _),Gh.toC (n1:=3) ⟨rfl,rfl,rfl,rfl,trivial⟩ rfl (Nat.zero_le _) (by simp)⟩
end Go.Proofs
end
section
namespace Go.Proofs
open Go Go.Rx Go.Vx Go.Shelf Go.Sort
set_option linter.unusedVariables false
theorem bindO_s {α β:Type} (a:α) (k:α→Option β):bindO (some a) k=k a:=rfl
theorem wr {z:Int} (h1 : -9223372036854775808≤z) (h2:z≤9223372036854775807):IntKind.i64.wrap z=z:=wrap_i64 (by omega) (by omega)
theorem wr1 {i len:Nat} (h:i<len) (hl:len≤9223372036854775807):IntKind.i64.wrap ((i:Int)+1)=((i+1:Nat):Int):=by rw [wr (by omega) (by omega)]; simp
theorem wrn {z:Int} {k:Nat} (h:z=k) (h2:k≤9223372036854775807):IntKind.i64.wrap z=(k:Int):=by subst h; exact wr (by omega) (by omega)
theorem get_of {α:Type} {l:List α} {i:Nat} (h:i<l.length):∃ x,l[i]? = some x∧x∈l:=⟨l[i],by simp [h],by simp⟩
theorem drop_cons' {α:Type} {l:List α} {i:Nat} {x:α} (h:l[i]? = some x):l.drop i=x::l.drop (i+1):=by
 have hlt:i<l.length:=(List.getElem?_eq_some_iff.1 h).1
 rw [List.drop_eq_getElem_cons hlt]
 congr 1
 rw [List.getElem?_eq_getElem hlt] at h
 exact Option.some.inj h
theorem dlt {i n:Nat} (h:i<n):decide ((i:Int)<(n:Int))=true:=by simp; omega
theorem dnlt {i n:Nat} (h:¬ i<n):decide ((i:Int)<(n:Int))=false:=by simp; omega
theorem drop_nil' {α:Type} {l:List α} {i:Nat} (h:¬ i<l.length):l.drop i=[]:=List.drop_eq_nil_of_le (by omega)
structure Cmp {α:Type} (c:α→α→Int):Prop where
 val:∀ x y,c x y = -1∨c x y=0∨c x y=1
 anti:∀ x y,c y x = - c x y
 trans:∀ x y z,c x y≤0→c y z≤0→c x z≤0
theorem Cmp.congr {α:Type} {c:α→α→Int} (h:Cmp c) {x y:α} (hxy:c x y=0) (z:α):c x z=c y z:=by
 have h1:=h.val x z
 have h2:=h.val y z
 have a1:=h.anti x y
 have a2:=h.anti x z
 have a3:=h.anti y z
 have t1:=h.trans x y z
 have t2:=h.trans y x z
 have t3:=h.trans z x y
 have t4:=h.trans z y x
 omega
theorem Cmp.congr' {α:Type} {c:α→α→Int} (h:Cmp c) {x y:α} (hxy:c x y=0) (z:α):c z x=c z y:=by
 have h1:=h.congr hxy z
 have a2:=h.anti x z
 have a3:=h.anti y z
 omega
theorem Cmp.lt_of {α:Type} {c:α→α→Int} (h:Cmp c) {x y z:α} (h1:c x y<0) (h2:c y z≤0):c x z<0:=by
 have t1:=h.trans x y z (by omega) h2
 rcases Int.lt_or_eq_of_le t1 with h3 | h3
 ·exact h3
 ·have:=h.congr h3 y
  have a3:=h.anti y z
  omega
def lexC {α:Type} (c d:α→α→Int) (x y:α):Int:=if c x y≠0 then c x y else d x y
theorem Cmp.lex {α:Type} {c d:α→α→Int} (hc:Cmp c) (hd:Cmp d):Cmp (lexC c d) where
 val x y:=by unfold lexC; split; exact hc.val x y; exact hd.val x y
 anti x y:=by
  unfold lexC
  have a1:=hc.anti x y
  have a2:=hd.anti x y
  by_cases h:c x y=0
  ·have:c y x=0:=by omega
   simp [h,this,a2]
  ·have:¬ c y x=0:=by omega
   simp [h,this,a1]
 trans x y z h1 h2:=by
  unfold lexC at *
  by_cases h:c x y=0
  ·have e:=hc.congr h z
   simp only [h,ne_eq,not_true,if_false] at h1
   rw [e]
   by_cases h':c y z=0
   ·simp only [h',ne_eq,not_true,if_false] at h2 ⊢
    exact hd.trans x y z h1 h2
   ·simp only [h',ne_eq,not_false_eq_true,if_true] at h2 ⊢
    exact h2
  ·simp only [h,ne_eq,not_false_eq_true,if_true] at h1
   have h1':c x y<0:=by omega
   by_cases h':c y z=0
   ·have e:=hc.congr' h' x
    rw [← e]
    simp only [h,ne_eq,not_false_eq_true,if_true]
    exact h1
   ·simp only [h',ne_eq,not_false_eq_true,if_true] at h2
    have:=hc.lt_of h1' h2
    have hne:¬ c x z=0:=by omega
    simp only [hne,ne_eq,not_false_eq_true,if_true]
    omega
theorem Cmp.pull {α β:Type} {c:α→α→Int} (h:Cmp c) (f:β→α):Cmp (fun x y=>c (f x) (f y)):=⟨fun x y=>h.val _ _,fun x y=>h.anti _ _,fun x y z=>h.trans _ _ _⟩
def cmpI (a b:Int):Int:=if a<b then -1 else if b<a then 1 else 0
theorem cmpI_ok : Cmp cmpI where
  val x y := by unfold cmpI; split; · simp
                split <;> simp
  anti x y := by unfold cmpI; split <;> split <;> (try split) <;> omega
  trans x y z := by
    unfold cmpI
    intro h1 h2
    split at h1 <;> split at h2 <;> (try split at h1) <;> (try split at h2) <;> (try split) <;> (try split) <;> omega
section
variable {α:Type} {c:α→α→Int}
end
end Go.Proofs
end
section
namespace Go.Proofs
open Go Go.Rx Go.Vx Go.Shelf Go.Sort
set_option linter.unusedVariables false
set_option linter.unusedSimpArgs false
set_option maxRecDepth 10000
theorem ex_ok (m:Nat):law07_exampleHolds (m+60)=some true:=by kernel_rfl
theorem ex_n {n:Nat} (h:60≤n):law07_exampleHolds n=some true:=by
 have:=ex_ok (n - 60)
 rwa [Nat.sub_add_cancel h] at this
theorem cmpInt_eq (n:Nat) (a b:Int):cmp_Compare_int n a b=some (cmpI a b):=by
 have e1:(a != a)=false:=by simp
 have e2:(b != b)=false:=by simp
 simp only [cmp_Compare_int,cmp_isNaN_int,bindO_s,e1,e2,cond_false,cmpI]
 by_cases h1:a<b
 ·simp [h1]
 ·by_cases h2:b<a<;>simp [h1,h2]
theorem or2_eq {n:Nat} (hn:3≤n) (a b:Int):cmp_Or_int n [a,b]=some (if a≠0 then a else b):=by
 obtain ⟨m,rfl⟩:∃ m,n=m+3:=⟨n - 3,by omega⟩
 have w1:IntKind.i64.wrap (0+1)=1:=by decide
 have w1':IntKind.i64.wrap 1=1:=by decide
 have w2:IntKind.i64.wrap (1+1)=2:=by decide
 have w2':IntKind.i64.wrap 2=2:=by decide
 by_cases h1:a=0
 ·by_cases h2:b=0
  ·simp [cmp_Or_int,cmp_Or_int_L1,cmp_Or_int_K1,idxO,h1,h2,w1,w1',w2,w2',bindO_s]
  ·have h3:(b != 0)=true:=by simpa using h2
   simp [cmp_Or_int,cmp_Or_int_L1,cmp_Or_int_K1,idxO,h1,h3,w1,w1',w2,w2',bindO_s]
 ·have h3:(a != 0)=true:=by simpa using h1
  simp [cmp_Or_int,cmp_Or_int_L1,cmp_Or_int_K1,idxO,h1,h3,bindO_s]
def lexL {α:Type} (c:α→α→Int):List α→List α→Int
 | [],[]=>0
 | [],_::_=>-1
 | _::_,[]=>1
 | x::xs,y::ys=>if c x y≠0 then c x y else lexL c xs ys
theorem Cmp.list {α:Type} {c:α→α→Int} (h:Cmp c):Cmp (lexL c) where
 val:=by
  intro x
  induction x with
  | nil=>intro y; cases y<;>simp [lexL]
  | cons a x ih =>
   intro y
   cases y with
   | nil=>simp [lexL]
   | cons b y=>simp only [lexL]; split; exact h.val a b; exact ih y
 anti:=by
  intro x
  induction x with
  | nil=>intro y; cases y<;>simp [lexL]
  | cons a x ih =>
   intro y
   cases y with
   | nil=>simp [lexL]
   | cons b y =>
    simp only [lexL]
    have a1:=h.anti a b
    have a2:=ih y
    by_cases e:c a b=0
    ·have:c b a=0:=by omega
     simp [e,this,a2]
    ·have:¬ c b a=0:=by omega
     simp [e,this,a1]
 trans:=by
  intro x
  induction x with
  | nil =>
   intro y z h1 h2
   cases z<;>simp [lexL]
  | cons a x ih =>
   intro y z h1 h2
   cases y with
   | nil=>simp [lexL] at h1
   | cons b y =>
    cases z with
    | nil=>simp [lexL] at h2
    | cons d z =>
     simp only [lexL] at *
     by_cases e:c a b=0
     ·have e2:=h.congr e d
      simp only [e,ne_eq,not_true,if_false] at h1
      rw [e2]
      by_cases e3:c b d=0
      ·simp only [e3,ne_eq,not_true,if_false] at h2 ⊢
       exact ih y z h1 h2
      ·simp only [e3,ne_eq,not_false_eq_true,if_true] at h2 ⊢
       exact h2
     ·simp only [e,ne_eq,not_false_eq_true,if_true] at h1
      have h1':c a b<0:=by omega
      by_cases e3:c b d=0
      ·have e4:=h.congr' e3 a
       rw [← e4]
       simp only [e,ne_eq,not_false_eq_true,if_true]
       exact h1
      ·simp only [e3,ne_eq,not_false_eq_true,if_true] at h2
       have:=h.lt_of h1' h2
       have hne:¬ c a d=0:=by omega
       simp only [hne,ne_eq,not_false_eq_true,if_true]
       omega
theorem cmpF_GNode {xs ys:List GNode} (hl:xs.length≤9223372036854775807) {f:GNode→GNode→Option Int} {cc:GNode→GNode→Int} (hf:∀ x∈xs,∀ y∈ys,f x y=some (cc x y)):∀ (m i:Nat),xs.length - i<m→i≤xs.length→i≤ys.length →
  slices_CompareFunc_Node_compareNodes_L1 xs ys f m (i:Int)=some (lexL cc (xs.drop i) (ys.drop i))
 | 0,i,hm,_,_=>by omega
 | m+1,i,hm,hi,hi2=>by
  unfold slices_CompareFunc_Node_compareNodes_L1
  by_cases hlt:i<xs.length
  ·obtain ⟨x,hx,hxm⟩:=get_of hlt
   simp only [dlt hlt,cond_true,idxO_nat,hx,bindO_s]
   by_cases hlt2:i<ys.length
   ·obtain ⟨y,hy,hym⟩:=get_of hlt2
    have hge:decide ((i:Int) ≥ (ys.length:Int))=false:=by simp; omega
    have hw:IntKind.i64.wrap ((i:Int)+1)=((i+1:Nat):Int):=wrn (by simp) (by omega)
    simp only [hge,cond_false,hy,bindO_s,hf x hxm y hym,drop_cons' hx,drop_cons' hy,lexL,hw]
    by_cases e:cc x y=0
    ·simp only [e,bne_self_eq_false,cond_false,ne_eq,not_true,if_false]
     exact cmpF_GNode hl hf m (i+1) (by omega) (by omega) (by omega)
    ·have:(cc x y != 0)=true:=by simpa using e
     simp only [this,cond_true,ne_eq,e,not_false_eq_true,if_true]
   ·have hge:decide ((i:Int) ≥ (ys.length:Int))=true:=by simp; omega
    simp only [hge,cond_true,drop_cons' hx,drop_nil' hlt2,lexL]
  ·simp only [dnlt hlt,cond_false,slices_CompareFunc_Node_compareNodes_K1,drop_nil' hlt]
   by_cases hlt2:i<ys.length
   ·obtain ⟨y,hy,hym⟩:=get_of hlt2
    simp only [dlt (show xs.length<ys.length by omega),cond_true,drop_cons' hy,lexL]
   ·simp only [dnlt (show ¬ xs.length<ys.length by omega),cond_false,drop_nil' hlt2,lexL]
theorem cmpF_GArc {xs ys:List GArc} (hl:xs.length≤9223372036854775807) {f:GArc→GArc→Option Int} {cc:GArc→GArc→Int} (hf:∀ x∈xs,∀ y∈ys,f x y=some (cc x y)):∀ (m i:Nat),xs.length - i<m→i≤xs.length→i≤ys.length →
  slices_CompareFunc_Arc_compareNodes_1_L1 xs ys f m (i:Int)=some (lexL cc (xs.drop i) (ys.drop i))
 | 0,i,hm,_,_=>by omega
 | m+1,i,hm,hi,hi2=>by
  unfold slices_CompareFunc_Arc_compareNodes_1_L1
  by_cases hlt:i<xs.length
  ·obtain ⟨x,hx,hxm⟩:=get_of hlt
   simp only [dlt hlt,cond_true,idxO_nat,hx,bindO_s]
   by_cases hlt2:i<ys.length
   ·obtain ⟨y,hy,hym⟩:=get_of hlt2
    have hge:decide ((i:Int) ≥ (ys.length:Int))=false:=by simp; omega
    have hw:IntKind.i64.wrap ((i:Int)+1)=((i+1:Nat):Int):=wrn (by simp) (by omega)
    simp only [hge,cond_false,hy,bindO_s,hf x hxm y hym,drop_cons' hx,drop_cons' hy,lexL,hw]
    by_cases e:cc x y=0
    ·simp only [e,bne_self_eq_false,cond_false,ne_eq,not_true,if_false]
     exact cmpF_GArc hl hf m (i+1) (by omega) (by omega) (by omega)
    ·have:(cc x y != 0)=true:=by simpa using e
     simp only [this,cond_true,ne_eq,e,not_false_eq_true,if_true]
   ·have hge:decide ((i:Int) ≥ (ys.length:Int))=true:=by simp; omega
    simp only [hge,cond_true,drop_cons' hx,drop_nil' hlt2,lexL]
  ·simp only [dnlt hlt,cond_false,slices_CompareFunc_Arc_compareNodes_1_K1,drop_nil' hlt]
   by_cases hlt2:i<ys.length
   ·obtain ⟨y,hy,hym⟩:=get_of hlt2
    simp only [dlt (show xs.length<ys.length by omega),cond_true,drop_cons' hy,lexL]
   ·simp only [dnlt (show ¬ xs.length<ys.length by omega),cond_false,drop_nil' hlt2,lexL]
def ccA:GArc→GArc→Int:=lexC (fun x y=>cmpI x.Feat y.Feat) (fun x y=>cmpI x.To y.To)
theorem ccA_ok:Cmp ccA:=(cmpI_ok.pull _).lex (cmpI_ok.pull _)
def ccN:GNode→GNode→Int:=lexC (lexC (fun x y=>cmpI x.Typex y.Typex) (fun x y=>cmpI x.Arcs.length y.Arcs.length)) (fun x y=>lexL ccA x.Arcs y.Arcs)
theorem ccN_ok:Cmp ccN:=((cmpI_ok.pull _).lex (cmpI_ok.pull (fun x:GNode=>(x.Arcs.length:Int)))).lex (ccA_ok.list.pull _)
def ccG:GFS→GFS→Int:=lexC (fun x y=>cmpI x.Nodes.length y.Nodes.length) (fun x y=>lexL ccN x.Nodes y.Nodes)
theorem ccG_ok:Cmp ccG:=(cmpI_ok.pull (fun x:GFS=>(x.Nodes.length:Int))).lex (ccN_ok.list.pull _)
structure Small (f:GFS) (k:Nat):Prop where
 nodes:f.Nodes.length≤k
 arcs:∀ x∈f.Nodes,x.Arcs.length≤k
theorem cmpA_ok {n:Nat} (hn:3≤n) (x y:GArc):graph_compareNodes_1 n x y=some (ccA x y):=by
 simp only [graph_compareNodes_1,cmpInt_eq,bindO_s,or2_eq hn,ccA,lexC]
theorem cmpN_ok {n k:Nat} (hn:k+3≤n) (hk:k≤1000000) {x y:GNode} (hx:x.Arcs.length≤k):graph_compareNodes n x y=some (ccN x y):=by
 have h:=cmpF_GArc (xs:=x.Arcs) (ys:=y.Arcs) (by omega) (f:=graph_compareNodes_1 n) (cc:=ccA) (fun a _ b _=>cmpA_ok (by omega) a b) n 0 (by omega) (by omega) (by omega)
 rw [Int.ofNat_zero,List.drop_zero,List.drop_zero] at h
 simp only [graph_compareNodes,cmpInt_eq,bindO_s,or2_eq (show 3≤n by omega),slices_CompareFunc_Arc_compareNodes_1,h,ccN]
 unfold lexC
 by_cases h1:cmpI x.Typex y.Typex=0
 ·by_cases h2:cmpI (x.Arcs.length:Int) y.Arcs.length=0
  ·simp [h1,h2]
  ·have h3:(cmpI (x.Arcs.length:Int) y.Arcs.length != 0)=true:=by simpa using h2
   simp [h1,h2,h3]
 ·have h3:(cmpI x.Typex y.Typex != 0)=true:=by simpa using h1
  simp [h1,h3]
theorem cmpG_ok {n k:Nat} (hn:k+3≤n) (hk:k≤1000000) {f g:GFS} (hf:Small f k):graph_Compare n f g=some (ccG f g):=by
 have h:=cmpF_GNode (xs:=f.Nodes) (ys:=g.Nodes) (by have:=hf.nodes; omega) (f:=graph_compareNodes n) (cc:=ccN) (fun a ha b _=>cmpN_ok hn hk (hf.arcs a ha)) n 0 (by have:=hf.nodes; omega) (by omega) (by omega)
 rw [Int.ofNat_zero,List.drop_zero,List.drop_zero] at h
 simp only [graph_Compare,cmpInt_eq,bindO_s,slices_CompareFunc_Node_compareNodes,h,ccG]
 unfold lexC
 by_cases h1:cmpI (f.Nodes.length:Int) g.Nodes.length=0
 ·simp [h1]
 ·have h3:(cmpI (f.Nodes.length:Int) g.Nodes.length != 0)=true:=by simpa using h1
  simp [h1,h3]
theorem eqG_ok {n k:Nat} (hn:k+3≤n) (hk:k≤1000000) {f g:GFS} (hf:Small f k):graph_Equal n f g=some (ccG f g == 0):=by
 simp only [graph_Equal,cmpG_ok hn hk hf,bindO_s]
theorem light_L1 {f:GFS} (hl:f.Nodes.length≤12):∀ (m i:Nat),f.Nodes.length - i<m→i≤f.Nodes.length→∃ b,ref07_Light_L1 f m i=some b∧(b=true→∀ x∈f.Nodes.drop i,x.Arcs.length≤12)
 | 0,i,hm,_=>by omega
 | m+1,i,hm,hi=>by
  unfold ref07_Light_L1
  by_cases hlt:i<f.Nodes.length
  ·obtain ⟨x,hx,_⟩:=get_of hlt
   simp only [dlt hlt,cond_true,idxO_nat,hx,bindO_s,wr1 hlt (show f.Nodes.length≤9223372036854775807 by omega)]
   by_cases h:(x.Arcs.length:Int) > 12
   ·simp only [h,decide_true,cond_true]; exact ⟨false,rfl,fun h=>by cases h⟩
   ·simp only [h,decide_false,cond_false]
    obtain ⟨b,h1,h2⟩:=light_L1 hl m (i+1) (by omega) (by omega)
    refine ⟨b,h1,fun hb=>?_⟩
    rw [drop_cons' hx]
    intro y hy
    rcases List.mem_cons.1 hy with rfl | hy
    ·omega
    ·exact h2 hb y hy
  ·simp only [dnlt hlt,cond_false,ref07_Light_K1,drop_nil' hlt]
   exact ⟨true,rfl,fun _ x hx=>by cases hx⟩
theorem light_ok (f:GFS) {n:Nat} (hn:20≤n):∃ b,ref07_Light n f=some b∧(b=true→Small f 12):=by
 unfold ref07_Light
 by_cases h:(f.Nodes.length:Int) > 12
 ·simp only [h,decide_true,cond_true]; exact ⟨false,rfl,fun h=>by cases h⟩
 ·simp only [h,decide_false,cond_false]
  obtain ⟨b,h1,h2⟩:=light_L1 (f:=f) (by omega) n 0 (by omega) (by omega)
  rw [Int.ofNat_zero] at h1
  rw [List.drop_zero] at h2
  exact ⟨b,h1,fun hb=>⟨by omega,h2 hb⟩⟩
theorem orders_law (f g h:GFS) {n:Nat} (hn:3000000≤n):law07_GraphOrders n f g h=some true:=by
 obtain ⟨b,h1,h2⟩:=light_ok f (show 20≤n by omega)
 obtain ⟨c,h3,h4⟩:=light_ok g (show 20≤n by omega)
 obtain ⟨d,h5,h6⟩:=light_ok h (show 20≤n by omega)
 simp only [law07_GraphOrders,h1,h3,h5,bindO_s,ex_n (show 60≤n by omega)]
 cases b with
 | false=>simp
 | true =>
  cases c with
  | false=>simp
  | true =>
   cases d with
   | false=>simp
   | true =>
    have hf:=h2 rfl
    have hg:=h4 rfl
    have hh:=h6 rfl
    have hA:=ccG_ok.anti f g
    have hV:=ccG_ok.val f g
    have hw:IntKind.i64.wrap (0 - ccG f g) = - ccG f g:=by rcases hV with h | h | h<;>rw [h]<;>decide
    simp only [cmpG_ok (show 12+3≤n by omega) (by omega) hf,cmpG_ok (show 12+3≤n by omega) (by omega) hg,eqG_ok (show 12+3≤n by omega) (by omega) hf,bindO_s,Bool.not_true,cond_false,hA,hw,bne_self_eq_false,beq_self_eq_true]
    have a1:¬ ccG f g < -1:=by omega
    have a2:¬ ccG f g > 1:=by omega
    simp only [a1,a2,decide_false,cond_false,bindO_s]
    by_cases h0:ccG f g=0
    ·have:ccG g h=ccG f h:=(ccG_ok.congr h0 h).symm
     simp [h0,this]
    ·have e0:(ccG f g == 0)=false:=by simpa using h0
     simp only [e0,cond_false]
     by_cases h1:ccG f g<0
     ·by_cases h2:ccG g h<0
      ·have:=ccG_ok.lt_of h1 (show ccG g h≤0 by omega)
       have h3:¬ ccG f h ≥ 0:=by omega
       simp [h1,h2,h3]
      ·simp [h1,h2]
     ·simp [h1]
end Go.Proofs
end
