/-
  Texts of the walk: C1.
-/
import Derived.Test.YtafbldphahfemaaP11
section
namespace Go.Proofs
open Go Go.Rx Go.Vx Try
set_option maxRecDepth 10000
set_option linter.unusedSimpArgs false
set_option linter.unusedVariables false
theorem chart_Add_0 (n:Nat) (p1:GChart) (p2:GEdge) (r:GChart×Int×Int) (hF:chart_Add n p1 p2=some r):EvU Try.prog 14 [.agg (cGChart p1),.agg (cGEdge p2)] ⟨[],0⟩ (fun u _=>u = .tup [.agg (cGChart r.1),.int .i64 r.2.1,.int .i64 r.2.2]∧Bel 0 u):=by
 unfold chart_Add at hF
 refine EvU.of_body Try.tb_ok fn14 rfl ?_
 refine WPU.ghost (tm':=fr 117 [(0,.agg (cGChart p1)),(1,.agg (cGEdge p2))]) (Gh.start (Nat.le_of_ble_eq_true rfl)) (Nat.zero_le _) ?_
 refine sr ?_
 refine RS.q (u:=.ptr 0 0 0) (σ':=⟨[(0,.row (cGChart p1) 24)],1⟩) rfl (op_box rfl rfl rfl) (RS.q (u:=.ptr 1 0 0) (σ':=⟨[(1,.row (cGEdge p2) 42),(0,.row (cGChart p1) 24)],2⟩) rfl (op_box rfl rfl rfl) (RS.q (u:=.ptr 2 0 0) (σ':=⟨[(2,.row [.int .i64 0,.nils] 24),(1,.row (cGEdge p2) 42),(0,.row (cGChart p1) 24)],3⟩) rfl (op_alloc inf24 rfl rfl) ?_))
 repeat refine RS.as rfl rfl rfl rfl ?_
 refine sd ?_
 obtain ⟨b5,h6,hF⟩:=bindO_some hF
 refine WPU.joinK (fun tm σ=>tm=fr 117 [(2,.ptr 0 0 0),(3,.ptr 1 0 0),(4,.ptr 2 0 0),(26,.bool b5)]∧σ=⟨[(2,.row [.int .i64 0,.nils] 24),(1,.row (cGEdge p2) 42),(0,.row (cGChart p1) 24)],3⟩) ?_ ?_
 rintro _ _ ⟨rfl,rfl⟩
 refine st ?_
 refine WPU.condS (t:=b5) rfl (fun h7=>?_) (fun h7=>?_)
 replace hF:=cond_t h7 hF
 refine sr ?_
 refine RS.q (u:=.agg (cGChart p1)) rfl (ld_agg und24 rfl (sz_of inf24) rfl rfl rfl) (RS.opn (u:=.junk) (σ':=⟨[(2,.row (cGChart p1) 24),(1,.row (cGEdge p2) 42),(0,.row (cGChart p1) 24)],3⟩) rfl (op_store (sz_of inf24) rfl rfl rfl rfl rfl rfl rfl rfl) rfl ?_)
 repeat refine RS.as rfl rfl rfl rfl ?_
 refine sd ?_
 refine WPU.ret ?_
 refine st ?_
 have hr:=Option.some.inj hF
 subst hr
 exact ⟨.inr rfl,[.agg (cGChart p1),.int .i64 0,.int .i64 2],res_c (ld_agg und24 rfl (sz_of inf24) rfl rfl rfl) (res_t rfl (res_t rfl (res_n))),.tup [.agg (cGChart p1),.int .i64 0,.int .i64 2],⟨[],0⟩,Nat.le_refl _,Gh.toR (.tup [.agg (cGChart p1),.int .i64 0,.int .i64 2]) rfl,rfl,BU.h⟩
 replace hF:=cond_f h7 hF
 refine st ?_
 refine WPU.skip ?_
 refine st ?_
 obtain ⟨b9,h10,hF⟩:=bindO_some hF
 refine WPU.joinK (fun tm σ=>tm=fr 117 [(2,.ptr 0 0 0),(3,.ptr 1 0 0),(4,.ptr 2 0 0),(35,.bool b9)]∧σ=⟨[(2,.row [.int .i64 0,.nils] 24),(1,.row (cGEdge p2) 42),(0,.row (cGChart p1) 24)],3⟩) ?_ ?_
 rintro _ _ ⟨rfl,rfl⟩
 refine st ?_
 refine WPU.condS (t:=b9) rfl (fun h11=>?_) (fun h11=>?_)
 replace hF:=cond_t h11 hF
 refine sr ?_
 refine RS.q (u:=.agg (cGChart p1)) rfl (ld_agg und24 rfl (sz_of inf24) rfl rfl rfl) (RS.opn (u:=.junk) (σ':=⟨[(2,.row (cGChart p1) 24),(1,.row (cGEdge p2) 42),(0,.row (cGChart p1) 24)],3⟩) rfl (op_store (sz_of inf24) rfl rfl rfl rfl rfl rfl rfl rfl) rfl ?_)
 repeat refine RS.as rfl rfl rfl rfl ?_
 refine sd ?_
 refine WPU.ret ?_
 refine st ?_
 have hr:=Option.some.inj hF
 subst hr
 exact ⟨.inr rfl,[.agg (cGChart p1),.int .i64 0,.int .i64 14],res_c (ld_agg und24 rfl (sz_of inf24) rfl rfl rfl) (res_t rfl (res_t rfl (res_n))),.tup [.agg (cGChart p1),.int .i64 0,.int .i64 14],⟨[],0⟩,Nat.le_refl _,Gh.toR (.tup [.agg (cGChart p1),.int .i64 0,.int .i64 14]) rfl,rfl,BU.h⟩
 replace hF:=cond_f h11 hF
 refine st ?_
 refine WPU.skip ?_
 refine st ?_
 obtain ⟨r12,h13,hF⟩:=bindO_some hF
 refine sr ?_
 refine RS.q (u:=.agg (cGChart p1)) rfl (ld_agg und24 rfl (sz_of inf24) rfl rfl rfl) (RS.q (u:=.agg (cGEdge p2)) rfl (ld_agg und42 rfl (sz_of inf42) rfl rfl rfl) (RS.call (u:=.bool r12) (args:=[.agg (cGChart p1),.agg (cGEdge p2)]) rfl (op_call rfl rfl fn34 hb34 rfl rfl) (chart_formed_ok n p1 p2 r12 h13 _) rfl rfl (RS.q (u:=.bool (!r12)) rfl (op_un rfl rfl rfl rfl) ?_)))
 refine sd ?_
 refine WPU.condS (t:=(!r12)) rfl (fun h14=>?_) (fun h14=>?_)
 replace hF:=cond_t h14 hF
 refine sr ?_
 refine RS.q (u:=.agg (cGChart p1)) rfl (ld_agg und24 rfl (sz_of inf24) rfl rfl rfl) (RS.opn (u:=.junk) (σ':=⟨[(2,.row (cGChart p1) 24),(1,.row (cGEdge p2) 42),(0,.row (cGChart p1) 24)],3⟩) rfl (op_store (sz_of inf24) rfl rfl rfl rfl rfl rfl rfl rfl) rfl ?_)
 repeat refine RS.as rfl rfl rfl rfl ?_
 refine sd ?_
 refine WPU.ret ?_
 refine st ?_
 have hr:=Option.some.inj hF
 subst hr
 exact ⟨.inr rfl,[.agg (cGChart p1),.int .i64 0,.int .i64 13],res_c (ld_agg und24 rfl (sz_of inf24) rfl rfl rfl) (res_t rfl (res_t rfl (res_n))),.tup [.agg (cGChart p1),.int .i64 0,.int .i64 13],⟨[],0⟩,Nat.le_refl _,Gh.toR (.tup [.agg (cGChart p1),.int .i64 0,.int .i64 13]) rfl,rfl,BU.h⟩
 replace hF:=cond_f h14 hF
 refine st ?_
 refine WPU.skip ?_
 refine sr ?_
 refine RS.q (u:=.ptr 0 0 1) rfl (op_fa und24 rfl (sz_of inf22) rfl rfl rfl) (RS.q (u:=.isl false (List.map cGEdge p1.Edges)) rfl (ld_one und22 rfl rfl rfl rfl) (RS.q rfl (op_len rfl rfl rfl (len_isl cGEdge und22)) (RS.mv rfl rfl rfl rfl ?_)))
 refine sd ?_
 refine WPU.ghost (tm':=fr 117 [(2,.ptr 0 0 0),(3,.ptr 1 0 0),(4,.ptr 2 0 0),(43,.isl false (List.map cGEdge p1.Edges)),(44,.int .i64 (p1.Edges.length:Int)),(45,.int .i64 0)]) (Gh.sub ⟨rfl,rfl,rfl,rfl,rfl,rfl,trivial⟩) (Nat.zero_le _) ?_
 refine WPU.loopK (fun m tm σ=>∃ z33:Int,chart_Add_L1 p1 p2 n m z33=some r∧tm=fr 117 [(2,.ptr 0 0 0),(3,.ptr 1 0 0),(4,.ptr 2 0 0),(43,.isl false (List.map cGEdge p1.Edges)),(44,.int .i64 (p1.Edges.length:Int)),(45,.int .i64 z33)]∧σ=⟨[(2,.row [.int .i64 0,.nils] 24),(1,.row (cGEdge p2) 42),(0,.row (cGChart p1) 24)],3⟩) (fun tm σ=>chart_Add_K1 p1 p2=some r∧tm=fr 117 [(2,.ptr 0 0 0),(3,.ptr 1 0 0),(4,.ptr 2 0 0)]∧σ=⟨[(2,.row [.int .i64 0,.nils] 24),(1,.row (cGEdge p2) 42),(0,.row (cGChart p1) 24)],3⟩) n ⟨0,hF,rfl,rfl⟩ ?_ ?_
 rintro _ _ ⟨hF,rfl,rfl⟩
 unfold chart_Add_K1 at hF
 refine sr ?_
 refine RS.q (u:=.ptr 0 0 1) rfl (op_fa und24 rfl (sz_of inf22) rfl rfl rfl) (RS.q (u:=.isl false (List.map cGEdge p1.Edges)) rfl (ld_one und22 rfl rfl rfl rfl) (RS.q rfl (op_len rfl rfl rfl (len_isl cGEdge und22)) ?_))
 refine sd ?_
 obtain ⟨l34,h35,hF⟩:=bindO_some hF
 obtain ⟨h36,hF⟩:=needO_some hF
 refine WPU.drawE Try.tb_ok [(0,8),(0,9),(1,8),(1,9),(2,8),(3,8),(4,8),(5,8),(6,8),(11,8),(11,9),(11,12)] (by kernel_rfl) ?_
 refine RD.q (u:=.ptr 0 0 0) rfl (op_fa und24 rfl (sz_of inf3) rfl rfl rfl) (RD.q (u:=.int .i64 p1.Words) rfl (ld_one und3 rfl rfl rfl rfl) (RD.q (u:=.ptr 0 0 1) rfl (op_fa und24 rfl (sz_of inf22) rfl rfl rfl) (RD.q (u:=.isl false (List.map cGEdge p1.Edges)) rfl (ld_one und22 rfl rfl rfl rfl) ?_)))
 repeat refine RD.mv rfl rfl rfl rfl ?_
 refine RD.q (u:=.isl true (List.map cGEdge l34)) rfl (op_slice rfl em_n (em_s rfl) (em_s rfl) (sl_full cGEdge und22 (sz_of inf42) len_cGEdge h35)) (RD.q (u:=.agg (cGEdge p2)) rfl (ld_agg und42 rfl (sz_of inf42) rfl rfl rfl) (RD.act (u:=.sl 3 0 1 1) (σ':=⟨[(3,.row (cGEdge p2) 42),(2,.row [.int .i64 0,.nils] 24),(1,.row (cGEdge p2) 42),(0,.row (cGChart p1) 24)],4⟩) rfl (op_bsl und22 inf42 rfl rfl rfl rfl rfl rfl rfl) rfl rfl (RD.act (u:=.vl 4 0 0 ((l34++[p2]).length)) (σ':=⟨[(4,.vec (List.map cGEdge (l34++[p2])).flatten 42 12 0),(3,.row (cGEdge p2) 42),(2,.row [.int .i64 0,.nils] 24),(1,.row (cGEdge p2) 42),(0,.row (cGChart p1) 24)],5⟩) rfl (op_app rfl rfl rfl rfl (app_full cGEdge ([p2]) und22 und22 inf42 rfl len_cGEdge (src_row cGEdge [p2] rfl rfl rfl rfl) (Nat.le_of_ble_eq_true rfl) h36)) rfl rfl (RD.q (u:=.agg [.int .i64 p1.Words,.vl 4 0 0 ((l34++[p2]).length)]) rfl (op_bld bd24 rfl rfl rfl) (RD.mv rfl rfl rfl rfl (RD.actn (u:=.junk) (σ':=⟨[(4,.vec (List.map cGEdge (l34++[p2])).flatten 42 12 0),(3,.row (cGEdge p2) 42),(2,.row [.int .i64 p1.Words,.vl 4 0 0 ((l34++[p2]).length)] 24),(1,.row (cGEdge p2) 42),(0,.row (cGChart p1) 24)],5⟩) rfl (op_store (sz_of inf24) rfl rfl rfl rfl rfl rfl rfl rfl) rfl ?_))))))
 repeat refine RD.as rfl rfl rfl rfl ?_
 refine RD.done ⟨by kernel_rfl,⟨op_fa und24 rfl (sz_of inf3) rfl rfl rfl,⟨op_fa und24 rfl (sz_of inf3) rfl rfl rfl,⟨ld_one und3 rfl rfl rfl rfl,⟨ld_one und3 rfl rfl rfl rfl,⟨op_fa und24 rfl (sz_of inf22) rfl rfl rfl,⟨ld_one und22 rfl rfl rfl rfl,⟨op_move rfl,⟨op_move rfl,⟨op_slice rfl em_n (em_s rfl) (em_s rfl) (sl_full cGEdge und22 (sz_of inf42) len_cGEdge h35),⟨op_move rfl,⟨op_move rfl,⟨op_move rfl,trivial⟩⟩⟩⟩⟩⟩⟩⟩⟩⟩⟩⟩,?_⟩
 refine st ?_
 refine WPU.ret ?_
 refine st ?_
 have hr:=Option.some.inj hF
 subst hr
 exact ⟨.inr rfl,[.agg [.int .i64 p1.Words,.vl 4 0 0 ((l34++[p2]).length)],.int .i64 (p1.Edges.length:Int),.int .i64 0],res_c (ld_agg und24 rfl (sz_of inf24) rfl rfl rfl) (res_t rfl (res_t rfl (res_n))),.tup [.agg [.int .i64 p1.Words,.isl false (List.map cGEdge (l34++[p2]))],.int .i64 (p1.Edges.length:Int),.int .i64 0],⟨[],0⟩,Nat.le_refl _,Gh.trans (Gh.fz (tm':=[.tup [.agg [.int .i64 p1.Words,.isl false (List.map cGEdge (l34++[p2]))],.int .i64 (p1.Edges.length:Int),.int .i64 0]]) (h':=[(3,.row (cGEdge p2) 42),(2,.row [.int .i64 p1.Words,.isl false (List.map cGEdge (l34++[p2]))] 24),(1,.row (cGEdge p2) 42),(0,.row (cGChart p1) 24)]) 4 (.vec (List.map cGEdge (l34++[p2])).flatten 42 12 0) 12 rfl (by simp) (by simp only [oneU,fzL_nil,fzL_cons,fz_int,fz_bool,fz_str,fz_nils,fz_nilp,fz_nilm,fz_nilf,fz_junk,fz_isl,fz_map,fz_agg,fz_tup,fz_fn,junkT,fz_vl len_cGEdge,fz_cGChart,fz_cGEdge]) (by simp only [fzH,fzB,ug,Nat.beq,cond_true,cond_false,oneU,fzL_nil,fzL_cons,fz_int,fz_bool,fz_str,fz_nils,fz_nilp,fz_nilm,fz_nilf,fz_junk,fz_isl,fz_map,fz_agg,fz_tup,fz_fn,junkT,fz_vl len_cGEdge,fz_cGChart,fz_cGEdge])) (Gh.toR (.tup [.agg [.int .i64 p1.Words,.isl false (List.map cGEdge (l34++[p2]))],.int .i64 (p1.Edges.length:Int),.int .i64 0]) rfl),rfl,BU.h⟩
 rintro m1 _ _ ⟨z33,hF,rfl,rfl⟩
 rcases m1 with _ | m1
 cases hF
 unfold chart_Add_L1 at hF
 refine sr ?_
 refine RS.q rfl (op_int rfl rfl (ix_lss _ _ _) rfl) ?_
 refine sd ?_
 refine WPU.condS (t:=(decide (z33<(p1.Edges.length:Int)))) rfl (fun h37=>?_) (fun h37=>?_)
 replace hF:=cond_t h37 hF
 refine st ?_
 refine WPU.skip ?_
 refine st ?_
 refine WPU.block ?_
 refine st ?_
 obtain ⟨x38,h39,hF⟩:=bindO_some hF
 refine sr ?_
 refine RS.q (u:=.iptr (cGEdge x38)) rfl (op_ia rfl rfl (ia_isl cGEdge und22 (sz_of inf42) len_cGEdge h39 rfl)) (RS.q (u:=.agg (cGEdge x38)) rfl (li_agg und42 rfl (sz_of inf42) rfl rfl) (RS.q (u:=.ptr 3 0 0) (σ':=⟨[(3,.row [.int .i64 0,.int .i64 0,.int .i64 0,.int .i64 0,.str [],.nils,.int .i64 0,.str [],.int .i64 0,.int .i64 0,.nils,.nils] 42),(2,.row [.int .i64 0,.nils] 24),(1,.row (cGEdge p2) 42),(0,.row (cGChart p1) 24)],4⟩) rfl (op_alloc inf42 rfl rfl) (RS.as rfl rfl rfl rfl (RS.opn (u:=.junk) (σ':=⟨[(3,.row (cGEdge x38) 42),(2,.row [.int .i64 0,.nils] 24),(1,.row (cGEdge p2) 42),(0,.row (cGChart p1) 24)],4⟩) rfl (op_store (sz_of inf42) rfl rfl rfl rfl rfl rfl rfl rfl) rfl ?_))))
 refine sd ?_
 obtain ⟨b43,h44,hF⟩:=bindO_some hF
 refine WPU.joinK (fun tm σ=>tm=fr 117 [(2,.ptr 0 0 0),(3,.ptr 1 0 0),(4,.ptr 2 0 0),(7,.int .i64 z33),(8,.ptr 3 0 0),(43,.isl false (List.map cGEdge p1.Edges)),(44,.int .i64 (p1.Edges.length:Int)),(45,.int .i64 z33),(75,.bool b43)]∧σ=⟨[(3,.row (cGEdge x38) 42),(2,.row [.int .i64 0,.nils] 24),(1,.row (cGEdge p2) 42),(0,.row (cGChart p1) 24)],4⟩) ?_ ?_
 rintro _ _ ⟨rfl,rfl⟩
 refine st ?_
 refine WPU.condS (t:=b43) rfl (fun h45=>?_) (fun h45=>?_)
 replace hF:=cond_t h45 hF
 refine st ?_
 refine WPU.exit ?_
 refine sr ?_
 refine RS.q rfl (op_int rfl rfl (ix_add _ _ _) rfl) (RS.mv rfl rfl rfl rfl ?_)
 refine sd ?_
 exact ⟨m1,_,_,Nat.lt_succ_self _,⟨(IntKind.i64.wrap (z33+1)),hF,rfl,rfl⟩,(Nat.zero_le _),Gh.toC (n1:=3) ⟨rfl,rfl,rfl,rfl,rfl,rfl,trivial⟩ rfl (Nat.zero_le _) (by simp)⟩
 replace hF:=cond_f h45 hF
 refine st ?_
 refine WPU.skip ?_
 refine st ?_
 obtain ⟨b56,h57,hF⟩:=bindO_some hF
 refine WPU.joinK (fun tm σ=>tm=fr 117 [(2,.ptr 0 0 0),(3,.ptr 1 0 0),(4,.ptr 2 0 0),(7,.int .i64 z33),(43,.isl false (List.map cGEdge p1.Edges)),(44,.int .i64 (p1.Edges.length:Int)),(45,.int .i64 z33),(98,.bool b56)]∧σ=⟨[(3,.row (cGEdge x38) 42),(2,.row [.int .i64 0,.nils] 24),(1,.row (cGEdge p2) 42),(0,.row (cGChart p1) 24)],4⟩) ?_ ?_
 rintro _ _ ⟨rfl,rfl⟩
 refine st ?_
 refine WPU.condS (t:=b56) rfl (fun h58=>?_) (fun h58=>?_)
 replace hF:=cond_t h58 hF
 refine sr ?_
 refine RS.q (u:=.agg (cGChart p1)) rfl (ld_agg und24 rfl (sz_of inf24) rfl rfl rfl) (RS.mv rfl rfl rfl rfl (RS.opn (u:=.junk) (σ':=⟨[(3,.row (cGEdge x38) 42),(2,.row (cGChart p1) 24),(1,.row (cGEdge p2) 42),(0,.row (cGChart p1) 24)],4⟩) rfl (op_store (sz_of inf24) rfl rfl rfl rfl rfl rfl rfl rfl) rfl ?_))
 repeat refine RS.as rfl rfl rfl rfl ?_
 refine sd ?_
 refine WPU.ret ?_
 refine st ?_
 have hr:=Option.some.inj hF
 subst hr
 exact ⟨.inr rfl,[.agg (cGChart p1),.int .i64 z33,.int .i64 4],res_c (ld_agg und24 rfl (sz_of inf24) rfl rfl rfl) (res_t rfl (res_t rfl (res_n))),.tup [.agg (cGChart p1),.int .i64 z33,.int .i64 4],⟨[],0⟩,Nat.le_refl _,Gh.toR (.tup [.agg (cGChart p1),.int .i64 z33,.int .i64 4]) rfl,rfl,BU.h⟩
 replace hF:=cond_f h58 hF
 refine st ?_
 refine WPU.skip ?_
 refine sr ?_
 refine RS.q rfl (op_int rfl rfl (ix_add _ _ _) rfl) (RS.mv rfl rfl rfl rfl ?_)
 refine sd ?_
 exact ⟨m1,_,_,Nat.lt_succ_self _,⟨(IntKind.i64.wrap (z33+1)),hF,rfl,rfl⟩,(Nat.zero_le _),Gh.toC (n1:=3) ⟨rfl,rfl,rfl,rfl,rfl,rfl,trivial⟩ rfl (Nat.zero_le _) (by simp)⟩
 rcases bool_tf (p2.Kind == 1) with h46 | h46
 replace h57:=cond_t h46 h57
 obtain ⟨r47,h48,h57⟩:=bindO_some h57
 rcases bool_tf (r47 == 0) with h49 | h49
 replace h57:=cond_t h49 h57
 replace h57:=Option.some.inj h57
 subst h57
 refine sr ?_
 refine RS.q (u:=.ptr 1 0 3) rfl (op_fa und42 rfl (sz_of inf3) rfl rfl rfl) (RS.q (u:=.int .i64 p2.Kind) rfl (ld_one und3 rfl rfl rfl rfl) (RS.q rfl (op_int rfl rfl (ix_eql _ _ _) rfl) (RS.mv rfl rfl rfl rfl (RS.op (u:=.ptr 3 0 6) (want1 rfl rfl rfl h46) (op_fa und42 rfl (sz_of inf37) rfl rfl rfl) rfl rfl (RS.op (u:=.agg (xGDeriv x38.Lex)) (want1 rfl rfl rfl h46) (ld_agg und37 rfl (sz_of inf37) rfl rfl rfl) rfl rfl (RS.op (u:=.ptr 1 0 6) (want1 rfl rfl rfl h46) (op_fa und42 rfl (sz_of inf37) rfl rfl rfl) rfl rfl (RS.op (u:=.agg (xGDeriv p2.Lex)) (want1 rfl rfl rfl h46) (ld_agg und37 rfl (sz_of inf37) rfl rfl rfl) rfl rfl ?_)))))))
 refine RS.call (u:=.int .i64 r47) (args:=[.agg (xGDeriv x38.Lex),.agg (xGDeriv p2.Lex)]) (want1 rfl rfl rfl h46) (op_call rfl rfl fn35 hb35 rfl rfl) (deriv_Compare_ok n x38.Lex p2.Lex r47 h48 _) rfl rfl (RS.op (want1 rfl rfl rfl h46) (op_int rfl rfl (ix_eql _ _ _) rfl) rfl rfl (RS.q (u:=.bool (r47 == 0)) rfl (op_pick1 rfl h46 rfl) (RS.mv rfl rfl rfl rfl ?_)))
 repeat refine RS.no (want0 rfl rfl rfl h49) rfl rfl ?_
 repeat refine RS.no (wantT rfl rfl rfl) rfl rfl ?_
 refine RS.no (want0 rfl rfl rfl h49) rfl rfl (RS.q (u:=.bool true) rfl (op_pick1 rfl h49 rfl) ?_)
 refine sd ?_
 exact ⟨_,_,⟨rfl,rfl⟩,(Nat.zero_le _),Gh.toC (n1:=4) ⟨rfl,rfl,rfl,rfl,rfl,rfl,rfl,rfl,trivial⟩ rfl (Nat.zero_le _) (by simp)⟩
 replace h57:=cond_f h49 h57
 rcases bool_tf (p2.Kind == 2) with h50 | h50
 replace h57:=cond_t h50 h57
 obtain ⟨r51,h52,h57⟩:=bindO_some h57
 replace h57:=Option.some.inj h57
 subst h57
 refine sr ?_
 refine RS.q (u:=.ptr 1 0 3) rfl (op_fa und42 rfl (sz_of inf3) rfl rfl rfl) (RS.q (u:=.int .i64 p2.Kind) rfl (ld_one und3 rfl rfl rfl rfl) (RS.q rfl (op_int rfl rfl (ix_eql _ _ _) rfl) (RS.mv rfl rfl rfl rfl (RS.op (u:=.ptr 3 0 6) (want1 rfl rfl rfl h46) (op_fa und42 rfl (sz_of inf37) rfl rfl rfl) rfl rfl (RS.op (u:=.agg (xGDeriv x38.Lex)) (want1 rfl rfl rfl h46) (ld_agg und37 rfl (sz_of inf37) rfl rfl rfl) rfl rfl (RS.op (u:=.ptr 1 0 6) (want1 rfl rfl rfl h46) (op_fa und42 rfl (sz_of inf37) rfl rfl rfl) rfl rfl (RS.op (u:=.agg (xGDeriv p2.Lex)) (want1 rfl rfl rfl h46) (ld_agg und37 rfl (sz_of inf37) rfl rfl rfl) rfl rfl ?_)))))))
 refine RS.call (u:=.int .i64 r47) (args:=[.agg (xGDeriv x38.Lex),.agg (xGDeriv p2.Lex)]) (want1 rfl rfl rfl h46) (op_call rfl rfl fn35 hb35 rfl rfl) (deriv_Compare_ok n x38.Lex p2.Lex r47 h48 _) rfl rfl (RS.op (want1 rfl rfl rfl h46) (op_int rfl rfl (ix_eql _ _ _) rfl) rfl rfl (RS.q (u:=.bool (r47 == 0)) rfl (op_pick1 rfl h46 rfl) (RS.mv rfl rfl rfl rfl (RS.op (u:=.ptr 1 0 3) (want1 rfl rfl rfl h49) (op_fa und42 rfl (sz_of inf3) rfl rfl rfl) rfl rfl (RS.op (u:=.int .i64 p2.Kind) (want1 rfl rfl rfl h49) (ld_one und3 rfl rfl rfl rfl) rfl rfl (RS.op (want1 rfl rfl rfl h49) (op_int rfl rfl (ix_eql _ _ _) rfl) rfl rfl (RS.op (want1 rfl rfl rfl h49) (op_move rfl) rfl rfl ?_)))))))
 refine RS.op (u:=.ptr 3 0 5) (want1 rfl rfl rfl h50) (op_fa und42 rfl (sz_of inf34) rfl rfl rfl) rfl rfl (RS.op (u:=.isl false (List.map (cI .i64) x38.Kids)) (want1 rfl rfl rfl h50) (ld_one und34 rfl rfl rfl rfl) rfl rfl (RS.op (u:=.ptr 1 0 5) (want1 rfl rfl rfl h50) (op_fa und42 rfl (sz_of inf34) rfl rfl rfl) rfl rfl (RS.op (u:=.isl false (List.map (cI .i64) p2.Kids)) (want1 rfl rfl rfl h50) (ld_one und34 rfl rfl rfl rfl) rfl rfl (RS.call (u:=.bool r51) (args:=[.isl false (List.map (cI .i64) x38.Kids),.isl false (List.map (cI .i64) p2.Kids)]) (want1 rfl rfl rfl h50) (op_call rfl rfl fn36 hb36 rfl rfl) (slices_Equal_int_ok n x38.Kids p2.Kids r51 h52 _) rfl rfl (RS.op (u:=.bool r51) (want1 rfl rfl rfl h49) (op_pick1 rfl h50 rfl) rfl rfl (RS.q (u:=.bool r51) rfl (op_pick0 rfl h49 rfl) ?_))))))
 refine sd ?_
 exact ⟨_,_,⟨rfl,rfl⟩,(Nat.zero_le _),Gh.toC (n1:=4) ⟨rfl,rfl,rfl,rfl,rfl,rfl,rfl,rfl,trivial⟩ rfl (Nat.zero_le _) (by simp)⟩
 replace h57:=cond_f h50 h57
 replace h57:=Option.some.inj h57
 subst h57
 refine sr ?_
 refine RS.q (u:=.ptr 1 0 3) rfl (op_fa und42 rfl (sz_of inf3) rfl rfl rfl) (RS.q (u:=.int .i64 p2.Kind) rfl (ld_one und3 rfl rfl rfl rfl) (RS.q rfl (op_int rfl rfl (ix_eql _ _ _) rfl) (RS.mv rfl rfl rfl rfl (RS.op (u:=.ptr 3 0 6) (want1 rfl rfl rfl h46) (op_fa und42 rfl (sz_of inf37) rfl rfl rfl) rfl rfl (RS.op (u:=.agg (xGDeriv x38.Lex)) (want1 rfl rfl rfl h46) (ld_agg und37 rfl (sz_of inf37) rfl rfl rfl) rfl rfl (RS.op (u:=.ptr 1 0 6) (want1 rfl rfl rfl h46) (op_fa und42 rfl (sz_of inf37) rfl rfl rfl) rfl rfl (RS.op (u:=.agg (xGDeriv p2.Lex)) (want1 rfl rfl rfl h46) (ld_agg und37 rfl (sz_of inf37) rfl rfl rfl) rfl rfl ?_)))))))
 refine RS.call (u:=.int .i64 r47) (args:=[.agg (xGDeriv x38.Lex),.agg (xGDeriv p2.Lex)]) (want1 rfl rfl rfl h46) (op_call rfl rfl fn35 hb35 rfl rfl) (deriv_Compare_ok n x38.Lex p2.Lex r47 h48 _) rfl rfl (RS.op (want1 rfl rfl rfl h46) (op_int rfl rfl (ix_eql _ _ _) rfl) rfl rfl (RS.q (u:=.bool (r47 == 0)) rfl (op_pick1 rfl h46 rfl) (RS.mv rfl rfl rfl rfl (RS.op (u:=.ptr 1 0 3) (want1 rfl rfl rfl h49) (op_fa und42 rfl (sz_of inf3) rfl rfl rfl) rfl rfl (RS.op (u:=.int .i64 p2.Kind) (want1 rfl rfl rfl h49) (ld_one und3 rfl rfl rfl rfl) rfl rfl (RS.op (want1 rfl rfl rfl h49) (op_int rfl rfl (ix_eql _ _ _) rfl) rfl rfl (RS.op (want1 rfl rfl rfl h49) (op_move rfl) rfl rfl ?_)))))))
 repeat refine RS.no (want0 rfl rfl rfl h50) rfl rfl ?_
 refine RS.op (u:=.bool false) (want1 rfl rfl rfl h49) (op_pick0 rfl h50 rfl) rfl rfl (RS.q (u:=.bool false) rfl (op_pick0 rfl h49 rfl) ?_)
 refine sd ?_
 exact ⟨_,_,⟨rfl,rfl⟩,(Nat.zero_le _),Gh.toC (n1:=4) ⟨rfl,rfl,rfl,rfl,rfl,rfl,rfl,rfl,trivial⟩ rfl (Nat.zero_le _) (by simp)⟩
 replace h57:=cond_f h46 h57
 rcases bool_tf (p2.Kind == 2) with h53 | h53
 replace h57:=cond_t h53 h57
 obtain ⟨r54,h55,h57⟩:=bindO_some h57
 replace h57:=Option.some.inj h57
 subst h57
 refine sr ?_
 refine RS.q (u:=.ptr 1 0 3) rfl (op_fa und42 rfl (sz_of inf3) rfl rfl rfl) (RS.q (u:=.int .i64 p2.Kind) rfl (ld_one und3 rfl rfl rfl rfl) (RS.q rfl (op_int rfl rfl (ix_eql _ _ _) rfl) (RS.mv rfl rfl rfl rfl ?_)))
 repeat refine RS.no (want0 rfl rfl rfl h46) rfl rfl ?_
 refine RS.q (u:=.bool false) rfl (op_pick0 rfl h46 rfl) (RS.mv rfl rfl rfl rfl (RS.op (u:=.ptr 1 0 3) (want1 rfl rfl rfl rfl) (op_fa und42 rfl (sz_of inf3) rfl rfl rfl) rfl rfl (RS.op (u:=.int .i64 p2.Kind) (want1 rfl rfl rfl rfl) (ld_one und3 rfl rfl rfl rfl) rfl rfl (RS.op (want1 rfl rfl rfl rfl) (op_int rfl rfl (ix_eql _ _ _) rfl) rfl rfl (RS.op (want1 rfl rfl rfl rfl) (op_move rfl) rfl rfl (RS.op (u:=.ptr 3 0 5) (want1 rfl rfl rfl h53) (op_fa und42 rfl (sz_of inf34) rfl rfl rfl) rfl rfl (RS.op (u:=.isl false (List.map (cI .i64) x38.Kids)) (want1 rfl rfl rfl h53) (ld_one und34 rfl rfl rfl rfl) rfl rfl ?_)))))))
 refine RS.op (u:=.ptr 1 0 5) (want1 rfl rfl rfl h53) (op_fa und42 rfl (sz_of inf34) rfl rfl rfl) rfl rfl (RS.op (u:=.isl false (List.map (cI .i64) p2.Kids)) (want1 rfl rfl rfl h53) (ld_one und34 rfl rfl rfl rfl) rfl rfl (RS.call (u:=.bool r54) (args:=[.isl false (List.map (cI .i64) x38.Kids),.isl false (List.map (cI .i64) p2.Kids)]) (want1 rfl rfl rfl h53) (op_call rfl rfl fn36 hb36 rfl rfl) (slices_Equal_int_ok n x38.Kids p2.Kids r54 h55 _) rfl rfl (RS.op (u:=.bool r54) (want1 rfl rfl rfl rfl) (op_pick1 rfl h53 rfl) rfl rfl (RS.q (u:=.bool r54) rfl (op_pick0 rfl rfl rfl) ?_))))
 refine sd ?_
 exact ⟨_,_,⟨rfl,rfl⟩,(Nat.zero_le _),Gh.toC (n1:=4) ⟨rfl,rfl,rfl,rfl,rfl,rfl,rfl,rfl,trivial⟩ rfl (Nat.zero_le _) (by simp)⟩
 replace h57:=cond_f h53 h57
 replace h57:=Option.some.inj h57
 subst h57
 refine sr ?_
 refine RS.q (u:=.ptr 1 0 3) rfl (op_fa und42 rfl (sz_of inf3) rfl rfl rfl) (RS.q (u:=.int .i64 p2.Kind) rfl (ld_one und3 rfl rfl rfl rfl) (RS.q rfl (op_int rfl rfl (ix_eql _ _ _) rfl) (RS.mv rfl rfl rfl rfl ?_)))
 repeat refine RS.no (want0 rfl rfl rfl h46) rfl rfl ?_
 refine RS.q (u:=.bool false) rfl (op_pick0 rfl h46 rfl) (RS.mv rfl rfl rfl rfl (RS.op (u:=.ptr 1 0 3) (want1 rfl rfl rfl rfl) (op_fa und42 rfl (sz_of inf3) rfl rfl rfl) rfl rfl (RS.op (u:=.int .i64 p2.Kind) (want1 rfl rfl rfl rfl) (ld_one und3 rfl rfl rfl rfl) rfl rfl (RS.op (want1 rfl rfl rfl rfl) (op_int rfl rfl (ix_eql _ _ _) rfl) rfl rfl (RS.op (want1 rfl rfl rfl rfl) (op_move rfl) rfl rfl ?_)))))
 repeat refine RS.no (want0 rfl rfl rfl h53) rfl rfl ?_
 refine RS.op (u:=.bool false) (want1 rfl rfl rfl rfl) (op_pick0 rfl h53 rfl) rfl rfl (RS.q (u:=.bool false) rfl (op_pick0 rfl rfl rfl) ?_)
 refine sd ?_
 exact ⟨_,_,⟨rfl,rfl⟩,(Nat.zero_le _),Gh.toC (n1:=4) ⟨rfl,rfl,rfl,rfl,rfl,rfl,rfl,rfl,trivial⟩ rfl (Nat.zero_le _) (by simp)⟩
 rcases bool_tf (x38.Kind != p2.Kind) with h40 | h40
 replace h44:=cond_t h40 h44
 replace h44:=Option.some.inj h44
 subst h44
 refine sr ?_
 refine RS.q (u:=.ptr 3 0 3) rfl (op_fa und42 rfl (sz_of inf3) rfl rfl rfl) (RS.q (u:=.int .i64 x38.Kind) rfl (ld_one und3 rfl rfl rfl rfl) (RS.q (u:=.ptr 1 0 3) rfl (op_fa und42 rfl (sz_of inf3) rfl rfl rfl) (RS.q (u:=.int .i64 p2.Kind) rfl (ld_one und3 rfl rfl rfl rfl) (RS.q rfl (op_int rfl rfl (ix_neq _ _ _) rfl) (RS.mv rfl rfl rfl rfl ?_)))))
 repeat refine RS.no (want0 rfl rfl rfl h40) rfl rfl ?_
 refine RS.q (u:=.bool true) rfl (op_pick1 rfl h40 rfl) (RS.mv rfl rfl rfl rfl ?_)
 repeat refine RS.no (want0 rfl rfl rfl rfl) rfl rfl ?_
 refine RS.q (u:=.bool true) rfl (op_pick1 rfl rfl rfl) (RS.mv rfl rfl rfl rfl ?_)
 repeat refine RS.no (want0 rfl rfl rfl rfl) rfl rfl ?_
 refine RS.q (u:=.bool true) rfl (op_pick1 rfl rfl rfl) ?_
 refine sd ?_
 exact ⟨_,_,⟨rfl,rfl⟩,(Nat.zero_le _),Gh.toC (n1:=4) ⟨rfl,rfl,rfl,rfl,rfl,rfl,rfl,rfl,rfl,trivial⟩ rfl (Nat.zero_le _) (by simp)⟩
 replace h44:=cond_f h40 h44
 rcases bool_tf (!bytesEq x38.Name p2.Name) with h41 | h41
 replace h44:=cond_t h41 h44
 replace h44:=Option.some.inj h44
 subst h44
 refine sr ?_
 refine RS.q (u:=.ptr 3 0 3) rfl (op_fa und42 rfl (sz_of inf3) rfl rfl rfl) (RS.q (u:=.int .i64 x38.Kind) rfl (ld_one und3 rfl rfl rfl rfl) (RS.q (u:=.ptr 1 0 3) rfl (op_fa und42 rfl (sz_of inf3) rfl rfl rfl) (RS.q (u:=.int .i64 p2.Kind) rfl (ld_one und3 rfl rfl rfl rfl) (RS.q rfl (op_int rfl rfl (ix_neq _ _ _) rfl) (RS.mv rfl rfl rfl rfl (RS.op (u:=.ptr 3 0 4) (want1 rfl rfl rfl h40) (op_fa und42 rfl (sz_of inf9) rfl rfl rfl) rfl rfl (RS.op (u:=.str x38.Name) (want1 rfl rfl rfl h40) (ld_one und9 rfl rfl rfl rfl) rfl rfl ?_)))))))
 refine RS.op (u:=.ptr 1 0 4) (want1 rfl rfl rfl h40) (op_fa und42 rfl (sz_of inf9) rfl rfl rfl) rfl rfl (RS.op (u:=.str p2.Name) (want1 rfl rfl rfl h40) (ld_one und9 rfl rfl rfl rfl) rfl rfl (RS.op (u:=.bool (!bytesEq x38.Name p2.Name)) (want1 rfl rfl rfl h40) (op_str rfl rfl rfl rfl) rfl rfl (RS.q (u:=.bool (!bytesEq x38.Name p2.Name)) rfl (op_pick0 rfl h40 rfl) (RS.mv rfl rfl rfl rfl ?_))))
 repeat refine RS.no (want0 rfl rfl rfl h41) rfl rfl ?_
 refine RS.q (u:=.bool true) rfl (op_pick1 rfl h41 rfl) (RS.mv rfl rfl rfl rfl ?_)
 repeat refine RS.no (want0 rfl rfl rfl rfl) rfl rfl ?_
 refine RS.q (u:=.bool true) rfl (op_pick1 rfl rfl rfl) ?_
 refine sd ?_
 exact ⟨_,_,⟨rfl,rfl⟩,(Nat.zero_le _),Gh.toC (n1:=4) ⟨rfl,rfl,rfl,rfl,rfl,rfl,rfl,rfl,rfl,trivial⟩ rfl (Nat.zero_le _) (by simp)⟩
 replace h44:=cond_f h41 h44
 rcases bool_tf (x38.From != p2.From) with h42 | h42
 replace h44:=cond_t h42 h44
 replace h44:=Option.some.inj h44
 subst h44
 refine sr ?_
 refine RS.q (u:=.ptr 3 0 3) rfl (op_fa und42 rfl (sz_of inf3) rfl rfl rfl) (RS.q (u:=.int .i64 x38.Kind) rfl (ld_one und3 rfl rfl rfl rfl) (RS.q (u:=.ptr 1 0 3) rfl (op_fa und42 rfl (sz_of inf3) rfl rfl rfl) (RS.q (u:=.int .i64 p2.Kind) rfl (ld_one und3 rfl rfl rfl rfl) (RS.q rfl (op_int rfl rfl (ix_neq _ _ _) rfl) (RS.mv rfl rfl rfl rfl (RS.op (u:=.ptr 3 0 4) (want1 rfl rfl rfl h40) (op_fa und42 rfl (sz_of inf9) rfl rfl rfl) rfl rfl (RS.op (u:=.str x38.Name) (want1 rfl rfl rfl h40) (ld_one und9 rfl rfl rfl rfl) rfl rfl ?_)))))))
 refine RS.op (u:=.ptr 1 0 4) (want1 rfl rfl rfl h40) (op_fa und42 rfl (sz_of inf9) rfl rfl rfl) rfl rfl (RS.op (u:=.str p2.Name) (want1 rfl rfl rfl h40) (ld_one und9 rfl rfl rfl rfl) rfl rfl (RS.op (u:=.bool (!bytesEq x38.Name p2.Name)) (want1 rfl rfl rfl h40) (op_str rfl rfl rfl rfl) rfl rfl (RS.q (u:=.bool (!bytesEq x38.Name p2.Name)) rfl (op_pick0 rfl h40 rfl) (RS.mv rfl rfl rfl rfl (RS.op (u:=.ptr 3 0 0) (want1 rfl rfl rfl h41) (op_fa und42 rfl (sz_of inf3) rfl rfl rfl) rfl rfl (RS.op (u:=.int .i64 x38.From) (want1 rfl rfl rfl h41) (ld_one und3 rfl rfl rfl rfl) rfl rfl (RS.op (u:=.ptr 1 0 0) (want1 rfl rfl rfl h41) (op_fa und42 rfl (sz_of inf3) rfl rfl rfl) rfl rfl ?_)))))))
 refine RS.op (u:=.int .i64 p2.From) (want1 rfl rfl rfl h41) (ld_one und3 rfl rfl rfl rfl) rfl rfl (RS.op (want1 rfl rfl rfl h41) (op_int rfl rfl (ix_neq _ _ _) rfl) rfl rfl (RS.q (u:=.bool (x38.From != p2.From)) rfl (op_pick0 rfl h41 rfl) (RS.mv rfl rfl rfl rfl ?_)))
 repeat refine RS.no (want0 rfl rfl rfl h42) rfl rfl ?_
 refine RS.q (u:=.bool true) rfl (op_pick1 rfl h42 rfl) ?_
 refine sd ?_
 exact ⟨_,_,⟨rfl,rfl⟩,(Nat.zero_le _),Gh.toC (n1:=4) ⟨rfl,rfl,rfl,rfl,rfl,rfl,rfl,rfl,rfl,trivial⟩ rfl (Nat.zero_le _) (by simp)⟩
 replace h44:=cond_f h42 h44
 replace h44:=Option.some.inj h44
 subst h44
 refine sr ?_
 refine RS.q (u:=.ptr 3 0 3) rfl (op_fa und42 rfl (sz_of inf3) rfl rfl rfl) (RS.q (u:=.int .i64 x38.Kind) rfl (ld_one und3 rfl rfl rfl rfl) (RS.q (u:=.ptr 1 0 3) rfl (op_fa und42 rfl (sz_of inf3) rfl rfl rfl) (RS.q (u:=.int .i64 p2.Kind) rfl (ld_one und3 rfl rfl rfl rfl) (RS.q rfl (op_int rfl rfl (ix_neq _ _ _) rfl) (RS.mv rfl rfl rfl rfl (RS.op (u:=.ptr 3 0 4) (want1 rfl rfl rfl h40) (op_fa und42 rfl (sz_of inf9) rfl rfl rfl) rfl rfl (RS.op (u:=.str x38.Name) (want1 rfl rfl rfl h40) (ld_one und9 rfl rfl rfl rfl) rfl rfl ?_)))))))
 refine RS.op (u:=.ptr 1 0 4) (want1 rfl rfl rfl h40) (op_fa und42 rfl (sz_of inf9) rfl rfl rfl) rfl rfl (RS.op (u:=.str p2.Name) (want1 rfl rfl rfl h40) (ld_one und9 rfl rfl rfl rfl) rfl rfl (RS.op (u:=.bool (!bytesEq x38.Name p2.Name)) (want1 rfl rfl rfl h40) (op_str rfl rfl rfl rfl) rfl rfl (RS.q (u:=.bool (!bytesEq x38.Name p2.Name)) rfl (op_pick0 rfl h40 rfl) (RS.mv rfl rfl rfl rfl (RS.op (u:=.ptr 3 0 0) (want1 rfl rfl rfl h41) (op_fa und42 rfl (sz_of inf3) rfl rfl rfl) rfl rfl (RS.op (u:=.int .i64 x38.From) (want1 rfl rfl rfl h41) (ld_one und3 rfl rfl rfl rfl) rfl rfl (RS.op (u:=.ptr 1 0 0) (want1 rfl rfl rfl h41) (op_fa und42 rfl (sz_of inf3) rfl rfl rfl) rfl rfl ?_)))))))
 refine RS.op (u:=.int .i64 p2.From) (want1 rfl rfl rfl h41) (ld_one und3 rfl rfl rfl rfl) rfl rfl (RS.op (want1 rfl rfl rfl h41) (op_int rfl rfl (ix_neq _ _ _) rfl) rfl rfl (RS.q (u:=.bool (x38.From != p2.From)) rfl (op_pick0 rfl h41 rfl) (RS.mv rfl rfl rfl rfl (RS.op (u:=.ptr 3 0 1) (want1 rfl rfl rfl h42) (op_fa und42 rfl (sz_of inf3) rfl rfl rfl) rfl rfl (RS.op (u:=.int .i64 x38.To) (want1 rfl rfl rfl h42) (ld_one und3 rfl rfl rfl rfl) rfl rfl (RS.op (u:=.ptr 1 0 1) (want1 rfl rfl rfl h42) (op_fa und42 rfl (sz_of inf3) rfl rfl rfl) rfl rfl (RS.op (u:=.int .i64 p2.To) (want1 rfl rfl rfl h42) (ld_one und3 rfl rfl rfl rfl) rfl rfl ?_)))))))
 refine RS.op (want1 rfl rfl rfl h42) (op_int rfl rfl (ix_neq _ _ _) rfl) rfl rfl (RS.q (u:=.bool (x38.To != p2.To)) rfl (op_pick0 rfl h42 rfl) ?_)
 refine sd ?_
 exact ⟨_,_,⟨rfl,rfl⟩,(Nat.zero_le _),Gh.toC (n1:=4) ⟨rfl,rfl,rfl,rfl,rfl,rfl,rfl,rfl,rfl,trivial⟩ rfl (Nat.zero_le _) (by simp)⟩
 replace hF:=cond_f h37 hF
 refine st ?_
 refine WPU.exit ?_
 refine st ?_
 exact ⟨_,_,⟨hF,rfl,rfl⟩,(Nat.zero_le _),Gh.toC (n1:=3) ⟨rfl,rfl,rfl,trivial⟩ rfl (Nat.zero_le _) (by simp)⟩
 rcases bool_tf (p2.Kind != 1) with h8 | h8
 replace h10:=cond_t h8 h10
 replace h10:=Option.some.inj h10
 subst h10
 refine sr ?_
 refine RS.q (u:=.ptr 1 0 3) rfl (op_fa und42 rfl (sz_of inf3) rfl rfl rfl) (RS.q (u:=.int .i64 p2.Kind) rfl (ld_one und3 rfl rfl rfl rfl) (RS.q rfl (op_int rfl rfl (ix_neq _ _ _) rfl) (RS.mv rfl rfl rfl rfl (RS.op (u:=.ptr 1 0 3) (want1 rfl rfl rfl h8) (op_fa und42 rfl (sz_of inf3) rfl rfl rfl) rfl rfl (RS.op (u:=.int .i64 p2.Kind) (want1 rfl rfl rfl h8) (ld_one und3 rfl rfl rfl rfl) rfl rfl (RS.op (want1 rfl rfl rfl h8) (op_int rfl rfl (ix_neq _ _ _) rfl) rfl rfl (RS.q (u:=.bool (p2.Kind != 2)) rfl (op_pick1 rfl h8 rfl) ?_)))))))
 refine sd ?_
 exact ⟨_,_,⟨rfl,rfl⟩,(Nat.zero_le _),Gh.toC (n1:=3) ⟨rfl,rfl,rfl,rfl,trivial⟩ rfl (Nat.zero_le _) (by simp)⟩
 replace h10:=cond_f h8 h10
 replace h10:=Option.some.inj h10
 subst h10
 refine sr ?_
 refine RS.q (u:=.ptr 1 0 3) rfl (op_fa und42 rfl (sz_of inf3) rfl rfl rfl) (RS.q (u:=.int .i64 p2.Kind) rfl (ld_one und3 rfl rfl rfl rfl) (RS.q rfl (op_int rfl rfl (ix_neq _ _ _) rfl) (RS.mv rfl rfl rfl rfl ?_)))
 repeat refine RS.no (want0 rfl rfl rfl h8) rfl rfl ?_
 refine RS.q (u:=.bool false) rfl (op_pick0 rfl h8 rfl) ?_
 refine sd ?_
 exact ⟨_,_,⟨rfl,rfl⟩,(Nat.zero_le _),Gh.toC (n1:=3) ⟨rfl,rfl,rfl,rfl,trivial⟩ rfl (Nat.zero_le _) (by simp)⟩
 rcases bool_tf (decide (p2.From<0)) with h3 | h3
 replace h6:=cond_t h3 h6
 replace h6:=Option.some.inj h6
 subst h6
 refine sr ?_
 refine RS.q (u:=.ptr 1 0 0) rfl (op_fa und42 rfl (sz_of inf3) rfl rfl rfl) (RS.q (u:=.int .i64 p2.From) rfl (ld_one und3 rfl rfl rfl rfl) (RS.q rfl (op_int rfl rfl (ix_lss _ _ _) rfl) (RS.mv rfl rfl rfl rfl ?_)))
 repeat refine RS.no (want0 rfl rfl rfl h3) rfl rfl ?_
 refine RS.q (u:=.bool true) rfl (op_pick1 rfl h3 rfl) (RS.mv rfl rfl rfl rfl ?_)
 repeat refine RS.no (want0 rfl rfl rfl rfl) rfl rfl ?_
 refine RS.q (u:=.bool true) rfl (op_pick1 rfl rfl rfl) ?_
 refine sd ?_
 exact ⟨_,_,⟨rfl,rfl⟩,(Nat.zero_le _),Gh.toC (n1:=3) ⟨rfl,rfl,rfl,rfl,trivial⟩ rfl (Nat.zero_le _) (by simp)⟩
 replace h6:=cond_f h3 h6
 rcases bool_tf (decide (p2.From ≥ p2.To)) with h4 | h4
 replace h6:=cond_t h4 h6
 replace h6:=Option.some.inj h6
 subst h6
 refine sr ?_
 refine RS.q (u:=.ptr 1 0 0) rfl (op_fa und42 rfl (sz_of inf3) rfl rfl rfl) (RS.q (u:=.int .i64 p2.From) rfl (ld_one und3 rfl rfl rfl rfl) (RS.q rfl (op_int rfl rfl (ix_lss _ _ _) rfl) (RS.mv rfl rfl rfl rfl (RS.op (u:=.ptr 1 0 0) (want1 rfl rfl rfl h3) (op_fa und42 rfl (sz_of inf3) rfl rfl rfl) rfl rfl (RS.op (u:=.int .i64 p2.From) (want1 rfl rfl rfl h3) (ld_one und3 rfl rfl rfl rfl) rfl rfl (RS.op (u:=.ptr 1 0 1) (want1 rfl rfl rfl h3) (op_fa und42 rfl (sz_of inf3) rfl rfl rfl) rfl rfl (RS.op (u:=.int .i64 p2.To) (want1 rfl rfl rfl h3) (ld_one und3 rfl rfl rfl rfl) rfl rfl ?_)))))))
 refine RS.op (want1 rfl rfl rfl h3) (op_int rfl rfl (ix_geq _ _ _) rfl) rfl rfl (RS.q (u:=.bool (decide (p2.From ≥ p2.To))) rfl (op_pick0 rfl h3 rfl) (RS.mv rfl rfl rfl rfl ?_))
 repeat refine RS.no (want0 rfl rfl rfl h4) rfl rfl ?_
 refine RS.q (u:=.bool true) rfl (op_pick1 rfl h4 rfl) ?_
 refine sd ?_
 exact ⟨_,_,⟨rfl,rfl⟩,(Nat.zero_le _),Gh.toC (n1:=3) ⟨rfl,rfl,rfl,rfl,trivial⟩ rfl (Nat.zero_le _) (by simp)⟩
 replace h6:=cond_f h4 h6
 replace h6:=Option.some.inj h6
 subst h6
 refine sr ?_
 refine RS.q (u:=.ptr 1 0 0) rfl (op_fa und42 rfl (sz_of inf3) rfl rfl rfl) (RS.q (u:=.int .i64 p2.From) rfl (ld_one und3 rfl rfl rfl rfl) (RS.q rfl (op_int rfl rfl (ix_lss _ _ _) rfl) (RS.mv rfl rfl rfl rfl (RS.op (u:=.ptr 1 0 0) (want1 rfl rfl rfl h3) (op_fa und42 rfl (sz_of inf3) rfl rfl rfl) rfl rfl (RS.op (u:=.int .i64 p2.From) (want1 rfl rfl rfl h3) (ld_one und3 rfl rfl rfl rfl) rfl rfl (RS.op (u:=.ptr 1 0 1) (want1 rfl rfl rfl h3) (op_fa und42 rfl (sz_of inf3) rfl rfl rfl) rfl rfl (RS.op (u:=.int .i64 p2.To) (want1 rfl rfl rfl h3) (ld_one und3 rfl rfl rfl rfl) rfl rfl ?_)))))))
 refine RS.op (want1 rfl rfl rfl h3) (op_int rfl rfl (ix_geq _ _ _) rfl) rfl rfl (RS.q (u:=.bool (decide (p2.From ≥ p2.To))) rfl (op_pick0 rfl h3 rfl) (RS.mv rfl rfl rfl rfl (RS.op (u:=.ptr 1 0 1) (want1 rfl rfl rfl h4) (op_fa und42 rfl (sz_of inf3) rfl rfl rfl) rfl rfl (RS.op (u:=.int .i64 p2.To) (want1 rfl rfl rfl h4) (ld_one und3 rfl rfl rfl rfl) rfl rfl (RS.op (u:=.ptr 0 0 0) (want1 rfl rfl rfl h4) (op_fa und24 rfl (sz_of inf3) rfl rfl rfl) rfl rfl (RS.op (u:=.int .i64 p1.Words) (want1 rfl rfl rfl h4) (ld_one und3 rfl rfl rfl rfl) rfl rfl (RS.op (want1 rfl rfl rfl h4) (op_int rfl rfl (ix_gtr _ _ _) rfl) rfl rfl ?_)))))))
 refine RS.q (u:=.bool (decide (p2.To > p1.Words))) rfl (op_pick0 rfl h4 rfl) ?_
 refine sd ?_
 exact ⟨_,_,⟨rfl,rfl⟩,(Nat.zero_le _),Gh.toC (n1:=3) ⟨rfl,rfl,rfl,rfl,trivial⟩ rfl (Nat.zero_le _) (by simp)⟩
theorem chart_Add_ok (n:Nat) (p1:GChart) (p2:GEdge) (r:GChart×Int×Int) (hF:chart_Add n p1 p2=some r) (σ:Sg):EvU Try.prog 14 [.agg (cGChart p1),.agg (cGEdge p2)] σ (fun u σ'=>u = .tup [.agg (cGChart r.1),.int .i64 r.2.1,.int .i64 r.2.2]∧σ'=σ) :=
 EvU.pure1C (chart_Add_0 n p1 p2 r hF) σ
def ref32_derivation_K1 (p2:GEdge) (l32:List GDeriv):Option (GDeriv) :=
 some (GDeriv.mk 2 p2.Name p2.From p2.To l32)
def ref32_derivation_L1 (p1:GChart) (p2:GEdge) (self:GChart→GEdge→Option (GDeriv)):Nat→Int→(List GDeriv)→Option (GDeriv)
 | 0,_,_=>none
 | m1+1,z29,l30 =>
  cond (decide (z29<(p2.Kids.length:Int)))
   (bindO (idxO p2.Kids z29) fun x35 =>
   bindO (idxO p1.Edges x35) fun x37 =>
   bindO (self p1 x37) fun r39 =>
   needO ((l30.length+1)*64≤140737488355328∧l30.length+1≤140737488355328) (
   (ref32_derivation_L1 p1 p2 self m1) (IntKind.i64.wrap (z29+1)) (l30++[r39])))
   (ref32_derivation_K1 p2 l30)
def ref32_derivation_b (n:Nat) (self:GChart→GEdge→Option (GDeriv)) (p1:GChart) (p2:GEdge):Option (GDeriv) :=
 cond (p2.Kind == 1)
  (some p2.Lex)
  (ref32_derivation_L1 p1 p2 self n 0 ([]:List GDeriv))
def ref32_derivation:Nat→GChart→GEdge→Option (GDeriv)
 | 0,_,_=>none
 | n+1,p1,p2=>ref32_derivation_b n (ref32_derivation n) p1 p2
def chart_numbers_Starting_1_J2 (z10:Int) (rc1:Int→(List Int)→Option ((List Int))) (l21:List Int):Option ((List Int)) :=
 rc1 (IntKind.i64.wrap (z10+1)) l21
def chart_numbers_Starting_1_K1  (l13:List Int):Option ((List Int)) :=
 some l13
def chart_numbers_Starting_1_L1 (p1:GChart) (c2:Int) (f1:GEdge→Int→Option (Bool)):Nat→Int→(List Int)→Option ((List Int))
 | 0,_,_=>none
 | m1+1,z10,l11 =>
  cond (decide (z10<(p1.Edges.length:Int)))
   (bindO (idxO p1.Edges z10) fun x16 =>
   bindO (f1 x16 c2) fun r18 =>
   cond r18
    (needO ((l11.length+1)*8≤140737488355328∧l11.length+1≤140737488355328) (
    chart_numbers_Starting_1_J2 z10 (chart_numbers_Starting_1_L1 p1 c2 f1 m1) (l11++[z10])))
    (chart_numbers_Starting_1_J2 z10 (chart_numbers_Starting_1_L1 p1 c2 f1 m1) l11))
   (chart_numbers_Starting_1_K1 l11)
def chart_numbers_Starting_1 (f1:GEdge→Int→Option (Bool)) (n:Nat) (p1:GChart) (c2:Int):Option ((List Int)) :=
 chart_numbers_Starting_1_L1 p1 c2 f1 n 0 ([]:List Int)
theorem chart_numbers_Starting_1_0 (f1:GEdge→Int→Option (Bool)) (hf1:∀ (a0:GEdge) (a1:Int) (r:Bool),f1 a0 a1=some r→EvU Try.prog 40 [.agg (cGEdge a0),.iptr [.int .i64 a1]] ⟨[],0⟩ (fun u _=>u = .bool r∧Bel 0 u)) (n:Nat) (p1:GChart) (c2:Int) (r:(List Int)) (hF:chart_numbers_Starting_1 f1 n p1 c2=some r):EvU Try.prog 39 [.agg (cGChart p1),.fn (.func 40) [] [.iptr [.int .i64 c2]]] ⟨[],0⟩ (fun u _=>u = .isl false (List.map (cI .i64) r)∧Bel 0 u):=by
 unfold chart_numbers_Starting_1 at hF
 have hf1S:∀ (a0:GEdge) (a1:Int) (r:Bool),f1 a0 a1=some r→∀ σ,EvU Try.prog 40 [.agg (cGEdge a0),.iptr [.int .i64 a1]] σ (fun u σ'=>u = .bool r∧σ'=σ):=fun a0 a1 r h σ=>EvU.pure1C (hf1 a0 a1 r h) σ
 refine EvU.of_body Try.tb_ok fn39 rfl ?_
 refine WPU.ghost (tm':=fr 25 [(0,.agg (cGChart p1)),(1,.fn (.func 40) [] [.iptr [.int .i64 c2]])]) (Gh.start (Nat.le_of_ble_eq_true rfl)) (Nat.zero_le _) ?_
 refine sr ?_
 refine RS.q (u:=.ptr 0 0 0) (σ':=⟨[(0,.row (cGChart p1) 24)],1⟩) rfl (op_box rfl rfl rfl) ?_
 refine se ?_
 refine se ?_
 refine RS.q (u:=.ptr 0 0 1) rfl (op_fa und24 rfl (sz_of inf22) rfl rfl rfl) (RS.q (u:=.isl false (List.map cGEdge p1.Edges)) rfl (ld_one und22 rfl rfl rfl rfl) (RS.q rfl (op_len rfl rfl rfl (len_isl cGEdge und22)) (RS.mv rfl rfl rfl rfl ?_)))
 refine sd ?_
 refine WPU.ghost (tm':=fr 25 [(1,.fn (.func 40) [] [.iptr [.int .i64 c2]]),(5,.vl 1 0 0 (([]:List Int).length)),(9,.isl false (List.map cGEdge p1.Edges)),(10,.int .i64 (p1.Edges.length:Int)),(11,.int .i64 0)]) (σ':=⟨[(1,.vec (List.map (cI .i64) ([]:List Int)).flatten 3 1 0),(0,.row (cGChart p1) 24)],2⟩) (Gh.trans (Gh.nilS 5 3 1 (by decide) (Nat.zero_le _) rfl rfl) (Gh.eqS ⟨rfl,rfl,rfl,rfl,rfl,trivial⟩ rfl)) (Nat.zero_le _) ?_
 refine WPU.ghost (tm':=fr 25 [(1,.fn (.func 40) [] [.iptr [.int .i64 c2]]),(5,.vl 1 0 0 (([]:List Int).length)),(9,.isl false (List.map cGEdge p1.Edges)),(10,.int .i64 (p1.Edges.length:Int)),(11,.int .i64 0)]) (Gh.sub ⟨rfl,rfl,rfl,rfl,rfl,trivial⟩) (Nat.zero_le _) ?_
 refine WPU.loopK (fun m tm σ=>∃ z10:Int,∃ l11:List Int,∃ t12:Nat,chart_numbers_Starting_1_L1 p1 c2 f1 m z10 l11=some r∧tm=fr 25 [(1,.fn (.func 40) [] [.iptr [.int .i64 c2]]),(5,.vl 1 t12 0 l11.length),(9,.isl false (List.map cGEdge p1.Edges)),(10,.int .i64 (p1.Edges.length:Int)),(11,.int .i64 z10)]∧σ=⟨[(1,.vec (List.map (cI .i64) l11).flatten 3 1 t12),(0,.row (cGChart p1) 24)],2⟩) (fun tm σ=>∃ l13:List Int,∃ t14:Nat,chart_numbers_Starting_1_K1 l13=some r∧tm=fr 25 [(5,.vl 1 t14 0 l13.length)]∧σ=⟨[(1,.vec (List.map (cI .i64) l13).flatten 3 1 t14),(0,.row (cGChart p1) 24)],2⟩) n ⟨0,([]:List Int),0,hF,rfl,rfl⟩ ?_ ?_
 rintro _ _ ⟨l13,t14,hF,rfl,rfl⟩
 unfold chart_numbers_Starting_1_K1 at hF
 refine sr ?_
 refine sd ?_
 refine WPU.ret ?_
 refine st ?_
 have hr:=Option.some.inj hF
 subst hr
 exact ⟨.inr rfl,[.vl 1 t14 0 l13.length],res_t rfl (res_n),.isl false (List.map (cI .i64) l13),⟨[],0⟩,Nat.le_refl _,Gh.trans (Gh.fz (tm':=[.isl false (List.map (cI .i64) l13)]) (h':=[(0,.row (cGChart p1) 24)]) 1 (.vec (List.map (cI .i64) l13).flatten 3 1 t14) 1 rfl (by simp) (by simp only [oneU,fzL_nil,fzL_cons,fz_int,fz_bool,fz_str,fz_nils,fz_nilp,fz_nilm,fz_nilf,fz_junk,fz_isl,fz_map,fz_agg,fz_tup,fz_fn,junkT,fz_vl (len_cI .i64),fz_cGChart]) (by simp only [fzH,fzB,ug,Nat.beq,cond_true,cond_false,oneU,fzL_nil,fzL_cons,fz_int,fz_bool,fz_str,fz_nils,fz_nilp,fz_nilm,fz_nilf,fz_junk,fz_isl,fz_map,fz_agg,fz_tup,fz_fn,junkT,fz_vl (len_cI .i64),fz_cGChart])) (Gh.toR (.isl false (List.map (cI .i64) l13)) rfl),rfl,BU.h⟩
 rintro m1 _ _ ⟨z10,l11,t12,hF,rfl,rfl⟩
 rcases m1 with _ | m1
 cases hF
 unfold chart_numbers_Starting_1_L1 at hF
 refine sr ?_
 refine RS.q rfl (op_int rfl rfl (ix_lss _ _ _) rfl) ?_
 refine sd ?_
 refine WPU.condS (t:=(decide (z10<(p1.Edges.length:Int)))) rfl (fun h15=>?_) (fun h15=>?_)
 replace hF:=cond_t h15 hF
 refine st ?_
 refine WPU.skip ?_
 refine st ?_
 refine WPU.block ?_
 refine st ?_
 obtain ⟨x16,h17,hF⟩:=bindO_some hF
 refine sr ?_
 refine RS.q (u:=.iptr (cGEdge x16)) rfl (op_ia rfl rfl (ia_isl cGEdge und22 (sz_of inf42) len_cGEdge h17 rfl)) (RS.q (u:=.agg (cGEdge x16)) rfl (li_agg und42 rfl (sz_of inf42) rfl rfl) (RS.q (u:=.ptr 2 0 0) (σ':=⟨[(2,.row [.int .i64 0,.int .i64 0,.int .i64 0,.int .i64 0,.str [],.nils,.int .i64 0,.str [],.int .i64 0,.int .i64 0,.nils,.nils] 42),(1,.vec (List.map (cI .i64) l11).flatten 3 1 t12),(0,.row (cGChart p1) 24)],3⟩) rfl (op_alloc inf42 rfl rfl) (RS.as rfl rfl rfl rfl (RS.opn (u:=.junk) (σ':=⟨[(2,.row (cGEdge x16) 42),(1,.vec (List.map (cI .i64) l11).flatten 3 1 t12),(0,.row (cGChart p1) 24)],3⟩) rfl (op_store (sz_of inf42) rfl rfl rfl rfl rfl rfl rfl rfl) rfl ?_))))
 refine sd ?_
 obtain ⟨r18,h19,hF⟩:=bindO_some hF
 refine sr ?_
 refine RS.q (u:=.agg (cGEdge x16)) rfl (ld_agg und42 rfl (sz_of inf42) rfl rfl rfl) (RS.call (u:=.bool r18) (args:=[.agg (cGEdge x16),.iptr [.int .i64 c2]]) rfl (op_call rfl rfl fn40 hb40 rfl rfl) (hf1S x16 c2 r18 h19 _) rfl rfl ?_)
 refine sd ?_
 refine WPU.joinK (fun tm σ=>∃ l21:List Int,∃ t22:Nat,chart_numbers_Starting_1_J2 z10 (chart_numbers_Starting_1_L1 p1 c2 f1 m1) l21=some r∧tm=fr 25 [(1,.fn (.func 40) [] [.iptr [.int .i64 c2]]),(5,.vl 1 t22 0 l21.length),(9,.isl false (List.map cGEdge p1.Edges)),(10,.int .i64 (p1.Edges.length:Int)),(11,.int .i64 z10)]∧σ=⟨[(2,.row (cGEdge x16) 42),(1,.vec (List.map (cI .i64) l21).flatten 3 1 t22),(0,.row (cGChart p1) 24)],3⟩) ?_ ?_
 rintro _ _ ⟨l21,t22,hF,rfl,rfl⟩
 unfold chart_numbers_Starting_1_J2 at hF
 refine sr ?_
 refine RS.q rfl (op_int rfl rfl (ix_add _ _ _) rfl) (RS.mv rfl rfl rfl rfl ?_)
 refine sd ?_
 exact ⟨m1,_,_,Nat.lt_succ_self _,⟨(IntKind.i64.wrap (z10+1)),l21,t22,hF,rfl,rfl⟩,(Nat.zero_le _),Gh.toC (n1:=2) ⟨rfl,rfl,rfl,rfl,rfl,trivial⟩ rfl (Nat.zero_le _) (by simp)⟩
 refine WPU.condS (t:=r18) rfl (fun h20=>?_) (fun h20=>?_)
 replace hF:=cond_t h20 hF
 refine st ?_
 obtain ⟨h23,hF⟩:=needO_some hF
 refine sr ?_
 repeat refine RS.mv rfl rfl rfl rfl ?_
 refine RS.q (u:=.sl 3 0 1 1) (σ':=⟨[(3,.row [.int .i64 z10] 3),(2,.row (cGEdge x16) 42),(1,.vec (List.map (cI .i64) l11).flatten 3 1 t12),(0,.row (cGChart p1) 24)],4⟩) rfl (op_bsl und34 inf3 rfl rfl rfl rfl rfl rfl rfl) (RS.q (u:=.vl 1 (t12+1) 0 ((l11++[z10]).length)) (σ':=⟨[(3,.row [.int .i64 z10] 3),(2,.row (cGEdge x16) 42),(1,.vec (List.map (cI .i64) (l11++[z10])).flatten 3 1 (t12+1)),(0,.row (cGChart p1) 24)],4⟩) rfl (op_app rfl rfl rfl rfl (app_vl (cI .i64) ([z10]) und34 und34 inf3 rfl (len_cI .i64) rfl (src_row (cI .i64) [z10] rfl rfl rfl rfl) h23)) ?_)
 refine sd ?_
 exact ⟨_,_,⟨(l11++[z10]),(t12+1),hF,rfl,rfl⟩,(Nat.zero_le _),Gh.toC (n1:=3) ⟨rfl,rfl,rfl,rfl,rfl,trivial⟩ rfl (Nat.zero_le _) (by simp)⟩
 replace hF:=cond_f h20 hF
 refine st ?_
 refine WPU.skip ?_
 refine st ?_
 exact ⟨_,_,⟨l11,t12,hF,rfl,rfl⟩,(Nat.zero_le _),Gh.toC (n1:=3) ⟨rfl,rfl,rfl,rfl,rfl,trivial⟩ rfl (Nat.zero_le _) (by simp)⟩
 replace hF:=cond_f h15 hF
 refine st ?_
 refine WPU.exit ?_
 refine st ?_
 exact ⟨_,_,⟨l11,t12,hF,rfl,rfl⟩,(Nat.zero_le _),Gh.toC (n1:=2) ⟨rfl,trivial⟩ rfl (Nat.zero_le _) (by simp)⟩
theorem chart_numbers_Starting_1_ok (f1:GEdge→Int→Option (Bool)) (hf1:∀ (a0:GEdge) (a1:Int) (r:Bool),f1 a0 a1=some r→EvU Try.prog 40 [.agg (cGEdge a0),.iptr [.int .i64 a1]] ⟨[],0⟩ (fun u _=>u = .bool r∧Bel 0 u)) (n:Nat) (p1:GChart) (c2:Int) (r:(List Int)) (hF:chart_numbers_Starting_1 f1 n p1 c2=some r) (σ:Sg):EvU Try.prog 39 [.agg (cGChart p1),.fn (.func 40) [] [.iptr [.int .i64 c2]]] σ (fun u σ'=>u = .isl false (List.map (cI .i64) r)∧σ'=σ) :=
 EvU.pure1C (chart_numbers_Starting_1_0 f1 hf1 n p1 c2 r hF) σ
def chart_Starting_1 (n:Nat) (p1:GEdge) (c2:Int):Option (Bool) :=
 some (p1.From == c2)
theorem chart_Starting_1_0 (n:Nat) (p1:GEdge) (c2:Int) (r:Bool) (hF:chart_Starting_1 n p1 c2=some r):EvU Try.prog 40 [.agg (cGEdge p1),.iptr [.int .i64 c2]] ⟨[],0⟩ (fun u _=>u = .bool r∧Bel 0 u):=by
 unfold chart_Starting_1 at hF
 refine EvU.of_body Try.tb_ok fn40 rfl ?_
 refine WPU.ghost (tm':=fr 8 [(0,.agg (cGEdge p1)),(1,.iptr [.int .i64 c2])]) (Gh.start (Nat.le_of_ble_eq_true rfl)) (Nat.zero_le _) ?_
 refine sr ?_
 refine RS.q (u:=.ptr 0 0 0) (σ':=⟨[(0,.row (cGEdge p1) 42)],1⟩) rfl (op_box rfl rfl rfl) ?_
 refine se ?_
 refine RS.q (u:=.ptr 0 0 0) rfl (op_fa und42 rfl (sz_of inf3) rfl rfl rfl) (RS.q (u:=.int .i64 p1.From) rfl (ld_one und3 rfl rfl rfl rfl) (RS.q (u:=.int .i64 c2) rfl (li_one und3 rfl rfl rfl) (RS.q rfl (op_int rfl rfl (ix_eql _ _ _) rfl) ?_)))
 refine sd ?_
 refine WPU.ret ?_
 refine st ?_
 have hr:=Option.some.inj hF
 subst hr
 exact ⟨.inr rfl,[.bool (p1.From == c2)],res_t rfl (res_n),.bool (p1.From == c2),⟨[],0⟩,Nat.le_refl _,Gh.toR (.bool (p1.From == c2)) rfl,rfl,BU.h⟩
def chart_Starting (n:Nat) (p1:GChart) (p2:Int):Option ((List Int)) :=
 bindO (chart_numbers_Starting_1 (chart_Starting_1 n) n p1 p2) fun r3 =>
 some r3
theorem chart_Starting_0 (n:Nat) (p1:GChart) (p2:Int) (r:(List Int)) (hF:chart_Starting n p1 p2=some r):EvU Try.prog 16 [.agg (cGChart p1),.int .i64 p2] ⟨[],0⟩ (fun u _=>u = .isl false (List.map (cI .i64) r)∧Bel 0 u):=by
 unfold chart_Starting at hF
 refine EvU.of_body Try.tb_ok fn16 rfl ?_
 refine WPU.ghost (tm':=fr 8 [(0,.agg (cGChart p1)),(1,.int .i64 p2)]) (Gh.start (Nat.le_of_ble_eq_true rfl)) (Nat.zero_le _) ?_
 refine sr ?_
 refine RS.q (u:=.ptr 0 0 0) (σ':=⟨[(0,.row (cGChart p1) 24)],1⟩) rfl (op_box rfl rfl rfl) (RS.q (u:=.ptr 1 0 0) (σ':=⟨[(1,.row [.int .i64 p2] 3),(0,.row (cGChart p1) 24)],2⟩) rfl (op_box rfl rfl rfl) ?_)
 refine sd ?_
 refine WPU.ghost (tm':=fr 8 [(2,.ptr 0 0 0),(3,.iptr [.int .i64 p2])]) (σ':=⟨[(0,.row (cGChart p1) 24)],2⟩) (Gh.trans (Gh.sub (l':=[(2,.ptr 0 0 0),(3,.ptr 1 0 0)]) ⟨rfl,rfl,trivial⟩) (Gh.fzS (l':=[(2,.ptr 0 0 0),(3,.iptr [.int .i64 p2])]) (h':=[(0,.row (cGChart p1) 24)]) 1 (.row [.int .i64 p2] 3) 1 rfl (by simp) (by simp only [fzS,oneU,fzL_nil,fzL_cons,fz_int,fz_bool,fz_str,fz_nils,fz_nilp,fz_nilm,fz_nilf,fz_junk,fz_isl,fz_map,fz_agg,fz_tup,fz_fn,junkT,fz_sl,fz_p0,fz_iptr,fz_cGChart,fz_vn (show Nat.beq 0 1=false from rfl),fz_sn (show Nat.beq 0 1=false from rfl),fz_pn (show Nat.beq 0 1=false from rfl),Nat.reduceLeDiff,Nat.reduceMul,List.length_cons,List.length_nil,Nat.reduceAdd]<;>simp only [chunks,List.take,List.drop,List.map,cI,cB,cS,cL]) (by simp only [fzH,fzB,ug,Nat.beq,cond_true,cond_false,oneU,fzL_nil,fzL_cons,fz_int,fz_bool,fz_str,fz_nils,fz_nilp,fz_nilm,fz_nilf,fz_junk,fz_isl,fz_map,fz_agg,fz_tup,fz_fn,junkT,fz_sl,fz_p0,fz_iptr,fz_cGChart,fz_vn (show Nat.beq 0 1=false from rfl),fz_sn (show Nat.beq 0 1=false from rfl),fz_pn (show Nat.beq 0 1=false from rfl),Nat.reduceLeDiff,Nat.reduceMul,List.length_cons,List.length_nil,Nat.reduceAdd]<;>simp only [chunks,List.take,List.drop,List.map,cI,cB,cS,cL]))) (Nat.zero_le _) ?_
 refine st ?_
 obtain ⟨r3,h4,hF⟩:=bindO_some hF
 refine sr ?_
 refine RS.q (u:=.agg (cGChart p1)) rfl (ld_agg und24 rfl (sz_of inf24) rfl rfl rfl) (RS.q rfl (op_fun rfl rfl) (RS.call (u:=.isl false (List.map (cI .i64) r3)) (args:=[.agg (cGChart p1),.fn (.func 40) [] [.iptr [.int .i64 p2]]]) rfl (op_call rfl rfl fn39 hb39 rfl rfl) (chart_numbers_Starting_1_ok (chart_Starting_1 n) (chart_Starting_1_0 n) n p1 p2 r3 h4 _) rfl rfl ?_))
 refine sd ?_
 refine WPU.ret ?_
 refine st ?_
 have hr:=Option.some.inj hF
 subst hr
 exact ⟨.inr rfl,[.isl false (List.map (cI .i64) r3)],res_t rfl (res_n),.isl false (List.map (cI .i64) r3),⟨[],0⟩,Nat.le_refl _,Gh.toR (.isl false (List.map (cI .i64) r3)) rfl,rfl,BU.h⟩
theorem chart_Starting_ok (n:Nat) (p1:GChart) (p2:Int) (r:(List Int)) (hF:chart_Starting n p1 p2=some r) (σ:Sg):EvU Try.prog 16 [.agg (cGChart p1),.int .i64 p2] σ (fun u σ'=>u = .isl false (List.map (cI .i64) r)∧σ'=σ) :=
 EvU.pure1C (chart_Starting_0 n p1 p2 r hF) σ
def chart_numbers_Ending_1_J2 (z10:Int) (rc1:Int→(List Int)→Option ((List Int))) (l21:List Int):Option ((List Int)) :=
 rc1 (IntKind.i64.wrap (z10+1)) l21
def chart_numbers_Ending_1_K1  (l13:List Int):Option ((List Int)) :=
 some l13
def chart_numbers_Ending_1_L1 (p1:GChart) (c2:Int) (f1:GEdge→Int→Option (Bool)):Nat→Int→(List Int)→Option ((List Int))
 | 0,_,_=>none
 | m1+1,z10,l11 =>
  cond (decide (z10<(p1.Edges.length:Int)))
   (bindO (idxO p1.Edges z10) fun x16 =>
   bindO (f1 x16 c2) fun r18 =>
   cond r18
    (needO ((l11.length+1)*8≤140737488355328∧l11.length+1≤140737488355328) (
    chart_numbers_Ending_1_J2 z10 (chart_numbers_Ending_1_L1 p1 c2 f1 m1) (l11++[z10])))
    (chart_numbers_Ending_1_J2 z10 (chart_numbers_Ending_1_L1 p1 c2 f1 m1) l11))
   (chart_numbers_Ending_1_K1 l11)
def chart_numbers_Ending_1 (f1:GEdge→Int→Option (Bool)) (n:Nat) (p1:GChart) (c2:Int):Option ((List Int)) :=
 chart_numbers_Ending_1_L1 p1 c2 f1 n 0 ([]:List Int)
theorem chart_numbers_Ending_1_0 (f1:GEdge→Int→Option (Bool)) (hf1:∀ (a0:GEdge) (a1:Int) (r:Bool),f1 a0 a1=some r→EvU Try.prog 41 [.agg (cGEdge a0),.iptr [.int .i64 a1]] ⟨[],0⟩ (fun u _=>u = .bool r∧Bel 0 u)) (n:Nat) (p1:GChart) (c2:Int) (r:(List Int)) (hF:chart_numbers_Ending_1 f1 n p1 c2=some r):EvU Try.prog 39 [.agg (cGChart p1),.fn (.func 41) [] [.iptr [.int .i64 c2]]] ⟨[],0⟩ (fun u _=>u = .isl false (List.map (cI .i64) r)∧Bel 0 u):=by
 unfold chart_numbers_Ending_1 at hF
 have hf1S:∀ (a0:GEdge) (a1:Int) (r:Bool),f1 a0 a1=some r→∀ σ,EvU Try.prog 41 [.agg (cGEdge a0),.iptr [.int .i64 a1]] σ (fun u σ'=>u = .bool r∧σ'=σ):=fun a0 a1 r h σ=>EvU.pure1C (hf1 a0 a1 r h) σ
 refine EvU.of_body Try.tb_ok fn39 rfl ?_
 refine WPU.ghost (tm':=fr 25 [(0,.agg (cGChart p1)),(1,.fn (.func 41) [] [.iptr [.int .i64 c2]])]) (Gh.start (Nat.le_of_ble_eq_true rfl)) (Nat.zero_le _) ?_
 refine sr ?_
 refine RS.q (u:=.ptr 0 0 0) (σ':=⟨[(0,.row (cGChart p1) 24)],1⟩) rfl (op_box rfl rfl rfl) ?_
 refine se ?_
 refine se ?_
 refine RS.q (u:=.ptr 0 0 1) rfl (op_fa und24 rfl (sz_of inf22) rfl rfl rfl) (RS.q (u:=.isl false (List.map cGEdge p1.Edges)) rfl (ld_one und22 rfl rfl rfl rfl) (RS.q rfl (op_len rfl rfl rfl (len_isl cGEdge und22)) (RS.mv rfl rfl rfl rfl ?_)))
 refine sd ?_
 refine WPU.ghost (tm':=fr 25 [(1,.fn (.func 41) [] [.iptr [.int .i64 c2]]),(5,.vl 1 0 0 (([]:List Int).length)),(9,.isl false (List.map cGEdge p1.Edges)),(10,.int .i64 (p1.Edges.length:Int)),(11,.int .i64 0)]) (σ':=⟨[(1,.vec (List.map (cI .i64) ([]:List Int)).flatten 3 1 0),(0,.row (cGChart p1) 24)],2⟩) (Gh.trans (Gh.nilS 5 3 1 (by decide) (Nat.zero_le _) rfl rfl) (Gh.eqS ⟨rfl,rfl,rfl,rfl,rfl,trivial⟩ rfl)) (Nat.zero_le _) ?_
 refine WPU.ghost (tm':=fr 25 [(1,.fn (.func 41) [] [.iptr [.int .i64 c2]]),(5,.vl 1 0 0 (([]:List Int).length)),(9,.isl false (List.map cGEdge p1.Edges)),(10,.int .i64 (p1.Edges.length:Int)),(11,.int .i64 0)]) (Gh.sub ⟨rfl,rfl,rfl,rfl,rfl,trivial⟩) (Nat.zero_le _) ?_
 refine WPU.loopK (fun m tm σ=>∃ z10:Int,∃ l11:List Int,∃ t12:Nat,chart_numbers_Ending_1_L1 p1 c2 f1 m z10 l11=some r∧tm=fr 25 [(1,.fn (.func 41) [] [.iptr [.int .i64 c2]]),(5,.vl 1 t12 0 l11.length),(9,.isl false (List.map cGEdge p1.Edges)),(10,.int .i64 (p1.Edges.length:Int)),(11,.int .i64 z10)]∧σ=⟨[(1,.vec (List.map (cI .i64) l11).flatten 3 1 t12),(0,.row (cGChart p1) 24)],2⟩) (fun tm σ=>∃ l13:List Int,∃ t14:Nat,chart_numbers_Ending_1_K1 l13=some r∧tm=fr 25 [(5,.vl 1 t14 0 l13.length)]∧σ=⟨[(1,.vec (List.map (cI .i64) l13).flatten 3 1 t14),(0,.row (cGChart p1) 24)],2⟩) n ⟨0,([]:List Int),0,hF,rfl,rfl⟩ ?_ ?_
 rintro _ _ ⟨l13,t14,hF,rfl,rfl⟩
 unfold chart_numbers_Ending_1_K1 at hF
 refine sr ?_
 refine sd ?_
 refine WPU.ret ?_
 refine st ?_
 have hr:=Option.some.inj hF
 subst hr
 exact ⟨.inr rfl,[.vl 1 t14 0 l13.length],res_t rfl (res_n),.isl false (List.map (cI .i64) l13),⟨[],0⟩,Nat.le_refl _,Gh.trans (Gh.fz (tm':=[.isl false (List.map (cI .i64) l13)]) (h':=[(0,.row (cGChart p1) 24)]) 1 (.vec (List.map (cI .i64) l13).flatten 3 1 t14) 1 rfl (by simp) (by simp only [oneU,fzL_nil,fzL_cons,fz_int,fz_bool,fz_str,fz_nils,fz_nilp,fz_nilm,fz_nilf,fz_junk,fz_isl,fz_map,fz_agg,fz_tup,fz_fn,junkT,fz_vl (len_cI .i64),fz_cGChart]) (by simp only [fzH,fzB,ug,Nat.beq,cond_true,cond_false,oneU,fzL_nil,fzL_cons,fz_int,fz_bool,fz_str,fz_nils,fz_nilp,fz_nilm,fz_nilf,fz_junk,fz_isl,fz_map,fz_agg,fz_tup,fz_fn,junkT,fz_vl (len_cI .i64),fz_cGChart])) (Gh.toR (.isl false (List.map (cI .i64) l13)) rfl),rfl,BU.h⟩
 rintro m1 _ _ ⟨z10,l11,t12,hF,rfl,rfl⟩
 rcases m1 with _ | m1
 cases hF
 unfold chart_numbers_Ending_1_L1 at hF
 refine sr ?_
 refine RS.q rfl (op_int rfl rfl (ix_lss _ _ _) rfl) ?_
 refine sd ?_
 refine WPU.condS (t:=(decide (z10<(p1.Edges.length:Int)))) rfl (fun h15=>?_) (fun h15=>?_)
 replace hF:=cond_t h15 hF
 refine st ?_
 refine WPU.skip ?_
 refine st ?_
 refine WPU.block ?_
 refine st ?_
 obtain ⟨x16,h17,hF⟩:=bindO_some hF
 refine sr ?_
 refine RS.q (u:=.iptr (cGEdge x16)) rfl (op_ia rfl rfl (ia_isl cGEdge und22 (sz_of inf42) len_cGEdge h17 rfl)) (RS.q (u:=.agg (cGEdge x16)) rfl (li_agg und42 rfl (sz_of inf42) rfl rfl) (RS.q (u:=.ptr 2 0 0) (σ':=⟨[(2,.row [.int .i64 0,.int .i64 0,.int .i64 0,.int .i64 0,.str [],.nils,.int .i64 0,.str [],.int .i64 0,.int .i64 0,.nils,.nils] 42),(1,.vec (List.map (cI .i64) l11).flatten 3 1 t12),(0,.row (cGChart p1) 24)],3⟩) rfl (op_alloc inf42 rfl rfl) (RS.as rfl rfl rfl rfl (RS.opn (u:=.junk) (σ':=⟨[(2,.row (cGEdge x16) 42),(1,.vec (List.map (cI .i64) l11).flatten 3 1 t12),(0,.row (cGChart p1) 24)],3⟩) rfl (op_store (sz_of inf42) rfl rfl rfl rfl rfl rfl rfl rfl) rfl ?_))))
 refine sd ?_
 obtain ⟨r18,h19,hF⟩:=bindO_some hF
 refine sr ?_
 refine RS.q (u:=.agg (cGEdge x16)) rfl (ld_agg und42 rfl (sz_of inf42) rfl rfl rfl) (RS.call (u:=.bool r18) (args:=[.agg (cGEdge x16),.iptr [.int .i64 c2]]) rfl (op_call rfl rfl fn41 hb41 rfl rfl) (hf1S x16 c2 r18 h19 _) rfl rfl ?_)
 refine sd ?_
 refine WPU.joinK (fun tm σ=>∃ l21:List Int,∃ t22:Nat,chart_numbers_Ending_1_J2 z10 (chart_numbers_Ending_1_L1 p1 c2 f1 m1) l21=some r∧tm=fr 25 [(1,.fn (.func 41) [] [.iptr [.int .i64 c2]]),(5,.vl 1 t22 0 l21.length),(9,.isl false (List.map cGEdge p1.Edges)),(10,.int .i64 (p1.Edges.length:Int)),(11,.int .i64 z10)]∧σ=⟨[(2,.row (cGEdge x16) 42),(1,.vec (List.map (cI .i64) l21).flatten 3 1 t22),(0,.row (cGChart p1) 24)],3⟩) ?_ ?_
 rintro _ _ ⟨l21,t22,hF,rfl,rfl⟩
 unfold chart_numbers_Ending_1_J2 at hF
 refine sr ?_
 refine RS.q rfl (op_int rfl rfl (ix_add _ _ _) rfl) (RS.mv rfl rfl rfl rfl ?_)
 refine sd ?_
 exact ⟨m1,_,_,Nat.lt_succ_self _,⟨(IntKind.i64.wrap (z10+1)),l21,t22,hF,rfl,rfl⟩,(Nat.zero_le _),Gh.toC (n1:=2) ⟨rfl,rfl,rfl,rfl,rfl,trivial⟩ rfl (Nat.zero_le _) (by simp)⟩
 refine WPU.condS (t:=r18) rfl (fun h20=>?_) (fun h20=>?_)
 replace hF:=cond_t h20 hF
 refine st ?_
 obtain ⟨h23,hF⟩:=needO_some hF
 refine sr ?_
 repeat refine RS.mv rfl rfl rfl rfl ?_
 refine RS.q (u:=.sl 3 0 1 1) (σ':=⟨[(3,.row [.int .i64 z10] 3),(2,.row (cGEdge x16) 42),(1,.vec (List.map (cI .i64) l11).flatten 3 1 t12),(0,.row (cGChart p1) 24)],4⟩) rfl (op_bsl und34 inf3 rfl rfl rfl rfl rfl rfl rfl) (RS.q (u:=.vl 1 (t12+1) 0 ((l11++[z10]).length)) (σ':=⟨[(3,.row [.int .i64 z10] 3),(2,.row (cGEdge x16) 42),(1,.vec (List.map (cI .i64) (l11++[z10])).flatten 3 1 (t12+1)),(0,.row (cGChart p1) 24)],4⟩) rfl (op_app rfl rfl rfl rfl (app_vl (cI .i64) ([z10]) und34 und34 inf3 rfl (len_cI .i64) rfl (src_row (cI .i64) [z10] rfl rfl rfl rfl) h23)) ?_)
 refine sd ?_
 exact ⟨_,_,⟨(l11++[z10]),(t12+1),hF,rfl,rfl⟩,(Nat.zero_le _),Gh.toC (n1:=3) ⟨rfl,rfl,rfl,rfl,rfl,trivial⟩ rfl (Nat.zero_le _) (by simp)⟩
 replace hF:=cond_f h20 hF
 refine st ?_
 refine WPU.skip ?_
 refine st ?_
 exact ⟨_,_,⟨l11,t12,hF,rfl,rfl⟩,(Nat.zero_le _),Gh.toC (n1:=3) ⟨rfl,rfl,rfl,rfl,rfl,trivial⟩ rfl (Nat.zero_le _) (by simp)⟩
 replace hF:=cond_f h15 hF
 refine st ?_
 refine WPU.exit ?_
 refine st ?_
 exact ⟨_,_,⟨l11,t12,hF,rfl,rfl⟩,(Nat.zero_le _),Gh.toC (n1:=2) ⟨rfl,trivial⟩ rfl (Nat.zero_le _) (by simp)⟩
theorem chart_numbers_Ending_1_ok (f1:GEdge→Int→Option (Bool)) (hf1:∀ (a0:GEdge) (a1:Int) (r:Bool),f1 a0 a1=some r→EvU Try.prog 41 [.agg (cGEdge a0),.iptr [.int .i64 a1]] ⟨[],0⟩ (fun u _=>u = .bool r∧Bel 0 u)) (n:Nat) (p1:GChart) (c2:Int) (r:(List Int)) (hF:chart_numbers_Ending_1 f1 n p1 c2=some r) (σ:Sg):EvU Try.prog 39 [.agg (cGChart p1),.fn (.func 41) [] [.iptr [.int .i64 c2]]] σ (fun u σ'=>u = .isl false (List.map (cI .i64) r)∧σ'=σ) :=
 EvU.pure1C (chart_numbers_Ending_1_0 f1 hf1 n p1 c2 r hF) σ
def chart_Ending_1 (n:Nat) (p1:GEdge) (c2:Int):Option (Bool) :=
 some (p1.To == c2)
theorem chart_Ending_1_0 (n:Nat) (p1:GEdge) (c2:Int) (r:Bool) (hF:chart_Ending_1 n p1 c2=some r):EvU Try.prog 41 [.agg (cGEdge p1),.iptr [.int .i64 c2]] ⟨[],0⟩ (fun u _=>u = .bool r∧Bel 0 u):=by
 unfold chart_Ending_1 at hF
 refine EvU.of_body Try.tb_ok fn41 rfl ?_
 refine WPU.ghost (tm':=fr 8 [(0,.agg (cGEdge p1)),(1,.iptr [.int .i64 c2])]) (Gh.start (Nat.le_of_ble_eq_true rfl)) (Nat.zero_le _) ?_
 refine sr ?_
 refine RS.q (u:=.ptr 0 0 0) (σ':=⟨[(0,.row (cGEdge p1) 42)],1⟩) rfl (op_box rfl rfl rfl) ?_
 refine se ?_
 refine RS.q (u:=.ptr 0 0 1) rfl (op_fa und42 rfl (sz_of inf3) rfl rfl rfl) (RS.q (u:=.int .i64 p1.To) rfl (ld_one und3 rfl rfl rfl rfl) (RS.q (u:=.int .i64 c2) rfl (li_one und3 rfl rfl rfl) (RS.q rfl (op_int rfl rfl (ix_eql _ _ _) rfl) ?_)))
 refine sd ?_
 refine WPU.ret ?_
 refine st ?_
 have hr:=Option.some.inj hF
 subst hr
 exact ⟨.inr rfl,[.bool (p1.To == c2)],res_t rfl (res_n),.bool (p1.To == c2),⟨[],0⟩,Nat.le_refl _,Gh.toR (.bool (p1.To == c2)) rfl,rfl,BU.h⟩
def chart_Ending (n:Nat) (p1:GChart) (p2:Int):Option ((List Int)) :=
 bindO (chart_numbers_Ending_1 (chart_Ending_1 n) n p1 p2) fun r3 =>
 some r3
theorem chart_Ending_0 (n:Nat) (p1:GChart) (p2:Int) (r:(List Int)) (hF:chart_Ending n p1 p2=some r):EvU Try.prog 18 [.agg (cGChart p1),.int .i64 p2] ⟨[],0⟩ (fun u _=>u = .isl false (List.map (cI .i64) r)∧Bel 0 u):=by
 unfold chart_Ending at hF
 refine EvU.of_body Try.tb_ok fn18 rfl ?_
 refine WPU.ghost (tm':=fr 8 [(0,.agg (cGChart p1)),(1,.int .i64 p2)]) (Gh.start (Nat.le_of_ble_eq_true rfl)) (Nat.zero_le _) ?_
 refine sr ?_
 refine RS.q (u:=.ptr 0 0 0) (σ':=⟨[(0,.row (cGChart p1) 24)],1⟩) rfl (op_box rfl rfl rfl) (RS.q (u:=.ptr 1 0 0) (σ':=⟨[(1,.row [.int .i64 p2] 3),(0,.row (cGChart p1) 24)],2⟩) rfl (op_box rfl rfl rfl) ?_)
 refine sd ?_
 refine WPU.ghost (tm':=fr 8 [(2,.ptr 0 0 0),(3,.iptr [.int .i64 p2])]) (σ':=⟨[(0,.row (cGChart p1) 24)],2⟩) (Gh.trans (Gh.sub (l':=[(2,.ptr 0 0 0),(3,.ptr 1 0 0)]) ⟨rfl,rfl,trivial⟩) (Gh.fzS (l':=[(2,.ptr 0 0 0),(3,.iptr [.int .i64 p2])]) (h':=[(0,.row (cGChart p1) 24)]) 1 (.row [.int .i64 p2] 3) 1 rfl (by simp) (by simp only [fzS,oneU,fzL_nil,fzL_cons,fz_int,fz_bool,fz_str,fz_nils,fz_nilp,fz_nilm,fz_nilf,fz_junk,fz_isl,fz_map,fz_agg,fz_tup,fz_fn,junkT,fz_sl,fz_p0,fz_iptr,fz_cGChart,fz_vn (show Nat.beq 0 1=false from rfl),fz_sn (show Nat.beq 0 1=false from rfl),fz_pn (show Nat.beq 0 1=false from rfl),Nat.reduceLeDiff,Nat.reduceMul,List.length_cons,List.length_nil,Nat.reduceAdd]<;>simp only [chunks,List.take,List.drop,List.map,cI,cB,cS,cL]) (by simp only [fzH,fzB,ug,Nat.beq,cond_true,cond_false,oneU,fzL_nil,fzL_cons,fz_int,fz_bool,fz_str,fz_nils,fz_nilp,fz_nilm,fz_nilf,fz_junk,fz_isl,fz_map,fz_agg,fz_tup,fz_fn,junkT,fz_sl,fz_p0,fz_iptr,fz_cGChart,fz_vn (show Nat.beq 0 1=false from rfl),fz_sn (show Nat.beq 0 1=false from rfl),fz_pn (show Nat.beq 0 1=false from rfl),Nat.reduceLeDiff,Nat.reduceMul,List.length_cons,List.length_nil,Nat.reduceAdd]<;>simp only [chunks,List.take,List.drop,List.map,cI,cB,cS,cL]))) (Nat.zero_le _) ?_
 refine st ?_
 obtain ⟨r3,h4,hF⟩:=bindO_some hF
 refine sr ?_
 refine RS.q (u:=.agg (cGChart p1)) rfl (ld_agg und24 rfl (sz_of inf24) rfl rfl rfl) (RS.q rfl (op_fun rfl rfl) (RS.call (u:=.isl false (List.map (cI .i64) r3)) (args:=[.agg (cGChart p1),.fn (.func 41) [] [.iptr [.int .i64 p2]]]) rfl (op_call rfl rfl fn39 hb39 rfl rfl) (chart_numbers_Ending_1_ok (chart_Ending_1 n) (chart_Ending_1_0 n) n p1 p2 r3 h4 _) rfl rfl ?_))
 refine sd ?_
 refine WPU.ret ?_
 refine st ?_
 have hr:=Option.some.inj hF
 subst hr
 exact ⟨.inr rfl,[.isl false (List.map (cI .i64) r3)],res_t rfl (res_n),.isl false (List.map (cI .i64) r3),⟨[],0⟩,Nat.le_refl _,Gh.toR (.isl false (List.map (cI .i64) r3)) rfl,rfl,BU.h⟩
theorem chart_Ending_ok (n:Nat) (p1:GChart) (p2:Int) (r:(List Int)) (hF:chart_Ending n p1 p2=some r) (σ:Sg):EvU Try.prog 18 [.agg (cGChart p1),.int .i64 p2] σ (fun u σ'=>u = .isl false (List.map (cI .i64) r)∧σ'=σ) :=
 EvU.pure1C (chart_Ending_0 n p1 p2 r hF) σ
def chart_derivation_K1 (p2:GEdge) (l34:List GDeriv):Option (GDeriv) :=
 some (GDeriv.mk 2 p2.Name p2.From p2.To l34)
def chart_derivation_L1 (p1:GChart) (p2:GEdge) (self:GChart→GEdge→Option (GDeriv)):Nat→Int→(List GDeriv)→Option (GDeriv)
 | 0,_,_=>none
 | m1+1,z31,l32 =>
  cond (decide (z31<(p2.Kids.length:Int)))
   (bindO (idxO p2.Kids z31) fun x37 =>
   bindO (idxO p1.Edges x37) fun x39 =>
   bindO (self p1 x39) fun r41 =>
   needO ((l32.length+1)*64≤140737488355328∧l32.length+1≤140737488355328) (
   (chart_derivation_L1 p1 p2 self m1) (IntKind.i64.wrap (z31+1)) (l32++[r41])))
   (chart_derivation_K1 p2 l32)
def chart_derivation_b (n:Nat) (self:GChart→GEdge→Option (GDeriv)) (p1:GChart) (p2:GEdge):Option (GDeriv) :=
 cond (p2.Kind == 1)
  (some p2.Lex)
  (chart_derivation_L1 p1 p2 self n 0 ([]:List GDeriv))
def chart_derivation:Nat→GChart→GEdge→Option (GDeriv)
 | 0,_,_=>none
 | n+1,p1,p2=>chart_derivation_b n (chart_derivation n) p1 p2
theorem chart_derivation_0:∀ (n:Nat) (p1:GChart) (p2:GEdge) (r:GDeriv),chart_derivation n p1 p2=some r→EvU Try.prog 43 [.agg (cGChart p1),.agg (cGEdge p2)] ⟨[],0⟩ (fun u _=>u = .agg (xGDeriv r)∧Bel 0 u)
 | 0,p1,p2,r,hF=>by cases hF
 | n+1,p1,p2,r,hF=>by
  have ih:=chart_derivation_0 n
  have ihS:∀ (p1:GChart) (p2:GEdge) (r:GDeriv),chart_derivation n p1 p2=some r→∀ σ,EvU Try.prog 43 [.agg (cGChart p1),.agg (cGEdge p2)] σ (fun u σ'=>u = .agg (xGDeriv r)∧σ'=σ):=fun p1 p2 r h σ=>EvU.pure1C (ih p1 p2 r h) σ
  unfold chart_derivation chart_derivation_b at hF
  refine EvU.of_body Try.tb_ok fn43 rfl ?_
  refine WPU.ghost (tm':=fr 41 [(0,.agg (cGChart p1)),(1,.agg (cGEdge p2))]) (Gh.start (Nat.le_of_ble_eq_true rfl)) (Nat.zero_le _) ?_
  refine sr ?_
  refine RS.q (u:=.ptr 0 0 0) (σ':=⟨[(0,.row (cGChart p1) 24)],1⟩) rfl (op_box rfl rfl rfl) (RS.q (u:=.ptr 1 0 0) (σ':=⟨[(1,.row (cGEdge p2) 42),(0,.row (cGChart p1) 24)],2⟩) rfl (op_box rfl rfl rfl) (RS.q (u:=.ptr 2 0 0) (σ':=⟨[(2,.row [.int .i64 0,.str [],.int .i64 0,.int .i64 0,.nils] 37),(1,.row (cGEdge p2) 42),(0,.row (cGChart p1) 24)],3⟩) rfl (op_alloc inf37 rfl rfl) ?_))
  refine se ?_
  refine RS.q (u:=.ptr 1 0 3) rfl (op_fa und42 rfl (sz_of inf3) rfl rfl rfl) (RS.q (u:=.int .i64 p2.Kind) rfl (ld_one und3 rfl rfl rfl rfl) (RS.q rfl (op_int rfl rfl (ix_eql _ _ _) rfl) ?_))
  refine sd ?_
  refine WPU.condS (t:=(p2.Kind == 1)) rfl (fun h3=>?_) (fun h3=>?_)
  replace hF:=cond_t h3 hF
  refine sr ?_
  refine RS.q (u:=.ptr 1 0 6) rfl (op_fa und42 rfl (sz_of inf37) rfl rfl rfl) (RS.q (u:=.agg (xGDeriv p2.Lex)) rfl (ld_agg und37 rfl (sz_of inf37) rfl rfl rfl) (RS.opn (u:=.junk) (σ':=⟨[(2,.row (xGDeriv p2.Lex) 37),(1,.row (cGEdge p2) 42),(0,.row (cGChart p1) 24)],3⟩) rfl (op_store (sz_of inf37) rfl rfl rfl rfl rfl rfl rfl rfl) rfl ?_))
  refine sd ?_
  refine WPU.ret ?_
  refine st ?_
  have hr:=Option.some.inj hF
  subst hr
  exact ⟨.inr rfl,[.agg (xGDeriv p2.Lex)],res_c (ld_agg und37 rfl (sz_of inf37) rfl rfl rfl) (res_n),.agg (xGDeriv p2.Lex),⟨[],0⟩,Nat.le_refl _,Gh.toR (.agg (xGDeriv p2.Lex)) rfl,rfl,BU.h⟩
  replace hF:=cond_f h3 hF
  refine st ?_
  refine WPU.skip ?_
  refine sr ?_
  refine RS.q (u:=.ptr 1 0 4) rfl (op_fa und42 rfl (sz_of inf9) rfl rfl rfl) (RS.q (u:=.str p2.Name) rfl (ld_one und9 rfl rfl rfl rfl) (RS.q (u:=.ptr 1 0 0) rfl (op_fa und42 rfl (sz_of inf3) rfl rfl rfl) (RS.q (u:=.int .i64 p2.From) rfl (ld_one und3 rfl rfl rfl rfl) (RS.q (u:=.ptr 1 0 1) rfl (op_fa und42 rfl (sz_of inf3) rfl rfl rfl) (RS.q (u:=.int .i64 p2.To) rfl (ld_one und3 rfl rfl rfl rfl) (RS.q (u:=.agg [.int .i64 2,.str p2.Name,.int .i64 p2.From,.int .i64 p2.To,.nils]) rfl (op_bld bd37 rfl rfl rfl) (RS.q (u:=.ptr 3 0 0) (σ':=⟨[(3,.row [.int .i64 0,.str [],.int .i64 0,.int .i64 0,.nils] 37),(2,.row [.int .i64 0,.str [],.int .i64 0,.int .i64 0,.nils] 37),(1,.row (cGEdge p2) 42),(0,.row (cGChart p1) 24)],4⟩) rfl (op_alloc inf37 rfl rfl) ?_)))))))
  refine RS.opn (u:=.junk) (σ':=⟨[(3,.row [.int .i64 2,.str p2.Name,.int .i64 p2.From,.int .i64 p2.To,.nils] 37),(2,.row [.int .i64 0,.str [],.int .i64 0,.int .i64 0,.nils] 37),(1,.row (cGEdge p2) 42),(0,.row (cGChart p1) 24)],4⟩) rfl (op_store (sz_of inf37) rfl rfl rfl rfl rfl rfl rfl rfl) rfl ?_
  refine se ?_
  refine RS.q (u:=.ptr 1 0 5) rfl (op_fa und42 rfl (sz_of inf34) rfl rfl rfl) (RS.q (u:=.isl false (List.map (cI .i64) p2.Kids)) rfl (ld_one und34 rfl rfl rfl rfl) (RS.q rfl (op_len rfl rfl rfl (len_isl (cI .i64) und34)) (RS.mv rfl rfl rfl rfl ?_)))
  refine sd ?_
  refine WPU.ghost (tm':=fr 41 [(2,.ptr 0 0 0),(4,.ptr 2 0 0),(5,.ptr 3 0 0),(21,.isl false (List.map (cI .i64) p2.Kids)),(22,.int .i64 (p2.Kids.length:Int)),(23,.int .i64 0)]) (σ':=⟨[(4,.vec (List.map cGDeriv ([]:List GDeriv)).flatten 37 5 0),(3,.row [.int .i64 2,.str p2.Name,.int .i64 p2.From,.int .i64 p2.To,.vl 4 0 0 (([]:List GDeriv).length)] 37),(2,.row [.int .i64 0,.str [],.int .i64 0,.int .i64 0,.nils] 37),(1,.row (cGEdge p2) 42),(0,.row (cGChart p1) 24)],5⟩) (Gh.trans (Gh.nilC 3 4 37 5 (by decide) (Nat.zero_le _) rfl rfl) (Gh.eqS ⟨rfl,rfl,rfl,rfl,rfl,rfl,trivial⟩ rfl)) (Nat.zero_le _) ?_
  refine WPU.ghost (tm':=fr 41 [(2,.ptr 0 0 0),(4,.ptr 2 0 0),(5,.ptr 3 0 0),(21,.isl false (List.map (cI .i64) p2.Kids)),(22,.int .i64 (p2.Kids.length:Int)),(23,.int .i64 0)]) (Gh.sub ⟨rfl,rfl,rfl,rfl,rfl,rfl,trivial⟩) (Nat.zero_le _) ?_
  refine WPU.loopK (fun m tm σ=>∃ z31:Int,∃ l32:List GDeriv,∃ t33:Nat,chart_derivation_L1 p1 p2 (chart_derivation n) m z31 l32=some r∧tm=fr 41 [(2,.ptr 0 0 0),(4,.ptr 2 0 0),(5,.ptr 3 0 0),(21,.isl false (List.map (cI .i64) p2.Kids)),(22,.int .i64 (p2.Kids.length:Int)),(23,.int .i64 z31)]∧σ=⟨[(4,.vec (List.map cGDeriv l32).flatten 37 5 t33),(3,.row [.int .i64 2,.str p2.Name,.int .i64 p2.From,.int .i64 p2.To,.vl 4 t33 0 l32.length] 37),(2,.row [.int .i64 0,.str [],.int .i64 0,.int .i64 0,.nils] 37),(1,.row (cGEdge p2) 42),(0,.row (cGChart p1) 24)],5⟩) (fun tm σ=>∃ l34:List GDeriv,∃ t35:Nat,chart_derivation_K1 p2 l34=some r∧tm=fr 41 [(4,.ptr 2 0 0),(5,.ptr 3 0 0)]∧σ=⟨[(4,.vec (List.map cGDeriv l34).flatten 37 5 t35),(3,.row [.int .i64 2,.str p2.Name,.int .i64 p2.From,.int .i64 p2.To,.vl 4 t35 0 l34.length] 37),(2,.row [.int .i64 0,.str [],.int .i64 0,.int .i64 0,.nils] 37),(1,.row (cGEdge p2) 42),(0,.row (cGChart p1) 24)],5⟩) n ⟨0,([]:List GDeriv),0,hF,rfl,rfl⟩ ?_ ?_
  rintro _ _ ⟨l34,t35,hF,rfl,rfl⟩
  unfold chart_derivation_K1 at hF
  refine sr ?_
  refine RS.q (u:=.agg [.int .i64 2,.str p2.Name,.int .i64 p2.From,.int .i64 p2.To,.vl 4 t35 0 l34.length]) rfl (ld_agg und37 rfl (sz_of inf37) rfl rfl rfl) (RS.opn (u:=.junk) (σ':=⟨[(4,.vec (List.map cGDeriv l34).flatten 37 5 t35),(3,.row [.int .i64 2,.str p2.Name,.int .i64 p2.From,.int .i64 p2.To,.vl 4 t35 0 l34.length] 37),(2,.row [.int .i64 2,.str p2.Name,.int .i64 p2.From,.int .i64 p2.To,.vl 4 t35 0 l34.length] 37),(1,.row (cGEdge p2) 42),(0,.row (cGChart p1) 24)],5⟩) rfl (op_store (sz_of inf37) rfl rfl rfl rfl rfl rfl rfl rfl) rfl ?_)
  refine sd ?_
  refine WPU.ret ?_
  refine st ?_
  have hr:=Option.some.inj hF
  subst hr
  exact ⟨.inr rfl,[.agg [.int .i64 2,.str p2.Name,.int .i64 p2.From,.int .i64 p2.To,.vl 4 t35 0 l34.length]],res_c (ld_agg und37 rfl (sz_of inf37) rfl rfl rfl) (res_n),.agg [.int .i64 2,.str p2.Name,.int .i64 p2.From,.int .i64 p2.To,.isl false (List.map cGDeriv l34)],⟨[],0⟩,Nat.le_refl _,Gh.trans (Gh.fz (tm':=[.agg [.int .i64 2,.str p2.Name,.int .i64 p2.From,.int .i64 p2.To,.isl false (List.map cGDeriv l34)]]) (h':=[(3,.row [.int .i64 2,.str p2.Name,.int .i64 p2.From,.int .i64 p2.To,.isl false (List.map cGDeriv l34)] 37),(2,.row [.int .i64 2,.str p2.Name,.int .i64 p2.From,.int .i64 p2.To,.isl false (List.map cGDeriv l34)] 37),(1,.row (cGEdge p2) 42),(0,.row (cGChart p1) 24)]) 4 (.vec (List.map cGDeriv l34).flatten 37 5 t35) 5 rfl (by simp) (by simp only [oneU,fzL_nil,fzL_cons,fz_int,fz_bool,fz_str,fz_nils,fz_nilp,fz_nilm,fz_nilf,fz_junk,fz_isl,fz_map,fz_agg,fz_tup,fz_fn,junkT,fz_vl len_cGDeriv,fz_cGChart,fz_cGEdge]) (by simp only [fzH,fzB,ug,Nat.beq,cond_true,cond_false,oneU,fzL_nil,fzL_cons,fz_int,fz_bool,fz_str,fz_nils,fz_nilp,fz_nilm,fz_nilf,fz_junk,fz_isl,fz_map,fz_agg,fz_tup,fz_fn,junkT,fz_vl len_cGDeriv,fz_cGChart,fz_cGEdge])) (Gh.toR (.agg [.int .i64 2,.str p2.Name,.int .i64 p2.From,.int .i64 p2.To,.isl false (List.map cGDeriv l34)]) rfl),rfl,BU.h⟩
  rintro m1 _ _ ⟨z31,l32,t33,hF,rfl,rfl⟩
  rcases m1 with _ | m1
  cases hF
  unfold chart_derivation_L1 at hF
  refine sr ?_
  refine RS.q rfl (op_int rfl rfl (ix_lss _ _ _) rfl) ?_
  refine sd ?_
  refine WPU.condS (t:=(decide (z31<(p2.Kids.length:Int)))) rfl (fun h36=>?_) (fun h36=>?_)
  replace hF:=cond_t h36 hF
  refine st ?_
  refine WPU.skip ?_
  refine st ?_
  refine WPU.block ?_
  refine st ?_
  obtain ⟨x37,h38,hF⟩:=bindO_some hF
  refine sr ?_
  refine RS.q (u:=.iptr [.int .i64 x37]) rfl (op_ia rfl rfl (ia_isl (cI .i64) und34 (sz_of inf3) (len_cI .i64) h38 rfl)) (RS.q (u:=.int .i64 x37) rfl (li_one und3 rfl rfl rfl) ?_)
  refine sd ?_
  obtain ⟨x39,h40,hF⟩:=bindO_some hF
  obtain ⟨r41,h42,hF⟩:=bindO_some hF
  obtain ⟨h43,hF⟩:=needO_some hF
  refine WPU.drawE Try.tb_ok [(0,9),(1,9)] (by kernel_rfl) ?_
  refine RD.q (u:=.ptr 3 0 4) rfl (op_fa und37 rfl (sz_of inf35) rfl rfl rfl) (RD.q (u:=.vl 4 t33 0 l32.length) rfl (ld_one und35 rfl rfl rfl rfl) (RD.q (u:=.agg (cGChart p1)) rfl (ld_agg und24 rfl (sz_of inf24) rfl rfl rfl) (RD.q (u:=.ptr 0 0 1) rfl (op_fa und24 rfl (sz_of inf22) rfl rfl rfl) (RD.q (u:=.isl false (List.map cGEdge p1.Edges)) rfl (ld_one und22 rfl rfl rfl rfl) (RD.mv rfl rfl rfl rfl (RD.q (u:=.iptr (cGEdge x39)) rfl (op_ia rfl rfl (ia_isl cGEdge und22 (sz_of inf42) len_cGEdge h40 rfl)) (RD.q (u:=.agg (cGEdge x39)) rfl (li_agg und42 rfl (sz_of inf42) rfl rfl) ?_)))))))
  refine RD.free (u:=.agg (xGDeriv r41)) (args:=[.agg (cGChart p1),.agg (cGEdge x39)]) rfl (op_call rfl rfl fn43 hb43 rfl rfl) (fun s=>ihS p1 x39 r41 h42 s) rfl rfl (RD.act (u:=.sl 5 0 1 1) (σ':=⟨[(5,.row (xGDeriv r41) 37),(4,.vec (List.map cGDeriv l32).flatten 37 5 t33),(3,.row [.int .i64 2,.str p2.Name,.int .i64 p2.From,.int .i64 p2.To,.vl 4 t33 0 l32.length] 37),(2,.row [.int .i64 0,.str [],.int .i64 0,.int .i64 0,.nils] 37),(1,.row (cGEdge p2) 42),(0,.row (cGChart p1) 24)],6⟩) rfl (op_bsl und35 inf37 rfl rfl rfl rfl rfl rfl rfl) rfl rfl ?_)
  refine RD.act (u:=.vl 4 (t33+1) 0 ((l32++[r41]).length)) (σ':=⟨[(5,.row (xGDeriv r41) 37),(4,.vec (List.map cGDeriv (l32++[r41])).flatten 37 5 (t33+1)),(3,.row [.int .i64 2,.str p2.Name,.int .i64 p2.From,.int .i64 p2.To,.vl 4 t33 0 l32.length] 37),(2,.row [.int .i64 0,.str [],.int .i64 0,.int .i64 0,.nils] 37),(1,.row (cGEdge p2) 42),(0,.row (cGChart p1) 24)],6⟩) rfl (op_app rfl rfl rfl rfl (app_vl cGDeriv ([r41]) und35 und35 inf37 rfl len_cGDeriv rfl (src_row cGDeriv [r41] rfl rfl rfl (by simp only [List.map,List.flatten,List.append_nil,cGDeriv_eq,xGDeriv,GDeriv.Kind,GDeriv.Name,GDeriv.From,GDeriv.To,GDeriv.Kids]; rfl)) h43)) rfl rfl ?_
  refine RD.q (u:=.ptr 3 0 4) rfl (op_fa und37 rfl (sz_of inf35) rfl rfl rfl) (RD.actn (u:=.junk) (σ':=⟨[(5,.row (xGDeriv r41) 37),(4,.vec (List.map cGDeriv (l32++[r41])).flatten 37 5 (t33+1)),(3,.row [.int .i64 2,.str p2.Name,.int .i64 p2.From,.int .i64 p2.To,.vl 4 (t33+1) 0 ((l32++[r41]).length)] 37),(2,.row [.int .i64 0,.str [],.int .i64 0,.int .i64 0,.nils] 37),(1,.row (cGEdge p2) 42),(0,.row (cGChart p1) 24)],6⟩) rfl (op_store (sz_of inf35) rfl rfl rfl rfl rfl rfl rfl rfl) rfl ?_)
  refine RD.done ⟨by kernel_rfl,⟨op_fa und37 rfl (sz_of inf35) rfl rfl rfl,⟨ld_one und35 rfl rfl rfl rfl,trivial⟩⟩,?_⟩
  refine sr ?_
  refine RS.q rfl (op_int rfl rfl (ix_add _ _ _) rfl) (RS.mv rfl rfl rfl rfl ?_)
  refine sd ?_
  exact ⟨m1,_,_,Nat.lt_succ_self _,⟨(IntKind.i64.wrap (z31+1)),(l32++[r41]),(t33+1),hF,rfl,rfl⟩,(Nat.zero_le _),Gh.toC (n1:=5) ⟨rfl,rfl,rfl,rfl,rfl,rfl,trivial⟩ rfl (Nat.zero_le _) (by simp)⟩
  replace hF:=cond_f h36 hF
  refine st ?_
  refine WPU.exit ?_
  refine st ?_
  exact ⟨_,_,⟨l32,t33,hF,rfl,rfl⟩,(Nat.zero_le _),Gh.toC (n1:=5) ⟨rfl,rfl,trivial⟩ rfl (Nat.zero_le _) (by simp)⟩
theorem chart_derivation_ok (n:Nat) (p1:GChart) (p2:GEdge) (r:GDeriv) (hF:chart_derivation n p1 p2=some r) (σ:Sg):EvU Try.prog 43 [.agg (cGChart p1),.agg (cGEdge p2)] σ (fun u σ'=>u = .agg (xGDeriv r)∧σ'=σ) :=
 EvU.pure1C (chart_derivation_0 n p1 p2 r hF) σ
def chart_Deriv (n:Nat) (p1:GChart) (p2:Int):Option (GDeriv) :=
 bindO (cond (decide (p2<0))
  (some true)
  (some (decide (p2 ≥ (p1.Edges.length:Int))))) fun b4 =>
 cond b4
  (some (GDeriv.mk 0 [] 0 0 []))
  (bindO (idxO p1.Edges p2) fun x7 =>
  bindO (chart_derivation n p1 x7) fun r9 =>
  some r9)
theorem chart_Deriv_0 (n:Nat) (p1:GChart) (p2:Int) (r:GDeriv) (hF:chart_Deriv n p1 p2=some r):EvU Try.prog 22 [.agg (cGChart p1),.int .i64 p2] ⟨[],0⟩ (fun u _=>u = .agg (xGDeriv r)∧Bel 0 u):=by
 unfold chart_Deriv at hF
 refine EvU.of_body Try.tb_ok fn22 rfl ?_
 refine WPU.ghost (tm':=fr 22 [(0,.agg (cGChart p1)),(1,.int .i64 p2)]) (Gh.start (Nat.le_of_ble_eq_true rfl)) (Nat.zero_le _) ?_
 refine sr ?_
 refine RS.q (u:=.ptr 0 0 0) (σ':=⟨[(0,.row (cGChart p1) 24)],1⟩) rfl (op_box rfl rfl rfl) (RS.q (u:=.ptr 1 0 0) (σ':=⟨[(1,.row [.int .i64 0,.str [],.int .i64 0,.int .i64 0,.nils] 37),(0,.row (cGChart p1) 24)],2⟩) rfl (op_alloc inf37 rfl rfl) ?_)
 refine sd ?_
 obtain ⟨b4,h5,hF⟩:=bindO_some hF
 refine WPU.joinK (fun tm σ=>tm=fr 22 [(1,.int .i64 p2),(2,.ptr 0 0 0),(4,.ptr 1 0 0),(13,.bool b4)]∧σ=⟨[(1,.row [.int .i64 0,.str [],.int .i64 0,.int .i64 0,.nils] 37),(0,.row (cGChart p1) 24)],2⟩) ?_ ?_
 rintro _ _ ⟨rfl,rfl⟩
 refine st ?_
 refine WPU.condS (t:=b4) rfl (fun h6=>?_) (fun h6=>?_)
 replace hF:=cond_t h6 hF
 refine sr ?_
 refine RS.q (u:=.agg [.int .i64 0,.str [],.int .i64 0,.int .i64 0,.nils]) rfl (op_bld bd37 rfl rfl rfl) (RS.opn (u:=.junk) (σ':=⟨[(1,.row [.int .i64 0,.str [],.int .i64 0,.int .i64 0,.nils] 37),(0,.row (cGChart p1) 24)],2⟩) rfl (op_store (sz_of inf37) rfl rfl rfl rfl rfl rfl rfl rfl) rfl ?_)
 refine sd ?_
 refine WPU.ret ?_
 refine st ?_
 have hr:=Option.some.inj hF
 subst hr
 exact ⟨.inr rfl,[.agg [.int .i64 0,.str [],.int .i64 0,.int .i64 0,.nils]],res_c (ld_agg und37 rfl (sz_of inf37) rfl rfl rfl) (res_n),.agg [.int .i64 0,.str [],.int .i64 0,.int .i64 0,.isl false []],⟨[],0⟩,Nat.le_refl _,Gh.trans (Gh.wk (.cons (.agg (.cons (.refl _) (.cons (.refl _) (.cons (.refl _) (.cons (.refl _) (.cons (.nil false) .nil)))))) .nil)) (Gh.toR (.agg [.int .i64 0,.str [],.int .i64 0,.int .i64 0,.isl false []]) rfl),rfl,BU.h⟩
 replace hF:=cond_f h6 hF
 refine st ?_
 refine WPU.skip ?_
 refine st ?_
 obtain ⟨x7,h8,hF⟩:=bindO_some hF
 obtain ⟨r9,h10,hF⟩:=bindO_some hF
 refine WPU.drawE Try.tb_ok [] (by kernel_rfl) ?_
 refine RD.q (u:=.agg (cGChart p1)) rfl (ld_agg und24 rfl (sz_of inf24) rfl rfl rfl) (RD.q (u:=.ptr 0 0 1) rfl (op_fa und24 rfl (sz_of inf22) rfl rfl rfl) (RD.q (u:=.isl false (List.map cGEdge p1.Edges)) rfl (ld_one und22 rfl rfl rfl rfl) (RD.mv rfl rfl rfl rfl (RD.q (u:=.iptr (cGEdge x7)) rfl (op_ia rfl rfl (ia_isl cGEdge und22 (sz_of inf42) len_cGEdge h8 rfl)) (RD.q (u:=.agg (cGEdge x7)) rfl (li_agg und42 rfl (sz_of inf42) rfl rfl) (RD.free (u:=.agg (xGDeriv r9)) (args:=[.agg (cGChart p1),.agg (cGEdge x7)]) rfl (op_call rfl rfl fn43 hb43 rfl rfl) (fun s=>chart_derivation_ok n p1 x7 r9 h10 s) rfl rfl (RD.actn (u:=.junk) (σ':=⟨[(1,.row (xGDeriv r9) 37),(0,.row (cGChart p1) 24)],2⟩) rfl (op_store (sz_of inf37) rfl rfl rfl rfl rfl rfl rfl rfl) rfl ?_)))))))
 refine RD.done ⟨by kernel_rfl,trivial,?_⟩
 refine st ?_
 refine WPU.ret ?_
 refine st ?_
 have hr:=Option.some.inj hF
 subst hr
 exact ⟨.inr rfl,[.agg (xGDeriv r9)],res_c (ld_agg und37 rfl (sz_of inf37) rfl rfl rfl) (res_n),.agg (xGDeriv r9),⟨[],0⟩,Nat.le_refl _,Gh.toR (.agg (xGDeriv r9)) rfl,rfl,BU.h⟩
 rcases bool_tf (decide (p2<0)) with h3 | h3
 replace h5:=cond_t h3 h5
 replace h5:=Option.some.inj h5
 subst h5
 refine sr ?_
 refine RS.q rfl (op_int rfl rfl (ix_lss _ _ _) rfl) (RS.mv rfl rfl rfl rfl ?_)
 repeat refine RS.no (want0 rfl rfl rfl h3) rfl rfl ?_
 refine RS.q (u:=.bool true) rfl (op_pick1 rfl h3 rfl) ?_
 refine sd ?_
 exact ⟨_,_,⟨rfl,rfl⟩,(Nat.zero_le _),Gh.toC (n1:=2) ⟨rfl,rfl,rfl,rfl,trivial⟩ rfl (Nat.zero_le _) (by simp)⟩
 replace h5:=cond_f h3 h5
 replace h5:=Option.some.inj h5
 subst h5
 refine sr ?_
 refine RS.q rfl (op_int rfl rfl (ix_lss _ _ _) rfl) (RS.mv rfl rfl rfl rfl (RS.op (want1 rfl rfl rfl h3) (op_move rfl) rfl rfl (RS.op (u:=.ptr 0 0 1) (want1 rfl rfl rfl h3) (op_fa und24 rfl (sz_of inf22) rfl rfl rfl) rfl rfl (RS.op (u:=.isl false (List.map cGEdge p1.Edges)) (want1 rfl rfl rfl h3) (ld_one und22 rfl rfl rfl rfl) rfl rfl (RS.op (want1 rfl rfl rfl h3) (op_len rfl rfl rfl (len_isl cGEdge und22)) rfl rfl (RS.op (want1 rfl rfl rfl h3) (op_int rfl rfl (ix_geq _ _ _) rfl) rfl rfl (RS.q (u:=.bool (decide (p2 ≥ (p1.Edges.length:Int)))) rfl (op_pick0 rfl h3 rfl) ?_)))))))
 refine sd ?_
 exact ⟨_,_,⟨rfl,rfl⟩,(Nat.zero_le _),Gh.toC (n1:=2) ⟨rfl,rfl,rfl,rfl,trivial⟩ rfl (Nat.zero_le _) (by simp)⟩
theorem chart_Deriv_ok (n:Nat) (p1:GChart) (p2:Int) (r:GDeriv) (hF:chart_Deriv n p1 p2=some r) (σ:Sg):EvU Try.prog 22 [.agg (cGChart p1),.int .i64 p2] σ (fun u σ'=>u = .agg (xGDeriv r)∧σ'=σ) :=
 EvU.pure1C (chart_Deriv_0 n p1 p2 r hF) σ
def law32_item (n:Nat) (p1:List UInt8) (p2:Int) (p3:Int):Option (GEdge) :=
 some (GEdge.mk p2 p3 0 1 p1 [] (GDeriv.mk 0 p1 p2 p3 []) (GFS.mk []))
theorem law32_item_0 (n:Nat) (p1:List UInt8) (p2:Int) (p3:Int) (r:GEdge) (hF:law32_item n p1 p2 p3=some r):EvU Try.prog 31 [.str p1,.int .i64 p2,.int .i64 p3] ⟨[],0⟩ (fun u _=>u = .agg (cGEdge r)∧Bel 0 u):=by
 unfold law32_item at hF
 refine EvU.of_body Try.tb_ok fn31 rfl ?_
 refine WPU.ghost (tm':=fr 15 [(0,.str p1),(1,.int .i64 p2),(2,.int .i64 p3)]) (Gh.start (Nat.le_of_ble_eq_true rfl)) (Nat.zero_le _) ?_
 refine sr ?_
 refine RS.q (u:=.ptr 0 0 0) (σ':=⟨[(0,.row [.int .i64 0,.int .i64 0,.int .i64 0,.int .i64 0,.str [],.nils,.int .i64 0,.str [],.int .i64 0,.int .i64 0,.nils,.nils] 42)],1⟩) rfl (op_alloc inf42 rfl rfl) ?_
 refine se ?_
 repeat refine RS.mv rfl rfl rfl rfl ?_
 refine RS.q (u:=.agg [.int .i64 0,.str p1,.int .i64 p2,.int .i64 p3,.nils]) rfl (op_bld bd37 rfl rfl rfl) (RS.q (u:=.agg [.int .i64 p2,.int .i64 p3,.int .i64 0,.int .i64 1,.str p1,.nils,.int .i64 0,.str p1,.int .i64 p2,.int .i64 p3,.nils,.nils]) rfl (op_bld bd42 rfl rfl rfl) (RS.opn (u:=.junk) (σ':=⟨[(0,.row [.int .i64 p2,.int .i64 p3,.int .i64 0,.int .i64 1,.str p1,.nils,.int .i64 0,.str p1,.int .i64 p2,.int .i64 p3,.nils,.nils] 42)],1⟩) rfl (op_store (sz_of inf42) rfl rfl rfl rfl rfl rfl rfl rfl) rfl ?_))
 refine sd ?_
 refine WPU.ret ?_
 refine st ?_
 have hr:=Option.some.inj hF
 subst hr
 exact ⟨.inr rfl,[.agg [.int .i64 p2,.int .i64 p3,.int .i64 0,.int .i64 1,.str p1,.nils,.int .i64 0,.str p1,.int .i64 p2,.int .i64 p3,.nils,.nils]],res_c (ld_agg und42 rfl (sz_of inf42) rfl rfl rfl) (res_n),.agg [.int .i64 p2,.int .i64 p3,.int .i64 0,.int .i64 1,.str p1,.isl false [],.int .i64 0,.str p1,.int .i64 p2,.int .i64 p3,.isl false [],.isl false []],⟨[],0⟩,Nat.le_refl _,Gh.trans (Gh.wk (.cons (.agg (.cons (.refl _) (.cons (.refl _) (.cons (.refl _) (.cons (.refl _) (.cons (.refl _) (.cons (.nil false) (.cons (.refl _) (.cons (.refl _) (.cons (.refl _) (.cons (.refl _) (.cons (.nil false) (.cons (.nil false) .nil))))))))))))) .nil)) (Gh.toR (.agg [.int .i64 p2,.int .i64 p3,.int .i64 0,.int .i64 1,.str p1,.isl false [],.int .i64 0,.str p1,.int .i64 p2,.int .i64 p3,.isl false [],.isl false []]) rfl),rfl,BU.h⟩
theorem law32_item_ok (n:Nat) (p1:List UInt8) (p2:Int) (p3:Int) (r:GEdge) (hF:law32_item n p1 p2 p3=some r) (σ:Sg):EvU Try.prog 31 [.str p1,.int .i64 p2,.int .i64 p3] σ (fun u σ'=>u = .agg (cGEdge r)∧σ'=σ) :=
 EvU.pure1C (law32_item_0 n p1 p2 p3 r hF) σ
def ref01_Decimal_K2 (p1:Int) (s10:List UInt8):Option ((List UInt8)) :=
 cond (decide (p1<0))
  (needO (([45]).length+s10.length≤9223372036854775807) (
  some ([45]++s10)))
  (some s10)
def ref01_Decimal_L2 (p1:Int):Nat→Int→(List UInt8)→Option ((List UInt8))
 | 0,_,_=>none
 | m2+1,z8,s9 =>
  cond (decide (z8 > 0))
   (needO (([UInt8.ofNat ((IntKind.u8.wrap (IntKind.u64.wrap (48+(z8.tmod 10))))).toNat]).length+s9.length≤9223372036854775807) (
   (ref01_Decimal_L2 p1 m2) (IntKind.u64.wrap (z8.tdiv 10)) ([UInt8.ofNat ((IntKind.u8.wrap (IntKind.u64.wrap (48+(z8.tmod 10))))).toNat]++s9)))
   (ref01_Decimal_K2 p1 s9)
def ref01_Decimal_J1 (p1:Int) (n:Nat) (z4:Int):Option ((List UInt8)) :=
 ref01_Decimal_L2 p1 n z4 []
def ref01_Decimal (n:Nat) (p1:Int):Option ((List UInt8)) :=
 cond (p1 == 0)
  (some ([48]))
  (cond (decide (p1<0))
   (ref01_Decimal_J1 p1 n (IntKind.u64.wrap (0 - (IntKind.u64.wrap p1))))
   (ref01_Decimal_J1 p1 n (IntKind.u64.wrap p1)))
theorem ref01_Decimal_0 (n:Nat) (p1:Int) (r:(List UInt8)) (hF:ref01_Decimal n p1=some r):EvU Try.prog 49 [.int .i64 p1] ⟨[],0⟩ (fun u _=>u = .str r∧Bel 0 u):=by
 unfold ref01_Decimal at hF
 refine EvU.of_body Try.tb_ok fn49 rfl ?_
 refine WPU.ghost (tm':=fr 30 [(0,.int .i64 p1)]) (Gh.start (Nat.le_of_ble_eq_true rfl)) (Nat.zero_le _) ?_
 refine sr ?_
 refine se ?_
 refine RS.q rfl (op_int rfl rfl (ix_eql _ _ _) rfl) ?_
 refine sd ?_
 refine WPU.condS (t:=(p1 == 0)) rfl (fun h2=>?_) (fun h2=>?_)
 replace hF:=cond_t h2 hF
 refine sr ?_
 refine sd ?_
 refine WPU.ret ?_
 refine st ?_
 have hr:=Option.some.inj hF
 subst hr
 exact ⟨.inr rfl,[.str ([48])],res_t rfl (res_n),.str ([48]),⟨[],0⟩,Nat.le_refl _,Gh.toR (.str ([48])) rfl,rfl,BU.h⟩
 replace hF:=cond_f h2 hF
 refine st ?_
 refine WPU.skip ?_
 refine sr ?_
 refine RS.q (u:=.int .u64 (IntKind.u64.wrap p1)) rfl (op_conv rfl rfl (by simp only [convX,und3,und80]<;>rfl) rfl) ?_
 refine se ?_
 refine RS.q rfl (op_int rfl rfl (ix_lss _ _ _) rfl) ?_
 refine sd ?_
 refine WPU.joinK (fun tm σ=>∃ z4:Int,ref01_Decimal_J1 p1 n z4=some r∧tm=fr 30 [(0,.int .i64 p1),(3,.int .u64 z4)]∧σ=⟨[],0⟩) ?_ ?_
 rintro _ _ ⟨z4,hF,rfl,rfl⟩
 unfold ref01_Decimal_J1 at hF
 refine sr ?_
 refine sd ?_
 refine WPU.ghost (tm':=fr 30 [(0,.int .i64 p1),(3,.int .u64 z4),(4,.str [])]) (Gh.sub ⟨rfl,rfl,rfl,trivial⟩) (Nat.zero_le _) ?_
 refine WPU.loopK (fun m tm σ=>∃ z8:Int,∃ s9:List UInt8,ref01_Decimal_L2 p1 m z8 s9=some r∧tm=fr 30 [(0,.int .i64 p1),(3,.int .u64 z8),(4,.str s9)]∧σ=⟨[],0⟩) (fun tm σ=>∃ s10:List UInt8,ref01_Decimal_K2 p1 s10=some r∧tm=fr 30 [(0,.int .i64 p1),(4,.str s10)]∧σ=⟨[],0⟩) n ⟨z4,[],hF,rfl,rfl⟩ ?_ ?_
 rintro _ _ ⟨s10,hF,rfl,rfl⟩
 unfold ref01_Decimal_K2 at hF
 refine sr ?_
 refine RS.q rfl (op_int rfl rfl (ix_lss _ _ _) rfl) ?_
 refine sd ?_
 refine WPU.condS (t:=(decide (p1<0))) rfl (fun h11=>?_) (fun h11=>?_)
 replace hF:=cond_t h11 hF
 refine st ?_
 obtain ⟨h12,hF⟩:=needO_some hF
 refine sr ?_
 refine RS.q (u:=.str ([45]++s10)) rfl (op_str rfl rfl (sx_add h12) rfl) ?_
 refine sd ?_
 refine WPU.ret ?_
 refine st ?_
 have hr:=Option.some.inj hF
 subst hr
 exact ⟨.inr rfl,[.str ([45]++s10)],res_t rfl (res_n),.str ([45]++s10),⟨[],0⟩,Nat.le_refl _,Gh.toR (.str ([45]++s10)) rfl,rfl,BU.h⟩
 replace hF:=cond_f h11 hF
 refine st ?_
 refine WPU.skip ?_
 refine sr ?_
 refine sd ?_
 refine WPU.ret ?_
 refine st ?_
 have hr:=Option.some.inj hF
 subst hr
 exact ⟨.inr rfl,[.str s10],res_t rfl (res_n),.str s10,⟨[],0⟩,Nat.le_refl _,Gh.toR (.str s10) rfl,rfl,BU.h⟩
 rintro m2 _ _ ⟨z8,s9,hF,rfl,rfl⟩
 rcases m2 with _ | m2
 cases hF
 unfold ref01_Decimal_L2 at hF
 refine sr ?_
 refine RS.q rfl (op_int rfl rfl (ix_gtr _ _ _) rfl) ?_
 refine sd ?_
 refine WPU.condS (t:=(decide (z8 > 0))) rfl (fun h13=>?_) (fun h13=>?_)
 replace hF:=cond_t h13 hF
 refine st ?_
 refine WPU.skip ?_
 refine st ?_
 refine WPU.block ?_
 refine st ?_
 obtain ⟨h15,hF⟩:=needO_some hF
 refine sr ?_
 refine RS.q rfl (op_int rfl rfl (ix_rem _ (by decide)) rfl) ?_
 refine RS.q rfl (op_int rfl rfl (ix_add _ _ _) rfl) ?_
 refine RS.q (u:=.int .u8 (IntKind.u8.wrap (IntKind.u64.wrap (48+(z8.tmod 10))))) rfl (op_conv rfl rfl (by simp only [convX,und80,und5]<;>rfl) rfl) ?_
 refine RS.q (u:=.sl 0 0 1 1) (σ':=⟨[(0,.row [.int .u8 (IntKind.u8.wrap (IntKind.u64.wrap (48+(z8.tmod 10))))] 5)],1⟩) rfl (op_bsl und81 inf5 rfl rfl rfl rfl rfl rfl rfl) (RS.step (u:=.str ([UInt8.ofNat ((IntKind.u8.wrap (IntKind.u64.wrap (48+(z8.tmod 10))))).toNat])) rfl (StepU.bstr (ns:=[(IntKind.u8.wrap (IntKind.u64.wrap (48+(z8.tmod 10))))]) Try.tb_ok rfl und81 und5 und9 (ev_fr rfl) rfl rfl rfl) rfl rfl (RS.mv rfl rfl rfl rfl (RS.q (u:=.str ([UInt8.ofNat ((IntKind.u8.wrap (IntKind.u64.wrap (48+(z8.tmod 10))))).toNat]++s9)) rfl (op_str rfl rfl (sx_add h15) rfl) ?_)))
 refine se ?_
 refine RS.q rfl (op_int rfl rfl (ix_quo _ (by decide)) rfl) ?_
 refine sd ?_
 exact ⟨m2,_,_,Nat.lt_succ_self _,⟨(IntKind.u64.wrap (z8.tdiv 10)),([UInt8.ofNat ((IntKind.u8.wrap (IntKind.u64.wrap (48+(z8.tmod 10))))).toNat]++s9),hF,rfl,rfl⟩,(Nat.zero_le _),Gh.toC (n1:=0) ⟨rfl,rfl,rfl,trivial⟩ rfl (Nat.zero_le _) (by simp)⟩
 replace hF:=cond_f h13 hF
 refine st ?_
 refine WPU.exit ?_
 refine st ?_
 exact ⟨_,_,⟨s9,hF,rfl,rfl⟩,(Nat.zero_le _),Gh.toC (n1:=0) ⟨rfl,rfl,trivial⟩ rfl (Nat.zero_le _) (by simp)⟩
 refine WPU.condS (t:=(decide (p1<0))) rfl (fun h3=>?_) (fun h3=>?_)
 replace hF:=cond_t h3 hF
 refine sr ?_
 refine RS.q (u:=.int .u64 (IntKind.u64.wrap (0 - (IntKind.u64.wrap p1)))) rfl (op_un rfl rfl rfl rfl) ?_
 refine sd ?_
 exact ⟨_,_,⟨(IntKind.u64.wrap (0 - (IntKind.u64.wrap p1))),hF,rfl,rfl⟩,(Nat.zero_le _),Gh.toC (n1:=0) ⟨rfl,rfl,trivial⟩ rfl (Nat.zero_le _) (by simp)⟩
 replace hF:=cond_f h3 hF
 refine st ?_
 refine WPU.skip ?_
 refine st ?_
 exact ⟨_,_,⟨(IntKind.u64.wrap p1),hF,rfl,rfl⟩,(Nat.zero_le _),Gh.toC (n1:=0) ⟨rfl,rfl,trivial⟩ rfl (Nat.zero_le _) (by simp)⟩
theorem ref01_Decimal_ok (n:Nat) (p1:Int) (r:(List UInt8)) (hF:ref01_Decimal n p1=some r) (σ:Sg):EvU Try.prog 49 [.int .i64 p1] σ (fun u σ'=>u = .str r∧σ'=σ) :=
 EvU.pure1C (ref01_Decimal_0 n p1 r hF) σ
def ref28_Print_K2  (s22:List UInt8):Option ((List UInt8)) :=
 needO (s22.length+([41]).length≤9223372036854775807) (
 some (s22++[41]))
def ref28_Print_L2 (p1:GDeriv) (self:GDeriv→Option ((List UInt8))):Nat→(List UInt8)→Int→Option ((List UInt8))
 | 0,_,_=>none
 | m2+1,s20,z21 =>
  cond (decide (z21<(p1.Kids.length:Int)))
   (needO (s20.length+([32]).length≤9223372036854775807) (
   bindO (idxO p1.Kids z21) fun x26 =>
   bindO (self x26) fun r28 =>
   needO ((s20++[32]).length+r28.length≤9223372036854775807) (
   (ref28_Print_L2 p1 self m2) ((s20++[32])++r28) (IntKind.i64.wrap (z21+1)))))
   (ref28_Print_K2 s20)
def ref28_Print_J1 (p1:GDeriv) (n:Nat) (self:GDeriv→Option ((List UInt8))) (s3:List UInt8):Option ((List UInt8)) :=
 needO (s3.length+p1.Name.length≤9223372036854775807) (
 needO ((s3++p1.Name).length+([32]).length≤9223372036854775807) (
 bindO (ref01_Decimal n p1.From) fun r6 =>
 needO (((s3++p1.Name)++[32]).length+r6.length≤9223372036854775807) (
 needO ((((s3++p1.Name)++[32])++r6).length+([32]).length≤9223372036854775807) (
 bindO (ref01_Decimal n p1.To) fun r10 =>
 needO (((((s3++p1.Name)++[32])++r6)++[32]).length+r10.length≤9223372036854775807) (
 ref28_Print_L2 p1 self n (((((s3++p1.Name)++[32])++r6)++[32])++r10) 0)))))
def ref28_Print_b (n:Nat) (self:GDeriv→Option ((List UInt8))) (p1:GDeriv):Option ((List UInt8)) :=
 cond (p1.Kind == 1)
  (ref28_Print_J1 p1 n self ([40,43]))
  (ref28_Print_J1 p1 n self ([40]))
def ref28_Print:Nat→GDeriv→Option ((List UInt8))
 | 0,_=>none
 | n+1,p1=>ref28_Print_b n (ref28_Print n) p1
theorem ref28_Print_0:∀ (n:Nat) (p1:GDeriv) (r:(List UInt8)),ref28_Print n p1=some r→EvU Try.prog 32 [.agg (xGDeriv p1)] ⟨[],0⟩ (fun u _=>u = .str r∧Bel 0 u)
 | 0,p1,r,hF=>by cases hF
 | n+1,p1,r,hF=>by
  have ih:=ref28_Print_0 n
  have ihS:∀ (p1:GDeriv) (r:(List UInt8)),ref28_Print n p1=some r→∀ σ,EvU Try.prog 32 [.agg (xGDeriv p1)] σ (fun u σ'=>u = .str r∧σ'=σ):=fun p1 r h σ=>EvU.pure1C (ih p1 r h) σ
  unfold ref28_Print ref28_Print_b at hF
  refine EvU.of_body Try.tb_ok fn32 rfl ?_
  refine WPU.ghost (tm':=fr 40 [(0,.agg (xGDeriv p1))]) (Gh.start (Nat.le_of_ble_eq_true rfl)) (Nat.zero_le _) ?_
  refine sr ?_
  refine RS.q (u:=.ptr 0 0 0) (σ':=⟨[(0,.row (xGDeriv p1) 37)],1⟩) rfl (op_box rfl rfl rfl) ?_
  refine se ?_
  refine se ?_
  refine RS.q (u:=.ptr 0 0 0) rfl (op_fa und37 rfl (sz_of inf3) rfl rfl rfl) (RS.q (u:=.int .i64 p1.Kind) rfl (ld_one und3 rfl rfl rfl rfl) (RS.q rfl (op_int rfl rfl (ix_eql _ _ _) rfl) ?_))
  refine sd ?_
  refine WPU.joinK (fun tm σ=>∃ s3:List UInt8,ref28_Print_J1 p1 n (ref28_Print n) s3=some r∧tm=fr 40 [(1,.ptr 0 0 0),(3,.str s3)]∧σ=⟨[(0,.row (xGDeriv p1) 37)],1⟩) ?_ ?_
  rintro _ _ ⟨s3,hF,rfl,rfl⟩
  unfold ref28_Print_J1 at hF
  refine st ?_
  obtain ⟨h4,hF⟩:=needO_some hF
  obtain ⟨h5,hF⟩:=needO_some hF
  obtain ⟨r6,h7,hF⟩:=bindO_some hF
  obtain ⟨h8,hF⟩:=needO_some hF
  obtain ⟨h9,hF⟩:=needO_some hF
  obtain ⟨r10,h11,hF⟩:=bindO_some hF
  obtain ⟨h12,hF⟩:=needO_some hF
  refine WPU.drawE Try.tb_ok [] (by kernel_rfl) ?_
  refine RD.mv rfl rfl rfl rfl (RD.q (u:=.ptr 0 0 1) rfl (op_fa und37 rfl (sz_of inf9) rfl rfl rfl) (RD.q (u:=.str p1.Name) rfl (ld_one und9 rfl rfl rfl rfl) (RD.q (u:=.str (s3++p1.Name)) rfl (op_str rfl rfl (sx_add h4) rfl) (RD.q (u:=.str ((s3++p1.Name)++[32])) rfl (op_str rfl rfl (sx_add h5) rfl) (RD.q (u:=.ptr 0 0 2) rfl (op_fa und37 rfl (sz_of inf3) rfl rfl rfl) (RD.q (u:=.int .i64 p1.From) rfl (ld_one und3 rfl rfl rfl rfl) (RD.free (u:=.str r6) (args:=[.int .i64 p1.From]) rfl (op_call rfl rfl fn49 hb49 rfl rfl) (fun s=>ref01_Decimal_ok n p1.From r6 h7 s) rfl rfl ?_)))))))
  refine RD.q (u:=.str (((s3++p1.Name)++[32])++r6)) rfl (op_str rfl rfl (sx_add h8) rfl) (RD.q (u:=.str ((((s3++p1.Name)++[32])++r6)++[32])) rfl (op_str rfl rfl (sx_add h9) rfl) (RD.q (u:=.ptr 0 0 3) rfl (op_fa und37 rfl (sz_of inf3) rfl rfl rfl) (RD.q (u:=.int .i64 p1.To) rfl (ld_one und3 rfl rfl rfl rfl) (RD.free (u:=.str r10) (args:=[.int .i64 p1.To]) rfl (op_call rfl rfl fn49 hb49 rfl rfl) (fun s=>ref01_Decimal_ok n p1.To r10 h11 s) rfl rfl (RD.q (u:=.str (((((s3++p1.Name)++[32])++r6)++[32])++r10)) rfl (op_str rfl rfl (sx_add h12) rfl) (RD.as rfl rfl rfl rfl ?_))))))
  refine RD.done ⟨by kernel_rfl,trivial,?_⟩
  refine sr ?_
  refine sd ?_
  refine WPU.ghost (tm':=fr 40 [(1,.ptr 0 0 0),(3,.str (((((s3++p1.Name)++[32])++r6)++[32])++r10)),(4,.int .i64 0)]) (Gh.sub ⟨rfl,rfl,rfl,trivial⟩) (Nat.zero_le _) ?_
  refine WPU.loopK (fun m tm σ=>∃ s20:List UInt8,∃ z21:Int,ref28_Print_L2 p1 (ref28_Print n) m s20 z21=some r∧tm=fr 40 [(1,.ptr 0 0 0),(3,.str s20),(4,.int .i64 z21)]∧σ=⟨[(0,.row (xGDeriv p1) 37)],1⟩) (fun tm σ=>∃ s22:List UInt8,ref28_Print_K2 s22=some r∧tm=fr 40 [(3,.str s22)]∧σ=⟨[(0,.row (xGDeriv p1) 37)],1⟩) n ⟨(((((s3++p1.Name)++[32])++r6)++[32])++r10),0,hF,rfl,rfl⟩ ?_ ?_
  rintro _ _ ⟨s22,hF,rfl,rfl⟩
  unfold ref28_Print_K2 at hF
  refine st ?_
  obtain ⟨h23,hF⟩:=needO_some hF
  refine sr ?_
  refine RS.q (u:=.str (s22++[41])) rfl (op_str rfl rfl (sx_add h23) rfl) ?_
  refine sd ?_
  refine WPU.ret ?_
  refine st ?_
  have hr:=Option.some.inj hF
  subst hr
  exact ⟨.inr rfl,[.str (s22++[41])],res_t rfl (res_n),.str (s22++[41]),⟨[],0⟩,Nat.le_refl _,Gh.toR (.str (s22++[41])) rfl,rfl,BU.h⟩
  rintro m2 _ _ ⟨s20,z21,hF,rfl,rfl⟩
  rcases m2 with _ | m2
  cases hF
  unfold ref28_Print_L2 at hF
  refine sr ?_
  refine RS.q (u:=.ptr 0 0 4) rfl (op_fa und37 rfl (sz_of inf35) rfl rfl rfl) (RS.q (u:=.isl false (List.map cGDeriv p1.Kids)) rfl (ld_one und35 rfl rfl rfl rfl) (RS.q rfl (op_len rfl rfl rfl (len_isl cGDeriv und35)) (RS.q rfl (op_int rfl rfl (ix_lss _ _ _) rfl) ?_)))
  refine sd ?_
  refine WPU.condS (t:=(decide (z21<(p1.Kids.length:Int)))) rfl (fun h24=>?_) (fun h24=>?_)
  replace hF:=cond_t h24 hF
  refine st ?_
  refine WPU.skip ?_
  refine st ?_
  refine WPU.block ?_
  refine st ?_
  obtain ⟨h25,hF⟩:=needO_some hF
  obtain ⟨x26,h27,hF⟩:=bindO_some hF
  obtain ⟨r28,h29,hF⟩:=bindO_some hF
  obtain ⟨h30,hF⟩:=needO_some hF
  refine sr ?_
  refine RS.q (u:=.str (s20++[32])) rfl (op_str rfl rfl (sx_add h25) rfl) (RS.q (u:=.ptr 0 0 4) rfl (op_fa und37 rfl (sz_of inf35) rfl rfl rfl) (RS.q (u:=.isl false (List.map cGDeriv p1.Kids)) rfl (ld_one und35 rfl rfl rfl rfl) (RS.mv rfl rfl rfl rfl (RS.q (u:=.iptr (xGDeriv x26)) rfl (op_ia rfl rfl (ia_isl cGDeriv und35 (sz_of inf37) len_cGDeriv h27 (cGDeriv_eq x26))) (RS.q (u:=.agg (xGDeriv x26)) rfl (li_agg und37 rfl (sz_of inf37) rfl rfl) (RS.call (u:=.str r28) (args:=[.agg (xGDeriv x26)]) rfl (op_call rfl rfl fn32 hb32 rfl rfl) (ihS x26 r28 h29 _) rfl rfl (RS.q (u:=.str ((s20++[32])++r28)) rfl (op_str rfl rfl (sx_add h30) rfl) ?_)))))))
  refine se ?_
  refine RS.q rfl (op_int rfl rfl (ix_add _ _ _) rfl) ?_
  refine sd ?_
  exact ⟨m2,_,_,Nat.lt_succ_self _,⟨((s20++[32])++r28),(IntKind.i64.wrap (z21+1)),hF,rfl,rfl⟩,(Nat.zero_le _),Gh.toC (n1:=1) ⟨rfl,rfl,rfl,trivial⟩ rfl (Nat.zero_le _) (by simp)⟩
  replace hF:=cond_f h24 hF
  refine st ?_
  refine WPU.exit ?_
  refine st ?_
  exact ⟨_,_,⟨s20,hF,rfl,rfl⟩,(Nat.zero_le _),Gh.toC (n1:=1) ⟨rfl,trivial⟩ rfl (Nat.zero_le _) (by simp)⟩
  refine WPU.condS (t:=(p1.Kind == 1)) rfl (fun h2=>?_) (fun h2=>?_)
  replace hF:=cond_t h2 hF
  refine sr ?_
  refine sd ?_
  exact ⟨_,_,⟨[40,43],hF,rfl,rfl⟩,(Nat.zero_le _),Gh.toC (n1:=1) ⟨rfl,rfl,trivial⟩ rfl (Nat.zero_le _) (by simp)⟩
  replace hF:=cond_f h2 hF
  refine st ?_
  refine WPU.skip ?_
  refine st ?_
  exact ⟨_,_,⟨[40],hF,rfl,rfl⟩,(Nat.zero_le _),Gh.toC (n1:=1) ⟨rfl,rfl,trivial⟩ rfl (Nat.zero_le _) (by simp)⟩
theorem ref28_Print_ok (n:Nat) (p1:GDeriv) (r:(List UInt8)) (hF:ref28_Print n p1=some r) (σ:Sg):EvU Try.prog 32 [.agg (xGDeriv p1)] σ (fun u σ'=>u = .str r∧σ'=σ) :=
 EvU.pure1C (ref28_Print_0 n p1 r hF) σ
end Go.Proofs
end
