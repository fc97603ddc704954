/-
  Texts of the walk: H4.
-/
import Derived.Test.YtdpffcolmflpjaaP14
section
namespace Go.Proofs
open Go Go.Rx Go.Vx Try
set_option maxRecDepth 10000
set_option linter.unusedSimpArgs false
set_option linter.unusedVariables false
structure GNode where
 Typex:Int
 Arcs:List GArc
def cGNode (x:GNode):List U:=[.int .i64 x.Typex,.isl false (List.map cGArc x.Arcs)]
theorem bel_cGNode (n:Nat) (x:GNode):BelL n (cGNode x):=by
 simp only [cGNode,BelL,Bel,true_and,and_true]
 exact belR_map _ (fun q=>bel_cGArc _ q) _
theorem len_cGNode (x:GNode):(cGNode x).length=2:=rfl
instance:BF cGNode:=⟨bel_cGNode⟩
instance (n:Nat) (x:GNode):BUL n (cGNode x):=⟨bel_cGNode n x⟩
theorem fz_cGNode (K:Nat) (b:B) (sz:Nat) (x:GNode):fzL K b sz (cGNode x)=cGNode x:=fzL_bel _ _ _ (bel_cGNode K x)
structure GFS where
 Nodes:List GNode
theorem Try.bd25:BdT Try.tb 25 [.nils] [(0,1)]:=bdT und25 inf25 rfl (by kernel_rfl)
theorem Try.bd43:BdT Try.tb 43 [.int .i64 0,.nils] [(0,1),(1,1)]:=bdT und43 inf43 rfl (by kernel_rfl)
theorem Try.bd45:BdT Try.tb 45 [.int .i64 0,.int .i64 0] [(0,1),(1,1)]:=bdT und45 inf45 rfl (by kernel_rfl)
def slices_AppendSeq_Arc_s1_Y3 (z7:Int) (l8:List GArc) (rc2:Int→(List GArc)→Option ((List GArc))) (x13:GArc)  : Option ((List GArc)) :=
 rc2 (IntKind.i64.wrap (z7+1)) (l8++[x13])
def slices_AppendSeq_Arc_s1_K2  (l10:List GArc):Option ((List GArc)) :=
 some l10
def slices_AppendSeq_Arc_s1_L2 (p1:List GArc):Nat→Int→(List GArc)→Option ((List GArc))
 | 0,_,_=>none
 | m2+1,z7,l8 =>
  cond (decide (z7<(p1.length:Int)))
   (bindO (idxO p1 z7) fun x13 =>
   needO ((l8.length+1)*16≤140737488355328∧l8.length+1≤140737488355328) (
   slices_AppendSeq_Arc_s1_Y3 z7 l8 (slices_AppendSeq_Arc_s1_L2 p1 m2) x13))
   (slices_AppendSeq_Arc_s1_K2 l8)
def slices_AppendSeq_Arc_s1 (n:Nat) (p1:List GArc):Option ((List GArc)) :=
 slices_AppendSeq_Arc_s1_L2 p1 n 0 ([]:List GArc)
theorem slices_AppendSeq_Arc_s1_0 (n:Nat) (p1:List GArc) (r:(List GArc)) (hF:slices_AppendSeq_Arc_s1 n p1=some r):EvU Try.prog 56 [.nils,.fn (.func 55) [] [.iptr [.isl false (List.map cGArc p1)]]] ⟨[],0⟩ (fun u σ'=>∃ t:Nat→Nat,u = .vl 1 (t 0) 0 r.length∧σ'=⟨[(1,.vec (List.map cGArc r).flatten 45 2 (t 0))],2⟩):=by
 unfold slices_AppendSeq_Arc_s1 at hF
 refine EvU.of_bodyM Try.tb_ok fn56 rfl ?_
 refine WPU.ghost (tm':=fr 13 [(0,.nils),(1,.fn (.func 55) [] [.iptr [.isl false (List.map cGArc p1)]])]) (Gh.start (Nat.le_of_ble_eq_true rfl)) (Nat.le_refl _) ?_
 refine sr ?_
 refine RS.q (u:=.ptr 0 0 0) (σ':=⟨[(0,.row [.nils] 41)],1⟩) rfl (op_box rfl rfl rfl) ?_
 refine se ?_
 refine sd ?_
 refine WPU.block ?_
 refine st ?_
 refine WPU.ghost (tm':=fr 13 [(2,.ptr 0 0 0),(6,.fn (.func 55) [] [.iptr [.isl false (List.map cGArc p1)]])]) (Gh.sub ⟨rfl,rfl,trivial⟩) (Nat.le_of_ble_eq_true rfl) ?_
 refine WPU.range Try.tb_ok rfl (fun _ h=>h) (ev_fr rfl) fn55 rfl rfl ?_
 intro ly1 fn1 tp1 D1
 refine WPU.ghost (tm':=fr 16 [(0,.fn (.yield ly1) [] []),(1,.iptr [.isl false (List.map cGArc p1)])]) (Gh.start (Nat.le_of_ble_eq_true rfl)) (Nat.le_refl _) ?_
 refine sr ?_
 refine RS.q (u:=.isl false (List.map cGArc p1)) rfl (li_one und41 rfl rfl rfl) (RS.q rfl (op_len rfl rfl rfl (len_isl cGArc und41)) (RS.mv rfl rfl rfl rfl ?_))
 refine sd ?_
 refine WPU.ghost (tm':=fr 16 [(0,.fn (.yield ly1) [] []),(5,.isl false (List.map cGArc p1)),(6,.int .i64 (p1.length:Int)),(7,.int .i64 0)]) (σ':=⟨[(1,.vec (List.map cGArc ([]:List GArc)).flatten 45 2 0),(0,.row [.vl 1 0 0 (([]:List GArc).length)] 41)],2⟩) (Gh.trans (Gh.nilC 0 0 45 2 (by decide) (Nat.le_of_ble_eq_true rfl) rfl rfl) (Gh.eqS ⟨rfl,rfl,rfl,rfl,trivial⟩ rfl)) (Nat.le_of_ble_eq_true rfl) ?_
 refine WPU.ghost (tm':=fr 16 [(0,.fn (.yield ly1) [] []),(5,.isl false (List.map cGArc p1)),(6,.int .i64 (p1.length:Int)),(7,.int .i64 0)]) (Gh.sub ⟨rfl,rfl,rfl,rfl,trivial⟩) (Nat.le_of_ble_eq_true rfl) ?_
 refine WPU.loopK (fun m tm σ=>∃ z7:Int,∃ l8:List GArc,∃ t9:Nat,slices_AppendSeq_Arc_s1_L2 p1 m z7 l8=some r∧tm=fr 16 [(0,.fn (.yield ly1) [] []),(5,.isl false (List.map cGArc p1)),(6,.int .i64 (p1.length:Int)),(7,.int .i64 z7)]∧σ=⟨[(1,.vec (List.map cGArc l8).flatten 45 2 t9),(0,.row [.vl 1 t9 0 l8.length] 41)],2⟩) (fun tm σ=>∃ l10:List GArc,∃ t11:Nat,slices_AppendSeq_Arc_s1_K2 l10=some r∧tm=fr 16 []∧σ=⟨[(1,.vec (List.map cGArc l10).flatten 45 2 t11),(0,.row [.vl 1 t11 0 l10.length] 41)],2⟩) n ⟨0,([]:List GArc),0,hF,rfl,rfl⟩ ?_ ?_
 rintro _ _ ⟨l10,t11,hF,rfl,rfl⟩
 unfold slices_AppendSeq_Arc_s1_K2 at hF
 refine st ?_
 refine ⟨.inl rfl,?_⟩
 refine sr ?_
 refine RS.q (u:=.vl 1 t11 0 l10.length) rfl (ld_one und41 rfl rfl rfl rfl) ?_
 refine sd ?_
 refine WPU.ret ?_
 refine st ?_
 have hr:=Option.some.inj hF
 subst hr
 exact ⟨.inr rfl,[.vl 1 t11 0 l10.length],res_t rfl (res_n),.vl 1 t11 0 l10.length,⟨[(1,.vec (List.map cGArc l10).flatten 45 2 t11)],2⟩,(Nat.le_of_ble_eq_true rfl),Gh.trans (Gh.only (fun k=>hasN [1] k)) (Gh.to (n1:=2) [] rfl rfl (Nat.le_of_ble_eq_true rfl) (Nat.le_of_ble_eq_true rfl) BUL.h BH.h),stF [t11],rfl,rfl⟩
 rintro m2 _ _ ⟨z7,l8,t9,hF,rfl,rfl⟩
 rcases m2 with _ | m2
 cases hF
 unfold slices_AppendSeq_Arc_s1_L2 at hF
 refine sr ?_
 refine RS.q rfl (op_int rfl rfl (ix_lss _ _ _) rfl) ?_
 refine sd ?_
 refine WPU.condS (t:=(decide (z7<(p1.length:Int)))) rfl (fun h12=>?_) (fun h12=>?_)
 replace hF:=cond_t h12 hF
 refine st ?_
 refine WPU.skip ?_
 refine st ?_
 refine WPU.block ?_
 refine st ?_
 obtain ⟨x13,h14,hF⟩:=bindO_some hF
 refine sr ?_
 refine RS.q (u:=.iptr (cGArc x13)) rfl (op_ia rfl rfl (ia_isl cGArc und41 (sz_of inf45) len_cGArc h14 rfl)) (RS.q (u:=.agg (cGArc x13)) rfl (li_agg und45 rfl (sz_of inf45) rfl rfl) (RS.q (u:=.ptr 2 0 0) (σ':=⟨[(2,.row [.int .i64 0,.int .i64 0] 45),(1,.vec (List.map cGArc l8).flatten 45 2 t9),(0,.row [.vl 1 t9 0 l8.length] 41)],3⟩) rfl (op_alloc inf45 rfl rfl) (RS.opn (u:=.junk) (σ':=⟨[(2,.row (cGArc x13) 45),(1,.vec (List.map cGArc l8).flatten 45 2 t9),(0,.row [.vl 1 t9 0 l8.length] 41)],3⟩) rfl (op_store (sz_of inf45) rfl rfl rfl rfl rfl rfl rfl rfl) rfl ?_)))
 refine se ?_
 refine RS.q (u:=.agg (cGArc x13)) rfl (ld_agg und45 rfl (sz_of inf45) rfl rfl rfl) (RS.yield (tmx:=fr 13 [(2,.ptr 0 0 0),(6,.fn (.func 55) [] [.iptr [.isl false (List.map cGArc p1)]]),(7,.agg (cGArc x13))]) rfl rfl rfl rfl rfl rfl rfl rfl (setP1 rfl) rfl rfl ?_)
 refine sr ?_
 refine RS.q (u:=.ptr 3 0 0) (σ':=⟨[(3,.row [.int .i64 0,.int .i64 0] 45),(2,.row (cGArc x13) 45),(1,.vec (List.map cGArc l8).flatten 45 2 t9),(0,.row [.vl 1 t9 0 l8.length] 41)],4⟩) rfl (op_alloc inf45 rfl rfl) (RS.opn (u:=.junk) (σ':=⟨[(3,.row (cGArc x13) 45),(2,.row (cGArc x13) 45),(1,.vec (List.map cGArc l8).flatten 45 2 t9),(0,.row [.vl 1 t9 0 l8.length] 41)],4⟩) rfl (op_store (sz_of inf45) rfl rfl rfl rfl rfl rfl rfl rfl) rfl ?_)
 refine sd ?_
 refine WPU.joinK (fun tm σ=>slices_AppendSeq_Arc_s1_Y3 z7 l8 (slices_AppendSeq_Arc_s1_L2 p1 m2) x13=some r∧tm=fr 13 []∧σ=⟨[(2,.row (cGArc x13) 45),(1,.vec (List.map cGArc (l8++[x13])).flatten 45 2 (t9+1)),(0,.row [.vl 1 (t9+1) 0 ((l8++[x13]).length)] 41)],3⟩) ?_ ?_
 rintro _ _ ⟨hF,rfl,rfl⟩
 unfold slices_AppendSeq_Arc_s1_Y3 at hF
 refine ⟨rfl,?_⟩
 refine RS.q (u:=.bool false) rfl (op_un rfl rfl rfl rfl) ?_
 refine sd ?_
 refine WPU.condS (t:=false) rfl (fun hc=>by cases hc) (fun _=>?_)
 refine st ?_
 refine WPU.skip ?_
 refine sr ?_
 refine RS.q rfl (op_int rfl rfl (ix_add _ _ _) rfl) (RS.mv rfl rfl rfl rfl ?_)
 refine sd ?_
 exact ⟨m2,_,_,Nat.lt_succ_self _,⟨(IntKind.i64.wrap (z7+1)),(l8++[x13]),(t9+1),hF,rfl,rfl⟩,(Nat.le_of_ble_eq_true rfl),Gh.toC (n1:=2) ⟨rfl,rfl,rfl,rfl,trivial⟩ rfl (Nat.le_of_ble_eq_true rfl) (by simp)⟩
 refine st ?_
 refine WPU.block ?_
 refine st ?_
 obtain ⟨h15,hF⟩:=needO_some hF
 refine sr ?_
 refine RS.q (u:=.vl 1 t9 0 l8.length) rfl (ld_one und41 rfl rfl rfl rfl) (RS.q (u:=.agg (cGArc x13)) rfl (ld_agg und45 rfl (sz_of inf45) rfl rfl rfl) (RS.q (u:=.sl 4 0 1 1) (σ':=⟨[(4,.row (cGArc x13) 45),(3,.row (cGArc x13) 45),(2,.row (cGArc x13) 45),(1,.vec (List.map cGArc l8).flatten 45 2 t9),(0,.row [.vl 1 t9 0 l8.length] 41)],5⟩) rfl (op_bsl und41 inf45 rfl rfl rfl rfl rfl rfl rfl) (RS.q (u:=.vl 1 (t9+1) 0 ((l8++[x13]).length)) (σ':=⟨[(4,.row (cGArc x13) 45),(3,.row (cGArc x13) 45),(2,.row (cGArc x13) 45),(1,.vec (List.map cGArc (l8++[x13])).flatten 45 2 (t9+1)),(0,.row [.vl 1 t9 0 l8.length] 41)],5⟩) rfl (op_app rfl rfl rfl rfl (app_vl cGArc ([x13]) und41 und41 inf45 rfl len_cGArc rfl (src_row cGArc [x13] rfl rfl rfl rfl) h15)) (RS.opn (u:=.junk) (σ':=⟨[(4,.row (cGArc x13) 45),(3,.row (cGArc x13) 45),(2,.row (cGArc x13) 45),(1,.vec (List.map cGArc (l8++[x13])).flatten 45 2 (t9+1)),(0,.row [.vl 1 (t9+1) 0 ((l8++[x13]).length)] 41)],5⟩) rfl (op_store (sz_of inf41) rfl rfl rfl rfl rfl rfl rfl rfl) rfl ?_))))
 refine sd ?_
 exact ⟨_,_,⟨hF,rfl,rfl⟩,(Nat.le_of_ble_eq_true rfl),Gh.toC (n1:=3) trivial rfl (Nat.le_of_ble_eq_true rfl) (by simp)⟩
 replace hF:=cond_f h12 hF
 refine st ?_
 refine WPU.exit ?_
 refine st ?_
 exact ⟨_,_,⟨l8,t9,hF,rfl,rfl⟩,(Nat.le_of_ble_eq_true rfl),Gh.toC (n1:=2) trivial rfl (Nat.le_of_ble_eq_true rfl) (by simp)⟩
def slices_Collect_Arc_s1 (n:Nat) (p1:List GArc):Option ((List GArc)) :=
 bindO (slices_AppendSeq_Arc_s1 n p1) fun r2 =>
 some r2
theorem slices_Collect_Arc_s1_0 (n:Nat) (p1:List GArc) (r:(List GArc)) (hF:slices_Collect_Arc_s1 n p1=some r):EvU Try.prog 53 [.fn (.func 55) [] [.iptr [.isl false (List.map cGArc p1)]]] ⟨[],0⟩ (fun u σ'=>∃ t:Nat→Nat,u = .vl 1 (t 0) 0 r.length∧σ'=⟨[(1,.vec (List.map cGArc r).flatten 45 2 (t 0))],2⟩):=by
 unfold slices_Collect_Arc_s1 at hF
 refine EvU.of_body Try.tb_ok fn53 rfl ?_
 refine WPU.ghost (tm':=fr 5 [(0,.fn (.func 55) [] [.iptr [.isl false (List.map cGArc p1)]])]) (Gh.start (Nat.le_of_ble_eq_true rfl)) (Nat.le_refl _) ?_
 refine sr ?_
 refine sd ?_
 obtain ⟨r2,h3,hF⟩:=bindO_some hF
 refine sr ?_
 refine RS.callx (R:=fun u σ'=>∃ t4:Nat→Nat,u = .vl 1 (t4 0) 0 r2.length∧σ'=⟨[(1,.vec (List.map cGArc r2).flatten 45 2 (t4 0))],2⟩) (args:=[.nils,.fn (.func 55) [] [.iptr [.isl false (List.map cGArc p1)]]]) rfl (op_call rfl rfl fn56 hb56 rfl rfl) (EvU.st [] (slices_AppendSeq_Arc_s1_0 n p1 r2 h3 )) rfl rfl ?_
 rintro _ _ ⟨t4,rfl,rfl⟩
 refine sd ?_
 refine WPU.ret ?_
 refine st ?_
 have hr:=Option.some.inj hF
 subst hr
 exact ⟨.inr rfl,[.vl 1 (t4 0) 0 r2.length],res_t rfl (res_n),.vl 1 (t4 0) 0 r2.length,⟨[(1,.vec (List.map cGArc r2).flatten 45 2 (t4 0))],2⟩,(Nat.le_of_ble_eq_true rfl),Gh.trans (Gh.only (fun k=>hasN [1] k)) (Gh.to (n1:=2) [] rfl rfl (Nat.le_of_ble_eq_true rfl) (Nat.le_of_ble_eq_true rfl) BUL.h BH.h),stF [(t4 0)],rfl,rfl⟩
def slices_SortedFunc_Arc_s1 (n:Nat) (p1:List GArc):Option ((List GArc)) :=
 bindO (slices_Collect_Arc_s1 n p1) fun r2 =>
 bindO (sortO eqA (fun a b=>graph_byFeature n a b ) r2) fun r6 =>
 some r6
theorem slices_SortedFunc_Arc_s1_0 (n:Nat) (p1:List GArc) (r:(List GArc)) (hF:slices_SortedFunc_Arc_s1 n p1=some r):EvU Try.prog 43 [.fn (.func 55) [] [.iptr [.isl false (List.map cGArc p1)]],.fn (.func 45) [] []] ⟨[],0⟩ (fun u σ'=>∃ t:Nat→Nat,u = .vl 1 (t 0) 0 r.length∧σ'=⟨[(1,.vec (List.map cGArc r).flatten 45 2 (t 0))],2⟩):=by
 unfold slices_SortedFunc_Arc_s1 at hF
 refine EvU.of_body Try.tb_ok fn43 rfl ?_
 refine WPU.ghost (tm':=fr 12 [(0,.fn (.func 55) [] [.iptr [.isl false (List.map cGArc p1)]]),(1,.fn (.func 45) [] [])]) (Gh.start (Nat.le_of_ble_eq_true rfl)) (Nat.le_refl _) ?_
 refine sr ?_
 refine sd ?_
 obtain ⟨r2,h3,hF⟩:=bindO_some hF
 refine sr ?_
 refine RS.callx (R:=fun u σ'=>∃ t4:Nat→Nat,u = .vl 1 (t4 0) 0 r2.length∧σ'=⟨[(1,.vec (List.map cGArc r2).flatten 45 2 (t4 0))],2⟩) (args:=[.fn (.func 55) [] [.iptr [.isl false (List.map cGArc p1)]]]) rfl (op_call rfl rfl fn53 hb53 rfl rfl) (EvU.st [] (slices_Collect_Arc_s1_0 n p1 r2 h3 )) rfl rfl ?_
 rintro _ _ ⟨t4,rfl,rfl⟩
 refine sd ?_
 obtain ⟨r6,h5,hF⟩:=bindO_some hF
 refine WPU.joinK (fun tm σ=>tm=fr 12 [(5,.vl 1 (t4 0) 0 r6.length)]∧σ=⟨[(1,.vec (List.map cGArc r6).flatten 45 2 (t4 0))],2⟩) ?_ ?_
 rintro _ _ ⟨rfl,rfl⟩
 refine sr ?_
 refine sd ?_
 refine WPU.ret ?_
 refine st ?_
 have hr:=Option.some.inj hF
 subst hr
 exact ⟨.inr rfl,[.vl 1 (t4 0) 0 r6.length],res_t rfl (res_n),.vl 1 (t4 0) 0 r6.length,⟨[(1,.vec (List.map cGArc r6).flatten 45 2 (t4 0))],2⟩,(Nat.le_of_ble_eq_true rfl),Gh.trans (Gh.only (fun k=>hasN [1] k)) (Gh.to (n1:=2) [] rfl rfl (Nat.le_of_ble_eq_true rfl) (Nat.le_of_ble_eq_true rfl) BUL.h BH.h),stF [(t4 0)],rfl,rfl⟩
 refine sr ?_
 repeat refine RS.mv rfl rfl rfl rfl ?_
 refine RS.callx (args:=[.vl 1 (t4 0) 0 r2.length,.fn (.func 45) [] []]) rfl (op_call rfl rfl fn54 hb54 rfl rfl) (srtJ_ok  (fun a b r h=>graph_byFeature_0 n a b  r h) r2 r6 h5 _ rfl rfl) rfl rfl ?_
 rintro _ _ ⟨rfl,rfl⟩
 refine sd ?_
 exact ⟨_,_,⟨rfl,rfl⟩,(Nat.zero_le _),Gh.eqS ⟨(by simp only [sortO_len h5]; rfl),trivial⟩ rfl⟩
def slices_Values_Arc_s1 (n:Nat) (p1:List GArc):Option ((List GArc)) :=
 some p1
theorem slices_Values_Arc_s1_0 (n:Nat) (p1:List GArc) (r:(List GArc)) (hF:slices_Values_Arc_s1 n p1=some r):EvU Try.prog 44 [.isl false (List.map cGArc p1)] ⟨[],0⟩ (fun u σ'=>∃ t:Nat→Nat,u = .fn (.func 55) [] [.iptr [.isl false (List.map cGArc r)]]∧σ'=⟨[],0⟩):=by
 unfold slices_Values_Arc_s1 at hF
 refine EvU.of_body Try.tb_ok fn44 rfl ?_
 refine WPU.ghost (tm':=fr 4 [(0,.isl false (List.map cGArc p1))]) (Gh.start (Nat.le_of_ble_eq_true rfl)) (Nat.le_refl _) ?_
 refine sr ?_
 refine RS.q (u:=.ptr 0 0 0) (σ':=⟨[(0,.row [.isl false (List.map cGArc p1)] 41)],1⟩) rfl (op_box rfl rfl rfl) ?_
 refine se ?_
 refine RS.q rfl (op_fun rfl rfl) ?_
 refine sd ?_
 refine WPU.ret ?_
 refine st ?_
 have hr:=Option.some.inj hF
 subst hr
 exact ⟨.inr rfl,[.fn (.func 55) [] [.ptr 0 0 0]],res_t rfl (res_n),.fn (.func 55) [] [.iptr [.isl false (List.map cGArc p1)]],⟨[],0⟩,(Nat.le_of_ble_eq_true rfl),Gh.trans (Gh.fz (tm':=[.fn (.func 55) [] [.iptr [.isl false (List.map cGArc p1)]]]) (h':=[]) 0 (.row [.isl false (List.map cGArc p1)] 41) 1 rfl (by simp) (by simp only [oneU,fzL_nil,fzL_cons,fz_int,fz_bool,fz_str,fz_nils,fz_nilp,fz_nilm,fz_nilf,fz_junk,fz_isl,fz_map,fz_agg,fz_tup,fz_fn,junkT,fz_sl,fz_p0,fz_iptr,Nat.reduceLeDiff,Nat.reduceMul,List.length_cons,List.length_nil,Nat.reduceAdd]<;>simp only [chunks,List.take,List.drop,List.map,cI,cB,cS,cL]) (by simp only [fzH,fzB,ug,Nat.beq,cond_true,cond_false,oneU,fzL_nil,fzL_cons,fz_int,fz_bool,fz_str,fz_nils,fz_nilp,fz_nilm,fz_nilf,fz_junk,fz_isl,fz_map,fz_agg,fz_tup,fz_fn,junkT,fz_sl,fz_p0,fz_iptr,Nat.reduceLeDiff,Nat.reduceMul,List.length_cons,List.length_nil,Nat.reduceAdd]<;>simp only [chunks,List.take,List.drop,List.map,cI,cB,cS,cL])) (Gh.to (n1:=0) [] rfl rfl (Nat.le_of_ble_eq_true rfl) (Nat.le_of_ble_eq_true rfl) BUL.h BH.h),stF [],rfl,rfl⟩
def graph_canonical_1_s1_J2 (z24:Int) (rc1:Int→(List Int)→(MapL Int Int)→Option ((List Int)×(MapL Int Int))) (l35:List Int) (w37:MapL Int Int):Option ((List Int)×(MapL Int Int)) :=
 rc1 (IntKind.i64.wrap (z24+1)) l35 w37
def graph_canonical_1_s1_K1  (l28:List Int) (w30:MapL Int Int):Option ((List Int)×(MapL Int Int)) :=
 some (l28,w30)
def graph_canonical_1_s1_L1 (p2:List GNode) (r12:(List GArc)) (self:Int→(List GNode)→(List Int)→(MapL Int Int)→Option ((List Int)×(MapL Int Int))):Nat→Int→(List Int)→(MapL Int Int)→Option ((List Int)×(MapL Int Int))
 | 0,_,_,_=>none
 | m1+1,z24,l25,w27 =>
  cond (decide (z24<(r12.length:Int)))
   (bindO (idxO r12 z24) fun x32 =>
   cond (!((mGet (fun a b=>a == b) w27 x32.To).isSome))
    (bindO (self x32.To p2 l25 w27) fun r38 =>
    graph_canonical_1_s1_J2 z24 (graph_canonical_1_s1_L1 p2 r12 self m1) r38.1 r38.2)
    (graph_canonical_1_s1_J2 z24 (graph_canonical_1_s1_L1 p2 r12 self m1) l25 w27))
   (graph_canonical_1_s1_K1 l25 w27)
def graph_canonical_1_s1_b (n:Nat) (self:Int→(List GNode)→(List Int)→(MapL Int Int)→Option ((List Int)×(MapL Int Int))) (p1:Int) (p2:List GNode) (p3:List Int) (p5:MapL Int Int):Option ((List Int)×(MapL Int Int)) :=
 needO ((p3.length+1)*8≤140737488355328∧p3.length+1≤140737488355328) (
 bindO (idxO p2 p1) fun x7 =>
 bindO (slices_Values_Arc_s1 n x7.Arcs) fun r9 =>
 bindO (slices_SortedFunc_Arc_s1 n r9) fun r12 =>
 graph_canonical_1_s1_L1 p2 r12 self n 0 (p3++[p1]) (mUpd (fun a b=>a == b) p5 p1 (p3.length:Int)))
def graph_canonical_1_s1:Nat→Int→(List GNode)→(List Int)→(MapL Int Int)→Option ((List Int)×(MapL Int Int))
 | 0,_,_,_,_=>none
 | n+1,p1,p2,p3,p5=>graph_canonical_1_s1_b n (graph_canonical_1_s1 n) p1 p2 p3 p5
theorem graph_canonical_1_s1_0:∀ (n:Nat) (p1:Int) (p2:List GNode) (p3:List Int) (p5:MapL Int Int) (r:(List Int)×(MapL Int Int)),graph_canonical_1_s1 n p1 p2 p3 p5=some r→∀ t4:Nat,EvU Try.prog 42 [.int .i64 p1,.ptr 0 0 0,.ptr 1 0 0,.ptr 2 0 0,.ptr 3 0 0] ⟨[(0,.row [.vl 4 t4 0 p3.length] 55),(1,.row [.map 5] 61),(2,.row [.isl false (List.map cGNode p2)] 25),(3,.row [.fn (.func 42) [] [.ptr 0 0 0,.ptr 1 0 0,.ptr 2 0 0,.ptr 3 0 0]] 62),(4,.vec (List.map (cI .i64) p3).flatten 3 1 t4),(5,.map (List.map (mE (fun x=>.int .i64 x) (fun x=>.int .i64 x)) p5.es) p5.cl)],6⟩ (fun u σ'=>∃ t:Nat→Nat,u = .tup []∧σ'=⟨[(0,.row [.vl 4 (t 0) 0 r.1.length] 55),(1,.row [.map 5] 61),(2,.row [.isl false (List.map cGNode p2)] 25),(3,.row [.fn (.func 42) [] [.ptr 0 0 0,.ptr 1 0 0,.ptr 2 0 0,.ptr 3 0 0]] 62),(4,.vec (List.map (cI .i64) r.1).flatten 3 1 (t 0)),(5,.map (List.map (mE (fun x=>.int .i64 x) (fun x=>.int .i64 x)) r.2.es) r.2.cl)],6⟩)
 | 0,p1,p2,p3,p5,r,hF=>by cases hF
 | n+1,p1,p2,p3,p5,r,hF=>by
  have ih:=graph_canonical_1_s1_0 n
  unfold graph_canonical_1_s1 graph_canonical_1_s1_b at hF
  intro t4
  refine EvU.of_body Try.tb_ok fn42 rfl ?_
  refine WPU.ghost (tm':=fr 45 [(0,.int .i64 p1),(1,.ptr 0 0 0),(2,.ptr 1 0 0),(3,.ptr 2 0 0),(4,.ptr 3 0 0)]) (Gh.start (Nat.le_of_ble_eq_true rfl)) (Nat.le_refl _) ?_
  refine sr ?_
  refine RS.q (u:=.map 5) rfl (ld_one und61 rfl rfl rfl rfl) (RS.mv rfl rfl rfl rfl (RS.q (u:=.vl 4 t4 0 p3.length) rfl (ld_one und55 rfl rfl rfl rfl) (RS.q rfl (op_len rfl rfl rfl (len_vl und55 rfl)) (RS.opn (u:=.junk) (σ':=⟨[(0,.row [.vl 4 t4 0 p3.length] 55),(1,.row [.map 5] 61),(2,.row [.isl false (List.map cGNode p2)] 25),(3,.row [.fn (.func 42) [] [.ptr 0 0 0,.ptr 1 0 0,.ptr 2 0 0,.ptr 3 0 0]] 62),(4,.vec (List.map (cI .i64) p3).flatten 3 1 t4),(5,.map (List.map (mE (fun x=>.int .i64 x) (fun x=>.int .i64 x)) (mUpd (fun a b=>a == b) p5 p1 (p3.length:Int)).es) (mUpd (fun a b=>a == b) p5 p1 (p3.length:Int)).cl)],6⟩) rfl (op_mup (kU:=(fun x=>.int .i64 x)) (vU:=(fun x=>.int .i64 x)) (m:=p5) (k:=p1) (v:=(p3.length:Int)) (key_int und3) und61 rfl rfl rfl rfl rfl) rfl ?_))))
  refine sd ?_
  obtain ⟨h6,hF⟩:=needO_some hF
  refine sr ?_
  refine RS.q (u:=.vl 4 t4 0 p3.length) rfl (ld_one und55 rfl rfl rfl rfl) (RS.mv rfl rfl rfl rfl (RS.q (u:=.sl 6 0 1 1) (σ':=⟨[(6,.row [.int .i64 p1] 3),(0,.row [.vl 4 t4 0 p3.length] 55),(1,.row [.map 5] 61),(2,.row [.isl false (List.map cGNode p2)] 25),(3,.row [.fn (.func 42) [] [.ptr 0 0 0,.ptr 1 0 0,.ptr 2 0 0,.ptr 3 0 0]] 62),(4,.vec (List.map (cI .i64) p3).flatten 3 1 t4),(5,.map (List.map (mE (fun x=>.int .i64 x) (fun x=>.int .i64 x)) (mUpd (fun a b=>a == b) p5 p1 (p3.length:Int)).es) (mUpd (fun a b=>a == b) p5 p1 (p3.length:Int)).cl)],7⟩) rfl (op_bsl und55 inf3 rfl rfl rfl rfl rfl rfl rfl) (RS.q (u:=.vl 4 (t4+1) 0 ((p3++[p1]).length)) (σ':=⟨[(6,.row [.int .i64 p1] 3),(0,.row [.vl 4 t4 0 p3.length] 55),(1,.row [.map 5] 61),(2,.row [.isl false (List.map cGNode p2)] 25),(3,.row [.fn (.func 42) [] [.ptr 0 0 0,.ptr 1 0 0,.ptr 2 0 0,.ptr 3 0 0]] 62),(4,.vec (List.map (cI .i64) (p3++[p1])).flatten 3 1 (t4+1)),(5,.map (List.map (mE (fun x=>.int .i64 x) (fun x=>.int .i64 x)) (mUpd (fun a b=>a == b) p5 p1 (p3.length:Int)).es) (mUpd (fun a b=>a == b) p5 p1 (p3.length:Int)).cl)],7⟩) rfl (op_app rfl rfl rfl rfl (app_vl (cI .i64) ([p1]) und55 und55 inf3 rfl (len_cI .i64) rfl (src_row (cI .i64) [p1] rfl rfl rfl rfl) h6)) (RS.opn (u:=.junk) (σ':=⟨[(6,.row [.int .i64 p1] 3),(0,.row [.vl 4 (t4+1) 0 ((p3++[p1]).length)] 55),(1,.row [.map 5] 61),(2,.row [.isl false (List.map cGNode p2)] 25),(3,.row [.fn (.func 42) [] [.ptr 0 0 0,.ptr 1 0 0,.ptr 2 0 0,.ptr 3 0 0]] 62),(4,.vec (List.map (cI .i64) (p3++[p1])).flatten 3 1 (t4+1)),(5,.map (List.map (mE (fun x=>.int .i64 x) (fun x=>.int .i64 x)) (mUpd (fun a b=>a == b) p5 p1 (p3.length:Int)).es) (mUpd (fun a b=>a == b) p5 p1 (p3.length:Int)).cl)],7⟩) rfl (op_store (sz_of inf55) rfl rfl rfl rfl rfl rfl rfl rfl) rfl ?_))))
  refine sd ?_
  obtain ⟨x7,h8,hF⟩:=bindO_some hF
  obtain ⟨r9,h10,hF⟩:=bindO_some hF
  obtain ⟨r12,h13,hF⟩:=bindO_some hF
  refine sr ?_
  refine RS.q (u:=.ptr 2 0 0) rfl (op_fa und25 rfl (sz_of inf23) rfl rfl rfl) (RS.q (u:=.isl false (List.map cGNode p2)) rfl (ld_one und23 rfl rfl rfl rfl) (RS.mv rfl rfl rfl rfl (RS.q (u:=.iptr (cGNode x7)) rfl (op_ia rfl rfl (ia_isl cGNode und23 (sz_of inf43) len_cGNode h8 rfl)) (RS.q (u:=.iptr [.isl false (List.map cGArc x7.Arcs)]) rfl (op_fi und43 rfl (sz_of inf41) rfl rfl) (RS.q (u:=.isl false (List.map cGArc x7.Arcs)) rfl (li_one und41 rfl rfl rfl) ?_)))))
  refine RS.callx (R:=fun u σ'=>∃ t11:Nat→Nat,u = .fn (.func 55) [] [.iptr [.isl false (List.map cGArc r9)]]∧σ'=⟨[(6,.row [.int .i64 p1] 3),(0,.row [.vl 4 (t4+1) 0 ((p3++[p1]).length)] 55),(1,.row [.map 5] 61),(2,.row [.isl false (List.map cGNode p2)] 25),(3,.row [.fn (.func 42) [] [.ptr 0 0 0,.ptr 1 0 0,.ptr 2 0 0,.ptr 3 0 0]] 62),(4,.vec (List.map (cI .i64) (p3++[p1])).flatten 3 1 (t4+1)),(5,.map (List.map (mE (fun x=>.int .i64 x) (fun x=>.int .i64 x)) (mUpd (fun a b=>a == b) p5 p1 (p3.length:Int)).es) (mUpd (fun a b=>a == b) p5 p1 (p3.length:Int)).cl)],7⟩) (args:=[.isl false (List.map cGArc x7.Arcs)]) rfl (op_call rfl rfl fn44 hb44 rfl rfl) (EvU.st [] (slices_Values_Arc_s1_0 n x7.Arcs r9 h10 )) rfl rfl ?_
  rintro _ _ ⟨t11,rfl,rfl⟩
  refine RS.callx (R:=fun u σ'=>∃ t14:Nat→Nat,u = .vl 8 (t14 0) 0 r12.length∧σ'=⟨[(8,.vec (List.map cGArc r12).flatten 45 2 (t14 0)),(6,.row [.int .i64 p1] 3),(0,.row [.vl 4 (t4+1) 0 ((p3++[p1]).length)] 55),(1,.row [.map 5] 61),(2,.row [.isl false (List.map cGNode p2)] 25),(3,.row [.fn (.func 42) [] [.ptr 0 0 0,.ptr 1 0 0,.ptr 2 0 0,.ptr 3 0 0]] 62),(4,.vec (List.map (cI .i64) (p3++[p1])).flatten 3 1 (t4+1)),(5,.map (List.map (mE (fun x=>.int .i64 x) (fun x=>.int .i64 x)) (mUpd (fun a b=>a == b) p5 p1 (p3.length:Int)).es) (mUpd (fun a b=>a == b) p5 p1 (p3.length:Int)).cl)],9⟩) (args:=[.fn (.func 55) [] [.iptr [.isl false (List.map cGArc r9)]],.fn (.func 45) [] []]) rfl (op_call rfl rfl fn43 hb43 rfl rfl) (EvU.st [] (slices_SortedFunc_Arc_s1_0 n r9 r12 h13 )) rfl rfl ?_
  rintro _ _ ⟨t14,rfl,rfl⟩
  refine RS.q rfl (op_len rfl rfl rfl (len_vl und41 rfl)) (RS.mv rfl rfl rfl rfl ?_)
  refine sd ?_
  refine WPU.ghost (tm':=fr 45 [(2,.ptr 1 0 0),(4,.ptr 3 0 0),(25,.vl 8 (t14 0) 0 r12.length),(26,.int .i64 (r12.length:Int)),(27,.int .i64 0)]) (Gh.sub ⟨rfl,rfl,rfl,rfl,rfl,trivial⟩) (Nat.le_of_ble_eq_true rfl) ?_
  refine WPU.loopK (fun m tm σ=>∃ z24:Int,∃ l25:List Int,∃ t26:Nat,∃ w27:MapL Int Int,graph_canonical_1_s1_L1 p2 r12 (graph_canonical_1_s1 n) m z24 l25 w27=some r∧tm=fr 45 [(2,.ptr 1 0 0),(4,.ptr 3 0 0),(25,.vl 8 (t14 0) 0 r12.length),(26,.int .i64 (r12.length:Int)),(27,.int .i64 z24)]∧σ=⟨[(8,.vec (List.map cGArc r12).flatten 45 2 (t14 0)),(6,.row [.int .i64 p1] 3),(0,.row [.vl 4 t26 0 l25.length] 55),(1,.row [.map 5] 61),(2,.row [.isl false (List.map cGNode p2)] 25),(3,.row [.fn (.func 42) [] [.ptr 0 0 0,.ptr 1 0 0,.ptr 2 0 0,.ptr 3 0 0]] 62),(4,.vec (List.map (cI .i64) l25).flatten 3 1 t26),(5,.map (List.map (mE (fun x=>.int .i64 x) (fun x=>.int .i64 x)) w27.es) w27.cl)],9⟩) (fun tm σ=>∃ l28:List Int,∃ t29:Nat,∃ w30:MapL Int Int,graph_canonical_1_s1_K1 l28 w30=some r∧tm=fr 45 []∧σ=⟨[(8,.vec (List.map cGArc r12).flatten 45 2 (t14 0)),(6,.row [.int .i64 p1] 3),(0,.row [.vl 4 t29 0 l28.length] 55),(1,.row [.map 5] 61),(2,.row [.isl false (List.map cGNode p2)] 25),(3,.row [.fn (.func 42) [] [.ptr 0 0 0,.ptr 1 0 0,.ptr 2 0 0,.ptr 3 0 0]] 62),(4,.vec (List.map (cI .i64) l28).flatten 3 1 t29),(5,.map (List.map (mE (fun x=>.int .i64 x) (fun x=>.int .i64 x)) w30.es) w30.cl)],9⟩) n ⟨0,(p3++[p1]),(t4+1),(mUpd (fun a b=>a == b) p5 p1 (p3.length:Int)),hF,rfl,rfl⟩ ?_ ?_
  rintro _ _ ⟨l28,t29,w30,hF,rfl,rfl⟩
  unfold graph_canonical_1_s1_K1 at hF
  refine st ?_
  have hr:=Option.some.inj hF
  subst hr
  exact ⟨.inl rfl,[],res_n,.tup [],⟨[(0,.row [.vl 4 t29 0 l28.length] 55),(1,.row [.map 5] 61),(2,.row [.isl false (List.map cGNode p2)] 25),(3,.row [.fn (.func 42) [] [.ptr 0 0 0,.ptr 1 0 0,.ptr 2 0 0,.ptr 3 0 0]] 62),(4,.vec (List.map (cI .i64) l28).flatten 3 1 t29),(5,.map (List.map (mE (fun x=>.int .i64 x) (fun x=>.int .i64 x)) w30.es) w30.cl)],6⟩,(Nat.le_of_ble_eq_true rfl),Gh.to (n1:=6) [] rfl rfl (Nat.le_of_ble_eq_true rfl) (Nat.le_of_ble_eq_true rfl) BUL.h BH.h,stF [t29],rfl,rfl⟩
  rintro m1 _ _ ⟨z24,l25,t26,w27,hF,rfl,rfl⟩
  rcases m1 with _ | m1
  cases hF
  unfold graph_canonical_1_s1_L1 at hF
  refine sr ?_
  refine RS.q rfl (op_int rfl rfl (ix_lss _ _ _) rfl) ?_
  refine sd ?_
  refine WPU.condS (t:=(decide (z24<(r12.length:Int)))) rfl (fun h31=>?_) (fun h31=>?_)
  replace hF:=cond_t h31 hF
  refine st ?_
  refine WPU.skip ?_
  refine st ?_
  refine WPU.block ?_
  refine st ?_
  obtain ⟨x32,h33,hF⟩:=bindO_some hF
  refine sr ?_
  refine RS.q (u:=.ptr 8 (t14 0) (0*2+z24.toNat*2)) rfl (op_ia rfl rfl (ia_vl cGArc und41 (sz_of inf45) (by decide) len_cGArc (vo rfl) h33)) ?_
  refine RS.q (u:=.agg (cGArc x32)) rfl (ld_vec cGArc und45 rfl (sz_of inf45) len_cGArc rfl rfl h33 rfl) (RS.q (u:=.ptr 9 0 0) (σ':=⟨[(9,.row [.int .i64 0,.int .i64 0] 45),(8,.vec (List.map cGArc r12).flatten 45 2 (t14 0)),(6,.row [.int .i64 p1] 3),(0,.row [.vl 4 t26 0 l25.length] 55),(1,.row [.map 5] 61),(2,.row [.isl false (List.map cGNode p2)] 25),(3,.row [.fn (.func 42) [] [.ptr 0 0 0,.ptr 1 0 0,.ptr 2 0 0,.ptr 3 0 0]] 62),(4,.vec (List.map (cI .i64) l25).flatten 3 1 t26),(5,.map (List.map (mE (fun x=>.int .i64 x) (fun x=>.int .i64 x)) w27.es) w27.cl)],10⟩) rfl (op_alloc inf45 rfl rfl) (RS.opn (u:=.junk) (σ':=⟨[(9,.row (cGArc x32) 45),(8,.vec (List.map cGArc r12).flatten 45 2 (t14 0)),(6,.row [.int .i64 p1] 3),(0,.row [.vl 4 t26 0 l25.length] 55),(1,.row [.map 5] 61),(2,.row [.isl false (List.map cGNode p2)] 25),(3,.row [.fn (.func 42) [] [.ptr 0 0 0,.ptr 1 0 0,.ptr 2 0 0,.ptr 3 0 0]] 62),(4,.vec (List.map (cI .i64) l25).flatten 3 1 t26),(5,.map (List.map (mE (fun x=>.int .i64 x) (fun x=>.int .i64 x)) w27.es) w27.cl)],10⟩) rfl (op_store (sz_of inf45) rfl rfl rfl rfl rfl rfl rfl rfl) rfl ?_))
  refine se ?_
  refine RS.q (u:=.map 5) rfl (ld_one und61 rfl rfl rfl rfl) (RS.q (u:=.ptr 9 0 1) rfl (op_fa und45 rfl (sz_of inf3) rfl rfl rfl) (RS.q (u:=.int .i64 x32.To) rfl (ld_one und3 rfl rfl rfl rfl) (RS.q (u:=.tup [.int .i64 ((mGet (fun a b=>a == b) w27 x32.To).getD 0),.bool ((mGet (fun a b=>a == b) w27 x32.To).isSome)]) rfl (op_look2 (kU:=(fun x=>.int .i64 x)) (vU:=(fun x=>.int .i64 x)) (m:=w27) (k:=x32.To) (zv:=0) (key_int und3) und61 rfl rfl rfl inf3 rfl) (RS.mv rfl rfl rfl rfl (RS.q rfl (op_ext rfl rfl) (RS.q rfl (op_ext rfl rfl) ?_))))))
  repeat refine RS.as rfl rfl rfl rfl ?_
  refine se ?_
  refine RS.q (u:=.bool (!((mGet (fun a b=>a == b) w27 x32.To).isSome))) rfl (op_un rfl rfl rfl rfl) ?_
  refine sd ?_
  refine WPU.joinK (fun tm σ=>∃ l35:List Int,∃ t36:Nat,∃ w37:MapL Int Int,graph_canonical_1_s1_J2 z24 (graph_canonical_1_s1_L1 p2 r12 (graph_canonical_1_s1 n) m1) l35 w37=some r∧tm=fr 45 [(2,.ptr 1 0 0),(4,.ptr 3 0 0),(25,.vl 8 (t14 0) 0 r12.length),(26,.int .i64 (r12.length:Int)),(27,.int .i64 z24)]∧σ=⟨[(9,.row (cGArc x32) 45),(8,.vec (List.map cGArc r12).flatten 45 2 (t14 0)),(6,.row [.int .i64 p1] 3),(0,.row [.vl 4 t36 0 l35.length] 55),(1,.row [.map 5] 61),(2,.row [.isl false (List.map cGNode p2)] 25),(3,.row [.fn (.func 42) [] [.ptr 0 0 0,.ptr 1 0 0,.ptr 2 0 0,.ptr 3 0 0]] 62),(4,.vec (List.map (cI .i64) l35).flatten 3 1 t36),(5,.map (List.map (mE (fun x=>.int .i64 x) (fun x=>.int .i64 x)) w37.es) w37.cl)],10⟩) ?_ ?_
  rintro _ _ ⟨l35,t36,w37,hF,rfl,rfl⟩
  unfold graph_canonical_1_s1_J2 at hF
  refine sr ?_
  refine RS.q rfl (op_int rfl rfl (ix_add _ _ _) rfl) (RS.mv rfl rfl rfl rfl ?_)
  refine sd ?_
  exact ⟨m1,_,_,Nat.lt_succ_self _,⟨(IntKind.i64.wrap (z24+1)),l35,t36,w37,hF,rfl,rfl⟩,(Nat.le_of_ble_eq_true rfl),Gh.toC (n1:=9) ⟨rfl,rfl,rfl,rfl,rfl,trivial⟩ rfl (Nat.le_of_ble_eq_true rfl) (by simp)⟩
  refine WPU.condS (t:=(!((mGet (fun a b=>a == b) w27 x32.To).isSome))) rfl (fun h34=>?_) (fun h34=>?_)
  replace hF:=cond_t h34 hF
  refine st ?_
  obtain ⟨r38,h39,hF⟩:=bindO_some hF
  refine sr ?_
  refine RS.q (u:=.fn (.func 42) [] [.ptr 0 0 0,.ptr 1 0 0,.ptr 2 0 0,.ptr 3 0 0]) rfl (ld_one und62 rfl rfl rfl rfl) (RS.q (u:=.ptr 9 0 1) rfl (op_fa und45 rfl (sz_of inf3) rfl rfl rfl) (RS.q (u:=.int .i64 x32.To) rfl (ld_one und3 rfl rfl rfl rfl) ?_))
  refine RS.callx (R:=fun u σ'=>∃ t40:Nat→Nat,u = .tup []∧σ'=⟨[(9,.row (cGArc x32) 45),(8,.vec (List.map cGArc r12).flatten 45 2 (t14 0)),(6,.row [.int .i64 p1] 3),(0,.row [.vl 4 (t40 0) 0 r38.1.length] 55),(1,.row [.map 5] 61),(2,.row [.isl false (List.map cGNode p2)] 25),(3,.row [.fn (.func 42) [] [.ptr 0 0 0,.ptr 1 0 0,.ptr 2 0 0,.ptr 3 0 0]] 62),(4,.vec (List.map (cI .i64) r38.1).flatten 3 1 (t40 0)),(5,.map (List.map (mE (fun x=>.int .i64 x) (fun x=>.int .i64 x)) r38.2.es) r38.2.cl)],10⟩) (args:=[.int .i64 x32.To,.ptr 0 0 0,.ptr 1 0 0,.ptr 2 0 0,.ptr 3 0 0]) rfl (op_call rfl rfl fn42 hb42 rfl rfl) (EvU.st [0,1,2,3,4,5] (ih x32.To p2 l25 w27 r38 h39 t26)) rfl rfl ?_
  rintro _ _ ⟨t40,rfl,rfl⟩
  refine sd ?_
  exact ⟨_,_,⟨r38.1,(t40 0),r38.2,hF,rfl,rfl⟩,(Nat.le_of_ble_eq_true rfl),Gh.toC (n1:=10) ⟨rfl,rfl,rfl,rfl,rfl,trivial⟩ rfl (Nat.le_of_ble_eq_true rfl) (by simp)⟩
  replace hF:=cond_f h34 hF
  refine st ?_
  refine WPU.skip ?_
  refine st ?_
  exact ⟨_,_,⟨l25,t26,w27,hF,rfl,rfl⟩,(Nat.le_of_ble_eq_true rfl),Gh.toC (n1:=10) ⟨rfl,rfl,rfl,rfl,rfl,trivial⟩ rfl (Nat.le_of_ble_eq_true rfl) (by simp)⟩
  replace hF:=cond_f h31 hF
  refine st ?_
  refine WPU.exit ?_
  refine st ?_
  exact ⟨_,_,⟨l25,t26,w27,hF,rfl,rfl⟩,(Nat.le_of_ble_eq_true rfl),Gh.toC (n1:=9) trivial rfl (Nat.le_of_ble_eq_true rfl) (by simp)⟩
def graph_canonical_K2 (p1:GFS) (r3:(List Int)×(MapL Int Int)) (z14:Int) (l15:List GNode) (rc1:Int→(List GNode)→Option (GFS)) (x19:Int) (l44:List GArc):Option (GFS) :=
 bindO (idxO p1.Nodes x19) fun x45 =>
 bindO (idxV l15 0 ((r3.1.length:Int).toNat) z14) fun x47 =>
 rc1 (IntKind.i64.wrap (z14+1)) (l15.set z14.toNat (GNode.mk x45.Typex l44))
def graph_canonical_L2 (p1:GFS) (r3:(List Int)×(MapL Int Int)) (z14:Int) (l15:List GNode) (rc1:Int→(List GNode)→Option (GFS)) (x19:Int) (r26:(List GArc)):Nat→Int→(List GArc)→Option (GFS)
 | 0,_,_=>none
 | m2+1,z42,l43 =>
  cond (decide (z42<(r26.length:Int)))
   (bindO (idxO l43 z42) fun x50 =>
   bindO (idxO l43 z42) fun x52 =>
   (graph_canonical_L2 p1 r3 z14 l15 rc1 x19 r26 m2) (IntKind.i64.wrap (z42+1)) (l43.set (0+z42.toNat) (GArc.mk x52.Feat ((mGet (fun a b=>a == b) r3.2 x50.To).getD 0))))
   (graph_canonical_K2 p1 r3 z14 l15 rc1 x19 l43)
def graph_canonical_K1 (r3:(List Int)×(MapL Int Int)) (l16:List GNode):Option (GFS) :=
 needO ((r3.1.length:Int).toNat=l16.length) (
 some (GFS.mk l16))
def graph_canonical_L1 (p1:GFS) (n:Nat) (r3:(List Int)×(MapL Int Int)):Nat→Int→(List GNode)→Option (GFS)
 | 0,_,_=>none
 | m1+1,z14,l15 =>
  cond (decide (z14<(r3.1.length:Int)))
   (bindO (idxO r3.1 z14) fun x19 =>
   bindO (idxO p1.Nodes x19) fun x21 =>
   bindO (slices_Values_Arc_s1 n x21.Arcs) fun r23 =>
   bindO (slices_SortedFunc_Arc_s1 n r23) fun r26 =>
   graph_canonical_L2 p1 r3 z14 l15 (graph_canonical_L1 p1 n r3 m1) x19 r26 n 0 r26)
   (graph_canonical_K1 r3 l15)
def graph_canonical (n:Nat) (p1:GFS) (p2:Int):Option (GFS) :=
 bindO (graph_canonical_1_s1 n p2 p1.Nodes ([]:List Int) (mNew:MapL Int Int)) fun r3 =>
 needO (0≤(r3.1.length:Int)∧32*(r3.1.length:Int).toNat≤281474976710656∧(r3.1.length:Int)≤281474976710656) (
 graph_canonical_L1 p1 n r3 n 0 (List.replicate (r3.1.length:Int).toNat (GNode.mk 0 [])))
theorem graph_canonical_0 (n:Nat) (p1:GFS) (p2:Int) (r:GFS) (hF:graph_canonical n p1 p2=some r):EvU Try.prog 31 [.agg [.isl false (List.map cGNode p1.Nodes)],.int .i64 p2] ⟨[],0⟩ (fun u _=>u = .agg [.isl false (List.map cGNode r.Nodes)]∧Bel 0 u):=by
 unfold graph_canonical at hF
 refine EvU.of_body Try.tb_ok fn31 rfl ?_
 refine WPU.ghost (tm':=fr 68 [(0,.agg [.isl false (List.map cGNode p1.Nodes)]),(1,.int .i64 p2)]) (Gh.start (Nat.le_of_ble_eq_true rfl)) (Nat.zero_le _) ?_
 refine sr ?_
 refine RS.q (u:=.ptr 0 0 0) (σ':=⟨[(0,.row [.isl false (List.map cGNode p1.Nodes)] 25)],1⟩) rfl (op_box rfl rfl rfl) (RS.q (u:=.ptr 1 0 0) (σ':=⟨[(1,.row [.nils] 25),(0,.row [.isl false (List.map cGNode p1.Nodes)] 25)],2⟩) rfl (op_alloc inf25 rfl rfl) ?_)
 refine se ?_
 refine RS.q (u:=.map 2) (σ':=⟨[(2,.map (List.map (mE (fun x=>.int .i64 x) (fun x=>.int .i64 x)) (mNew:MapL Int Int).es) (mNew:MapL Int Int).cl),(1,.row [.nils] 25),(0,.row [.isl false (List.map cGNode p1.Nodes)] 25)],3⟩) rfl (op_mnew) (RS.q (u:=.ptr 3 0 0) (σ':=⟨[(3,.row [.nilm] 61),(2,.map (List.map (mE (fun x=>.int .i64 x) (fun x=>.int .i64 x)) (mNew:MapL Int Int).es) (mNew:MapL Int Int).cl),(1,.row [.nils] 25),(0,.row [.isl false (List.map cGNode p1.Nodes)] 25)],4⟩) rfl (op_alloc inf61 rfl rfl) (RS.opn (u:=.junk) (σ':=⟨[(3,.row [.map 2] 61),(2,.map (List.map (mE (fun x=>.int .i64 x) (fun x=>.int .i64 x)) (mNew:MapL Int Int).es) (mNew:MapL Int Int).cl),(1,.row [.nils] 25),(0,.row [.isl false (List.map cGNode p1.Nodes)] 25)],4⟩) rfl (op_store (sz_of inf61) rfl rfl rfl rfl rfl rfl rfl rfl) rfl ?_))
 refine se ?_
 refine RS.q (u:=.ptr 4 0 0) (σ':=⟨[(4,.row [.nils] 55),(3,.row [.map 2] 61),(2,.map (List.map (mE (fun x=>.int .i64 x) (fun x=>.int .i64 x)) (mNew:MapL Int Int).es) (mNew:MapL Int Int).cl),(1,.row [.nils] 25),(0,.row [.isl false (List.map cGNode p1.Nodes)] 25)],5⟩) rfl (op_alloc inf55 rfl rfl) ?_
 refine se ?_
 refine RS.q (u:=.ptr 5 0 0) (σ':=⟨[(5,.row [.nilf] 62),(4,.row [.nils] 55),(3,.row [.map 2] 61),(2,.map (List.map (mE (fun x=>.int .i64 x) (fun x=>.int .i64 x)) (mNew:MapL Int Int).es) (mNew:MapL Int Int).cl),(1,.row [.nils] 25),(0,.row [.isl false (List.map cGNode p1.Nodes)] 25)],6⟩) rfl (op_alloc inf62 rfl rfl) ?_
 refine se ?_
 refine RS.q rfl (op_fun rfl rfl) (RS.opn (u:=.junk) (σ':=⟨[(5,.row [.fn (.func 42) [] [.ptr 4 0 0,.ptr 3 0 0,.ptr 0 0 0,.ptr 5 0 0]] 62),(4,.row [.nils] 55),(3,.row [.map 2] 61),(2,.map (List.map (mE (fun x=>.int .i64 x) (fun x=>.int .i64 x)) (mNew:MapL Int Int).es) (mNew:MapL Int Int).cl),(1,.row [.nils] 25),(0,.row [.isl false (List.map cGNode p1.Nodes)] 25)],6⟩) rfl (op_store (sz_of inf62) rfl rfl rfl rfl rfl rfl rfl rfl) rfl ?_)
 refine sd ?_
 refine WPU.ghost (tm':=fr 68 [(1,.int .i64 p2),(2,.ptr 0 0 0),(4,.ptr 1 0 0),(5,.ptr 3 0 0),(6,.ptr 4 0 0),(7,.ptr 5 0 0)]) (σ':=⟨[(6,.vec (List.map (cI .i64) ([]:List Int)).flatten 3 1 0),(5,.row [.fn (.func 42) [] [.ptr 4 0 0,.ptr 3 0 0,.ptr 0 0 0,.ptr 5 0 0]] 62),(4,.row [.vl 6 0 0 (([]:List Int).length)] 55),(3,.row [.map 2] 61),(2,.map (List.map (mE (fun x=>.int .i64 x) (fun x=>.int .i64 x)) (mNew:MapL Int Int).es) (mNew:MapL Int Int).cl),(1,.row [.nils] 25),(0,.row [.isl false (List.map cGNode p1.Nodes)] 25)],7⟩) (Gh.trans (Gh.nilC 4 0 3 1 (by decide) (Nat.zero_le _) rfl rfl) (Gh.eqS ⟨rfl,rfl,rfl,rfl,rfl,rfl,trivial⟩ rfl)) (Nat.zero_le _) ?_
 refine st ?_
 obtain ⟨r3,h4,hF⟩:=bindO_some hF
 refine sr ?_
 refine RS.q (u:=.fn (.func 42) [] [.ptr 4 0 0,.ptr 3 0 0,.ptr 0 0 0,.ptr 5 0 0]) rfl (ld_one und62 rfl rfl rfl rfl) (RS.mv rfl rfl rfl rfl ?_)
 refine RS.callx (R:=fun u σ'=>∃ t5:Nat→Nat,u = .tup []∧σ'=⟨[(6,.vec (List.map (cI .i64) r3.1).flatten 3 1 (t5 0)),(5,.row [.fn (.func 42) [] [.ptr 4 0 0,.ptr 3 0 0,.ptr 0 0 0,.ptr 5 0 0]] 62),(4,.row [.vl 6 (t5 0) 0 r3.1.length] 55),(3,.row [.map 2] 61),(2,.map (List.map (mE (fun x=>.int .i64 x) (fun x=>.int .i64 x)) r3.2.es) r3.2.cl),(1,.row [.nils] 25),(0,.row [.isl false (List.map cGNode p1.Nodes)] 25)],7⟩) (args:=[.int .i64 p2,.ptr 4 0 0,.ptr 3 0 0,.ptr 0 0 0,.ptr 5 0 0]) rfl (op_call rfl rfl fn42 hb42 rfl rfl) (EvU.st [4,3,0,5,6,2] (graph_canonical_1_s1_0 n p2 p1.Nodes ([]:List Int) (mNew:MapL Int Int) r3 h4 0)) rfl rfl ?_
 rintro _ _ ⟨t5,rfl,rfl⟩
 refine sd ?_
 obtain ⟨h6,hF⟩:=needO_some hF
 refine sr ?_
 refine RS.q (u:=.vl 6 (t5 0) 0 r3.1.length) rfl (ld_one und55 rfl rfl rfl rfl) (RS.q rfl (op_len rfl rfl rfl (len_vl und55 rfl)) (RS.q (u:=.sl 7 0 ((r3.1.length:Int).toNat) ((r3.1.length:Int).toNat)) (σ':=⟨[(7,.row (List.map cGNode (List.replicate (r3.1.length:Int).toNat (GNode.mk 0 []))).flatten 43),(6,.vec (List.map (cI .i64) r3.1).flatten 3 1 (t5 0)),(5,.row [.fn (.func 42) [] [.ptr 4 0 0,.ptr 3 0 0,.ptr 0 0 0,.ptr 5 0 0]] 62),(4,.row [.vl 6 (t5 0) 0 r3.1.length] 55),(3,.row [.map 2] 61),(2,.map (List.map (mE (fun x=>.int .i64 x) (fun x=>.int .i64 x)) r3.2.es) r3.2.cl),(1,.row [.nils] 25),(0,.row [.isl false (List.map cGNode p1.Nodes)] 25)],8⟩) rfl (op_mks cGNode (GNode.mk 0 []) rfl rfl und23 inf43 rfl rfl rfl rfl h6) (RS.q (u:=.agg [.sl 7 0 ((r3.1.length:Int).toNat) ((r3.1.length:Int).toNat)]) rfl (op_bld bd25 rfl rfl rfl) (RS.q (u:=.ptr 8 0 0) (σ':=⟨[(8,.row [.nils] 25),(7,.row (List.map cGNode (List.replicate (r3.1.length:Int).toNat (GNode.mk 0 []))).flatten 43),(6,.vec (List.map (cI .i64) r3.1).flatten 3 1 (t5 0)),(5,.row [.fn (.func 42) [] [.ptr 4 0 0,.ptr 3 0 0,.ptr 0 0 0,.ptr 5 0 0]] 62),(4,.row [.vl 6 (t5 0) 0 r3.1.length] 55),(3,.row [.map 2] 61),(2,.map (List.map (mE (fun x=>.int .i64 x) (fun x=>.int .i64 x)) r3.2.es) r3.2.cl),(1,.row [.nils] 25),(0,.row [.isl false (List.map cGNode p1.Nodes)] 25)],9⟩) rfl (op_alloc inf25 rfl rfl) (RS.opn (u:=.junk) (σ':=⟨[(8,.row [.sl 7 0 ((r3.1.length:Int).toNat) ((r3.1.length:Int).toNat)] 25),(7,.row (List.map cGNode (List.replicate (r3.1.length:Int).toNat (GNode.mk 0 []))).flatten 43),(6,.vec (List.map (cI .i64) r3.1).flatten 3 1 (t5 0)),(5,.row [.fn (.func 42) [] [.ptr 4 0 0,.ptr 3 0 0,.ptr 0 0 0,.ptr 5 0 0]] 62),(4,.row [.vl 6 (t5 0) 0 r3.1.length] 55),(3,.row [.map 2] 61),(2,.map (List.map (mE (fun x=>.int .i64 x) (fun x=>.int .i64 x)) r3.2.es) r3.2.cl),(1,.row [.nils] 25),(0,.row [.isl false (List.map cGNode p1.Nodes)] 25)],9⟩) rfl (op_store (sz_of inf25) rfl rfl rfl rfl rfl rfl rfl rfl) rfl ?_)))))
 refine se ?_
 refine RS.q (u:=.vl 6 (t5 0) 0 r3.1.length) rfl (ld_one und55 rfl rfl rfl rfl) (RS.q rfl (op_len rfl rfl rfl (len_vl und55 rfl)) (RS.mv rfl rfl rfl rfl ?_))
 refine sd ?_
 refine WPU.ghost (tm':=fr 68 [(2,.ptr 0 0 0),(4,.ptr 1 0 0),(5,.ptr 3 0 0),(8,.ptr 8 0 0),(22,.vl 6 (t5 0) 0 r3.1.length),(23,.int .i64 (r3.1.length:Int)),(24,.int .i64 0)]) (Gh.sub ⟨rfl,rfl,rfl,rfl,rfl,rfl,rfl,trivial⟩) (Nat.zero_le _) ?_
 refine WPU.loopK (fun m tm σ=>∃ z14:Int,∃ l15:List GNode,graph_canonical_L1 p1 n r3 m z14 l15=some r∧tm=fr 68 [(2,.ptr 0 0 0),(4,.ptr 1 0 0),(5,.ptr 3 0 0),(8,.ptr 8 0 0),(22,.vl 6 (t5 0) 0 r3.1.length),(23,.int .i64 (r3.1.length:Int)),(24,.int .i64 z14)]∧σ=⟨[(8,.row [.sl 7 0 ((r3.1.length:Int).toNat) ((r3.1.length:Int).toNat)] 25),(7,.row (List.map cGNode l15).flatten 43),(6,.vec (List.map (cI .i64) r3.1).flatten 3 1 (t5 0)),(5,.row [.fn (.func 42) [] [.ptr 4 0 0,.ptr 3 0 0,.ptr 0 0 0,.ptr 5 0 0]] 62),(4,.row [.vl 6 (t5 0) 0 r3.1.length] 55),(3,.row [.map 2] 61),(2,.map (List.map (mE (fun x=>.int .i64 x) (fun x=>.int .i64 x)) r3.2.es) r3.2.cl),(1,.row [.nils] 25),(0,.row [.isl false (List.map cGNode p1.Nodes)] 25)],9⟩) (fun tm σ=>∃ l16:List GNode,graph_canonical_K1 r3 l16=some r∧tm=fr 68 [(4,.ptr 1 0 0),(8,.ptr 8 0 0)]∧σ=⟨[(8,.row [.sl 7 0 ((r3.1.length:Int).toNat) ((r3.1.length:Int).toNat)] 25),(7,.row (List.map cGNode l16).flatten 43),(6,.vec (List.map (cI .i64) r3.1).flatten 3 1 (t5 0)),(5,.row [.fn (.func 42) [] [.ptr 4 0 0,.ptr 3 0 0,.ptr 0 0 0,.ptr 5 0 0]] 62),(4,.row [.vl 6 (t5 0) 0 r3.1.length] 55),(3,.row [.map 2] 61),(2,.map (List.map (mE (fun x=>.int .i64 x) (fun x=>.int .i64 x)) r3.2.es) r3.2.cl),(1,.row [.nils] 25),(0,.row [.isl false (List.map cGNode p1.Nodes)] 25)],9⟩) n ⟨0,(List.replicate (r3.1.length:Int).toNat (GNode.mk 0 [])),hF,rfl,rfl⟩ ?_ ?_
 rintro _ _ ⟨l16,hF,rfl,rfl⟩
 unfold graph_canonical_K1 at hF
 refine sr ?_
 refine RS.q (u:=.agg [.sl 7 0 ((r3.1.length:Int).toNat) ((r3.1.length:Int).toNat)]) rfl (ld_agg und25 rfl (sz_of inf25) rfl rfl rfl) (RS.opn (u:=.junk) (σ':=⟨[(8,.row [.sl 7 0 ((r3.1.length:Int).toNat) ((r3.1.length:Int).toNat)] 25),(7,.row (List.map cGNode l16).flatten 43),(6,.vec (List.map (cI .i64) r3.1).flatten 3 1 (t5 0)),(5,.row [.fn (.func 42) [] [.ptr 4 0 0,.ptr 3 0 0,.ptr 0 0 0,.ptr 5 0 0]] 62),(4,.row [.vl 6 (t5 0) 0 r3.1.length] 55),(3,.row [.map 2] 61),(2,.map (List.map (mE (fun x=>.int .i64 x) (fun x=>.int .i64 x)) r3.2.es) r3.2.cl),(1,.row [.sl 7 0 ((r3.1.length:Int).toNat) ((r3.1.length:Int).toNat)] 25),(0,.row [.isl false (List.map cGNode p1.Nodes)] 25)],9⟩) rfl (op_store (sz_of inf25) rfl rfl rfl rfl rfl rfl rfl rfl) rfl ?_)
 refine sd ?_
 refine WPU.ret ?_
 refine st ?_
 obtain ⟨h17,hF⟩:=needO_some hF
 have hr:=Option.some.inj hF
 subst hr
 exact ⟨.inr rfl,[.agg [.sl 7 0 ((r3.1.length:Int).toNat) ((r3.1.length:Int).toNat)]],res_c (ld_agg und25 rfl (sz_of inf25) rfl rfl rfl) (res_n),.agg [.isl false (List.map cGNode l16)],⟨[],0⟩,Nat.le_refl _,Gh.trans (Gh.fz (tm':=[.agg [.isl false (List.map cGNode l16)]]) 7 (.row (List.map cGNode l16).flatten 43) 2 rfl (by simp) (by simp only [oneU,fzL_nil,fzL_cons,fz_int,fz_bool,fz_str,fz_nils,fz_nilp,fz_nilm,fz_nilf,fz_junk,fz_isl,fz_map,fz_agg,fz_tup,fz_fn,junkT,fz_rl len_cGNode h17,fz_vn (show Nat.beq 0 7=false from rfl),fz_sn (show Nat.beq 0 7=false from rfl),fz_pn (show Nat.beq 0 7=false from rfl),fz_vn (show Nat.beq 2 7=false from rfl),fz_sn (show Nat.beq 2 7=false from rfl),fz_pn (show Nat.beq 2 7=false from rfl),fz_vn (show Nat.beq 3 7=false from rfl),fz_sn (show Nat.beq 3 7=false from rfl),fz_pn (show Nat.beq 3 7=false from rfl),fz_vn (show Nat.beq 4 7=false from rfl),fz_sn (show Nat.beq 4 7=false from rfl),fz_pn (show Nat.beq 4 7=false from rfl),fz_vn (show Nat.beq 5 7=false from rfl),fz_sn (show Nat.beq 5 7=false from rfl),fz_pn (show Nat.beq 5 7=false from rfl),fz_vn (show Nat.beq 6 7=false from rfl),fz_sn (show Nat.beq 6 7=false from rfl),fz_pn (show Nat.beq 6 7=false from rfl),fzL_bel _ _ _ (bel_flat 7 (fun q=>bel_cI _ .i64 q) r3.1),fz_mE]) rfl) (Gh.toR (.agg [.isl false (List.map cGNode l16)]) rfl),rfl,BU.h⟩
 rintro m1 _ _ ⟨z14,l15,hF,rfl,rfl⟩
 rcases m1 with _ | m1
 cases hF
 unfold graph_canonical_L1 at hF
 refine sr ?_
 refine RS.q rfl (op_int rfl rfl (ix_lss _ _ _) rfl) ?_
 refine sd ?_
 refine WPU.condS (t:=(decide (z14<(r3.1.length:Int)))) rfl (fun h18=>?_) (fun h18=>?_)
 replace hF:=cond_t h18 hF
 refine st ?_
 refine WPU.skip ?_
 refine st ?_
 refine WPU.block ?_
 refine st ?_
 obtain ⟨x19,h20,hF⟩:=bindO_some hF
 refine sr ?_
 refine RS.q (u:=.ptr 6 (t5 0) (0*1+z14.toNat*1)) rfl (op_ia rfl rfl (ia_vl (cI .i64) und55 (sz_of inf3) (by decide) (len_cI .i64) (vo rfl) h20)) ?_
 refine RS.q (u:=.int .i64 x19) rfl (ld_vec1 (cI .i64) (fun x=>.int .i64 x) und3 rfl (fun _=>rfl) rfl rfl h20) ?_
 repeat refine RS.as rfl rfl rfl rfl ?_
 refine sd ?_
 obtain ⟨x21,h22,hF⟩:=bindO_some hF
 obtain ⟨r23,h24,hF⟩:=bindO_some hF
 obtain ⟨r26,h27,hF⟩:=bindO_some hF
 refine sr ?_
 refine RS.q (u:=.ptr 0 0 0) rfl (op_fa und25 rfl (sz_of inf23) rfl rfl rfl) (RS.q (u:=.isl false (List.map cGNode p1.Nodes)) rfl (ld_one und23 rfl rfl rfl rfl) (RS.mv rfl rfl rfl rfl (RS.q (u:=.iptr (cGNode x21)) rfl (op_ia rfl rfl (ia_isl cGNode und23 (sz_of inf43) len_cGNode h22 rfl)) (RS.q (u:=.iptr [.isl false (List.map cGArc x21.Arcs)]) rfl (op_fi und43 rfl (sz_of inf41) rfl rfl) (RS.q (u:=.isl false (List.map cGArc x21.Arcs)) rfl (li_one und41 rfl rfl rfl) ?_)))))
 refine RS.callx (R:=fun u σ'=>∃ t25:Nat→Nat,u = .fn (.func 55) [] [.iptr [.isl false (List.map cGArc r23)]]∧σ'=⟨[(8,.row [.sl 7 0 ((r3.1.length:Int).toNat) ((r3.1.length:Int).toNat)] 25),(7,.row (List.map cGNode l15).flatten 43),(6,.vec (List.map (cI .i64) r3.1).flatten 3 1 (t5 0)),(5,.row [.fn (.func 42) [] [.ptr 4 0 0,.ptr 3 0 0,.ptr 0 0 0,.ptr 5 0 0]] 62),(4,.row [.vl 6 (t5 0) 0 r3.1.length] 55),(3,.row [.map 2] 61),(2,.map (List.map (mE (fun x=>.int .i64 x) (fun x=>.int .i64 x)) r3.2.es) r3.2.cl),(1,.row [.nils] 25),(0,.row [.isl false (List.map cGNode p1.Nodes)] 25)],9⟩) (args:=[.isl false (List.map cGArc x21.Arcs)]) rfl (op_call rfl rfl fn44 hb44 rfl rfl) (EvU.st [] (slices_Values_Arc_s1_0 n x21.Arcs r23 h24 )) rfl rfl ?_
 rintro _ _ ⟨t25,rfl,rfl⟩
 refine RS.callx (R:=fun u σ'=>∃ t28:Nat→Nat,u = .vl 10 (t28 0) 0 r26.length∧σ'=⟨[(10,.vec (List.map cGArc r26).flatten 45 2 (t28 0)),(8,.row [.sl 7 0 ((r3.1.length:Int).toNat) ((r3.1.length:Int).toNat)] 25),(7,.row (List.map cGNode l15).flatten 43),(6,.vec (List.map (cI .i64) r3.1).flatten 3 1 (t5 0)),(5,.row [.fn (.func 42) [] [.ptr 4 0 0,.ptr 3 0 0,.ptr 0 0 0,.ptr 5 0 0]] 62),(4,.row [.vl 6 (t5 0) 0 r3.1.length] 55),(3,.row [.map 2] 61),(2,.map (List.map (mE (fun x=>.int .i64 x) (fun x=>.int .i64 x)) r3.2.es) r3.2.cl),(1,.row [.nils] 25),(0,.row [.isl false (List.map cGNode p1.Nodes)] 25)],11⟩) (args:=[.fn (.func 55) [] [.iptr [.isl false (List.map cGArc r23)]],.fn (.func 45) [] []]) rfl (op_call rfl rfl fn43 hb43 rfl rfl) (EvU.st [] (slices_SortedFunc_Arc_s1_0 n r23 r26 h27 )) rfl rfl ?_
 rintro _ _ ⟨t28,rfl,rfl⟩
 refine se ?_
 refine RS.q rfl (op_len rfl rfl rfl (len_vl und41 rfl)) (RS.mv rfl rfl rfl rfl ?_)
 refine sd ?_
 refine WPU.ghost (tm':=fr 68 [(2,.ptr 0 0 0),(4,.ptr 1 0 0),(5,.ptr 3 0 0),(8,.ptr 8 0 0),(9,.int .i64 z14),(10,.int .i64 x19),(11,.vl 10 (t28 0) 0 r26.length),(22,.vl 6 (t5 0) 0 r3.1.length),(23,.int .i64 (r3.1.length:Int)),(24,.int .i64 z14),(38,.int .i64 (r26.length:Int)),(39,.int .i64 0)]) (Gh.sub ⟨rfl,rfl,rfl,rfl,rfl,rfl,rfl,rfl,rfl,rfl,rfl,rfl,trivial⟩) (Nat.zero_le _) ?_
 refine WPU.loopK (fun m tm σ=>∃ z42:Int,∃ l43:List GArc,graph_canonical_L2 p1 r3 z14 l15 (graph_canonical_L1 p1 n r3 m1) x19 r26 m z42 l43=some r∧tm=fr 68 [(2,.ptr 0 0 0),(4,.ptr 1 0 0),(5,.ptr 3 0 0),(8,.ptr 8 0 0),(9,.int .i64 z14),(10,.int .i64 x19),(11,.vl 10 (t28 0) 0 l43.length),(22,.vl 6 (t5 0) 0 r3.1.length),(23,.int .i64 (r3.1.length:Int)),(24,.int .i64 z14),(38,.int .i64 (r26.length:Int)),(39,.int .i64 z42)]∧σ=⟨[(10,.vec (List.map cGArc l43).flatten 45 2 (t28 0)),(8,.row [.sl 7 0 ((r3.1.length:Int).toNat) ((r3.1.length:Int).toNat)] 25),(7,.row (List.map cGNode l15).flatten 43),(6,.vec (List.map (cI .i64) r3.1).flatten 3 1 (t5 0)),(5,.row [.fn (.func 42) [] [.ptr 4 0 0,.ptr 3 0 0,.ptr 0 0 0,.ptr 5 0 0]] 62),(4,.row [.vl 6 (t5 0) 0 r3.1.length] 55),(3,.row [.map 2] 61),(2,.map (List.map (mE (fun x=>.int .i64 x) (fun x=>.int .i64 x)) r3.2.es) r3.2.cl),(1,.row [.nils] 25),(0,.row [.isl false (List.map cGNode p1.Nodes)] 25)],11⟩) (fun tm σ=>∃ l44:List GArc,graph_canonical_K2 p1 r3 z14 l15 (graph_canonical_L1 p1 n r3 m1) x19 l44=some r∧tm=fr 68 [(2,.ptr 0 0 0),(4,.ptr 1 0 0),(5,.ptr 3 0 0),(8,.ptr 8 0 0),(9,.int .i64 z14),(10,.int .i64 x19),(11,.vl 10 (t28 0) 0 l44.length),(22,.vl 6 (t5 0) 0 r3.1.length),(23,.int .i64 (r3.1.length:Int)),(24,.int .i64 z14)]∧σ=⟨[(10,.vec (List.map cGArc l44).flatten 45 2 (t28 0)),(8,.row [.sl 7 0 ((r3.1.length:Int).toNat) ((r3.1.length:Int).toNat)] 25),(7,.row (List.map cGNode l15).flatten 43),(6,.vec (List.map (cI .i64) r3.1).flatten 3 1 (t5 0)),(5,.row [.fn (.func 42) [] [.ptr 4 0 0,.ptr 3 0 0,.ptr 0 0 0,.ptr 5 0 0]] 62),(4,.row [.vl 6 (t5 0) 0 r3.1.length] 55),(3,.row [.map 2] 61),(2,.map (List.map (mE (fun x=>.int .i64 x) (fun x=>.int .i64 x)) r3.2.es) r3.2.cl),(1,.row [.nils] 25),(0,.row [.isl false (List.map cGNode p1.Nodes)] 25)],11⟩) n ⟨0,r26,hF,rfl,rfl⟩ ?_ ?_
 rintro _ _ ⟨l44,hF,rfl,rfl⟩
 unfold graph_canonical_K2 at hF
 refine st ?_
 refine WPU.ghost (tm':=fr 68 [(2,.ptr 0 0 0),(4,.ptr 1 0 0),(5,.ptr 3 0 0),(8,.ptr 8 0 0),(9,.int .i64 z14),(10,.int .i64 x19),(11,.isl false (List.map cGArc l44)),(22,.vl 6 (t5 0) 0 r3.1.length),(23,.int .i64 (r3.1.length:Int)),(24,.int .i64 z14)]) (σ':=⟨[(8,.row [.sl 7 0 ((r3.1.length:Int).toNat) ((r3.1.length:Int).toNat)] 25),(7,.row (List.map cGNode l15).flatten 43),(6,.vec (List.map (cI .i64) r3.1).flatten 3 1 (t5 0)),(5,.row [.fn (.func 42) [] [.ptr 4 0 0,.ptr 3 0 0,.ptr 0 0 0,.ptr 5 0 0]] 62),(4,.row [.vl 6 (t5 0) 0 r3.1.length] 55),(3,.row [.map 2] 61),(2,.map (List.map (mE (fun x=>.int .i64 x) (fun x=>.int .i64 x)) r3.2.es) r3.2.cl),(1,.row [.nils] 25),(0,.row [.isl false (List.map cGNode p1.Nodes)] 25)],11⟩) (Gh.trans (Gh.sub (l':=[(2,.ptr 0 0 0),(4,.ptr 1 0 0),(5,.ptr 3 0 0),(8,.ptr 8 0 0),(9,.int .i64 z14),(10,.int .i64 x19),(11,.vl 10 (t28 0) 0 l44.length),(22,.vl 6 (t5 0) 0 r3.1.length),(23,.int .i64 (r3.1.length:Int)),(24,.int .i64 z14)]) ⟨rfl,rfl,rfl,rfl,rfl,rfl,rfl,rfl,rfl,rfl,trivial⟩) (Gh.fzS (l':=[(2,.ptr 0 0 0),(4,.ptr 1 0 0),(5,.ptr 3 0 0),(8,.ptr 8 0 0),(9,.int .i64 z14),(10,.int .i64 x19),(11,.isl false (List.map cGArc l44)),(22,.vl 6 (t5 0) 0 r3.1.length),(23,.int .i64 (r3.1.length:Int)),(24,.int .i64 z14)]) (h':=[(8,.row [.sl 7 0 ((r3.1.length:Int).toNat) ((r3.1.length:Int).toNat)] 25),(7,.row (List.map cGNode l15).flatten 43),(6,.vec (List.map (cI .i64) r3.1).flatten 3 1 (t5 0)),(5,.row [.fn (.func 42) [] [.ptr 4 0 0,.ptr 3 0 0,.ptr 0 0 0,.ptr 5 0 0]] 62),(4,.row [.vl 6 (t5 0) 0 r3.1.length] 55),(3,.row [.map 2] 61),(2,.map (List.map (mE (fun x=>.int .i64 x) (fun x=>.int .i64 x)) r3.2.es) r3.2.cl),(1,.row [.nils] 25),(0,.row [.isl false (List.map cGNode p1.Nodes)] 25)]) 10 (.vec (List.map cGArc l44).flatten 45 2 (t28 0)) 2 rfl (by simp) (by simp only [fzS,oneU,fzL_nil,fzL_cons,fz_int,fz_bool,fz_str,fz_nils,fz_nilp,fz_nilm,fz_nilf,fz_junk,fz_isl,fz_map,fz_agg,fz_tup,fz_fn,junkT,fz_vl len_cGArc,fz_vn (show Nat.beq 0 10=false from rfl),fz_sn (show Nat.beq 0 10=false from rfl),fz_pn (show Nat.beq 0 10=false from rfl),fz_vn (show Nat.beq 1 10=false from rfl),fz_sn (show Nat.beq 1 10=false from rfl),fz_pn (show Nat.beq 1 10=false from rfl),fz_vn (show Nat.beq 2 10=false from rfl),fz_sn (show Nat.beq 2 10=false from rfl),fz_pn (show Nat.beq 2 10=false from rfl),fz_vn (show Nat.beq 3 10=false from rfl),fz_sn (show Nat.beq 3 10=false from rfl),fz_pn (show Nat.beq 3 10=false from rfl),fz_vn (show Nat.beq 4 10=false from rfl),fz_sn (show Nat.beq 4 10=false from rfl),fz_pn (show Nat.beq 4 10=false from rfl),fz_vn (show Nat.beq 5 10=false from rfl),fz_sn (show Nat.beq 5 10=false from rfl),fz_pn (show Nat.beq 5 10=false from rfl),fz_vn (show Nat.beq 6 10=false from rfl),fz_sn (show Nat.beq 6 10=false from rfl),fz_pn (show Nat.beq 6 10=false from rfl),fz_vn (show Nat.beq 7 10=false from rfl),fz_sn (show Nat.beq 7 10=false from rfl),fz_pn (show Nat.beq 7 10=false from rfl),fz_vn (show Nat.beq 8 10=false from rfl),fz_sn (show Nat.beq 8 10=false from rfl),fz_pn (show Nat.beq 8 10=false from rfl),fzL_bel _ _ _ (bel_flat 10 (fun q=>bel_cGNode _ q) l15),fzL_bel _ _ _ (bel_flat 10 (fun q=>bel_cI _ .i64 q) r3.1),fz_mE]) (by simp only [fzH,fzB,ug,Nat.beq,cond_true,cond_false,oneU,fzL_nil,fzL_cons,fz_int,fz_bool,fz_str,fz_nils,fz_nilp,fz_nilm,fz_nilf,fz_junk,fz_isl,fz_map,fz_agg,fz_tup,fz_fn,junkT,fz_vl len_cGArc,fz_vn (show Nat.beq 0 10=false from rfl),fz_sn (show Nat.beq 0 10=false from rfl),fz_pn (show Nat.beq 0 10=false from rfl),fz_vn (show Nat.beq 1 10=false from rfl),fz_sn (show Nat.beq 1 10=false from rfl),fz_pn (show Nat.beq 1 10=false from rfl),fz_vn (show Nat.beq 2 10=false from rfl),fz_sn (show Nat.beq 2 10=false from rfl),fz_pn (show Nat.beq 2 10=false from rfl),fz_vn (show Nat.beq 3 10=false from rfl),fz_sn (show Nat.beq 3 10=false from rfl),fz_pn (show Nat.beq 3 10=false from rfl),fz_vn (show Nat.beq 4 10=false from rfl),fz_sn (show Nat.beq 4 10=false from rfl),fz_pn (show Nat.beq 4 10=false from rfl),fz_vn (show Nat.beq 5 10=false from rfl),fz_sn (show Nat.beq 5 10=false from rfl),fz_pn (show Nat.beq 5 10=false from rfl),fz_vn (show Nat.beq 6 10=false from rfl),fz_sn (show Nat.beq 6 10=false from rfl),fz_pn (show Nat.beq 6 10=false from rfl),fz_vn (show Nat.beq 7 10=false from rfl),fz_sn (show Nat.beq 7 10=false from rfl),fz_pn (show Nat.beq 7 10=false from rfl),fz_vn (show Nat.beq 8 10=false from rfl),fz_sn (show Nat.beq 8 10=false from rfl),fz_pn (show Nat.beq 8 10=false from rfl),fzL_bel _ _ _ (bel_flat 10 (fun q=>bel_cGNode _ q) l15),fzL_bel _ _ _ (bel_flat 10 (fun q=>bel_cI _ .i64 q) r3.1),fz_mE]))) (Nat.zero_le _) ?_
 refine st ?_
 obtain ⟨x45,h46,hF⟩:=bindO_some hF
 obtain ⟨x47,h48,hF⟩:=bindO_some hF
 refine WPU.drawE Try.tb_ok [] (by kernel_rfl) ?_
 refine RD.q (u:=.ptr 8 0 0) rfl (op_fa und25 rfl (sz_of inf23) rfl rfl rfl) (RD.q (u:=.sl 7 0 ((r3.1.length:Int).toNat) ((r3.1.length:Int).toNat)) rfl (ld_one und23 rfl rfl rfl rfl) (RD.mv rfl rfl rfl rfl (RD.q (u:=.ptr 0 0 0) rfl (op_fa und25 rfl (sz_of inf23) rfl rfl rfl) (RD.q (u:=.isl false (List.map cGNode p1.Nodes)) rfl (ld_one und23 rfl rfl rfl rfl) (RD.mv rfl rfl rfl rfl (RD.q (u:=.iptr (cGNode x45)) rfl (op_ia rfl rfl (ia_isl cGNode und23 (sz_of inf43) len_cGNode h46 rfl)) (RD.q (u:=.iptr (cGNode x45)) rfl (op_fi und43 rfl (sz_of inf3) rfl rfl) ?_)))))))
 refine RD.q (u:=.int .i64 x45.Typex) rfl (li_one und3 rfl rfl rfl) (RD.mv rfl rfl rfl rfl (RD.q (u:=.agg [.int .i64 x45.Typex,.isl false (List.map cGArc l44)]) rfl (op_bld bd43 rfl rfl rfl) (RD.q (u:=.ptr 7 0 (0*2+z14.toNat*2)) rfl (op_ia rfl rfl (ia_rl und23 (sz_of inf43) rfl h48)) (RD.actn (u:=.junk) (σ':=⟨[(8,.row [.sl 7 0 ((r3.1.length:Int).toNat) ((r3.1.length:Int).toNat)] 25),(7,.row (List.map cGNode (l15.set z14.toNat (GNode.mk x45.Typex l44))).flatten 43),(6,.vec (List.map (cI .i64) r3.1).flatten 3 1 (t5 0)),(5,.row [.fn (.func 42) [] [.ptr 4 0 0,.ptr 3 0 0,.ptr 0 0 0,.ptr 5 0 0]] 62),(4,.row [.vl 6 (t5 0) 0 r3.1.length] 55),(3,.row [.map 2] 61),(2,.map (List.map (mE (fun x=>.int .i64 x) (fun x=>.int .i64 x)) r3.2.es) r3.2.cl),(1,.row [.nils] 25),(0,.row [.isl false (List.map cGNode p1.Nodes)] 25)],11⟩) rfl (st_rl cGNode (sz_of inf43) len_cGNode rfl rfl rfl rfl rfl rfl h48 rfl) rfl ?_))))
 refine RD.done ⟨by kernel_rfl,trivial,?_⟩
 refine sr ?_
 refine RS.q rfl (op_int rfl rfl (ix_add _ _ _) rfl) (RS.mv rfl rfl rfl rfl ?_)
 refine sd ?_
 exact ⟨m1,_,_,Nat.lt_succ_self _,⟨(IntKind.i64.wrap (z14+1)),(l15.set z14.toNat (GNode.mk x45.Typex l44)),hF,rfl,rfl⟩,(Nat.zero_le _),Gh.toC (n1:=9) ⟨rfl,rfl,rfl,rfl,rfl,rfl,rfl,trivial⟩ rfl (Nat.zero_le _) (by simp)⟩
 rintro m2 _ _ ⟨z42,l43,hF,rfl,rfl⟩
 rcases m2 with _ | m2
 cases hF
 unfold graph_canonical_L2 at hF
 refine sr ?_
 refine RS.q rfl (op_int rfl rfl (ix_lss _ _ _) rfl) ?_
 refine sd ?_
 refine WPU.condS (t:=(decide (z42<(r26.length:Int)))) rfl (fun h49=>?_) (fun h49=>?_)
 replace hF:=cond_t h49 hF
 refine st ?_
 refine WPU.skip ?_
 refine st ?_
 refine WPU.block ?_
 refine sr ?_
 refine sd ?_
 obtain ⟨x50,h51,hF⟩:=bindO_some hF
 obtain ⟨x52,h53,hF⟩:=bindO_some hF
 refine WPU.joinK (fun tm σ=>tm=fr 68 [(2,.ptr 0 0 0),(4,.ptr 1 0 0),(5,.ptr 3 0 0),(8,.ptr 8 0 0),(9,.int .i64 z14),(10,.int .i64 x19),(11,.vl 10 (t28 0) 0 ((l43.set (0+z42.toNat) (GArc.mk x52.Feat ((mGet (fun a b=>a == b) r3.2 x50.To).getD 0))).length)),(22,.vl 6 (t5 0) 0 r3.1.length),(23,.int .i64 (r3.1.length:Int)),(24,.int .i64 z14),(38,.int .i64 (r26.length:Int)),(39,.int .i64 z42)]∧σ=⟨[(10,.vec (List.map cGArc (l43.set (0+z42.toNat) (GArc.mk x52.Feat ((mGet (fun a b=>a == b) r3.2 x50.To).getD 0)))).flatten 45 2 (t28 0)),(8,.row [.sl 7 0 ((r3.1.length:Int).toNat) ((r3.1.length:Int).toNat)] 25),(7,.row (List.map cGNode l15).flatten 43),(6,.vec (List.map (cI .i64) r3.1).flatten 3 1 (t5 0)),(5,.row [.fn (.func 42) [] [.ptr 4 0 0,.ptr 3 0 0,.ptr 0 0 0,.ptr 5 0 0]] 62),(4,.row [.vl 6 (t5 0) 0 r3.1.length] 55),(3,.row [.map 2] 61),(2,.map (List.map (mE (fun x=>.int .i64 x) (fun x=>.int .i64 x)) r3.2.es) r3.2.cl),(1,.row [.nils] 25),(0,.row [.isl false (List.map cGNode p1.Nodes)] 25)],11⟩) ?_ ?_
 rintro _ _ ⟨rfl,rfl⟩
 refine sr ?_
 refine RS.q rfl (op_int rfl rfl (ix_add _ _ _) rfl) (RS.mv rfl rfl rfl rfl ?_)
 refine sd ?_
 exact ⟨m2,_,_,Nat.lt_succ_self _,⟨(IntKind.i64.wrap (z42+1)),(l43.set (0+z42.toNat) (GArc.mk x52.Feat ((mGet (fun a b=>a == b) r3.2 x50.To).getD 0))),hF,rfl,rfl⟩,(Nat.zero_le _),Gh.toC (n1:=11) ⟨rfl,rfl,rfl,rfl,rfl,rfl,rfl,rfl,rfl,rfl,rfl,rfl,trivial⟩ rfl (Nat.zero_le _) (by simp)⟩
 refine WPU.drawE Try.tb_ok [] (by kernel_rfl) ?_
 repeat refine RD.mv rfl rfl rfl rfl ?_
 refine RD.q (u:=.map 2) rfl (ld_one und61 rfl rfl rfl rfl) ?_
 repeat refine RD.mv rfl rfl rfl rfl ?_
 refine RD.q (u:=.ptr 10 (t28 0) (0*2+z42.toNat*2)) rfl (op_ia rfl rfl (ia_vl cGArc und41 (sz_of inf45) (by decide) len_cGArc (vo rfl) h51)) ?_
 refine RD.q (u:=.ptr 10 (t28 0) (0*2+z42.toNat*2+1)) rfl (op_fa und45 rfl (sz_of inf3) rfl (live_v rfl) rfl) (RD.q (u:=.int .i64 x50.To) rfl (ld_vf cGArc und3 rfl len_cGArc rfl rfl (idxO_V h51) rfl) (RD.q (u:=.int .i64 ((mGet (fun a b=>a == b) r3.2 x50.To).getD 0)) rfl (op_look (kU:=(fun x=>.int .i64 x)) (vU:=(fun x=>.int .i64 x)) (m:=r3.2) (k:=x50.To) (zv:=0) (key_int und3) und61 rfl rfl rfl inf3 rfl) ?_))
 refine RD.q (u:=.ptr 10 (t28 0) (0*2+z42.toNat*2)) rfl (op_ia rfl rfl (ia_vl cGArc und41 (sz_of inf45) (by decide) len_cGArc (vo rfl) h53)) ?_
 refine RD.q (u:=.ptr 10 (t28 0) (0*2+z42.toNat*2+1)) rfl (op_fa und45 rfl (sz_of inf3) rfl (live_v rfl) rfl) (RD.actn (u:=.junk) (σ':=⟨[(10,.vec (List.map cGArc (l43.set (0+z42.toNat) (GArc.mk x52.Feat ((mGet (fun a b=>a == b) r3.2 x50.To).getD 0)))).flatten 45 2 (t28 0)),(8,.row [.sl 7 0 ((r3.1.length:Int).toNat) ((r3.1.length:Int).toNat)] 25),(7,.row (List.map cGNode l15).flatten 43),(6,.vec (List.map (cI .i64) r3.1).flatten 3 1 (t5 0)),(5,.row [.fn (.func 42) [] [.ptr 4 0 0,.ptr 3 0 0,.ptr 0 0 0,.ptr 5 0 0]] 62),(4,.row [.vl 6 (t5 0) 0 r3.1.length] 55),(3,.row [.map 2] 61),(2,.map (List.map (mE (fun x=>.int .i64 x) (fun x=>.int .i64 x)) r3.2.es) r3.2.cl),(1,.row [.nils] 25),(0,.row [.isl false (List.map cGNode p1.Nodes)] 25)],11⟩) rfl (st_vf (y:=(GArc.mk x52.Feat ((mGet (fun a b=>a == b) r3.2 x50.To).getD 0))) cGArc (sz_of inf3) len_cGArc rfl rfl rfl rfl rfl rfl (idxO_V h53) rfl rfl) rfl ?_)
 refine RD.done ⟨by kernel_rfl,trivial,?_⟩
 refine st ?_
 exact ⟨_,_,⟨rfl,rfl⟩,(Nat.zero_le _),Gh.eqS ⟨rfl,rfl,rfl,rfl,rfl,rfl,(by simp only [List.length_set]; rfl),rfl,rfl,rfl,rfl,rfl,trivial⟩ rfl⟩
 replace hF:=cond_f h49 hF
 refine st ?_
 refine WPU.exit ?_
 refine st ?_
 exact ⟨_,_,⟨l43,hF,rfl,rfl⟩,(Nat.zero_le _),Gh.toC (n1:=11) ⟨rfl,rfl,rfl,rfl,rfl,rfl,rfl,rfl,rfl,rfl,trivial⟩ rfl (Nat.zero_le _) (by simp)⟩
 replace hF:=cond_f h18 hF
 refine st ?_
 refine WPU.exit ?_
 refine st ?_
 exact ⟨_,_,⟨l15,hF,rfl,rfl⟩,(Nat.zero_le _),Gh.toC (n1:=9) ⟨rfl,rfl,trivial⟩ rfl (Nat.zero_le _) (by simp)⟩
theorem graph_canonical_ok (n:Nat) (p1:GFS) (p2:Int) (r:GFS) (hF:graph_canonical n p1 p2=some r) (σ:Sg):EvU Try.prog 31 [.agg [.isl false (List.map cGNode p1.Nodes)],.int .i64 p2] σ (fun u σ'=>u = .agg [.isl false (List.map cGNode r.Nodes)]∧σ'=σ) :=
 EvU.pure1C (graph_canonical_0 n p1 p2 r hF) σ
def graph_Cyclic_1_s1_K1 (p1:Int) (p2:Nat) (p4:Nat) (l21:List Bool) (l22:List Bool):Option (Bool×(List Bool)×(List Bool)) :=
 bindO (idxV l21 0 p2 p1) fun x23 =>
 bindO (idxV l22 0 p4 p1) fun x25 =>
 some (false,(l21.set p1.toNat false),(l22.set p1.toNat true))
def graph_Cyclic_1_s1_L1 (p1:Int) (p2:Nat) (p3:List GNode) (p4:Nat) (x9:GNode) (self:Int→Nat→(List GNode)→Nat→(List Bool)→(List Bool)→Option (Bool×(List Bool)×(List Bool))):Nat→Int→(List Bool)→(List Bool)→Option (Bool×(List Bool)×(List Bool))
 | 0,_,_,_=>none
 | m1+1,z18,l19,l20 =>
  cond (decide (z18<(x9.Arcs.length:Int)))
   (bindO (idxO x9.Arcs z18) fun x28 =>
   bindO (bindO (idxV l19 0 p2 x28.To) fun x30 =>
   cond x30
    (some (true,l19,l20))
    (bindO (idxV l20 0 p4 x28.To) fun x33 =>
    cond (!x33)
     (bindO (self x28.To p2 p3 p4 l19 l20) fun r36 =>
     some (r36.1,r36.2.1,r36.2.2))
     (some (false,l19,l20)))) fun j43 =>
   cond j43.1
    (some (true,j43.2.1,j43.2.2))
    ((graph_Cyclic_1_s1_L1 p1 p2 p3 p4 x9 self m1) (IntKind.i64.wrap (z18+1)) j43.2.1 j43.2.2))
   (graph_Cyclic_1_s1_K1 p1 p2 p4 l19 l20)
def graph_Cyclic_1_s1_b (n:Nat) (self:Int→Nat→(List GNode)→Nat→(List Bool)→(List Bool)→Option (Bool×(List Bool)×(List Bool))) (p1:Int) (p2:Nat) (p3:List GNode) (p4:Nat) (p5:List Bool) (p6:List Bool):Option (Bool×(List Bool)×(List Bool)) :=
 bindO (idxV p5 0 p2 p1) fun x7 =>
 bindO (idxO p3 p1) fun x9 =>
 graph_Cyclic_1_s1_L1 p1 p2 p3 p4 x9 self n 0 (p5.set p1.toNat true) p6
def graph_Cyclic_1_s1:Nat→Int→Nat→(List GNode)→Nat→(List Bool)→(List Bool)→Option (Bool×(List Bool)×(List Bool))
 | 0,_,_,_,_,_,_=>none
 | n+1,p1,p2,p3,p4,p5,p6=>graph_Cyclic_1_s1_b n (graph_Cyclic_1_s1 n) p1 p2 p3 p4 p5 p6
theorem graph_Cyclic_1_s1_0:∀ (n:Nat) (p1:Int) (p2:Nat) (p3:List GNode) (p4:Nat) (p5:List Bool) (p6:List Bool) (r:Bool×(List Bool)×(List Bool)),graph_Cyclic_1_s1 n p1 p2 p3 p4 p5 p6=some r→EvU Try.prog 35 [.int .i64 p1,.ptr 0 0 0,.ptr 1 0 0,.ptr 2 0 0,.ptr 3 0 0] ⟨[(0,.row [.sl 4 0 p2 p2] 40),(1,.row [.isl false (List.map cGNode p3)] 25),(2,.row [.sl 5 0 p4 p4] 40),(3,.row [.fn (.func 35) [] [.ptr 0 0 0,.ptr 1 0 0,.ptr 2 0 0,.ptr 3 0 0]] 51),(4,.row (List.map cB p5).flatten 4),(5,.row (List.map cB p6).flatten 4)],6⟩ (fun u σ'=>∃ t:Nat→Nat,u = .bool r.1∧σ'=⟨[(0,.row [.sl 4 0 p2 p2] 40),(1,.row [.isl false (List.map cGNode p3)] 25),(2,.row [.sl 5 0 p4 p4] 40),(3,.row [.fn (.func 35) [] [.ptr 0 0 0,.ptr 1 0 0,.ptr 2 0 0,.ptr 3 0 0]] 51),(4,.row (List.map cB r.2.1).flatten 4),(5,.row (List.map cB r.2.2).flatten 4)],6⟩)
 | 0,p1,p2,p3,p4,p5,p6,r,hF=>by cases hF
 | n+1,p1,p2,p3,p4,p5,p6,r,hF=>by
  have ih:=graph_Cyclic_1_s1_0 n
  unfold graph_Cyclic_1_s1 graph_Cyclic_1_s1_b at hF
  refine EvU.of_body Try.tb_ok fn35 rfl ?_
  refine WPU.ghost (tm':=fr 49 [(0,.int .i64 p1),(1,.ptr 0 0 0),(2,.ptr 1 0 0),(3,.ptr 2 0 0),(4,.ptr 3 0 0)]) (Gh.start (Nat.le_of_ble_eq_true rfl)) (Nat.le_refl _) ?_
  refine sr ?_
  refine sd ?_
  obtain ⟨x7,h8,hF⟩:=bindO_some hF
  refine sr ?_
  refine RS.q (u:=.sl 4 0 p2 p2) rfl (ld_one und40 rfl rfl rfl rfl) (RS.mv rfl rfl rfl rfl (RS.q (u:=.ptr 4 0 (0*1+p1.toNat*1)) rfl (op_ia rfl rfl (ia_rl und40 (sz_of inf4) rfl h8)) (RS.opn (u:=.junk) (σ':=⟨[(0,.row [.sl 4 0 p2 p2] 40),(1,.row [.isl false (List.map cGNode p3)] 25),(2,.row [.sl 5 0 p4 p4] 40),(3,.row [.fn (.func 35) [] [.ptr 0 0 0,.ptr 1 0 0,.ptr 2 0 0,.ptr 3 0 0]] 51),(4,.row (List.map cB (p5.set p1.toNat true)).flatten 4),(5,.row (List.map cB p6).flatten 4)],6⟩) rfl (st_rl cB (sz_of inf4) len_cB rfl rfl rfl rfl rfl rfl h8 rfl) rfl ?_)))
  refine sd ?_
  obtain ⟨x9,h10,hF⟩:=bindO_some hF
  refine sr ?_
  refine RS.q (u:=.ptr 1 0 0) rfl (op_fa und25 rfl (sz_of inf23) rfl rfl rfl) (RS.q (u:=.isl false (List.map cGNode p3)) rfl (ld_one und23 rfl rfl rfl rfl) (RS.mv rfl rfl rfl rfl (RS.q (u:=.iptr (cGNode x9)) rfl (op_ia rfl rfl (ia_isl cGNode und23 (sz_of inf43) len_cGNode h10 rfl)) (RS.q (u:=.iptr [.isl false (List.map cGArc x9.Arcs)]) rfl (op_fi und43 rfl (sz_of inf41) rfl rfl) (RS.q (u:=.isl false (List.map cGArc x9.Arcs)) rfl (li_one und41 rfl rfl rfl) (RS.q rfl (op_len rfl rfl rfl (len_isl cGArc und41)) (RS.mv rfl rfl rfl rfl ?_)))))))
  refine sd ?_
  refine WPU.ghost (tm':=fr 49 [(0,.int .i64 p1),(1,.ptr 0 0 0),(3,.ptr 2 0 0),(4,.ptr 3 0 0),(17,.isl false (List.map cGArc x9.Arcs)),(18,.int .i64 (x9.Arcs.length:Int)),(19,.int .i64 0)]) (Gh.sub ⟨rfl,rfl,rfl,rfl,rfl,rfl,rfl,trivial⟩) (Nat.le_of_ble_eq_true rfl) ?_
  refine WPU.loopK (fun m tm σ=>∃ z18:Int,∃ l19:List Bool,∃ l20:List Bool,graph_Cyclic_1_s1_L1 p1 p2 p3 p4 x9 (graph_Cyclic_1_s1 n) m z18 l19 l20=some r∧tm=fr 49 [(0,.int .i64 p1),(1,.ptr 0 0 0),(3,.ptr 2 0 0),(4,.ptr 3 0 0),(17,.isl false (List.map cGArc x9.Arcs)),(18,.int .i64 (x9.Arcs.length:Int)),(19,.int .i64 z18)]∧σ=⟨[(0,.row [.sl 4 0 p2 p2] 40),(1,.row [.isl false (List.map cGNode p3)] 25),(2,.row [.sl 5 0 p4 p4] 40),(3,.row [.fn (.func 35) [] [.ptr 0 0 0,.ptr 1 0 0,.ptr 2 0 0,.ptr 3 0 0]] 51),(4,.row (List.map cB l19).flatten 4),(5,.row (List.map cB l20).flatten 4)],6⟩) (fun tm σ=>∃ l21:List Bool,∃ l22:List Bool,graph_Cyclic_1_s1_K1 p1 p2 p4 l21 l22=some r∧tm=fr 49 [(0,.int .i64 p1),(1,.ptr 0 0 0),(3,.ptr 2 0 0)]∧σ=⟨[(0,.row [.sl 4 0 p2 p2] 40),(1,.row [.isl false (List.map cGNode p3)] 25),(2,.row [.sl 5 0 p4 p4] 40),(3,.row [.fn (.func 35) [] [.ptr 0 0 0,.ptr 1 0 0,.ptr 2 0 0,.ptr 3 0 0]] 51),(4,.row (List.map cB l21).flatten 4),(5,.row (List.map cB l22).flatten 4)],6⟩) n ⟨0,(p5.set p1.toNat true),p6,hF,rfl,rfl⟩ ?_ ?_
  rintro _ _ ⟨l21,l22,hF,rfl,rfl⟩
  unfold graph_Cyclic_1_s1_K1 at hF
  refine st ?_
  obtain ⟨x23,h24,hF⟩:=bindO_some hF
  obtain ⟨x25,h26,hF⟩:=bindO_some hF
  refine WPU.drawE Try.tb_ok [(2,5),(3,5)] (by kernel_rfl) ?_
  refine RD.q (u:=.sl 4 0 p2 p2) rfl (ld_one und40 rfl rfl rfl rfl) (RD.mv rfl rfl rfl rfl (RD.q (u:=.sl 5 0 p4 p4) rfl (ld_one und40 rfl rfl rfl rfl) (RD.mv rfl rfl rfl rfl (RD.q (u:=.ptr 4 0 (0*1+p1.toNat*1)) rfl (op_ia rfl rfl (ia_rl und40 (sz_of inf4) rfl h24)) (RD.actn (u:=.junk) (σ':=⟨[(0,.row [.sl 4 0 p2 p2] 40),(1,.row [.isl false (List.map cGNode p3)] 25),(2,.row [.sl 5 0 p4 p4] 40),(3,.row [.fn (.func 35) [] [.ptr 0 0 0,.ptr 1 0 0,.ptr 2 0 0,.ptr 3 0 0]] 51),(4,.row (List.map cB (l21.set p1.toNat false)).flatten 4),(5,.row (List.map cB l22).flatten 4)],6⟩) rfl (st_rl cB (sz_of inf4) len_cB rfl rfl rfl rfl rfl rfl h24 rfl) rfl (RD.q (u:=.ptr 5 0 (0*1+p1.toNat*1)) rfl (op_ia rfl rfl (ia_rl und40 (sz_of inf4) rfl h26)) (RD.actn (u:=.junk) (σ':=⟨[(0,.row [.sl 4 0 p2 p2] 40),(1,.row [.isl false (List.map cGNode p3)] 25),(2,.row [.sl 5 0 p4 p4] 40),(3,.row [.fn (.func 35) [] [.ptr 0 0 0,.ptr 1 0 0,.ptr 2 0 0,.ptr 3 0 0]] 51),(4,.row (List.map cB (l21.set p1.toNat false)).flatten 4),(5,.row (List.map cB (l22.set p1.toNat true)).flatten 4)],6⟩) rfl (st_rl cB (sz_of inf4) len_cB rfl rfl rfl rfl rfl rfl h26 rfl) rfl ?_)))))))
  refine RD.done ⟨by kernel_rfl,⟨ld_one und40 rfl rfl rfl rfl,⟨op_move rfl,trivial⟩⟩,?_⟩
  refine sr ?_
  refine sd ?_
  refine WPU.ret ?_
  refine st ?_
  have hr:=Option.some.inj hF
  subst hr
  exact ⟨.inr rfl,[.bool false],res_t rfl (res_n),.bool false,⟨[(0,.row [.sl 4 0 p2 p2] 40),(1,.row [.isl false (List.map cGNode p3)] 25),(2,.row [.sl 5 0 p4 p4] 40),(3,.row [.fn (.func 35) [] [.ptr 0 0 0,.ptr 1 0 0,.ptr 2 0 0,.ptr 3 0 0]] 51),(4,.row (List.map cB (l21.set p1.toNat false)).flatten 4),(5,.row (List.map cB (l22.set p1.toNat true)).flatten 4)],6⟩,(Nat.le_of_ble_eq_true rfl),Gh.to (n1:=6) [] rfl rfl (Nat.le_of_ble_eq_true rfl) (Nat.le_of_ble_eq_true rfl) BUL.h BH.h,stF [],rfl,rfl⟩
  rintro m1 _ _ ⟨z18,l19,l20,hF,rfl,rfl⟩
  rcases m1 with _ | m1
  cases hF
  unfold graph_Cyclic_1_s1_L1 at hF
  refine sr ?_
  refine RS.q rfl (op_int rfl rfl (ix_lss _ _ _) rfl) ?_
  refine sd ?_
  refine WPU.condS (t:=(decide (z18<(x9.Arcs.length:Int)))) rfl (fun h27=>?_) (fun h27=>?_)
  replace hF:=cond_t h27 hF
  refine st ?_
  refine WPU.skip ?_
  refine st ?_
  refine WPU.block ?_
  refine st ?_
  obtain ⟨x28,h29,hF⟩:=bindO_some hF
  refine sr ?_
  refine RS.q (u:=.iptr (cGArc x28)) rfl (op_ia rfl rfl (ia_isl cGArc und41 (sz_of inf45) len_cGArc h29 rfl)) (RS.q (u:=.agg (cGArc x28)) rfl (li_agg und45 rfl (sz_of inf45) rfl rfl) (RS.q (u:=.ptr 6 0 0) (σ':=⟨[(6,.row [.int .i64 0,.int .i64 0] 45),(0,.row [.sl 4 0 p2 p2] 40),(1,.row [.isl false (List.map cGNode p3)] 25),(2,.row [.sl 5 0 p4 p4] 40),(3,.row [.fn (.func 35) [] [.ptr 0 0 0,.ptr 1 0 0,.ptr 2 0 0,.ptr 3 0 0]] 51),(4,.row (List.map cB l19).flatten 4),(5,.row (List.map cB l20).flatten 4)],7⟩) rfl (op_alloc inf45 rfl rfl) (RS.opn (u:=.junk) (σ':=⟨[(6,.row (cGArc x28) 45),(0,.row [.sl 4 0 p2 p2] 40),(1,.row [.isl false (List.map cGNode p3)] 25),(2,.row [.sl 5 0 p4 p4] 40),(3,.row [.fn (.func 35) [] [.ptr 0 0 0,.ptr 1 0 0,.ptr 2 0 0,.ptr 3 0 0]] 51),(4,.row (List.map cB l19).flatten 4),(5,.row (List.map cB l20).flatten 4)],7⟩) rfl (op_store (sz_of inf45) rfl rfl rfl rfl rfl rfl rfl rfl) rfl ?_)))
  refine sd ?_
  obtain ⟨j43,h42,hF⟩:=bindO_some hF
  refine WPU.joinK (fun tm σ=>tm=fr 49 [(0,.int .i64 p1),(1,.ptr 0 0 0),(3,.ptr 2 0 0),(4,.ptr 3 0 0),(17,.isl false (List.map cGArc x9.Arcs)),(18,.int .i64 (x9.Arcs.length:Int)),(19,.int .i64 z18),(41,.bool j43.1)]∧σ=⟨[(6,.row (cGArc x28) 45),(0,.row [.sl 4 0 p2 p2] 40),(1,.row [.isl false (List.map cGNode p3)] 25),(2,.row [.sl 5 0 p4 p4] 40),(3,.row [.fn (.func 35) [] [.ptr 0 0 0,.ptr 1 0 0,.ptr 2 0 0,.ptr 3 0 0]] 51),(4,.row (List.map cB j43.2.1).flatten 4),(5,.row (List.map cB j43.2.2).flatten 4)],7⟩) ?_ ?_
  rintro _ _ ⟨rfl,rfl⟩
  refine st ?_
  refine WPU.condS (t:=j43.1) rfl (fun h44=>?_) (fun h44=>?_)
  replace hF:=cond_t h44 hF
  refine sr ?_
  refine sd ?_
  refine WPU.ret ?_
  refine st ?_
  have hr:=Option.some.inj hF
  subst hr
  exact ⟨.inr rfl,[.bool true],res_t rfl (res_n),.bool true,⟨[(0,.row [.sl 4 0 p2 p2] 40),(1,.row [.isl false (List.map cGNode p3)] 25),(2,.row [.sl 5 0 p4 p4] 40),(3,.row [.fn (.func 35) [] [.ptr 0 0 0,.ptr 1 0 0,.ptr 2 0 0,.ptr 3 0 0]] 51),(4,.row (List.map cB j43.2.1).flatten 4),(5,.row (List.map cB j43.2.2).flatten 4)],6⟩,(Nat.le_of_ble_eq_true rfl),Gh.to (n1:=6) [] rfl rfl (Nat.le_of_ble_eq_true rfl) (Nat.le_of_ble_eq_true rfl) BUL.h BH.h,stF [],rfl,rfl⟩
  replace hF:=cond_f h44 hF
  refine st ?_
  refine WPU.skip ?_
  refine sr ?_
  refine RS.q rfl (op_int rfl rfl (ix_add _ _ _) rfl) (RS.mv rfl rfl rfl rfl ?_)
  refine sd ?_
  exact ⟨m1,_,_,Nat.lt_succ_self _,⟨(IntKind.i64.wrap (z18+1)),j43.2.1,j43.2.2,hF,rfl,rfl⟩,(Nat.le_of_ble_eq_true rfl),Gh.toC (n1:=6) ⟨rfl,rfl,rfl,rfl,rfl,rfl,rfl,trivial⟩ rfl (Nat.le_of_ble_eq_true rfl) (by simp)⟩
  obtain ⟨x30,h31,h42⟩:=bindO_some h42
  rcases bool_tf x30 with h32 | h32
  replace h42:=cond_t h32 h42
  replace h42:=Option.some.inj h42
  subst h42
  refine sr ?_
  refine RS.q (u:=.sl 4 0 p2 p2) rfl (ld_one und40 rfl rfl rfl rfl) (RS.q (u:=.ptr 6 0 1) rfl (op_fa und45 rfl (sz_of inf3) rfl rfl rfl) (RS.q (u:=.int .i64 x28.To) rfl (ld_one und3 rfl rfl rfl rfl) (RS.q (u:=.ptr 4 0 (0*1+x28.To.toNat*1)) rfl (op_ia rfl rfl (ia_rl und40 (sz_of inf4) rfl h31)) (RS.q (u:=.bool x30) rfl (ld_rl1 cB (fun x=>.bool x) und4 rfl (fun _=>rfl) rfl rfl h31) (RS.mv rfl rfl rfl rfl ?_)))))
  repeat refine RS.no (want0 rfl rfl rfl h32) rfl rfl ?_
  repeat refine RS.no (wantT rfl rfl rfl) rfl rfl ?_
  refine RS.no (want0 rfl rfl rfl h32) rfl rfl (RS.q (u:=.bool true) rfl (op_pick1 rfl h32 rfl) ?_)
  refine sd ?_
  exact ⟨_,_,⟨rfl,rfl⟩,(Nat.le_of_ble_eq_true rfl),Gh.toC (n1:=7) ⟨rfl,rfl,rfl,rfl,rfl,rfl,rfl,rfl,trivial⟩ rfl (Nat.le_of_ble_eq_true rfl) (by simp)⟩
  replace h42:=cond_f h32 h42
  obtain ⟨x33,h34,h42⟩:=bindO_some h42
  rcases bool_tf (!x33) with h35 | h35
  replace h42:=cond_t h35 h42
  obtain ⟨r36,h37,h42⟩:=bindO_some h42
  replace h42:=Option.some.inj h42
  subst h42
  refine sr ?_
  refine RS.q (u:=.sl 4 0 p2 p2) rfl (ld_one und40 rfl rfl rfl rfl) (RS.q (u:=.ptr 6 0 1) rfl (op_fa und45 rfl (sz_of inf3) rfl rfl rfl) (RS.q (u:=.int .i64 x28.To) rfl (ld_one und3 rfl rfl rfl rfl) (RS.q (u:=.ptr 4 0 (0*1+x28.To.toNat*1)) rfl (op_ia rfl rfl (ia_rl und40 (sz_of inf4) rfl h31)) (RS.q (u:=.bool x30) rfl (ld_rl1 cB (fun x=>.bool x) und4 rfl (fun _=>rfl) rfl rfl h31) (RS.mv rfl rfl rfl rfl (RS.op (u:=.sl 5 0 p4 p4) (want1 rfl rfl rfl h32) (ld_one und40 rfl rfl rfl rfl) rfl rfl (RS.op (u:=.ptr 6 0 1) (want1 rfl rfl rfl h32) (op_fa und45 rfl (sz_of inf3) rfl rfl rfl) rfl rfl ?_)))))))
  refine RS.op (u:=.int .i64 x28.To) (want1 rfl rfl rfl h32) (ld_one und3 rfl rfl rfl rfl) rfl rfl (RS.op (u:=.ptr 5 0 (0*1+x28.To.toNat*1)) (want1 rfl rfl rfl h32) (op_ia rfl rfl (ia_rl und40 (sz_of inf4) rfl h34)) rfl rfl (RS.op (u:=.bool x33) (want1 rfl rfl rfl h32) (ld_rl1 cB (fun x=>.bool x) und4 rfl (fun _=>rfl) rfl rfl h34) rfl rfl (RS.op (u:=.bool (!x33)) (want1 rfl rfl rfl h32) (op_un rfl rfl rfl rfl) rfl rfl (RS.op (want1 rfl rfl rfl h32) (op_move rfl) rfl rfl (RS.op (u:=.fn (.func 35) [] [.ptr 0 0 0,.ptr 1 0 0,.ptr 2 0 0,.ptr 3 0 0]) (want1 rfl rfl rfl h35) (ld_one und51 rfl rfl rfl rfl) rfl rfl (RS.op (u:=.ptr 6 0 1) (want1 rfl rfl rfl h35) (op_fa und45 rfl (sz_of inf3) rfl rfl rfl) rfl rfl (RS.op (u:=.int .i64 x28.To) (want1 rfl rfl rfl h35) (ld_one und3 rfl rfl rfl rfl) rfl rfl ?_)))))))
  refine RS.callx (R:=fun u σ'=>∃ t38:Nat→Nat,u = .bool r36.1∧σ'=⟨[(6,.row (cGArc x28) 45),(0,.row [.sl 4 0 p2 p2] 40),(1,.row [.isl false (List.map cGNode p3)] 25),(2,.row [.sl 5 0 p4 p4] 40),(3,.row [.fn (.func 35) [] [.ptr 0 0 0,.ptr 1 0 0,.ptr 2 0 0,.ptr 3 0 0]] 51),(4,.row (List.map cB r36.2.1).flatten 4),(5,.row (List.map cB r36.2.2).flatten 4)],7⟩) (args:=[.int .i64 x28.To,.ptr 0 0 0,.ptr 1 0 0,.ptr 2 0 0,.ptr 3 0 0]) (want1 rfl rfl rfl h35) (op_call rfl rfl fn35 hb35 rfl rfl) (EvU.st [0,1,2,3,4,5] (ih x28.To p2 p3 p4 l19 l20 r36 h37 )) rfl rfl ?_
  rintro _ _ ⟨t38,rfl,rfl⟩
  refine RS.op (u:=.bool r36.1) (want1 rfl rfl rfl h32) (op_pick1 rfl h35 rfl) rfl rfl (RS.q (u:=.bool r36.1) rfl (op_pick0 rfl h32 rfl) ?_)
  refine sd ?_
  exact ⟨_,_,⟨rfl,rfl⟩,(Nat.le_of_ble_eq_true rfl),Gh.toC (n1:=7) ⟨rfl,rfl,rfl,rfl,rfl,rfl,rfl,rfl,trivial⟩ rfl (Nat.le_of_ble_eq_true rfl) (by simp)⟩
  replace h42:=cond_f h35 h42
  replace h42:=Option.some.inj h42
  subst h42
  refine sr ?_
  refine RS.q (u:=.sl 4 0 p2 p2) rfl (ld_one und40 rfl rfl rfl rfl) (RS.q (u:=.ptr 6 0 1) rfl (op_fa und45 rfl (sz_of inf3) rfl rfl rfl) (RS.q (u:=.int .i64 x28.To) rfl (ld_one und3 rfl rfl rfl rfl) (RS.q (u:=.ptr 4 0 (0*1+x28.To.toNat*1)) rfl (op_ia rfl rfl (ia_rl und40 (sz_of inf4) rfl h31)) (RS.q (u:=.bool x30) rfl (ld_rl1 cB (fun x=>.bool x) und4 rfl (fun _=>rfl) rfl rfl h31) (RS.mv rfl rfl rfl rfl (RS.op (u:=.sl 5 0 p4 p4) (want1 rfl rfl rfl h32) (ld_one und40 rfl rfl rfl rfl) rfl rfl (RS.op (u:=.ptr 6 0 1) (want1 rfl rfl rfl h32) (op_fa und45 rfl (sz_of inf3) rfl rfl rfl) rfl rfl ?_)))))))
  refine RS.op (u:=.int .i64 x28.To) (want1 rfl rfl rfl h32) (ld_one und3 rfl rfl rfl rfl) rfl rfl (RS.op (u:=.ptr 5 0 (0*1+x28.To.toNat*1)) (want1 rfl rfl rfl h32) (op_ia rfl rfl (ia_rl und40 (sz_of inf4) rfl h34)) rfl rfl (RS.op (u:=.bool x33) (want1 rfl rfl rfl h32) (ld_rl1 cB (fun x=>.bool x) und4 rfl (fun _=>rfl) rfl rfl h34) rfl rfl (RS.op (u:=.bool (!x33)) (want1 rfl rfl rfl h32) (op_un rfl rfl rfl rfl) rfl rfl (RS.op (want1 rfl rfl rfl h32) (op_move rfl) rfl rfl ?_))))
  repeat refine RS.no (want0 rfl rfl rfl h35) rfl rfl ?_
  refine RS.op (u:=.bool false) (want1 rfl rfl rfl h32) (op_pick0 rfl h35 rfl) rfl rfl (RS.q (u:=.bool false) rfl (op_pick0 rfl h32 rfl) ?_)
  refine sd ?_
  exact ⟨_,_,⟨rfl,rfl⟩,(Nat.le_of_ble_eq_true rfl),Gh.toC (n1:=7) ⟨rfl,rfl,rfl,rfl,rfl,rfl,rfl,rfl,trivial⟩ rfl (Nat.le_of_ble_eq_true rfl) (by simp)⟩
  replace hF:=cond_f h27 hF
  refine st ?_
  refine WPU.exit ?_
  refine st ?_
  exact ⟨_,_,⟨l19,l20,hF,rfl,rfl⟩,(Nat.le_of_ble_eq_true rfl),Gh.toC (n1:=6) ⟨rfl,rfl,rfl,trivial⟩ rfl (Nat.le_of_ble_eq_true rfl) (by simp)⟩
def graph_Cyclic_K1  (l12:List Bool) (l13:List Bool):Option (Bool) :=
 some false
def graph_Cyclic_L1 (p1:GFS) (n:Nat):Nat→Int→(List Bool)→(List Bool)→Option (Bool)
 | 0,_,_,_=>none
 | m1+1,z9,l10,l11 =>
  cond (decide (z9<(p1.Nodes.length:Int)))
   (bindO (bindO (idxV l10 0 ((p1.Nodes.length:Int).toNat) z9) fun x15 =>
   cond (!x15)
    (bindO (graph_Cyclic_1_s1 n z9 ((p1.Nodes.length:Int).toNat) p1.Nodes ((p1.Nodes.length:Int).toNat) l11 l10) fun r18 =>
    some (r18.1,r18.2.2,r18.2.1))
    (some (false,l10,l11))) fun j25 =>
   cond j25.1
    (some true)
    ((graph_Cyclic_L1 p1 n m1) (IntKind.i64.wrap (z9+1)) j25.2.1 j25.2.2))
   (graph_Cyclic_K1 l10 l11)
def graph_Cyclic (n:Nat) (p1:GFS):Option (Bool) :=
 needO (0≤(p1.Nodes.length:Int)∧1*(p1.Nodes.length:Int).toNat≤281474976710656∧(p1.Nodes.length:Int)≤281474976710656) (
 needO (0≤(p1.Nodes.length:Int)∧1*(p1.Nodes.length:Int).toNat≤281474976710656∧(p1.Nodes.length:Int)≤281474976710656) (
 graph_Cyclic_L1 p1 n n 0 (List.replicate (p1.Nodes.length:Int).toNat false) (List.replicate (p1.Nodes.length:Int).toNat false)))
theorem graph_Cyclic_0 (n:Nat) (p1:GFS) (r:Bool) (hF:graph_Cyclic n p1=some r):EvU Try.prog 22 [.agg [.isl false (List.map cGNode p1.Nodes)]] ⟨[],0⟩ (fun u _=>u = .bool r∧Bel 0 u):=by
 unfold graph_Cyclic at hF
 refine EvU.of_body Try.tb_ok fn22 rfl ?_
 refine WPU.ghost (tm':=fr 33 [(0,.agg [.isl false (List.map cGNode p1.Nodes)])]) (Gh.start (Nat.le_of_ble_eq_true rfl)) (Nat.zero_le _) ?_
 refine sr ?_
 refine RS.q (u:=.ptr 0 0 0) (σ':=⟨[(0,.row [.isl false (List.map cGNode p1.Nodes)] 25)],1⟩) rfl (op_box rfl rfl rfl) ?_
 refine sd ?_
 obtain ⟨h2,hF⟩:=needO_some hF
 obtain ⟨h3,hF⟩:=needO_some hF
 refine WPU.drawQ Try.tb_ok [(3,some ((p1.Nodes.length:Int).toNat),(List.map cB (List.replicate (p1.Nodes.length:Int).toNat false)).flatten,4),(7,some ((p1.Nodes.length:Int).toNat),(List.map cB (List.replicate (p1.Nodes.length:Int).toNat false)).flatten,4),(8,none,[.nils],40),(9,none,[.nils],40)] [(4,10),(5,10),(6,10)] (nb:=1) (σe:=⟨[(0,.row [.isl false (List.map cGNode p1.Nodes)] 25)],5⟩) (σ1:=⟨[(4,.row [.nils] 40),(3,.row [.nils] 40),(2,.row (List.map cB (List.replicate (p1.Nodes.length:Int).toNat false)).flatten 4),(1,.row (List.map cB (List.replicate (p1.Nodes.length:Int).toNat false)).flatten 4),(0,.row [.isl false (List.map cGNode p1.Nodes)] 25)],5⟩) (q:=[⟨3,1,some ((p1.Nodes.length:Int).toNat),(List.map cB (List.replicate (p1.Nodes.length:Int).toNat false)).flatten,4⟩,⟨7,2,some ((p1.Nodes.length:Int).toNat),(List.map cB (List.replicate (p1.Nodes.length:Int).toNat false)).flatten,4⟩,⟨8,3,none,[.nils],40⟩,⟨9,4,none,[.nils],40⟩]) (by kernel_rfl) (List.cons_ne_nil _ _) ⟨(bel_flat 0 (fun q=>bel_cB _ q) (List.replicate (p1.Nodes.length:Int).toNat false)),(bel_flat 0 (fun q=>bel_cB _ q) (List.replicate (p1.Nodes.length:Int).toNat false)),BUL.h,BUL.h,trivial⟩ rfl rfl rfl rfl ?_
 refine RQ.early (u:=.ptr 0 0 0) rfl (op_fa und25 rfl (sz_of inf23) rfl rfl rfl) (op_fa und25 rfl (sz_of inf23) rfl rfl rfl) rfl BU.h rfl rfl ?_
 refine RQ.early (u:=.isl false (List.map cGNode p1.Nodes)) rfl (ld_one und23 rfl rfl rfl rfl) (ld_one und23 rfl rfl rfl rfl) rfl BU.h rfl rfl ?_
 refine RQ.early (u:=.int .i64 (p1.Nodes.length:Int)) rfl (op_len rfl rfl rfl (len_isl cGNode und23)) (op_len rfl rfl rfl (len_isl cGNode und23)) rfl BU.h rfl rfl ?_
 refine RQ.alloc rfl (fun s=>op_mks cB false rfl rfl und40 inf4 rfl rfl rfl rfl h2) rfl rfl rfl ?_
 refine RQ.early (u:=.ptr 0 0 0) rfl (op_fa und25 rfl (sz_of inf23) rfl rfl rfl) (op_fa und25 rfl (sz_of inf23) rfl rfl rfl) rfl BU.h rfl rfl ?_
 refine RQ.early (u:=.isl false (List.map cGNode p1.Nodes)) rfl (ld_one und23 rfl rfl rfl rfl) (ld_one und23 rfl rfl rfl rfl) rfl BU.h rfl rfl ?_
 refine RQ.early (u:=.int .i64 (p1.Nodes.length:Int)) rfl (op_len rfl rfl rfl (len_isl cGNode und23)) (op_len rfl rfl rfl (len_isl cGNode und23)) rfl BU.h rfl rfl ?_
 refine RQ.alloc rfl (fun s=>op_mks cB false rfl rfl und40 inf4 rfl rfl rfl rfl h3) rfl rfl rfl ?_
 refine RQ.alloc rfl (fun s=>op_alloc inf40 rfl rfl) rfl rfl rfl ?_
 refine RQ.alloc rfl (fun s=>op_alloc inf40 rfl rfl) rfl rfl rfl ?_
 refine RQ.loc (mk:=783) (σ':=⟨[(4,.row [.nils] 40),(3,.row [.sl 1 0 ((p1.Nodes.length:Int).toNat) ((p1.Nodes.length:Int).toNat)] 40),(2,.row (List.map cB (List.replicate (p1.Nodes.length:Int).toNat false)).flatten 4),(1,.row (List.map cB (List.replicate (p1.Nodes.length:Int).toNat false)).flatten 4),(0,.row [.isl false (List.map cGNode p1.Nodes)] 25)],5⟩) rfl (store_loc (sz_of inf40) rfl rfl rfl rfl rfl rfl) (by kernel_rfl) rfl rfl rfl rfl ⟨.inl (show Nat.testBit 783 3=true by decide),⟨.inr ⟨show (2:Nat)≠3 by decide,BUL.h⟩,⟨.inl (show Nat.testBit 783 8=true by decide),⟨.inl (show Nat.testBit 783 9=true by decide),trivial⟩⟩⟩⟩ ?_
 refine RQ.actn (u:=.junk) (σ':=⟨[(4,.row [.sl 2 0 ((p1.Nodes.length:Int).toNat) ((p1.Nodes.length:Int).toNat)] 40),(3,.row [.sl 1 0 ((p1.Nodes.length:Int).toNat) ((p1.Nodes.length:Int).toNat)] 40),(2,.row (List.map cB (List.replicate (p1.Nodes.length:Int).toNat false)).flatten 4),(1,.row (List.map cB (List.replicate (p1.Nodes.length:Int).toNat false)).flatten 4),(0,.row [.isl false (List.map cGNode p1.Nodes)] 25)],5⟩) rfl (op_store (sz_of inf40) rfl rfl rfl rfl rfl rfl rfl rfl) rfl ?_
 refine RQ.done ⟨by kernel_rfl,by kernel_rfl,⟨op_fa und25 rfl (sz_of inf23) rfl rfl rfl,⟨ld_one und23 rfl rfl rfl rfl,⟨op_len rfl rfl rfl (len_isl cGNode und23),trivial⟩⟩⟩,?_⟩
 refine sr ?_
 refine RS.q (u:=.ptr 5 0 0) (σ':=⟨[(5,.row [.nilf] 51),(4,.row [.sl 2 0 ((p1.Nodes.length:Int).toNat) ((p1.Nodes.length:Int).toNat)] 40),(3,.row [.sl 1 0 ((p1.Nodes.length:Int).toNat) ((p1.Nodes.length:Int).toNat)] 40),(2,.row (List.map cB (List.replicate (p1.Nodes.length:Int).toNat false)).flatten 4),(1,.row (List.map cB (List.replicate (p1.Nodes.length:Int).toNat false)).flatten 4),(0,.row [.isl false (List.map cGNode p1.Nodes)] 25)],6⟩) rfl (op_alloc inf51 rfl rfl) ?_
 refine se ?_
 refine RS.q rfl (op_fun rfl rfl) (RS.opn (u:=.junk) (σ':=⟨[(5,.row [.fn (.func 35) [] [.ptr 3 0 0,.ptr 0 0 0,.ptr 4 0 0,.ptr 5 0 0]] 51),(4,.row [.sl 2 0 ((p1.Nodes.length:Int).toNat) ((p1.Nodes.length:Int).toNat)] 40),(3,.row [.sl 1 0 ((p1.Nodes.length:Int).toNat) ((p1.Nodes.length:Int).toNat)] 40),(2,.row (List.map cB (List.replicate (p1.Nodes.length:Int).toNat false)).flatten 4),(1,.row (List.map cB (List.replicate (p1.Nodes.length:Int).toNat false)).flatten 4),(0,.row [.isl false (List.map cGNode p1.Nodes)] 25)],6⟩) rfl (op_store (sz_of inf51) rfl rfl rfl rfl rfl rfl rfl rfl) rfl ?_)
 refine se ?_
 refine RS.q (u:=.ptr 0 0 0) rfl (op_fa und25 rfl (sz_of inf23) rfl rfl rfl) (RS.q (u:=.isl false (List.map cGNode p1.Nodes)) rfl (ld_one und23 rfl rfl rfl rfl) (RS.q rfl (op_len rfl rfl rfl (len_isl cGNode und23)) (RS.mv rfl rfl rfl rfl ?_)))
 refine sd ?_
 refine WPU.ghost (tm':=fr 33 [(4,.ptr 4 0 0),(5,.ptr 5 0 0),(18,.int .i64 (p1.Nodes.length:Int)),(19,.int .i64 0)]) (Gh.sub ⟨rfl,rfl,rfl,rfl,trivial⟩) (Nat.zero_le _) ?_
 refine WPU.loopK (fun m tm σ=>∃ z9:Int,∃ l10:List Bool,∃ l11:List Bool,graph_Cyclic_L1 p1 n m z9 l10 l11=some r∧tm=fr 33 [(4,.ptr 4 0 0),(5,.ptr 5 0 0),(18,.int .i64 (p1.Nodes.length:Int)),(19,.int .i64 z9)]∧σ=⟨[(5,.row [.fn (.func 35) [] [.ptr 3 0 0,.ptr 0 0 0,.ptr 4 0 0,.ptr 5 0 0]] 51),(4,.row [.sl 2 0 ((p1.Nodes.length:Int).toNat) ((p1.Nodes.length:Int).toNat)] 40),(3,.row [.sl 1 0 ((p1.Nodes.length:Int).toNat) ((p1.Nodes.length:Int).toNat)] 40),(2,.row (List.map cB l10).flatten 4),(1,.row (List.map cB l11).flatten 4),(0,.row [.isl false (List.map cGNode p1.Nodes)] 25)],6⟩) (fun tm σ=>∃ l12:List Bool,∃ l13:List Bool,graph_Cyclic_K1 l12 l13=some r∧tm=fr 33 []∧σ=⟨[(5,.row [.fn (.func 35) [] [.ptr 3 0 0,.ptr 0 0 0,.ptr 4 0 0,.ptr 5 0 0]] 51),(4,.row [.sl 2 0 ((p1.Nodes.length:Int).toNat) ((p1.Nodes.length:Int).toNat)] 40),(3,.row [.sl 1 0 ((p1.Nodes.length:Int).toNat) ((p1.Nodes.length:Int).toNat)] 40),(2,.row (List.map cB l12).flatten 4),(1,.row (List.map cB l13).flatten 4),(0,.row [.isl false (List.map cGNode p1.Nodes)] 25)],6⟩) n ⟨0,(List.replicate (p1.Nodes.length:Int).toNat false),(List.replicate (p1.Nodes.length:Int).toNat false),hF,rfl,rfl⟩ ?_ ?_
 rintro _ _ ⟨l12,l13,hF,rfl,rfl⟩
 unfold graph_Cyclic_K1 at hF
 refine sr ?_
 refine sd ?_
 refine WPU.ret ?_
 refine st ?_
 have hr:=Option.some.inj hF
 subst hr
 exact ⟨.inr rfl,[.bool false],res_t rfl (res_n),.bool false,⟨[],0⟩,Nat.le_refl _,Gh.toR (.bool false) rfl,rfl,BU.h⟩
 rintro m1 _ _ ⟨z9,l10,l11,hF,rfl,rfl⟩
 rcases m1 with _ | m1
 cases hF
 unfold graph_Cyclic_L1 at hF
 refine sr ?_
 refine RS.q rfl (op_int rfl rfl (ix_lss _ _ _) rfl) ?_
 refine sd ?_
 refine WPU.condS (t:=(decide (z9<(p1.Nodes.length:Int)))) rfl (fun h14=>?_) (fun h14=>?_)
 replace hF:=cond_t h14 hF
 refine st ?_
 refine WPU.skip ?_
 refine st ?_
 refine WPU.block ?_
 refine sr ?_
 refine sd ?_
 obtain ⟨j25,h24,hF⟩:=bindO_some hF
 refine WPU.joinK (fun tm σ=>tm=fr 33 [(4,.ptr 4 0 0),(5,.ptr 5 0 0),(18,.int .i64 (p1.Nodes.length:Int)),(19,.int .i64 z9),(31,.bool j25.1)]∧σ=⟨[(5,.row [.fn (.func 35) [] [.ptr 3 0 0,.ptr 0 0 0,.ptr 4 0 0,.ptr 5 0 0]] 51),(4,.row [.sl 2 0 ((p1.Nodes.length:Int).toNat) ((p1.Nodes.length:Int).toNat)] 40),(3,.row [.sl 1 0 ((p1.Nodes.length:Int).toNat) ((p1.Nodes.length:Int).toNat)] 40),(2,.row (List.map cB j25.2.1).flatten 4),(1,.row (List.map cB j25.2.2).flatten 4),(0,.row [.isl false (List.map cGNode p1.Nodes)] 25)],6⟩) ?_ ?_
 rintro _ _ ⟨rfl,rfl⟩
 refine st ?_
 refine WPU.condS (t:=j25.1) rfl (fun h26=>?_) (fun h26=>?_)
 replace hF:=cond_t h26 hF
 refine sr ?_
 refine sd ?_
 refine WPU.ret ?_
 refine st ?_
 have hr:=Option.some.inj hF
 subst hr
 exact ⟨.inr rfl,[.bool true],res_t rfl (res_n),.bool true,⟨[],0⟩,Nat.le_refl _,Gh.toR (.bool true) rfl,rfl,BU.h⟩
 replace hF:=cond_f h26 hF
 refine st ?_
 refine WPU.skip ?_
 refine sr ?_
 refine RS.q rfl (op_int rfl rfl (ix_add _ _ _) rfl) (RS.mv rfl rfl rfl rfl ?_)
 refine sd ?_
 exact ⟨m1,_,_,Nat.lt_succ_self _,⟨(IntKind.i64.wrap (z9+1)),j25.2.1,j25.2.2,hF,rfl,rfl⟩,(Nat.zero_le _),Gh.toC (n1:=6) ⟨rfl,rfl,rfl,rfl,trivial⟩ rfl (Nat.zero_le _) (by simp)⟩
 obtain ⟨x15,h16,h24⟩:=bindO_some h24
 rcases bool_tf (!x15) with h17 | h17
 replace h24:=cond_t h17 h24
 obtain ⟨r18,h19,h24⟩:=bindO_some h24
 replace h24:=Option.some.inj h24
 subst h24
 refine sr ?_
 refine RS.q (u:=.sl 2 0 ((p1.Nodes.length:Int).toNat) ((p1.Nodes.length:Int).toNat)) rfl (ld_one und40 rfl rfl rfl rfl) (RS.mv rfl rfl rfl rfl (RS.q (u:=.ptr 2 0 (0*1+z9.toNat*1)) rfl (op_ia rfl rfl (ia_rl und40 (sz_of inf4) rfl h16)) (RS.q (u:=.bool x15) rfl (ld_rl1 cB (fun x=>.bool x) und4 rfl (fun _=>rfl) rfl rfl h16) (RS.q (u:=.bool (!x15)) rfl (op_un rfl rfl rfl rfl) (RS.mv rfl rfl rfl rfl (RS.op (u:=.fn (.func 35) [] [.ptr 3 0 0,.ptr 0 0 0,.ptr 4 0 0,.ptr 5 0 0]) (want1 rfl rfl rfl h17) (ld_one und51 rfl rfl rfl rfl) rfl rfl (RS.op (want1 rfl rfl rfl h17) (op_move rfl) rfl rfl ?_)))))))
 refine RS.callx (R:=fun u σ'=>∃ t20:Nat→Nat,u = .bool r18.1∧σ'=⟨[(5,.row [.fn (.func 35) [] [.ptr 3 0 0,.ptr 0 0 0,.ptr 4 0 0,.ptr 5 0 0]] 51),(4,.row [.sl 2 0 ((p1.Nodes.length:Int).toNat) ((p1.Nodes.length:Int).toNat)] 40),(3,.row [.sl 1 0 ((p1.Nodes.length:Int).toNat) ((p1.Nodes.length:Int).toNat)] 40),(2,.row (List.map cB r18.2.2).flatten 4),(1,.row (List.map cB r18.2.1).flatten 4),(0,.row [.isl false (List.map cGNode p1.Nodes)] 25)],6⟩) (args:=[.int .i64 z9,.ptr 3 0 0,.ptr 0 0 0,.ptr 4 0 0,.ptr 5 0 0]) (want1 rfl rfl rfl h17) (op_call rfl rfl fn35 hb35 rfl rfl) (EvU.st [3,0,4,5,1,2] (graph_Cyclic_1_s1_0 n z9 ((p1.Nodes.length:Int).toNat) p1.Nodes ((p1.Nodes.length:Int).toNat) l11 l10 r18 h19 )) rfl rfl ?_
 rintro _ _ ⟨t20,rfl,rfl⟩
 refine RS.q (u:=.bool r18.1) rfl (op_pick1 rfl h17 rfl) ?_
 refine sd ?_
 exact ⟨_,_,⟨rfl,rfl⟩,(Nat.zero_le _),Gh.toC (n1:=6) ⟨rfl,rfl,rfl,rfl,rfl,trivial⟩ rfl (Nat.zero_le _) (by simp)⟩
 replace h24:=cond_f h17 h24
 replace h24:=Option.some.inj h24
 subst h24
 refine sr ?_
 refine RS.q (u:=.sl 2 0 ((p1.Nodes.length:Int).toNat) ((p1.Nodes.length:Int).toNat)) rfl (ld_one und40 rfl rfl rfl rfl) (RS.mv rfl rfl rfl rfl (RS.q (u:=.ptr 2 0 (0*1+z9.toNat*1)) rfl (op_ia rfl rfl (ia_rl und40 (sz_of inf4) rfl h16)) (RS.q (u:=.bool x15) rfl (ld_rl1 cB (fun x=>.bool x) und4 rfl (fun _=>rfl) rfl rfl h16) (RS.q (u:=.bool (!x15)) rfl (op_un rfl rfl rfl rfl) (RS.mv rfl rfl rfl rfl ?_)))))
 repeat refine RS.no (want0 rfl rfl rfl h17) rfl rfl ?_
 refine RS.q (u:=.bool false) rfl (op_pick0 rfl h17 rfl) ?_
 refine sd ?_
 exact ⟨_,_,⟨rfl,rfl⟩,(Nat.zero_le _),Gh.toC (n1:=6) ⟨rfl,rfl,rfl,rfl,rfl,trivial⟩ rfl (Nat.zero_le _) (by simp)⟩
 replace hF:=cond_f h14 hF
 refine st ?_
 refine WPU.exit ?_
 refine st ?_
 exact ⟨_,_,⟨l10,l11,hF,rfl,rfl⟩,(Nat.zero_le _),Gh.toC (n1:=6) trivial rfl (Nat.zero_le _) (by simp)⟩
theorem graph_Cyclic_ok (n:Nat) (p1:GFS) (r:Bool) (hF:graph_Cyclic n p1=some r) (σ:Sg):EvU Try.prog 22 [.agg [.isl false (List.map cGNode p1.Nodes)]] σ (fun u σ'=>u = .bool r∧σ'=σ) :=
 EvU.pure1C (graph_Cyclic_0 n p1 r hF) σ
def slices_CompareFunc_Node_compareNodes_K1 (p1:List GNode) (p2:List GNode)  : Option (Int) :=
 cond (decide ((p1.length:Int)<(p2.length:Int)))
  (some (-1))
  (some 0)
def slices_CompareFunc_Node_compareNodes_L1 (p1:List GNode) (p2:List GNode) (f2:GNode→GNode→Option (Int)):Nat→Int→Option (Int)
 | 0,_=>none
 | m1+1,z8 =>
  cond (decide (z8<(p1.length:Int)))
   (bindO (idxO p1 z8) fun x11 =>
   cond (decide (z8 ≥ (p2.length:Int)))
    (some 1)
    (bindO (idxO p2 z8) fun x14 =>
    bindO (f2 x11 x14) fun r16 =>
    cond (r16 != 0)
     (some r16)
     ((slices_CompareFunc_Node_compareNodes_L1 p1 p2 f2 m1) (IntKind.i64.wrap (z8+1)))))
   (slices_CompareFunc_Node_compareNodes_K1 p1 p2)
def slices_CompareFunc_Node_compareNodes (f2:GNode→GNode→Option (Int)) (n:Nat) (p1:List GNode) (p2:List GNode):Option (Int) :=
 slices_CompareFunc_Node_compareNodes_L1 p1 p2 f2 n 0
theorem slices_CompareFunc_Node_compareNodes_0 (f2:GNode→GNode→Option (Int)) (hf2:∀ (a0:GNode) (a1:GNode) (r:Int),f2 a0 a1=some r→EvU Try.prog 38 [.agg (cGNode a0),.agg (cGNode a1)] ⟨[],0⟩ (fun u _=>u = .int .i64 r∧Bel 0 u)) (n:Nat) (p1:List GNode) (p2:List GNode) (r:Int) (hF:slices_CompareFunc_Node_compareNodes f2 n p1 p2=some r):EvU Try.prog 37 [.isl false (List.map cGNode p1),.isl false (List.map cGNode p2),.fn (.func 38) [] []] ⟨[],0⟩ (fun u _=>u = .int .i64 r∧Bel 0 u):=by
 unfold slices_CompareFunc_Node_compareNodes at hF
 have hf2S:∀ (a0:GNode) (a1:GNode) (r:Int),f2 a0 a1=some r→∀ σ,EvU Try.prog 38 [.agg (cGNode a0),.agg (cGNode a1)] σ (fun u σ'=>u = .int .i64 r∧σ'=σ):=fun a0 a1 r h σ=>EvU.pure1C (hf2 a0 a1 r h) σ
 refine EvU.of_body Try.tb_ok fn37 rfl ?_
 refine WPU.ghost (tm':=fr 39 [(0,.isl false (List.map cGNode p1)),(1,.isl false (List.map cGNode p2)),(2,.fn (.func 38) [] [])]) (Gh.start (Nat.le_of_ble_eq_true rfl)) (Nat.zero_le _) ?_
 refine sr ?_
 refine se ?_
 refine RS.q rfl (op_len rfl rfl rfl (len_isl cGNode und23)) (RS.mv rfl rfl rfl rfl ?_)
 refine sd ?_
 refine WPU.ghost (tm':=fr 39 [(0,.isl false (List.map cGNode p1)),(1,.isl false (List.map cGNode p2)),(2,.fn (.func 38) [] []),(11,.isl false (List.map cGNode p1)),(12,.int .i64 (p1.length:Int)),(13,.int .i64 0)]) (Gh.sub ⟨rfl,rfl,rfl,rfl,rfl,rfl,trivial⟩) (Nat.zero_le _) ?_
 refine WPU.loopK (fun m tm σ=>∃ z8:Int,slices_CompareFunc_Node_compareNodes_L1 p1 p2 f2 m z8=some r∧tm=fr 39 [(0,.isl false (List.map cGNode p1)),(1,.isl false (List.map cGNode p2)),(2,.fn (.func 38) [] []),(11,.isl false (List.map cGNode p1)),(12,.int .i64 (p1.length:Int)),(13,.int .i64 z8)]∧σ=⟨[],0⟩) (fun tm σ=>slices_CompareFunc_Node_compareNodes_K1 p1 p2=some r∧tm=fr 39 [(0,.isl false (List.map cGNode p1)),(1,.isl false (List.map cGNode p2))]∧σ=⟨[],0⟩) n ⟨0,hF,rfl,rfl⟩ ?_ ?_
 rintro _ _ ⟨hF,rfl,rfl⟩
 unfold slices_CompareFunc_Node_compareNodes_K1 at hF
 refine sr ?_
 refine RS.q rfl (op_len rfl rfl rfl (len_isl cGNode und23)) (RS.mv rfl rfl rfl rfl (RS.q rfl (op_len rfl rfl rfl (len_isl cGNode und23)) (RS.q rfl (op_int rfl rfl (ix_lss _ _ _) rfl) ?_)))
 refine sd ?_
 refine WPU.condS (t:=(decide ((p1.length:Int)<(p2.length:Int)))) rfl (fun h9=>?_) (fun h9=>?_)
 replace hF:=cond_t h9 hF
 refine sr ?_
 refine sd ?_
 refine WPU.ret ?_
 refine st ?_
 have hr:=Option.some.inj hF
 subst hr
 exact ⟨.inr rfl,[.int .i64 (-1)],res_t rfl (res_n),.int .i64 (-1),⟨[],0⟩,Nat.le_refl _,Gh.toR (.int .i64 (-1)) rfl,rfl,BU.h⟩
 replace hF:=cond_f h9 hF
 refine st ?_
 refine WPU.skip ?_
 refine sr ?_
 refine sd ?_
 refine WPU.ret ?_
 refine st ?_
 have hr:=Option.some.inj hF
 subst hr
 exact ⟨.inr rfl,[.int .i64 0],res_t rfl (res_n),.int .i64 0,⟨[],0⟩,Nat.le_refl _,Gh.toR (.int .i64 0) rfl,rfl,BU.h⟩
 rintro m1 _ _ ⟨z8,hF,rfl,rfl⟩
 rcases m1 with _ | m1
 cases hF
 unfold slices_CompareFunc_Node_compareNodes_L1 at hF
 refine sr ?_
 refine RS.q rfl (op_int rfl rfl (ix_lss _ _ _) rfl) ?_
 refine sd ?_
 refine WPU.condS (t:=(decide (z8<(p1.length:Int)))) rfl (fun h10=>?_) (fun h10=>?_)
 replace hF:=cond_t h10 hF
 refine st ?_
 refine WPU.skip ?_
 refine st ?_
 refine WPU.block ?_
 refine st ?_
 obtain ⟨x11,h12,hF⟩:=bindO_some hF
 refine sr ?_
 refine RS.q (u:=.iptr (cGNode x11)) rfl (op_ia rfl rfl (ia_isl cGNode und23 (sz_of inf43) len_cGNode h12 rfl)) (RS.q (u:=.agg (cGNode x11)) rfl (li_agg und43 rfl (sz_of inf43) rfl rfl) (RS.q (u:=.ptr 0 0 0) (σ':=⟨[(0,.row [.int .i64 0,.nils] 43)],1⟩) rfl (op_alloc inf43 rfl rfl) (RS.as rfl rfl rfl rfl (RS.opn (u:=.junk) (σ':=⟨[(0,.row (cGNode x11) 43)],1⟩) rfl (op_store (sz_of inf43) rfl rfl rfl rfl rfl rfl rfl rfl) rfl ?_))))
 refine se ?_
 repeat refine RS.mv rfl rfl rfl rfl ?_
 refine RS.q rfl (op_len rfl rfl rfl (len_isl cGNode und23)) (RS.q rfl (op_int rfl rfl (ix_geq _ _ _) rfl) ?_)
 refine sd ?_
 refine WPU.condS (t:=(decide (z8 ≥ (p2.length:Int)))) rfl (fun h13=>?_) (fun h13=>?_)
 replace hF:=cond_t h13 hF
 refine sr ?_
 refine sd ?_
 refine WPU.ret ?_
 refine st ?_
 have hr:=Option.some.inj hF
 subst hr
 exact ⟨.inr rfl,[.int .i64 1],res_t rfl (res_n),.int .i64 1,⟨[],0⟩,Nat.le_refl _,Gh.toR (.int .i64 1) rfl,rfl,BU.h⟩
 replace hF:=cond_f h13 hF
 refine st ?_
 refine WPU.skip ?_
 refine st ?_
 obtain ⟨x14,h15,hF⟩:=bindO_some hF
 refine sr ?_
 repeat refine RS.mv rfl rfl rfl rfl ?_
 refine RS.q (u:=.iptr (cGNode x14)) rfl (op_ia rfl rfl (ia_isl cGNode und23 (sz_of inf43) len_cGNode h15 rfl)) (RS.q (u:=.agg (cGNode x14)) rfl (li_agg und43 rfl (sz_of inf43) rfl rfl) (RS.q (u:=.ptr 1 0 0) (σ':=⟨[(1,.row [.int .i64 0,.nils] 43),(0,.row (cGNode x11) 43)],2⟩) rfl (op_alloc inf43 rfl rfl) (RS.opn (u:=.junk) (σ':=⟨[(1,.row (cGNode x14) 43),(0,.row (cGNode x11) 43)],2⟩) rfl (op_store (sz_of inf43) rfl rfl rfl rfl rfl rfl rfl rfl) rfl ?_)))
 refine sd ?_
 obtain ⟨r16,h17,hF⟩:=bindO_some hF
 refine sr ?_
 refine RS.q (u:=.agg (cGNode x11)) rfl (ld_agg und43 rfl (sz_of inf43) rfl rfl rfl) (RS.q (u:=.agg (cGNode x14)) rfl (ld_agg und43 rfl (sz_of inf43) rfl rfl rfl) (RS.call (u:=.int .i64 r16) (args:=[.agg (cGNode x11),.agg (cGNode x14)]) rfl (op_call rfl rfl fn38 hb38 rfl rfl) (hf2S x11 x14 r16 h17 _) rfl rfl ?_))
 refine se ?_
 refine RS.q rfl (op_int rfl rfl (ix_neq _ _ _) rfl) ?_
 refine sd ?_
 refine WPU.condS (t:=(r16 != 0)) rfl (fun h18=>?_) (fun h18=>?_)
 replace hF:=cond_t h18 hF
 refine sr ?_
 refine sd ?_
 refine WPU.ret ?_
 refine st ?_
 have hr:=Option.some.inj hF
 subst hr
 exact ⟨.inr rfl,[.int .i64 r16],res_t rfl (res_n),.int .i64 r16,⟨[],0⟩,Nat.le_refl _,Gh.toR (.int .i64 r16) rfl,rfl,BU.h⟩
 replace hF:=cond_f h18 hF
 refine st ?_
 refine WPU.skip ?_
 refine sr ?_
 refine RS.q rfl (op_int rfl rfl (ix_add _ _ _) rfl) (RS.mv rfl rfl rfl rfl ?_)
 refine sd ?_
 exact ⟨m1,_,_,Nat.lt_succ_self _,⟨(IntKind.i64.wrap (z8+1)),hF,rfl,rfl⟩,(Nat.zero_le _),Gh.toC (n1:=0) ⟨rfl,rfl,rfl,rfl,rfl,rfl,trivial⟩ rfl (Nat.zero_le _) (by simp)⟩
 replace hF:=cond_f h10 hF
 refine st ?_
 refine WPU.exit ?_
 refine st ?_
 exact ⟨_,_,⟨hF,rfl,rfl⟩,(Nat.zero_le _),Gh.toC (n1:=0) ⟨rfl,rfl,trivial⟩ rfl (Nat.zero_le _) (by simp)⟩
theorem slices_CompareFunc_Node_compareNodes_ok (f2:GNode→GNode→Option (Int)) (hf2:∀ (a0:GNode) (a1:GNode) (r:Int),f2 a0 a1=some r→EvU Try.prog 38 [.agg (cGNode a0),.agg (cGNode a1)] ⟨[],0⟩ (fun u _=>u = .int .i64 r∧Bel 0 u)) (n:Nat) (p1:List GNode) (p2:List GNode) (r:Int) (hF:slices_CompareFunc_Node_compareNodes f2 n p1 p2=some r) (σ:Sg):EvU Try.prog 37 [.isl false (List.map cGNode p1),.isl false (List.map cGNode p2),.fn (.func 38) [] []] σ (fun u σ'=>u = .int .i64 r∧σ'=σ) :=
 EvU.pure1C (slices_CompareFunc_Node_compareNodes_0 f2 hf2 n p1 p2 r hF) σ
def cmp_Or_int_K1   : Option (Int) :=
 some 0
def cmp_Or_int_L1 (p1:List Int):Nat→Int→Option (Int)
 | 0,_=>none
 | m1+1,z6 =>
  cond (decide (z6<(p1.length:Int)))
   (bindO (idxO p1 z6) fun x8 =>
   cond (x8 != 0)
    (some x8)
    ((cmp_Or_int_L1 p1 m1) (IntKind.i64.wrap (z6+1))))
   (cmp_Or_int_K1)
def cmp_Or_int (n:Nat) (p1:List Int):Option (Int) :=
 cmp_Or_int_L1 p1 n 0
theorem cmp_Or_int_0 (n:Nat) (p1:List Int) (r:Int) (hF:cmp_Or_int n p1=some r):EvU Try.prog 50 [.isl false (List.map (cI .i64) p1)] ⟨[],0⟩ (fun u _=>u = .int .i64 r∧Bel 0 u):=by
 unfold cmp_Or_int at hF
 refine EvU.of_body Try.tb_ok fn50 rfl ?_
 refine WPU.ghost (tm':=fr 18 [(0,.isl false (List.map (cI .i64) p1))]) (Gh.start (Nat.le_of_ble_eq_true rfl)) (Nat.zero_le _) ?_
 refine sr ?_
 refine se ?_
 refine se ?_
 refine RS.q rfl (op_len rfl rfl rfl (len_isl (cI .i64) und55)) (RS.mv rfl rfl rfl rfl ?_)
 refine sd ?_
 refine WPU.ghost (tm':=fr 18 [(3,.int .i64 0),(6,.isl false (List.map (cI .i64) p1)),(7,.int .i64 (p1.length:Int)),(8,.int .i64 0)]) (Gh.sub ⟨rfl,rfl,rfl,rfl,trivial⟩) (Nat.zero_le _) ?_
 refine WPU.loopK (fun m tm σ=>∃ z6:Int,cmp_Or_int_L1 p1 m z6=some r∧tm=fr 18 [(3,.int .i64 0),(6,.isl false (List.map (cI .i64) p1)),(7,.int .i64 (p1.length:Int)),(8,.int .i64 z6)]∧σ=⟨[],0⟩) (fun tm σ=>cmp_Or_int_K1=some r∧tm=fr 18 [(3,.int .i64 0)]∧σ=⟨[],0⟩) n ⟨0,hF,rfl,rfl⟩ ?_ ?_
 rintro _ _ ⟨hF,rfl,rfl⟩
 unfold cmp_Or_int_K1 at hF
 refine sr ?_
 refine sd ?_
 refine WPU.ret ?_
 refine st ?_
 have hr:=Option.some.inj hF
 subst hr
 exact ⟨.inr rfl,[.int .i64 0],res_t rfl (res_n),.int .i64 0,⟨[],0⟩,Nat.le_refl _,Gh.toR (.int .i64 0) rfl,rfl,BU.h⟩
 rintro m1 _ _ ⟨z6,hF,rfl,rfl⟩
 rcases m1 with _ | m1
 cases hF
 unfold cmp_Or_int_L1 at hF
 refine sr ?_
 refine RS.q rfl (op_int rfl rfl (ix_lss _ _ _) rfl) ?_
 refine sd ?_
 refine WPU.condS (t:=(decide (z6<(p1.length:Int)))) rfl (fun h7=>?_) (fun h7=>?_)
 replace hF:=cond_t h7 hF
 refine st ?_
 refine WPU.skip ?_
 refine st ?_
 refine WPU.block ?_
 refine st ?_
 obtain ⟨x8,h9,hF⟩:=bindO_some hF
 refine sr ?_
 refine RS.q (u:=.iptr [.int .i64 x8]) rfl (op_ia rfl rfl (ia_isl (cI .i64) und55 (sz_of inf3) (len_cI .i64) h9 rfl)) (RS.q (u:=.int .i64 x8) rfl (li_one und3 rfl rfl rfl) ?_)
 refine se ?_
 repeat refine RS.mv rfl rfl rfl rfl ?_
 refine RS.q rfl (op_int rfl rfl (ix_neq _ _ _) rfl) ?_
 refine sd ?_
 refine WPU.condS (t:=(x8 != 0)) rfl (fun h10=>?_) (fun h10=>?_)
 replace hF:=cond_t h10 hF
 refine sr ?_
 refine sd ?_
 refine WPU.ret ?_
 refine st ?_
 have hr:=Option.some.inj hF
 subst hr
 exact ⟨.inr rfl,[.int .i64 x8],res_t rfl (res_n),.int .i64 x8,⟨[],0⟩,Nat.le_refl _,Gh.toR (.int .i64 x8) rfl,rfl,BU.h⟩
 replace hF:=cond_f h10 hF
 refine st ?_
 refine WPU.skip ?_
 refine sr ?_
 refine RS.q rfl (op_int rfl rfl (ix_add _ _ _) rfl) (RS.mv rfl rfl rfl rfl ?_)
 refine sd ?_
 exact ⟨m1,_,_,Nat.lt_succ_self _,⟨(IntKind.i64.wrap (z6+1)),hF,rfl,rfl⟩,(Nat.zero_le _),Gh.toC (n1:=0) ⟨rfl,rfl,rfl,rfl,trivial⟩ rfl (Nat.zero_le _) (by simp)⟩
 replace hF:=cond_f h7 hF
 refine st ?_
 refine WPU.exit ?_
 refine st ?_
 exact ⟨_,_,⟨hF,rfl,rfl⟩,(Nat.zero_le _),Gh.toC (n1:=0) ⟨rfl,trivial⟩ rfl (Nat.zero_le _) (by simp)⟩
def slices_CompareFunc_Arc_compareNodes_1_K1 (p1:List GArc) (p2:List GArc)  : Option (Int) :=
 cond (decide ((p1.length:Int)<(p2.length:Int)))
  (some (-1))
  (some 0)
def slices_CompareFunc_Arc_compareNodes_1_L1 (p1:List GArc) (p2:List GArc) (f2:GArc→GArc→Option (Int)):Nat→Int→Option (Int)
 | 0,_=>none
 | m1+1,z8 =>
  cond (decide (z8<(p1.length:Int)))
   (bindO (idxO p1 z8) fun x11 =>
   cond (decide (z8 ≥ (p2.length:Int)))
    (some 1)
    (bindO (idxO p2 z8) fun x14 =>
    bindO (f2 x11 x14) fun r16 =>
    cond (r16 != 0)
     (some r16)
     ((slices_CompareFunc_Arc_compareNodes_1_L1 p1 p2 f2 m1) (IntKind.i64.wrap (z8+1)))))
   (slices_CompareFunc_Arc_compareNodes_1_K1 p1 p2)
def slices_CompareFunc_Arc_compareNodes_1 (f2:GArc→GArc→Option (Int)) (n:Nat) (p1:List GArc) (p2:List GArc):Option (Int) :=
 slices_CompareFunc_Arc_compareNodes_1_L1 p1 p2 f2 n 0
theorem slices_CompareFunc_Arc_compareNodes_1_0 (f2:GArc→GArc→Option (Int)) (hf2:∀ (a0:GArc) (a1:GArc) (r:Int),f2 a0 a1=some r→EvU Try.prog 52 [.agg (cGArc a0),.agg (cGArc a1)] ⟨[],0⟩ (fun u _=>u = .int .i64 r∧Bel 0 u)) (n:Nat) (p1:List GArc) (p2:List GArc) (r:Int) (hF:slices_CompareFunc_Arc_compareNodes_1 f2 n p1 p2=some r):EvU Try.prog 51 [.isl false (List.map cGArc p1),.isl false (List.map cGArc p2),.fn (.func 52) [] []] ⟨[],0⟩ (fun u _=>u = .int .i64 r∧Bel 0 u):=by
 unfold slices_CompareFunc_Arc_compareNodes_1 at hF
 have hf2S:∀ (a0:GArc) (a1:GArc) (r:Int),f2 a0 a1=some r→∀ σ,EvU Try.prog 52 [.agg (cGArc a0),.agg (cGArc a1)] σ (fun u σ'=>u = .int .i64 r∧σ'=σ):=fun a0 a1 r h σ=>EvU.pure1C (hf2 a0 a1 r h) σ
 refine EvU.of_body Try.tb_ok fn51 rfl ?_
 refine WPU.ghost (tm':=fr 39 [(0,.isl false (List.map cGArc p1)),(1,.isl false (List.map cGArc p2)),(2,.fn (.func 52) [] [])]) (Gh.start (Nat.le_of_ble_eq_true rfl)) (Nat.zero_le _) ?_
 refine sr ?_
 refine se ?_
 refine RS.q rfl (op_len rfl rfl rfl (len_isl cGArc und41)) (RS.mv rfl rfl rfl rfl ?_)
 refine sd ?_
 refine WPU.ghost (tm':=fr 39 [(0,.isl false (List.map cGArc p1)),(1,.isl false (List.map cGArc p2)),(2,.fn (.func 52) [] []),(11,.isl false (List.map cGArc p1)),(12,.int .i64 (p1.length:Int)),(13,.int .i64 0)]) (Gh.sub ⟨rfl,rfl,rfl,rfl,rfl,rfl,trivial⟩) (Nat.zero_le _) ?_
 refine WPU.loopK (fun m tm σ=>∃ z8:Int,slices_CompareFunc_Arc_compareNodes_1_L1 p1 p2 f2 m z8=some r∧tm=fr 39 [(0,.isl false (List.map cGArc p1)),(1,.isl false (List.map cGArc p2)),(2,.fn (.func 52) [] []),(11,.isl false (List.map cGArc p1)),(12,.int .i64 (p1.length:Int)),(13,.int .i64 z8)]∧σ=⟨[],0⟩) (fun tm σ=>slices_CompareFunc_Arc_compareNodes_1_K1 p1 p2=some r∧tm=fr 39 [(0,.isl false (List.map cGArc p1)),(1,.isl false (List.map cGArc p2))]∧σ=⟨[],0⟩) n ⟨0,hF,rfl,rfl⟩ ?_ ?_
 rintro _ _ ⟨hF,rfl,rfl⟩
 unfold slices_CompareFunc_Arc_compareNodes_1_K1 at hF
 refine sr ?_
 refine RS.q rfl (op_len rfl rfl rfl (len_isl cGArc und41)) (RS.mv rfl rfl rfl rfl (RS.q rfl (op_len rfl rfl rfl (len_isl cGArc und41)) (RS.q rfl (op_int rfl rfl (ix_lss _ _ _) rfl) ?_)))
 refine sd ?_
 refine WPU.condS (t:=(decide ((p1.length:Int)<(p2.length:Int)))) rfl (fun h9=>?_) (fun h9=>?_)
 replace hF:=cond_t h9 hF
 refine sr ?_
 refine sd ?_
 refine WPU.ret ?_
 refine st ?_
 have hr:=Option.some.inj hF
 subst hr
 exact ⟨.inr rfl,[.int .i64 (-1)],res_t rfl (res_n),.int .i64 (-1),⟨[],0⟩,Nat.le_refl _,Gh.toR (.int .i64 (-1)) rfl,rfl,BU.h⟩
 replace hF:=cond_f h9 hF
 refine st ?_
 refine WPU.skip ?_
 refine sr ?_
 refine sd ?_
 refine WPU.ret ?_
 refine st ?_
 have hr:=Option.some.inj hF
 subst hr
 exact ⟨.inr rfl,[.int .i64 0],res_t rfl (res_n),.int .i64 0,⟨[],0⟩,Nat.le_refl _,Gh.toR (.int .i64 0) rfl,rfl,BU.h⟩
 rintro m1 _ _ ⟨z8,hF,rfl,rfl⟩
 rcases m1 with _ | m1
 cases hF
 unfold slices_CompareFunc_Arc_compareNodes_1_L1 at hF
 refine sr ?_
 refine RS.q rfl (op_int rfl rfl (ix_lss _ _ _) rfl) ?_
 refine sd ?_
 refine WPU.condS (t:=(decide (z8<(p1.length:Int)))) rfl (fun h10=>?_) (fun h10=>?_)
 replace hF:=cond_t h10 hF
 refine st ?_
 refine WPU.skip ?_
 refine st ?_
 refine WPU.block ?_
 refine st ?_
 obtain ⟨x11,h12,hF⟩:=bindO_some hF
 refine sr ?_
 refine RS.q (u:=.iptr (cGArc x11)) rfl (op_ia rfl rfl (ia_isl cGArc und41 (sz_of inf45) len_cGArc h12 rfl)) (RS.q (u:=.agg (cGArc x11)) rfl (li_agg und45 rfl (sz_of inf45) rfl rfl) (RS.q (u:=.ptr 0 0 0) (σ':=⟨[(0,.row [.int .i64 0,.int .i64 0] 45)],1⟩) rfl (op_alloc inf45 rfl rfl) (RS.as rfl rfl rfl rfl (RS.opn (u:=.junk) (σ':=⟨[(0,.row (cGArc x11) 45)],1⟩) rfl (op_store (sz_of inf45) rfl rfl rfl rfl rfl rfl rfl rfl) rfl ?_))))
 refine se ?_
 repeat refine RS.mv rfl rfl rfl rfl ?_
 refine RS.q rfl (op_len rfl rfl rfl (len_isl cGArc und41)) (RS.q rfl (op_int rfl rfl (ix_geq _ _ _) rfl) ?_)
 refine sd ?_
 refine WPU.condS (t:=(decide (z8 ≥ (p2.length:Int)))) rfl (fun h13=>?_) (fun h13=>?_)
 replace hF:=cond_t h13 hF
 refine sr ?_
 refine sd ?_
 refine WPU.ret ?_
 refine st ?_
 have hr:=Option.some.inj hF
 subst hr
 exact ⟨.inr rfl,[.int .i64 1],res_t rfl (res_n),.int .i64 1,⟨[],0⟩,Nat.le_refl _,Gh.toR (.int .i64 1) rfl,rfl,BU.h⟩
 replace hF:=cond_f h13 hF
 refine st ?_
 refine WPU.skip ?_
 refine st ?_
 obtain ⟨x14,h15,hF⟩:=bindO_some hF
 refine sr ?_
 repeat refine RS.mv rfl rfl rfl rfl ?_
 refine RS.q (u:=.iptr (cGArc x14)) rfl (op_ia rfl rfl (ia_isl cGArc und41 (sz_of inf45) len_cGArc h15 rfl)) (RS.q (u:=.agg (cGArc x14)) rfl (li_agg und45 rfl (sz_of inf45) rfl rfl) (RS.q (u:=.ptr 1 0 0) (σ':=⟨[(1,.row [.int .i64 0,.int .i64 0] 45),(0,.row (cGArc x11) 45)],2⟩) rfl (op_alloc inf45 rfl rfl) (RS.opn (u:=.junk) (σ':=⟨[(1,.row (cGArc x14) 45),(0,.row (cGArc x11) 45)],2⟩) rfl (op_store (sz_of inf45) rfl rfl rfl rfl rfl rfl rfl rfl) rfl ?_)))
 refine sd ?_
 obtain ⟨r16,h17,hF⟩:=bindO_some hF
 refine sr ?_
 refine RS.q (u:=.agg (cGArc x11)) rfl (ld_agg und45 rfl (sz_of inf45) rfl rfl rfl) (RS.q (u:=.agg (cGArc x14)) rfl (ld_agg und45 rfl (sz_of inf45) rfl rfl rfl) (RS.call (u:=.int .i64 r16) (args:=[.agg (cGArc x11),.agg (cGArc x14)]) rfl (op_call rfl rfl fn52 hb52 rfl rfl) (hf2S x11 x14 r16 h17 _) rfl rfl ?_))
 refine se ?_
 refine RS.q rfl (op_int rfl rfl (ix_neq _ _ _) rfl) ?_
 refine sd ?_
 refine WPU.condS (t:=(r16 != 0)) rfl (fun h18=>?_) (fun h18=>?_)
 replace hF:=cond_t h18 hF
 refine sr ?_
 refine sd ?_
 refine WPU.ret ?_
 refine st ?_
 have hr:=Option.some.inj hF
 subst hr
 exact ⟨.inr rfl,[.int .i64 r16],res_t rfl (res_n),.int .i64 r16,⟨[],0⟩,Nat.le_refl _,Gh.toR (.int .i64 r16) rfl,rfl,BU.h⟩
 replace hF:=cond_f h18 hF
 refine st ?_
 refine WPU.skip ?_
 refine sr ?_
 refine RS.q rfl (op_int rfl rfl (ix_add _ _ _) rfl) (RS.mv rfl rfl rfl rfl ?_)
 refine sd ?_
 exact ⟨m1,_,_,Nat.lt_succ_self _,⟨(IntKind.i64.wrap (z8+1)),hF,rfl,rfl⟩,(Nat.zero_le _),Gh.toC (n1:=0) ⟨rfl,rfl,rfl,rfl,rfl,rfl,trivial⟩ rfl (Nat.zero_le _) (by simp)⟩
 replace hF:=cond_f h10 hF
 refine st ?_
 refine WPU.exit ?_
 refine st ?_
 exact ⟨_,_,⟨hF,rfl,rfl⟩,(Nat.zero_le _),Gh.toC (n1:=0) ⟨rfl,rfl,trivial⟩ rfl (Nat.zero_le _) (by simp)⟩
theorem slices_CompareFunc_Arc_compareNodes_1_ok (f2:GArc→GArc→Option (Int)) (hf2:∀ (a0:GArc) (a1:GArc) (r:Int),f2 a0 a1=some r→EvU Try.prog 52 [.agg (cGArc a0),.agg (cGArc a1)] ⟨[],0⟩ (fun u _=>u = .int .i64 r∧Bel 0 u)) (n:Nat) (p1:List GArc) (p2:List GArc) (r:Int) (hF:slices_CompareFunc_Arc_compareNodes_1 f2 n p1 p2=some r) (σ:Sg):EvU Try.prog 51 [.isl false (List.map cGArc p1),.isl false (List.map cGArc p2),.fn (.func 52) [] []] σ (fun u σ'=>u = .int .i64 r∧σ'=σ) :=
 EvU.pure1C (slices_CompareFunc_Arc_compareNodes_1_0 f2 hf2 n p1 p2 r hF) σ
def graph_compareNodes_1 (n:Nat) (p1:GArc) (p2:GArc):Option (Int) :=
 bindO (cmp_Compare_int n p1.Feat p2.Feat) fun r3 =>
 bindO (cmp_Compare_int n p1.To p2.To) fun r5 =>
 bindO (cmp_Or_int n ([r3,r5])) fun r7 =>
 some r7
theorem graph_compareNodes_1_0 (n:Nat) (p1:GArc) (p2:GArc) (r:Int) (hF:graph_compareNodes_1 n p1 p2=some r):EvU Try.prog 52 [.agg (cGArc p1),.agg (cGArc p2)] ⟨[],0⟩ (fun u _=>u = .int .i64 r∧Bel 0 u):=by
 unfold graph_compareNodes_1 at hF
 refine EvU.of_body Try.tb_ok fn52 rfl ?_
 refine WPU.ghost (tm':=fr 17 [(0,.agg (cGArc p1)),(1,.agg (cGArc p2))]) (Gh.start (Nat.le_of_ble_eq_true rfl)) (Nat.zero_le _) ?_
 refine sr ?_
 refine RS.q (u:=.ptr 0 0 0) (σ':=⟨[(0,.row (cGArc p1) 45)],1⟩) rfl (op_box rfl rfl rfl) (RS.q (u:=.ptr 1 0 0) (σ':=⟨[(1,.row (cGArc p2) 45),(0,.row (cGArc p1) 45)],2⟩) rfl (op_box rfl rfl rfl) ?_)
 refine sd ?_
 obtain ⟨r3,h4,hF⟩:=bindO_some hF
 obtain ⟨r5,h6,hF⟩:=bindO_some hF
 obtain ⟨r7,h8,hF⟩:=bindO_some hF
 refine WPU.drawE Try.tb_ok [] (by kernel_rfl) ?_
 refine RD.q (u:=.ptr 0 0 0) rfl (op_fa und45 rfl (sz_of inf3) rfl rfl rfl) (RD.q (u:=.int .i64 p1.Feat) rfl (ld_one und3 rfl rfl rfl rfl) (RD.q (u:=.ptr 1 0 0) rfl (op_fa und45 rfl (sz_of inf3) rfl rfl rfl) (RD.q (u:=.int .i64 p2.Feat) rfl (ld_one und3 rfl rfl rfl rfl) (RD.free (u:=.int .i64 r3) (args:=[.int .i64 p1.Feat,.int .i64 p2.Feat]) rfl (op_call rfl rfl fn36 hb36 rfl rfl) (fun s=>cmp_Compare_int_ok n p1.Feat p2.Feat r3 h4 s) rfl rfl (RD.q (u:=.ptr 0 0 1) rfl (op_fa und45 rfl (sz_of inf3) rfl rfl rfl) (RD.q (u:=.int .i64 p1.To) rfl (ld_one und3 rfl rfl rfl rfl) (RD.q (u:=.ptr 1 0 1) rfl (op_fa und45 rfl (sz_of inf3) rfl rfl rfl) ?_)))))))
 refine RD.q (u:=.int .i64 p2.To) rfl (ld_one und3 rfl rfl rfl rfl) (RD.free (u:=.int .i64 r5) (args:=[.int .i64 p1.To,.int .i64 p2.To]) rfl (op_call rfl rfl fn36 hb36 rfl rfl) (fun s=>cmp_Compare_int_ok n p1.To p2.To r5 h6 s) rfl rfl (RD.act (u:=.sl 2 0 2 2) (σ':=⟨[(2,.row [.int .i64 r3,.int .i64 r5] 3),(1,.row (cGArc p2) 45),(0,.row (cGArc p1) 45)],3⟩) rfl (op_bsl und55 inf3 rfl rfl rfl rfl rfl rfl rfl) rfl rfl ?_))
 refine RD.call (u:=.int .i64 r7) (args:=[.sl 2 0 2 2]) rfl (op_call rfl rfl fn50 hb50 rfl rfl) (EvU.view (cmp_Or_int_0 n ([r3,r5]) r7 h8) BUL.h (by simp only [toV,toVL,okL,okC,cond_true]<;>rfl) (fun m=>by simp [ren,renL]) (Gh.fz (tm':=[.isl false (List.map (cI .i64) ([r3,r5]))]) (h':=[(1,.row (cGArc p2) 45),(0,.row (cGArc p1) 45)]) 2 (.row [.int .i64 r3,.int .i64 r5] 3) 1 rfl (by simp) (by simp only [oneU,fzL_nil,fzL_cons,fz_int,fz_bool,fz_str,fz_nils,fz_nilp,fz_nilm,fz_nilf,fz_junk,fz_isl,fz_map,fz_agg,fz_tup,fz_fn,junkT,fz_sl,fz_p0,fz_cGArc,Nat.reduceLeDiff,Nat.reduceMul,List.length_cons,List.length_nil,Nat.reduceAdd]<;>simp only [chunks,List.take,List.drop,List.map,cI,cB,cS,cL]) (by simp only [fzH,fzB,ug,Nat.beq,cond_true,cond_false,oneU,fzL_nil,fzL_cons,fz_int,fz_bool,fz_str,fz_nils,fz_nilp,fz_nilm,fz_nilf,fz_junk,fz_isl,fz_map,fz_agg,fz_tup,fz_fn,junkT,fz_sl,fz_p0,fz_cGArc,Nat.reduceLeDiff,Nat.reduceMul,List.length_cons,List.length_nil,Nat.reduceAdd]<;>simp only [chunks,List.take,List.drop,List.map,cI,cB,cS,cL]))) rfl rfl ?_
 refine RD.as rfl rfl rfl rfl ?_
 refine RD.done ⟨by kernel_rfl,trivial,?_⟩
 refine st ?_
 refine WPU.ret ?_
 refine st ?_
 have hr:=Option.some.inj hF
 subst hr
 exact ⟨.inr rfl,[.int .i64 r7],res_t rfl (res_n),.int .i64 r7,⟨[],0⟩,Nat.le_refl _,Gh.toR (.int .i64 r7) rfl,rfl,BU.h⟩
def graph_compareNodes (n:Nat) (p1:GNode) (p2:GNode):Option (Int) :=
 bindO (cmp_Compare_int n p1.Typex p2.Typex) fun r3 =>
 bindO (cmp_Compare_int n (p1.Arcs.length:Int) (p2.Arcs.length:Int)) fun r5 =>
 bindO (cmp_Or_int n ([r3,r5])) fun r7 =>
 cond (r7 != 0)
  (some r7)
  (bindO (slices_CompareFunc_Arc_compareNodes_1 (graph_compareNodes_1 n) n p1.Arcs p2.Arcs) fun r10 =>
  some r10)
theorem graph_compareNodes_0 (n:Nat) (p1:GNode) (p2:GNode) (r:Int) (hF:graph_compareNodes n p1 p2=some r):EvU Try.prog 38 [.agg (cGNode p1),.agg (cGNode p2)] ⟨[],0⟩ (fun u _=>u = .int .i64 r∧Bel 0 u):=by
 unfold graph_compareNodes at hF
 refine EvU.of_body Try.tb_ok fn38 rfl ?_
 refine WPU.ghost (tm':=fr 28 [(0,.agg (cGNode p1)),(1,.agg (cGNode p2))]) (Gh.start (Nat.le_of_ble_eq_true rfl)) (Nat.zero_le _) ?_
 refine sr ?_
 refine RS.q (u:=.ptr 0 0 0) (σ':=⟨[(0,.row (cGNode p1) 43)],1⟩) rfl (op_box rfl rfl rfl) (RS.q (u:=.ptr 1 0 0) (σ':=⟨[(1,.row (cGNode p2) 43),(0,.row (cGNode p1) 43)],2⟩) rfl (op_box rfl rfl rfl) ?_)
 refine sd ?_
 obtain ⟨r3,h4,hF⟩:=bindO_some hF
 obtain ⟨r5,h6,hF⟩:=bindO_some hF
 obtain ⟨r7,h8,hF⟩:=bindO_some hF
 refine WPU.drawE Try.tb_ok [] (by kernel_rfl) ?_
 refine RD.q (u:=.ptr 0 0 0) rfl (op_fa und43 rfl (sz_of inf3) rfl rfl rfl) (RD.q (u:=.int .i64 p1.Typex) rfl (ld_one und3 rfl rfl rfl rfl) (RD.q (u:=.ptr 1 0 0) rfl (op_fa und43 rfl (sz_of inf3) rfl rfl rfl) (RD.q (u:=.int .i64 p2.Typex) rfl (ld_one und3 rfl rfl rfl rfl) (RD.free (u:=.int .i64 r3) (args:=[.int .i64 p1.Typex,.int .i64 p2.Typex]) rfl (op_call rfl rfl fn36 hb36 rfl rfl) (fun s=>cmp_Compare_int_ok n p1.Typex p2.Typex r3 h4 s) rfl rfl (RD.q (u:=.ptr 0 0 1) rfl (op_fa und43 rfl (sz_of inf41) rfl rfl rfl) (RD.q (u:=.isl false (List.map cGArc p1.Arcs)) rfl (ld_one und41 rfl rfl rfl rfl) (RD.q rfl (op_len rfl rfl rfl (len_isl cGArc und41)) ?_)))))))
 refine RD.q (u:=.ptr 1 0 1) rfl (op_fa und43 rfl (sz_of inf41) rfl rfl rfl) (RD.q (u:=.isl false (List.map cGArc p2.Arcs)) rfl (ld_one und41 rfl rfl rfl rfl) (RD.q rfl (op_len rfl rfl rfl (len_isl cGArc und41)) (RD.free (u:=.int .i64 r5) (args:=[.int .i64 (p1.Arcs.length:Int),.int .i64 (p2.Arcs.length:Int)]) rfl (op_call rfl rfl fn36 hb36 rfl rfl) (fun s=>cmp_Compare_int_ok n (p1.Arcs.length:Int) (p2.Arcs.length:Int) r5 h6 s) rfl rfl (RD.act (u:=.sl 2 0 2 2) (σ':=⟨[(2,.row [.int .i64 r3,.int .i64 r5] 3),(1,.row (cGNode p2) 43),(0,.row (cGNode p1) 43)],3⟩) rfl (op_bsl und55 inf3 rfl rfl rfl rfl rfl rfl rfl) rfl rfl ?_))))
 refine RD.call (u:=.int .i64 r7) (args:=[.sl 2 0 2 2]) rfl (op_call rfl rfl fn50 hb50 rfl rfl) (EvU.view (cmp_Or_int_0 n ([r3,r5]) r7 h8) BUL.h (by simp only [toV,toVL,okL,okC,cond_true]<;>rfl) (fun m=>by simp [ren,renL]) (Gh.fz (tm':=[.isl false (List.map (cI .i64) ([r3,r5]))]) (h':=[(1,.row (cGNode p2) 43),(0,.row (cGNode p1) 43)]) 2 (.row [.int .i64 r3,.int .i64 r5] 3) 1 rfl (by simp) (by simp only [oneU,fzL_nil,fzL_cons,fz_int,fz_bool,fz_str,fz_nils,fz_nilp,fz_nilm,fz_nilf,fz_junk,fz_isl,fz_map,fz_agg,fz_tup,fz_fn,junkT,fz_sl,fz_p0,fz_cGNode,Nat.reduceLeDiff,Nat.reduceMul,List.length_cons,List.length_nil,Nat.reduceAdd]<;>simp only [chunks,List.take,List.drop,List.map,cI,cB,cS,cL]) (by simp only [fzH,fzB,ug,Nat.beq,cond_true,cond_false,oneU,fzL_nil,fzL_cons,fz_int,fz_bool,fz_str,fz_nils,fz_nilp,fz_nilm,fz_nilf,fz_junk,fz_isl,fz_map,fz_agg,fz_tup,fz_fn,junkT,fz_sl,fz_p0,fz_cGNode,Nat.reduceLeDiff,Nat.reduceMul,List.length_cons,List.length_nil,Nat.reduceAdd]<;>simp only [chunks,List.take,List.drop,List.map,cI,cB,cS,cL]))) rfl rfl ?_
 refine RD.as rfl rfl rfl rfl ?_
 refine RD.done ⟨by kernel_rfl,trivial,?_⟩
 refine sr ?_
 refine RS.q rfl (op_int rfl rfl (ix_neq _ _ _) rfl) ?_
 refine sd ?_
 refine WPU.condS (t:=(r7 != 0)) rfl (fun h9=>?_) (fun h9=>?_)
 replace hF:=cond_t h9 hF
 refine sr ?_
 refine sd ?_
 refine WPU.ret ?_
 refine st ?_
 have hr:=Option.some.inj hF
 subst hr
 exact ⟨.inr rfl,[.int .i64 r7],res_t rfl (res_n),.int .i64 r7,⟨[],0⟩,Nat.le_refl _,Gh.toR (.int .i64 r7) rfl,rfl,BU.h⟩
 replace hF:=cond_f h9 hF
 refine st ?_
 refine WPU.skip ?_
 refine st ?_
 obtain ⟨r10,h11,hF⟩:=bindO_some hF
 refine sr ?_
 refine RS.q (u:=.ptr 0 0 1) rfl (op_fa und43 rfl (sz_of inf41) rfl rfl rfl) (RS.q (u:=.isl false (List.map cGArc p1.Arcs)) rfl (ld_one und41 rfl rfl rfl rfl) (RS.q (u:=.ptr 1 0 1) rfl (op_fa und43 rfl (sz_of inf41) rfl rfl rfl) (RS.q (u:=.isl false (List.map cGArc p2.Arcs)) rfl (ld_one und41 rfl rfl rfl rfl) (RS.call (u:=.int .i64 r10) (args:=[.isl false (List.map cGArc p1.Arcs),.isl false (List.map cGArc p2.Arcs),.fn (.func 52) [] []]) rfl (op_call rfl rfl fn51 hb51 rfl rfl) (slices_CompareFunc_Arc_compareNodes_1_ok (graph_compareNodes_1 n) (graph_compareNodes_1_0 n) n p1.Arcs p2.Arcs r10 h11 _) rfl rfl ?_))))
 refine sd ?_
 refine WPU.ret ?_
 refine st ?_
 have hr:=Option.some.inj hF
 subst hr
 exact ⟨.inr rfl,[.int .i64 r10],res_t rfl (res_n),.int .i64 r10,⟨[],0⟩,Nat.le_refl _,Gh.toR (.int .i64 r10) rfl,rfl,BU.h⟩
def graph_Compare (n:Nat) (p1:GFS) (p2:GFS):Option (Int) :=
 bindO (cmp_Compare_int n (p1.Nodes.length:Int) (p2.Nodes.length:Int)) fun r3 =>
 cond (r3 != 0)
  (some r3)
  (bindO (slices_CompareFunc_Node_compareNodes (graph_compareNodes n) n p1.Nodes p2.Nodes) fun r6 =>
  some r6)
theorem graph_Compare_0 (n:Nat) (p1:GFS) (p2:GFS) (r:Int) (hF:graph_Compare n p1 p2=some r):EvU Try.prog 24 [.agg [.isl false (List.map cGNode p1.Nodes)],.agg [.isl false (List.map cGNode p2.Nodes)]] ⟨[],0⟩ (fun u _=>u = .int .i64 r∧Bel 0 u):=by
 unfold graph_Compare at hF
 refine EvU.of_body Try.tb_ok fn24 rfl ?_
 refine WPU.ghost (tm':=fr 21 [(0,.agg [.isl false (List.map cGNode p1.Nodes)]),(1,.agg [.isl false (List.map cGNode p2.Nodes)])]) (Gh.start (Nat.le_of_ble_eq_true rfl)) (Nat.zero_le _) ?_
 refine sr ?_
 refine RS.q (u:=.ptr 0 0 0) (σ':=⟨[(0,.row [.isl false (List.map cGNode p1.Nodes)] 25)],1⟩) rfl (op_box rfl rfl rfl) (RS.q (u:=.ptr 1 0 0) (σ':=⟨[(1,.row [.isl false (List.map cGNode p2.Nodes)] 25),(0,.row [.isl false (List.map cGNode p1.Nodes)] 25)],2⟩) rfl (op_box rfl rfl rfl) ?_)
 refine sd ?_
 obtain ⟨r3,h4,hF⟩:=bindO_some hF
 refine sr ?_
 refine RS.q (u:=.ptr 0 0 0) rfl (op_fa und25 rfl (sz_of inf23) rfl rfl rfl) (RS.q (u:=.isl false (List.map cGNode p1.Nodes)) rfl (ld_one und23 rfl rfl rfl rfl) (RS.q rfl (op_len rfl rfl rfl (len_isl cGNode und23)) (RS.q (u:=.ptr 1 0 0) rfl (op_fa und25 rfl (sz_of inf23) rfl rfl rfl) (RS.q (u:=.isl false (List.map cGNode p2.Nodes)) rfl (ld_one und23 rfl rfl rfl rfl) (RS.q rfl (op_len rfl rfl rfl (len_isl cGNode und23)) (RS.call (u:=.int .i64 r3) (args:=[.int .i64 (p1.Nodes.length:Int),.int .i64 (p2.Nodes.length:Int)]) rfl (op_call rfl rfl fn36 hb36 rfl rfl) (cmp_Compare_int_ok n (p1.Nodes.length:Int) (p2.Nodes.length:Int) r3 h4 _) rfl rfl ?_))))))
 refine se ?_
 refine RS.q rfl (op_int rfl rfl (ix_neq _ _ _) rfl) ?_
 refine sd ?_
 refine WPU.condS (t:=(r3 != 0)) rfl (fun h5=>?_) (fun h5=>?_)
 replace hF:=cond_t h5 hF
 refine sr ?_
 refine sd ?_
 refine WPU.ret ?_
 refine st ?_
 have hr:=Option.some.inj hF
 subst hr
 exact ⟨.inr rfl,[.int .i64 r3],res_t rfl (res_n),.int .i64 r3,⟨[],0⟩,Nat.le_refl _,Gh.toR (.int .i64 r3) rfl,rfl,BU.h⟩
 replace hF:=cond_f h5 hF
 refine st ?_
 refine WPU.skip ?_
 refine st ?_
 obtain ⟨r6,h7,hF⟩:=bindO_some hF
 refine sr ?_
 refine RS.q (u:=.ptr 0 0 0) rfl (op_fa und25 rfl (sz_of inf23) rfl rfl rfl) (RS.q (u:=.isl false (List.map cGNode p1.Nodes)) rfl (ld_one und23 rfl rfl rfl rfl) (RS.q (u:=.ptr 1 0 0) rfl (op_fa und25 rfl (sz_of inf23) rfl rfl rfl) (RS.q (u:=.isl false (List.map cGNode p2.Nodes)) rfl (ld_one und23 rfl rfl rfl rfl) (RS.call (u:=.int .i64 r6) (args:=[.isl false (List.map cGNode p1.Nodes),.isl false (List.map cGNode p2.Nodes),.fn (.func 38) [] []]) rfl (op_call rfl rfl fn37 hb37 rfl rfl) (slices_CompareFunc_Node_compareNodes_ok (graph_compareNodes n) (graph_compareNodes_0 n) n p1.Nodes p2.Nodes r6 h7 _) rfl rfl ?_))))
 refine sd ?_
 refine WPU.ret ?_
 refine st ?_
 have hr:=Option.some.inj hF
 subst hr
 exact ⟨.inr rfl,[.int .i64 r6],res_t rfl (res_n),.int .i64 r6,⟨[],0⟩,Nat.le_refl _,Gh.toR (.int .i64 r6) rfl,rfl,BU.h⟩
theorem graph_Compare_ok (n:Nat) (p1:GFS) (p2:GFS) (r:Int) (hF:graph_Compare n p1 p2=some r) (σ:Sg):EvU Try.prog 24 [.agg [.isl false (List.map cGNode p1.Nodes)],.agg [.isl false (List.map cGNode p2.Nodes)]] σ (fun u σ'=>u = .int .i64 r∧σ'=σ) :=
 EvU.pure1C (graph_Compare_0 n p1 p2 r hF) σ
def ref07_numbers_K2 (z6:Int) (rc1:Int→(List Int)→Option ((List Int))) (l28:List Int):Option ((List Int)) :=
 rc1 (IntKind.i64.wrap (z6+1)) l28
def ref07_numbers_L2 (z6:Int) (rc1:Int→(List Int)→Option ((List Int))) (x12:GNode):Nat→Int→(List Int)→Option ((List Int))
 | 0,_,_=>none
 | m2+1,z25,l26 =>
  cond (decide (z25<(x12.Arcs.length:Int)))
   (bindO (idxO x12.Arcs z25) fun x31 =>
   bindO (idxO x12.Arcs z25) fun x33 =>
   needO ((l26.length+2)*8≤140737488355328∧l26.length+2≤140737488355328) (
   (ref07_numbers_L2 z6 rc1 x12 m2) (IntKind.i64.wrap (z25+1)) (l26++[x31.Feat,x33.To])))
   (ref07_numbers_K2 z6 rc1 l26)
def ref07_numbers_K1  (l9:List Int):Option ((List Int)) :=
 some l9
def ref07_numbers_L1 (p1:GFS) (n:Nat):Nat→Int→(List Int)→Option ((List Int))
 | 0,_,_=>none
 | m1+1,z6,l7 =>
  cond (decide (z6<(p1.Nodes.length:Int)))
   (bindO (idxO p1.Nodes z6) fun x12 =>
   bindO (idxO p1.Nodes z6) fun x14 =>
   needO ((l7.length+2)*8≤140737488355328∧l7.length+2≤140737488355328) (
   ref07_numbers_L2 z6 (ref07_numbers_L1 p1 n m1) x12 n 0 (l7++[x14.Typex,(x12.Arcs.length:Int)])))
   (ref07_numbers_K1 l7)
def ref07_numbers (n:Nat) (p1:GFS):Option ((List Int)) :=
 ref07_numbers_L1 p1 n n 0 ([(p1.Nodes.length:Int)])
theorem ref07_numbers_0 (n:Nat) (p1:GFS) (r:(List Int)) (hF:ref07_numbers n p1=some r):EvU Try.prog 39 [.agg [.isl false (List.map cGNode p1.Nodes)]] ⟨[],0⟩ (fun u σ'=>∃ t,u = .vl 1 t 0 r.length∧σ'=⟨[(1,.vec (List.map (cI .i64) r).flatten 3 1 t)],1+1⟩):=by
 unfold ref07_numbers at hF
 refine EvU.of_body Try.tb_ok fn39 rfl ?_
 refine WPU.ghost (tm':=fr 55 [(0,.agg [.isl false (List.map cGNode p1.Nodes)])]) (Gh.start (Nat.le_of_ble_eq_true rfl)) (Nat.zero_le _) ?_
 refine sr ?_
 refine RS.q (u:=.ptr 0 0 0) (σ':=⟨[(0,.row [.isl false (List.map cGNode p1.Nodes)] 25)],1⟩) rfl (op_box rfl rfl rfl) ?_
 refine se ?_
 refine RS.q (u:=.ptr 0 0 0) rfl (op_fa und25 rfl (sz_of inf23) rfl rfl rfl) (RS.q (u:=.isl false (List.map cGNode p1.Nodes)) rfl (ld_one und23 rfl rfl rfl rfl) (RS.q rfl (op_len rfl rfl rfl (len_isl cGNode und23)) (RS.step (u:=.vl 1 0 0 ([(p1.Nodes.length:Int)].length)) (σ':=⟨[(1,.vec (List.map (cI .i64) ([(p1.Nodes.length:Int)])).flatten 3 1 0),(0,.row [.isl false (List.map cGNode p1.Nodes)] 25)],2⟩) rfl (StepU.bslv (cs:=(List.map (cI .i64) [(p1.Nodes.length:Int)]).flatten) Try.tb_ok rfl und55 inf3 rfl rfl rfl rfl rfl rfl rfl rfl) rfl rfl ?_)))
 refine se ?_
 refine sd ?_
 refine WPU.ghost (tm':=fr 55 [(1,.ptr 0 0 0),(3,.vl 1 0 0 (([(p1.Nodes.length:Int)]).length)),(4,.int .i64 0)]) (Gh.sub ⟨rfl,rfl,rfl,trivial⟩) (Nat.zero_le _) ?_
 refine WPU.loopK (fun m tm σ=>∃ z6:Int,∃ l7:List Int,∃ t8:Nat,ref07_numbers_L1 p1 n m z6 l7=some r∧tm=fr 55 [(1,.ptr 0 0 0),(3,.vl 1 t8 0 l7.length),(4,.int .i64 z6)]∧σ=⟨[(1,.vec (List.map (cI .i64) l7).flatten 3 1 t8),(0,.row [.isl false (List.map cGNode p1.Nodes)] 25)],2⟩) (fun tm σ=>∃ l9:List Int,∃ t10:Nat,ref07_numbers_K1 l9=some r∧tm=fr 55 [(3,.vl 1 t10 0 l9.length)]∧σ=⟨[(1,.vec (List.map (cI .i64) l9).flatten 3 1 t10),(0,.row [.isl false (List.map cGNode p1.Nodes)] 25)],2⟩) n ⟨0,[(p1.Nodes.length:Int)],0,hF,rfl,rfl⟩ ?_ ?_
 rintro _ _ ⟨l9,t10,hF,rfl,rfl⟩
 unfold ref07_numbers_K1 at hF
 refine sr ?_
 refine sd ?_
 refine WPU.ret ?_
 refine st ?_
 have hr:=Option.some.inj hF
 subst hr
 exact ⟨.inr rfl,[.vl 1 t10 0 l9.length],res_t rfl res_n,.vl 1 t10 0 l9.length,⟨[(1,.vec (List.map (cI .i64) l9).flatten 3 1 t10)],2⟩,(Nat.zero_le _),Gh.trans (Gh.only (fun k=>Nat.beq k 1)) (Gh.to (n1:=2) [] rfl rfl (Nat.zero_le _) (Nat.le_of_ble_eq_true rfl) BUL.h BH.h),t10,rfl,rfl⟩
 rintro m1 _ _ ⟨z6,l7,t8,hF,rfl,rfl⟩
 rcases m1 with _ | m1
 cases hF
 unfold ref07_numbers_L1 at hF
 refine sr ?_
 refine RS.q (u:=.ptr 0 0 0) rfl (op_fa und25 rfl (sz_of inf23) rfl rfl rfl) (RS.q (u:=.isl false (List.map cGNode p1.Nodes)) rfl (ld_one und23 rfl rfl rfl rfl) (RS.q rfl (op_len rfl rfl rfl (len_isl cGNode und23)) (RS.q rfl (op_int rfl rfl (ix_lss _ _ _) rfl) ?_)))
 refine sd ?_
 refine WPU.condS (t:=(decide (z6<(p1.Nodes.length:Int)))) rfl (fun h11=>?_) (fun h11=>?_)
 replace hF:=cond_t h11 hF
 refine st ?_
 refine WPU.skip ?_
 refine st ?_
 refine WPU.block ?_
 refine st ?_
 obtain ⟨x12,h13,hF⟩:=bindO_some hF
 refine sr ?_
 refine RS.q (u:=.ptr 0 0 0) rfl (op_fa und25 rfl (sz_of inf23) rfl rfl rfl) (RS.q (u:=.isl false (List.map cGNode p1.Nodes)) rfl (ld_one und23 rfl rfl rfl rfl) (RS.mv rfl rfl rfl rfl (RS.q (u:=.iptr (cGNode x12)) rfl (op_ia rfl rfl (ia_isl cGNode und23 (sz_of inf43) len_cGNode h13 rfl)) (RS.q (u:=.iptr [.isl false (List.map cGArc x12.Arcs)]) rfl (op_fi und43 rfl (sz_of inf41) rfl rfl) (RS.q (u:=.isl false (List.map cGArc x12.Arcs)) rfl (li_one und41 rfl rfl rfl) ?_)))))
 refine sd ?_
 obtain ⟨x14,h15,hF⟩:=bindO_some hF
 obtain ⟨h16,hF⟩:=needO_some hF
 refine sr ?_
 refine RS.q (u:=.ptr 0 0 0) rfl (op_fa und25 rfl (sz_of inf23) rfl rfl rfl) (RS.q (u:=.isl false (List.map cGNode p1.Nodes)) rfl (ld_one und23 rfl rfl rfl rfl) (RS.mv rfl rfl rfl rfl (RS.q (u:=.iptr (cGNode x14)) rfl (op_ia rfl rfl (ia_isl cGNode und23 (sz_of inf43) len_cGNode h15 rfl)) (RS.q (u:=.iptr (cGNode x14)) rfl (op_fi und43 rfl (sz_of inf3) rfl rfl) (RS.q (u:=.int .i64 x14.Typex) rfl (li_one und3 rfl rfl rfl) (RS.mv rfl rfl rfl rfl (RS.q rfl (op_len rfl rfl rfl (len_isl cGArc und41)) ?_)))))))
 refine RS.q (u:=.sl 2 0 2 2) (σ':=⟨[(2,.row [.int .i64 x14.Typex,.int .i64 (x12.Arcs.length:Int)] 3),(1,.vec (List.map (cI .i64) l7).flatten 3 1 t8),(0,.row [.isl false (List.map cGNode p1.Nodes)] 25)],3⟩) rfl (op_bsl und55 inf3 rfl rfl rfl rfl rfl rfl rfl) (RS.q (u:=.vl 1 (t8+1) 0 ((l7++[x14.Typex,(x12.Arcs.length:Int)]).length)) (σ':=⟨[(2,.row [.int .i64 x14.Typex,.int .i64 (x12.Arcs.length:Int)] 3),(1,.vec (List.map (cI .i64) (l7++[x14.Typex,(x12.Arcs.length:Int)])).flatten 3 1 (t8+1)),(0,.row [.isl false (List.map cGNode p1.Nodes)] 25)],3⟩) rfl (op_app rfl rfl rfl rfl (app_vl (cI .i64) ([x14.Typex,(x12.Arcs.length:Int)]) und55 und55 inf3 rfl (len_cI .i64) rfl (src_row (cI .i64) [x14.Typex,(x12.Arcs.length:Int)] rfl rfl rfl rfl) h16)) ?_)
 refine se ?_
 refine sd ?_
 refine WPU.ghost (tm':=fr 55 [(1,.ptr 0 0 0),(3,.vl 1 (t8+1) 0 ((l7++[x14.Typex,(x12.Arcs.length:Int)]).length)),(4,.int .i64 z6),(5,.isl false (List.map cGArc x12.Arcs)),(6,.int .i64 0)]) (Gh.sub ⟨rfl,rfl,rfl,rfl,rfl,trivial⟩) (Nat.zero_le _) ?_
 refine WPU.loopK (fun m tm σ=>∃ z25:Int,∃ l26:List Int,∃ t27:Nat,ref07_numbers_L2 z6 (ref07_numbers_L1 p1 n m1) x12 m z25 l26=some r∧tm=fr 55 [(1,.ptr 0 0 0),(3,.vl 1 t27 0 l26.length),(4,.int .i64 z6),(5,.isl false (List.map cGArc x12.Arcs)),(6,.int .i64 z25)]∧σ=⟨[(2,.row [.int .i64 x14.Typex,.int .i64 (x12.Arcs.length:Int)] 3),(1,.vec (List.map (cI .i64) l26).flatten 3 1 t27),(0,.row [.isl false (List.map cGNode p1.Nodes)] 25)],3⟩) (fun tm σ=>∃ l28:List Int,∃ t29:Nat,ref07_numbers_K2 z6 (ref07_numbers_L1 p1 n m1) l28=some r∧tm=fr 55 [(1,.ptr 0 0 0),(3,.vl 1 t29 0 l28.length),(4,.int .i64 z6)]∧σ=⟨[(2,.row [.int .i64 x14.Typex,.int .i64 (x12.Arcs.length:Int)] 3),(1,.vec (List.map (cI .i64) l28).flatten 3 1 t29),(0,.row [.isl false (List.map cGNode p1.Nodes)] 25)],3⟩) n ⟨0,(l7++[x14.Typex,(x12.Arcs.length:Int)]),(t8+1),hF,rfl,rfl⟩ ?_ ?_
 rintro _ _ ⟨l28,t29,hF,rfl,rfl⟩
 unfold ref07_numbers_K2 at hF
 refine sr ?_
 refine RS.q rfl (op_int rfl rfl (ix_add _ _ _) rfl) ?_
 refine sd ?_
 exact ⟨m1,_,_,Nat.lt_succ_self _,⟨(IntKind.i64.wrap (z6+1)),l28,t29,hF,rfl,rfl⟩,(Nat.zero_le _),Gh.toC (n1:=2) ⟨rfl,rfl,rfl,trivial⟩ rfl (Nat.zero_le _) (by simp)⟩
 rintro m2 _ _ ⟨z25,l26,t27,hF,rfl,rfl⟩
 rcases m2 with _ | m2
 cases hF
 unfold ref07_numbers_L2 at hF
 refine sr ?_
 repeat refine RS.mv rfl rfl rfl rfl ?_
 refine RS.q rfl (op_len rfl rfl rfl (len_isl cGArc und41)) (RS.q rfl (op_int rfl rfl (ix_lss _ _ _) rfl) ?_)
 refine sd ?_
 refine WPU.condS (t:=(decide (z25<(x12.Arcs.length:Int)))) rfl (fun h30=>?_) (fun h30=>?_)
 replace hF:=cond_t h30 hF
 refine st ?_
 refine WPU.skip ?_
 refine st ?_
 refine WPU.block ?_
 refine st ?_
 obtain ⟨x31,h32,hF⟩:=bindO_some hF
 obtain ⟨x33,h34,hF⟩:=bindO_some hF
 obtain ⟨h35,hF⟩:=needO_some hF
 refine WPU.drawE Try.tb_ok [(0,11)] (by kernel_rfl) ?_
 repeat refine RD.mv rfl rfl rfl rfl ?_
 refine RD.q (u:=.iptr (cGArc x31)) rfl (op_ia rfl rfl (ia_isl cGArc und41 (sz_of inf45) len_cGArc h32 rfl)) (RD.q (u:=.iptr (cGArc x31)) rfl (op_fi und45 rfl (sz_of inf3) rfl rfl) (RD.q (u:=.int .i64 x31.Feat) rfl (li_one und3 rfl rfl rfl) ?_))
 repeat refine RD.mv rfl rfl rfl rfl ?_
 refine RD.q (u:=.iptr (cGArc x33)) rfl (op_ia rfl rfl (ia_isl cGArc und41 (sz_of inf45) len_cGArc h34 rfl)) (RD.q (u:=.iptr [.int .i64 x33.To]) rfl (op_fi und45 rfl (sz_of inf3) rfl rfl) (RD.q (u:=.int .i64 x33.To) rfl (li_one und3 rfl rfl rfl) (RD.act (u:=.sl 3 0 2 2) (σ':=⟨[(3,.row [.int .i64 x31.Feat,.int .i64 x33.To] 3),(2,.row [.int .i64 x14.Typex,.int .i64 (x12.Arcs.length:Int)] 3),(1,.vec (List.map (cI .i64) l26).flatten 3 1 t27),(0,.row [.isl false (List.map cGNode p1.Nodes)] 25)],4⟩) rfl (op_bsl und55 inf3 rfl rfl rfl rfl rfl rfl rfl) rfl rfl (RD.act (u:=.vl 1 (t27+1) 0 ((l26++[x31.Feat,x33.To]).length)) (σ':=⟨[(3,.row [.int .i64 x31.Feat,.int .i64 x33.To] 3),(2,.row [.int .i64 x14.Typex,.int .i64 (x12.Arcs.length:Int)] 3),(1,.vec (List.map (cI .i64) (l26++[x31.Feat,x33.To])).flatten 3 1 (t27+1)),(0,.row [.isl false (List.map cGNode p1.Nodes)] 25)],4⟩) rfl (op_app rfl rfl rfl rfl (app_vl (cI .i64) ([x31.Feat,x33.To]) und55 und55 inf3 rfl (len_cI .i64) rfl (src_row (cI .i64) [x31.Feat,x33.To] rfl rfl rfl rfl) h35)) rfl rfl (RD.as rfl rfl rfl rfl ?_)))))
 refine RD.done ⟨by kernel_rfl,⟨op_move rfl,trivial⟩,?_⟩
 refine sr ?_
 refine RS.q rfl (op_int rfl rfl (ix_add _ _ _) rfl) ?_
 refine sd ?_
 exact ⟨m2,_,_,Nat.lt_succ_self _,⟨(IntKind.i64.wrap (z25+1)),(l26++[x31.Feat,x33.To]),(t27+1),hF,rfl,rfl⟩,(Nat.zero_le _),Gh.toC (n1:=3) ⟨rfl,rfl,rfl,rfl,rfl,trivial⟩ rfl (Nat.zero_le _) (by simp)⟩
 replace hF:=cond_f h30 hF
 refine st ?_
 refine WPU.exit ?_
 refine st ?_
 exact ⟨_,_,⟨l26,t27,hF,rfl,rfl⟩,(Nat.zero_le _),Gh.toC (n1:=3) ⟨rfl,rfl,rfl,trivial⟩ rfl (Nat.zero_le _) (by simp)⟩
 replace hF:=cond_f h11 hF
 refine st ?_
 refine WPU.exit ?_
 refine st ?_
 exact ⟨_,_,⟨l7,t8,hF,rfl,rfl⟩,(Nat.zero_le _),Gh.toC (n1:=2) ⟨rfl,trivial⟩ rfl (Nat.zero_le _) (by simp)⟩
def ref07_Compare_K1   : Option (Int) :=
 some 0
def ref07_Compare_L1 (r3:List Int) (r6:List Int):Nat→Int→Option (Int)
 | 0,_=>none
 | m1+1,z16 =>
  bindO (cond (decide (z16<(r3.length:Int)))
   (some (decide (z16<(r6.length:Int))))
   (some false)) fun b18 =>
  cond b18
   (bindO (idxO r3 z16) fun x21 =>
   bindO (idxO r6 z16) fun x23 =>
   cond (decide (x21<x23))
    (some (-1))
    (bindO (idxO r3 z16) fun x26 =>
    bindO (idxO r6 z16) fun x28 =>
    cond (decide (x26 > x28))
     (some 1)
     ((ref07_Compare_L1 r3 r6 m1) (IntKind.i64.wrap (z16+1)))))
   (ref07_Compare_K1)
def ref07_Compare (n:Nat) (p1:GFS) (p2:GFS):Option (Int) :=
 bindO (ref07_numbers n p1) fun r3 =>
 bindO (ref07_numbers n p2) fun r6 =>
 ref07_Compare_L1 r3 r6 n 0
theorem ref07_Compare_0 (n:Nat) (p1:GFS) (p2:GFS) (r:Int) (hF:ref07_Compare n p1 p2=some r):EvU Try.prog 25 [.agg [.isl false (List.map cGNode p1.Nodes)],.agg [.isl false (List.map cGNode p2.Nodes)]] ⟨[],0⟩ (fun u _=>u = .int .i64 r∧Bel 0 u):=by
 unfold ref07_Compare at hF
 refine EvU.of_body Try.tb_ok fn25 rfl ?_
 refine WPU.ghost (tm':=fr 42 [(0,.agg [.isl false (List.map cGNode p1.Nodes)]),(1,.agg [.isl false (List.map cGNode p2.Nodes)])]) (Gh.start (Nat.le_of_ble_eq_true rfl)) (Nat.zero_le _) ?_
 refine sr ?_
 refine RS.q (u:=.ptr 0 0 0) (σ':=⟨[(0,.row [.isl false (List.map cGNode p1.Nodes)] 25)],1⟩) rfl (op_box rfl rfl rfl) (RS.q (u:=.ptr 1 0 0) (σ':=⟨[(1,.row [.isl false (List.map cGNode p2.Nodes)] 25),(0,.row [.isl false (List.map cGNode p1.Nodes)] 25)],2⟩) rfl (op_box rfl rfl rfl) ?_)
 refine sd ?_
 obtain ⟨r3,h4,hF⟩:=bindO_some hF
 refine sr ?_
 refine RS.q (u:=.agg [.isl false (List.map cGNode p1.Nodes)]) rfl (ld_agg und25 rfl (sz_of inf25) rfl rfl rfl) ?_
 refine RS.callx (R:=fun u σ'=>∃ t5,u = .vl 3 t5 0 r3.length∧σ'=⟨[(3,.vec (List.map (cI .i64) r3).flatten 3 1 t5),(1,.row [.isl false (List.map cGNode p2.Nodes)] 25),(0,.row [.isl false (List.map cGNode p1.Nodes)] 25)],4⟩) (args:=[.agg [.isl false (List.map cGNode p1.Nodes)]]) rfl (op_call rfl rfl fn39 hb39 rfl rfl) (EvU.own1 (cI .i64) (ref07_numbers_0 n p1 r3 h4) _ 3 rfl) rfl rfl ?_
 rintro _ _ ⟨t5,rfl,rfl⟩
 refine sd ?_
 obtain ⟨r6,h7,hF⟩:=bindO_some hF
 refine sr ?_
 refine RS.q (u:=.agg [.isl false (List.map cGNode p2.Nodes)]) rfl (ld_agg und25 rfl (sz_of inf25) rfl rfl rfl) ?_
 refine RS.callx (R:=fun u σ'=>∃ t8,u = .vl 5 t8 0 r6.length∧σ'=⟨[(5,.vec (List.map (cI .i64) r6).flatten 3 1 t8),(3,.vec (List.map (cI .i64) r3).flatten 3 1 t5),(1,.row [.isl false (List.map cGNode p2.Nodes)] 25),(0,.row [.isl false (List.map cGNode p1.Nodes)] 25)],6⟩) (args:=[.agg [.isl false (List.map cGNode p2.Nodes)]]) rfl (op_call rfl rfl fn39 hb39 rfl rfl) (EvU.own1 (cI .i64) (ref07_numbers_0 n p2 r6 h7) _ 5 rfl) rfl rfl ?_
 rintro _ _ ⟨t8,rfl,rfl⟩
 refine se ?_
 refine sd ?_
 refine WPU.ghost (tm':=fr 42 [(5,.vl 3 t5 0 r3.length),(6,.vl 5 t8 0 r6.length),(7,.int .i64 0)]) (Gh.sub ⟨rfl,rfl,rfl,trivial⟩) (Nat.zero_le _) ?_
 refine WPU.loopK (fun m tm σ=>∃ z16:Int,ref07_Compare_L1 r3 r6 m z16=some r∧tm=fr 42 [(5,.vl 3 t5 0 r3.length),(6,.vl 5 t8 0 r6.length),(7,.int .i64 z16)]∧σ=⟨[(5,.vec (List.map (cI .i64) r6).flatten 3 1 t8),(3,.vec (List.map (cI .i64) r3).flatten 3 1 t5),(1,.row [.isl false (List.map cGNode p2.Nodes)] 25),(0,.row [.isl false (List.map cGNode p1.Nodes)] 25)],6⟩) (fun tm σ=>ref07_Compare_K1=some r∧tm=fr 42 []∧σ=⟨[(5,.vec (List.map (cI .i64) r6).flatten 3 1 t8),(3,.vec (List.map (cI .i64) r3).flatten 3 1 t5),(1,.row [.isl false (List.map cGNode p2.Nodes)] 25),(0,.row [.isl false (List.map cGNode p1.Nodes)] 25)],6⟩) n ⟨0,hF,rfl,rfl⟩ ?_ ?_
 rintro _ _ ⟨hF,rfl,rfl⟩
 unfold ref07_Compare_K1 at hF
 refine sr ?_
 refine sd ?_
 refine WPU.ret ?_
 refine st ?_
 have hr:=Option.some.inj hF
 subst hr
 exact ⟨.inr rfl,[.int .i64 0],res_t rfl (res_n),.int .i64 0,⟨[],0⟩,Nat.le_refl _,Gh.toR (.int .i64 0) rfl,rfl,BU.h⟩
 rintro m1 _ _ ⟨z16,hF,rfl,rfl⟩
 rcases m1 with _ | m1
 cases hF
 unfold ref07_Compare_L1 at hF
 refine st ?_
 obtain ⟨b18,h19,hF⟩:=bindO_some hF
 refine WPU.joinK (fun tm σ=>tm=fr 42 [(5,.vl 3 t5 0 r3.length),(6,.vl 5 t8 0 r6.length),(7,.int .i64 z16),(21,.bool b18)]∧σ=⟨[(5,.vec (List.map (cI .i64) r6).flatten 3 1 t8),(3,.vec (List.map (cI .i64) r3).flatten 3 1 t5),(1,.row [.isl false (List.map cGNode p2.Nodes)] 25),(0,.row [.isl false (List.map cGNode p1.Nodes)] 25)],6⟩) ?_ ?_
 rintro _ _ ⟨rfl,rfl⟩
 refine st ?_
 refine WPU.condS (t:=b18) rfl (fun h20=>?_) (fun h20=>?_)
 replace hF:=cond_t h20 hF
 refine st ?_
 refine WPU.skip ?_
 refine st ?_
 refine WPU.block ?_
 refine st ?_
 obtain ⟨x21,h22,hF⟩:=bindO_some hF
 obtain ⟨x23,h24,hF⟩:=bindO_some hF
 refine WPU.drawE Try.tb_ok [] (by kernel_rfl) ?_
 repeat refine RD.mv rfl rfl rfl rfl ?_
 refine RD.q (u:=.ptr 3 t5 (0*1+z16.toNat*1)) rfl (op_ia rfl rfl (ia_vl (cI .i64) und55 (sz_of inf3) (by decide) (len_cI .i64) (vo rfl) h22)) ?_
 refine RD.q (u:=.int .i64 x21) rfl (ld_vec1 (cI .i64) (fun x=>.int .i64 x) und3 rfl (fun _=>rfl) rfl rfl h22) ?_
 repeat refine RD.mv rfl rfl rfl rfl ?_
 refine RD.q (u:=.ptr 5 t8 (0*1+z16.toNat*1)) rfl (op_ia rfl rfl (ia_vl (cI .i64) und55 (sz_of inf3) (by decide) (len_cI .i64) (vo rfl) h24)) ?_
 refine RD.q (u:=.int .i64 x23) rfl (ld_vec1 (cI .i64) (fun x=>.int .i64 x) und3 rfl (fun _=>rfl) rfl rfl h24) (RD.q rfl (op_int rfl rfl (ix_lss _ _ _) rfl) ?_)
 refine RD.done ⟨by kernel_rfl,trivial,?_⟩
 refine st ?_
 refine WPU.condS (t:=(decide (x21<x23))) rfl (fun h25=>?_) (fun h25=>?_)
 replace hF:=cond_t h25 hF
 refine sr ?_
 refine sd ?_
 refine WPU.ret ?_
 refine st ?_
 have hr:=Option.some.inj hF
 subst hr
 exact ⟨.inr rfl,[.int .i64 (-1)],res_t rfl (res_n),.int .i64 (-1),⟨[],0⟩,Nat.le_refl _,Gh.toR (.int .i64 (-1)) rfl,rfl,BU.h⟩
 replace hF:=cond_f h25 hF
 refine st ?_
 refine WPU.skip ?_
 refine st ?_
 obtain ⟨x26,h27,hF⟩:=bindO_some hF
 obtain ⟨x28,h29,hF⟩:=bindO_some hF
 refine WPU.drawE Try.tb_ok [] (by kernel_rfl) ?_
 repeat refine RD.mv rfl rfl rfl rfl ?_
 refine RD.q (u:=.ptr 3 t5 (0*1+z16.toNat*1)) rfl (op_ia rfl rfl (ia_vl (cI .i64) und55 (sz_of inf3) (by decide) (len_cI .i64) (vo rfl) h27)) ?_
 refine RD.q (u:=.int .i64 x26) rfl (ld_vec1 (cI .i64) (fun x=>.int .i64 x) und3 rfl (fun _=>rfl) rfl rfl h27) ?_
 repeat refine RD.mv rfl rfl rfl rfl ?_
 refine RD.q (u:=.ptr 5 t8 (0*1+z16.toNat*1)) rfl (op_ia rfl rfl (ia_vl (cI .i64) und55 (sz_of inf3) (by decide) (len_cI .i64) (vo rfl) h29)) ?_
 refine RD.q (u:=.int .i64 x28) rfl (ld_vec1 (cI .i64) (fun x=>.int .i64 x) und3 rfl (fun _=>rfl) rfl rfl h29) (RD.q rfl (op_int rfl rfl (ix_gtr _ _ _) rfl) ?_)
 refine RD.done ⟨by kernel_rfl,trivial,?_⟩
 refine st ?_
 refine WPU.condS (t:=(decide (x26 > x28))) rfl (fun h30=>?_) (fun h30=>?_)
 replace hF:=cond_t h30 hF
 refine sr ?_
 refine sd ?_
 refine WPU.ret ?_
 refine st ?_
 have hr:=Option.some.inj hF
 subst hr
 exact ⟨.inr rfl,[.int .i64 1],res_t rfl (res_n),.int .i64 1,⟨[],0⟩,Nat.le_refl _,Gh.toR (.int .i64 1) rfl,rfl,BU.h⟩
 replace hF:=cond_f h30 hF
 refine st ?_
 refine WPU.skip ?_
 refine sr ?_
 refine RS.q rfl (op_int rfl rfl (ix_add _ _ _) rfl) ?_
 refine sd ?_
 exact ⟨m1,_,_,Nat.lt_succ_self _,⟨(IntKind.i64.wrap (z16+1)),hF,rfl,rfl⟩,(Nat.zero_le _),Gh.toC (n1:=6) ⟨rfl,rfl,rfl,trivial⟩ rfl (Nat.zero_le _) (by simp)⟩
 replace hF:=cond_f h20 hF
 refine st ?_
 refine WPU.exit ?_
 refine st ?_
 exact ⟨_,_,⟨hF,rfl,rfl⟩,(Nat.zero_le _),Gh.toC (n1:=6) trivial rfl (Nat.zero_le _) (by simp)⟩
 rcases bool_tf (decide (z16<(r3.length:Int))) with h17 | h17
 replace h19:=cond_t h17 h19
 replace h19:=Option.some.inj h19
 subst h19
 refine sr ?_
 repeat refine RS.mv rfl rfl rfl rfl ?_
 refine RS.q rfl (op_len rfl rfl rfl (len_vl und55 rfl)) (RS.q rfl (op_int rfl rfl (ix_lss _ _ _) rfl) (RS.mv rfl rfl rfl rfl (RS.op (want1 rfl rfl rfl h17) (op_move rfl) rfl rfl (RS.op (want1 rfl rfl rfl h17) (op_move rfl) rfl rfl (RS.op (want1 rfl rfl rfl h17) (op_len rfl rfl rfl (len_vl und55 rfl)) rfl rfl (RS.op (want1 rfl rfl rfl h17) (op_int rfl rfl (ix_lss _ _ _) rfl) rfl rfl (RS.q (u:=.bool (decide (z16<(r6.length:Int)))) rfl (op_pick1 rfl h17 rfl) ?_)))))))
 refine sd ?_
 exact ⟨_,_,⟨rfl,rfl⟩,(Nat.zero_le _),Gh.toC (n1:=6) ⟨rfl,rfl,rfl,rfl,trivial⟩ rfl (Nat.zero_le _) (by simp)⟩
 replace h19:=cond_f h17 h19
 replace h19:=Option.some.inj h19
 subst h19
 refine sr ?_
 repeat refine RS.mv rfl rfl rfl rfl ?_
 refine RS.q rfl (op_len rfl rfl rfl (len_vl und55 rfl)) (RS.q rfl (op_int rfl rfl (ix_lss _ _ _) rfl) (RS.mv rfl rfl rfl rfl ?_))
 repeat refine RS.no (want0 rfl rfl rfl h17) rfl rfl ?_
 refine RS.q (u:=.bool false) rfl (op_pick0 rfl h17 rfl) ?_
 refine sd ?_
 exact ⟨_,_,⟨rfl,rfl⟩,(Nat.zero_le _),Gh.toC (n1:=6) ⟨rfl,rfl,rfl,rfl,trivial⟩ rfl (Nat.zero_le _) (by simp)⟩
theorem ref07_Compare_ok (n:Nat) (p1:GFS) (p2:GFS) (r:Int) (hF:ref07_Compare n p1 p2=some r) (σ:Sg):EvU Try.prog 25 [.agg [.isl false (List.map cGNode p1.Nodes)],.agg [.isl false (List.map cGNode p2.Nodes)]] σ (fun u σ'=>u = .int .i64 r∧σ'=σ) :=
 EvU.pure1C (ref07_Compare_0 n p1 p2 r hF) σ
def graph_Equal (n:Nat) (p1:GFS) (p2:GFS):Option (Bool) :=
 bindO (graph_Compare n p1 p2) fun r3 =>
 some (r3 == 0)
theorem graph_Equal_0 (n:Nat) (p1:GFS) (p2:GFS) (r:Bool) (hF:graph_Equal n p1 p2=some r):EvU Try.prog 26 [.agg [.isl false (List.map cGNode p1.Nodes)],.agg [.isl false (List.map cGNode p2.Nodes)]] ⟨[],0⟩ (fun u _=>u = .bool r∧Bel 0 u):=by
 unfold graph_Equal at hF
 refine EvU.of_body Try.tb_ok fn26 rfl ?_
 refine WPU.ghost (tm':=fr 9 [(0,.agg [.isl false (List.map cGNode p1.Nodes)]),(1,.agg [.isl false (List.map cGNode p2.Nodes)])]) (Gh.start (Nat.le_of_ble_eq_true rfl)) (Nat.zero_le _) ?_
 refine sr ?_
 refine RS.q (u:=.ptr 0 0 0) (σ':=⟨[(0,.row [.isl false (List.map cGNode p1.Nodes)] 25)],1⟩) rfl (op_box rfl rfl rfl) (RS.q (u:=.ptr 1 0 0) (σ':=⟨[(1,.row [.isl false (List.map cGNode p2.Nodes)] 25),(0,.row [.isl false (List.map cGNode p1.Nodes)] 25)],2⟩) rfl (op_box rfl rfl rfl) ?_)
 refine sd ?_
 obtain ⟨r3,h4,hF⟩:=bindO_some hF
 refine sr ?_
 refine RS.q (u:=.agg [.isl false (List.map cGNode p1.Nodes)]) rfl (ld_agg und25 rfl (sz_of inf25) rfl rfl rfl) (RS.q (u:=.agg [.isl false (List.map cGNode p2.Nodes)]) rfl (ld_agg und25 rfl (sz_of inf25) rfl rfl rfl) (RS.call (u:=.int .i64 r3) (args:=[.agg [.isl false (List.map cGNode p1.Nodes)],.agg [.isl false (List.map cGNode p2.Nodes)]]) rfl (op_call rfl rfl fn24 hb24 rfl rfl) (graph_Compare_ok n p1 p2 r3 h4 _) rfl rfl (RS.q rfl (op_int rfl rfl (ix_eql _ _ _) rfl) ?_)))
 refine sd ?_
 refine WPU.ret ?_
 refine st ?_
 have hr:=Option.some.inj hF
 subst hr
 exact ⟨.inr rfl,[.bool (r3 == 0)],res_t rfl (res_n),.bool (r3 == 0),⟨[],0⟩,Nat.le_refl _,Gh.toR (.bool (r3 == 0)) rfl,rfl,BU.h⟩
theorem graph_Equal_ok (n:Nat) (p1:GFS) (p2:GFS) (r:Bool) (hF:graph_Equal n p1 p2=some r) (σ:Sg):EvU Try.prog 26 [.agg [.isl false (List.map cGNode p1.Nodes)],.agg [.isl false (List.map cGNode p2.Nodes)]] σ (fun u σ'=>u = .bool r∧σ'=σ) :=
 EvU.pure1C (graph_Equal_0 n p1 p2 r hF) σ
def graph_Atom (n:Nat) (p1:Int):Option (GFS) :=
 some (GFS.mk ([(GNode.mk p1 [])]))
theorem graph_Atom_0 (n:Nat) (p1:Int) (r:GFS) (hF:graph_Atom n p1=some r):EvU Try.prog 12 [.int .i64 p1] ⟨[],0⟩ (fun u _=>u = .agg [.isl false (List.map cGNode r.Nodes)]∧Bel 0 u):=by
 unfold graph_Atom at hF
 refine EvU.of_body Try.tb_ok fn12 rfl ?_
 refine WPU.ghost (tm':=fr 7 [(0,.int .i64 p1)]) (Gh.start (Nat.le_of_ble_eq_true rfl)) (Nat.zero_le _) ?_
 refine sr ?_
 refine RS.q (u:=.ptr 0 0 0) (σ':=⟨[(0,.row [.nils] 25)],1⟩) rfl (op_alloc inf25 rfl rfl) ?_
 refine se ?_
 refine RS.q (u:=.agg [.int .i64 p1,.nils]) rfl (op_bld bd43 rfl rfl rfl) (RS.q (u:=.sl 1 0 1 1) (σ':=⟨[(1,.row [.int .i64 p1,.nils] 43),(0,.row [.nils] 25)],2⟩) rfl (op_bsl und23 inf43 rfl rfl rfl rfl rfl rfl rfl) (RS.q (u:=.agg [.sl 1 0 1 1]) rfl (op_bld bd25 rfl rfl rfl) (RS.opn (u:=.junk) (σ':=⟨[(1,.row [.int .i64 p1,.nils] 43),(0,.row [.sl 1 0 1 1] 25)],2⟩) rfl (op_store (sz_of inf25) rfl rfl rfl rfl rfl rfl rfl rfl) rfl ?_)))
 refine sd ?_
 refine WPU.ret ?_
 refine st ?_
 have hr:=Option.some.inj hF
 subst hr
 exact ⟨.inr rfl,[.agg [.sl 1 0 1 1]],res_c (ld_agg und25 rfl (sz_of inf25) rfl rfl rfl) (res_n),.agg [.isl false (List.map cGNode ([(GNode.mk p1 [])]))],⟨[],0⟩,Nat.le_refl _,Gh.trans (Gh.trans (Gh.rowW (K:=1) (q':=[.int .i64 p1,.isl false []]) rfl rfl (.cons (.refl _) (.cons (.nil false) .nil))) (Gh.fz (tm':=[.agg [.isl false (List.map cGNode ([(GNode.mk p1 [])]))]]) (h':=[(0,.row [.isl false (List.map cGNode ([(GNode.mk p1 [])]))] 25)]) 1 (.row [.int .i64 p1,.isl false []] 43) 2 rfl (by simp) (by simp only [oneU,fzL_nil,fzL_cons,fz_int,fz_bool,fz_str,fz_nils,fz_nilp,fz_nilm,fz_nilf,fz_junk,fz_isl,fz_map,fz_agg,fz_tup,fz_fn,junkT,fz_sl,fz_p0,Nat.reduceLeDiff,Nat.reduceMul,List.length_cons,List.length_nil,Nat.reduceAdd]<;>simp only [chunks,List.take,List.drop,List.map,cGNode]) (by simp only [fzH,fzB,ug,Nat.beq,cond_true,cond_false,oneU,fzL_nil,fzL_cons,fz_int,fz_bool,fz_str,fz_nils,fz_nilp,fz_nilm,fz_nilf,fz_junk,fz_isl,fz_map,fz_agg,fz_tup,fz_fn,junkT,fz_sl,fz_p0,Nat.reduceLeDiff,Nat.reduceMul,List.length_cons,List.length_nil,Nat.reduceAdd]<;>simp only [chunks,List.take,List.drop,List.map,cGNode]))) (Gh.toR (.agg [.isl false (List.map cGNode ([(GNode.mk p1 [])]))]) rfl),rfl,BU.h⟩
theorem graph_Atom_ok (n:Nat) (p1:Int) (r:GFS) (hF:graph_Atom n p1=some r) (σ:Sg):EvU Try.prog 12 [.int .i64 p1] σ (fun u σ'=>u = .agg [.isl false (List.map cGNode r.Nodes)]∧σ'=σ) :=
 EvU.pure1C (graph_Atom_0 n p1 r hF) σ
def graph_nodeError_K1  (w13:MapL Int Bool):Option (Int) :=
 some 0
def graph_nodeError_L1 (p1:GNode) (p2:Int):Nat→Int→(MapL Int Bool)→Option (Int)
 | 0,_,_=>none
 | m1+1,z11,w12 =>
  cond (decide (z11<(p1.Arcs.length:Int)))
   (bindO (idxO p1.Arcs z11) fun x15 =>
   bindO (cond (decide (x15.Feat<0))
    (some true)
    (cond (decide (x15.To<0))
     (some true)
     (some (decide (x15.To ≥ p2))))) fun b19 =>
   cond b19
    (some 2)
    (cond ((mGet (fun a b=>a == b) w12 x15.Feat).getD false)
     (some 4)
     ((graph_nodeError_L1 p1 p2 m1) (IntKind.i64.wrap (z11+1)) (mUpd (fun a b=>a == b) w12 x15.Feat true))))
   (graph_nodeError_K1 w12)
def graph_nodeError (n:Nat) (p1:GNode) (p2:Int):Option (Int) :=
 cond (decide (p1.Typex<0))
  (some 2)
  (graph_nodeError_L1 p1 p2 n 0 (mNew:MapL Int Bool))
theorem graph_nodeError_0 (n:Nat) (p1:GNode) (p2:Int) (r:Int) (hF:graph_nodeError n p1 p2=some r):EvU Try.prog 30 [.agg (cGNode p1),.int .i64 p2] ⟨[],0⟩ (fun u _=>u = .int .i64 r∧Bel 0 u):=by
 unfold graph_nodeError at hF
 refine EvU.of_body Try.tb_ok fn30 rfl ?_
 refine WPU.ghost (tm':=fr 41 [(0,.agg (cGNode p1)),(1,.int .i64 p2)]) (Gh.start (Nat.le_of_ble_eq_true rfl)) (Nat.zero_le _) ?_
 refine sr ?_
 refine RS.q (u:=.ptr 0 0 0) (σ':=⟨[(0,.row (cGNode p1) 43)],1⟩) rfl (op_box rfl rfl rfl) ?_
 refine se ?_
 refine RS.q (u:=.ptr 0 0 0) rfl (op_fa und43 rfl (sz_of inf3) rfl rfl rfl) (RS.q (u:=.int .i64 p1.Typex) rfl (ld_one und3 rfl rfl rfl rfl) (RS.q rfl (op_int rfl rfl (ix_lss _ _ _) rfl) ?_))
 refine sd ?_
 refine WPU.condS (t:=(decide (p1.Typex<0))) rfl (fun h3=>?_) (fun h3=>?_)
 replace hF:=cond_t h3 hF
 refine sr ?_
 refine sd ?_
 refine WPU.ret ?_
 refine st ?_
 have hr:=Option.some.inj hF
 subst hr
 exact ⟨.inr rfl,[.int .i64 2],res_t rfl (res_n),.int .i64 2,⟨[],0⟩,Nat.le_refl _,Gh.toR (.int .i64 2) rfl,rfl,BU.h⟩
 replace hF:=cond_f h3 hF
 refine st ?_
 refine WPU.skip ?_
 refine sr ?_
 refine RS.q (u:=.map 1) (σ':=⟨[(1,.map (List.map (mE (fun x=>.int .i64 x) (fun x=>.bool x)) (mNew:MapL Int Bool).es) (mNew:MapL Int Bool).cl),(0,.row (cGNode p1) 43)],2⟩) rfl (op_mnew) ?_
 refine se ?_
 refine RS.q (u:=.ptr 0 0 1) rfl (op_fa und43 rfl (sz_of inf41) rfl rfl rfl) (RS.q (u:=.isl false (List.map cGArc p1.Arcs)) rfl (ld_one und41 rfl rfl rfl rfl) (RS.q rfl (op_len rfl rfl rfl (len_isl cGArc und41)) (RS.mv rfl rfl rfl rfl ?_)))
 refine sd ?_
 refine WPU.ghost (tm':=fr 41 [(1,.int .i64 p2),(5,.map 1),(13,.isl false (List.map cGArc p1.Arcs)),(14,.int .i64 (p1.Arcs.length:Int)),(15,.int .i64 0)]) (Gh.sub ⟨rfl,rfl,rfl,rfl,rfl,trivial⟩) (Nat.zero_le _) ?_
 refine WPU.loopK (fun m tm σ=>∃ z11:Int,∃ w12:MapL Int Bool,graph_nodeError_L1 p1 p2 m z11 w12=some r∧tm=fr 41 [(1,.int .i64 p2),(5,.map 1),(13,.isl false (List.map cGArc p1.Arcs)),(14,.int .i64 (p1.Arcs.length:Int)),(15,.int .i64 z11)]∧σ=⟨[(1,.map (List.map (mE (fun x=>.int .i64 x) (fun x=>.bool x)) w12.es) w12.cl),(0,.row (cGNode p1) 43)],2⟩) (fun tm σ=>∃ w13:MapL Int Bool,graph_nodeError_K1 w13=some r∧tm=fr 41 []∧σ=⟨[(1,.map (List.map (mE (fun x=>.int .i64 x) (fun x=>.bool x)) w13.es) w13.cl),(0,.row (cGNode p1) 43)],2⟩) n ⟨0,(mNew:MapL Int Bool),hF,rfl,rfl⟩ ?_ ?_
 rintro _ _ ⟨w13,hF,rfl,rfl⟩
 unfold graph_nodeError_K1 at hF
 refine sr ?_
 refine sd ?_
 refine WPU.ret ?_
 refine st ?_
 have hr:=Option.some.inj hF
 subst hr
 exact ⟨.inr rfl,[.int .i64 0],res_t rfl (res_n),.int .i64 0,⟨[],0⟩,Nat.le_refl _,Gh.toR (.int .i64 0) rfl,rfl,BU.h⟩
 rintro m1 _ _ ⟨z11,w12,hF,rfl,rfl⟩
 rcases m1 with _ | m1
 cases hF
 unfold graph_nodeError_L1 at hF
 refine sr ?_
 refine RS.q rfl (op_int rfl rfl (ix_lss _ _ _) rfl) ?_
 refine sd ?_
 refine WPU.condS (t:=(decide (z11<(p1.Arcs.length:Int)))) rfl (fun h14=>?_) (fun h14=>?_)
 replace hF:=cond_t h14 hF
 refine st ?_
 refine WPU.skip ?_
 refine st ?_
 refine WPU.block ?_
 refine st ?_
 obtain ⟨x15,h16,hF⟩:=bindO_some hF
 refine sr ?_
 refine RS.q (u:=.iptr (cGArc x15)) rfl (op_ia rfl rfl (ia_isl cGArc und41 (sz_of inf45) len_cGArc h16 rfl)) (RS.q (u:=.agg (cGArc x15)) rfl (li_agg und45 rfl (sz_of inf45) rfl rfl) (RS.q (u:=.ptr 2 0 0) (σ':=⟨[(2,.row [.int .i64 0,.int .i64 0] 45),(1,.map (List.map (mE (fun x=>.int .i64 x) (fun x=>.bool x)) w12.es) w12.cl),(0,.row (cGNode p1) 43)],3⟩) rfl (op_alloc inf45 rfl rfl) (RS.opn (u:=.junk) (σ':=⟨[(2,.row (cGArc x15) 45),(1,.map (List.map (mE (fun x=>.int .i64 x) (fun x=>.bool x)) w12.es) w12.cl),(0,.row (cGNode p1) 43)],3⟩) rfl (op_store (sz_of inf45) rfl rfl rfl rfl rfl rfl rfl rfl) rfl ?_)))
 refine sd ?_
 obtain ⟨b19,h20,hF⟩:=bindO_some hF
 refine WPU.joinK (fun tm σ=>tm=fr 41 [(1,.int .i64 p2),(5,.map 1),(7,.ptr 2 0 0),(13,.isl false (List.map cGArc p1.Arcs)),(14,.int .i64 (p1.Arcs.length:Int)),(15,.int .i64 z11),(32,.bool b19)]∧σ=⟨[(2,.row (cGArc x15) 45),(1,.map (List.map (mE (fun x=>.int .i64 x) (fun x=>.bool x)) w12.es) w12.cl),(0,.row (cGNode p1) 43)],3⟩) ?_ ?_
 rintro _ _ ⟨rfl,rfl⟩
 refine st ?_
 refine WPU.condS (t:=b19) rfl (fun h21=>?_) (fun h21=>?_)
 replace hF:=cond_t h21 hF
 refine sr ?_
 refine sd ?_
 refine WPU.ret ?_
 refine st ?_
 have hr:=Option.some.inj hF
 subst hr
 exact ⟨.inr rfl,[.int .i64 2],res_t rfl (res_n),.int .i64 2,⟨[],0⟩,Nat.le_refl _,Gh.toR (.int .i64 2) rfl,rfl,BU.h⟩
 replace hF:=cond_f h21 hF
 refine st ?_
 refine WPU.skip ?_
 refine sr ?_
 refine RS.q (u:=.ptr 2 0 0) rfl (op_fa und45 rfl (sz_of inf3) rfl rfl rfl) (RS.q (u:=.int .i64 x15.Feat) rfl (ld_one und3 rfl rfl rfl rfl) (RS.q (u:=.bool ((mGet (fun a b=>a == b) w12 x15.Feat).getD false)) rfl (op_look (kU:=(fun x=>.int .i64 x)) (vU:=(fun x=>.bool x)) (m:=w12) (k:=x15.Feat) (zv:=false) (key_int und3) und60 rfl rfl rfl inf4 rfl) ?_))
 refine sd ?_
 refine WPU.condS (t:=((mGet (fun a b=>a == b) w12 x15.Feat).getD false)) rfl (fun h22=>?_) (fun h22=>?_)
 replace hF:=cond_t h22 hF
 refine sr ?_
 refine sd ?_
 refine WPU.ret ?_
 refine st ?_
 have hr:=Option.some.inj hF
 subst hr
 exact ⟨.inr rfl,[.int .i64 4],res_t rfl (res_n),.int .i64 4,⟨[],0⟩,Nat.le_refl _,Gh.toR (.int .i64 4) rfl,rfl,BU.h⟩
 replace hF:=cond_f h22 hF
 refine st ?_
 refine WPU.skip ?_
 refine sr ?_
 refine RS.q (u:=.ptr 2 0 0) rfl (op_fa und45 rfl (sz_of inf3) rfl rfl rfl) (RS.q (u:=.int .i64 x15.Feat) rfl (ld_one und3 rfl rfl rfl rfl) (RS.opn (u:=.junk) (σ':=⟨[(2,.row (cGArc x15) 45),(1,.map (List.map (mE (fun x=>.int .i64 x) (fun x=>.bool x)) (mUpd (fun a b=>a == b) w12 x15.Feat true).es) (mUpd (fun a b=>a == b) w12 x15.Feat true).cl),(0,.row (cGNode p1) 43)],3⟩) rfl (op_mup (kU:=(fun x=>.int .i64 x)) (vU:=(fun x=>.bool x)) (m:=w12) (k:=x15.Feat) (v:=true) (key_int und3) und60 rfl rfl rfl rfl rfl) rfl ?_))
 refine se ?_
 refine RS.q rfl (op_int rfl rfl (ix_add _ _ _) rfl) (RS.mv rfl rfl rfl rfl ?_)
 refine sd ?_
 exact ⟨m1,_,_,Nat.lt_succ_self _,⟨(IntKind.i64.wrap (z11+1)),(mUpd (fun a b=>a == b) w12 x15.Feat true),hF,rfl,rfl⟩,(Nat.zero_le _),Gh.toC (n1:=2) ⟨rfl,rfl,rfl,rfl,rfl,trivial⟩ rfl (Nat.zero_le _) (by simp)⟩
 rcases bool_tf (decide (x15.Feat<0)) with h17 | h17
 replace h20:=cond_t h17 h20
 replace h20:=Option.some.inj h20
 subst h20
 refine sr ?_
 refine RS.q (u:=.ptr 2 0 0) rfl (op_fa und45 rfl (sz_of inf3) rfl rfl rfl) (RS.q (u:=.int .i64 x15.Feat) rfl (ld_one und3 rfl rfl rfl rfl) (RS.q rfl (op_int rfl rfl (ix_lss _ _ _) rfl) (RS.mv rfl rfl rfl rfl ?_)))
 repeat refine RS.no (want0 rfl rfl rfl h17) rfl rfl ?_
 refine RS.q (u:=.bool true) rfl (op_pick1 rfl h17 rfl) (RS.mv rfl rfl rfl rfl ?_)
 repeat refine RS.no (want0 rfl rfl rfl rfl) rfl rfl ?_
 refine RS.q (u:=.bool true) rfl (op_pick1 rfl rfl rfl) ?_
 refine sd ?_
 exact ⟨_,_,⟨rfl,rfl⟩,(Nat.zero_le _),Gh.toC (n1:=3) ⟨rfl,rfl,rfl,rfl,rfl,rfl,rfl,trivial⟩ rfl (Nat.zero_le _) (by simp)⟩
 replace h20:=cond_f h17 h20
 rcases bool_tf (decide (x15.To<0)) with h18 | h18
 replace h20:=cond_t h18 h20
 replace h20:=Option.some.inj h20
 subst h20
 refine sr ?_
 refine RS.q (u:=.ptr 2 0 0) rfl (op_fa und45 rfl (sz_of inf3) rfl rfl rfl) (RS.q (u:=.int .i64 x15.Feat) rfl (ld_one und3 rfl rfl rfl rfl) (RS.q rfl (op_int rfl rfl (ix_lss _ _ _) rfl) (RS.mv rfl rfl rfl rfl (RS.op (u:=.ptr 2 0 1) (want1 rfl rfl rfl h17) (op_fa und45 rfl (sz_of inf3) rfl rfl rfl) rfl rfl (RS.op (u:=.int .i64 x15.To) (want1 rfl rfl rfl h17) (ld_one und3 rfl rfl rfl rfl) rfl rfl (RS.op (want1 rfl rfl rfl h17) (op_int rfl rfl (ix_lss _ _ _) rfl) rfl rfl (RS.q (u:=.bool (decide (x15.To<0))) rfl (op_pick0 rfl h17 rfl) ?_)))))))
 refine RS.mv rfl rfl rfl rfl ?_
 repeat refine RS.no (want0 rfl rfl rfl h18) rfl rfl ?_
 refine RS.q (u:=.bool true) rfl (op_pick1 rfl h18 rfl) ?_
 refine sd ?_
 exact ⟨_,_,⟨rfl,rfl⟩,(Nat.zero_le _),Gh.toC (n1:=3) ⟨rfl,rfl,rfl,rfl,rfl,rfl,rfl,trivial⟩ rfl (Nat.zero_le _) (by simp)⟩
 replace h20:=cond_f h18 h20
 replace h20:=Option.some.inj h20
 subst h20
 refine sr ?_
 refine RS.q (u:=.ptr 2 0 0) rfl (op_fa und45 rfl (sz_of inf3) rfl rfl rfl) (RS.q (u:=.int .i64 x15.Feat) rfl (ld_one und3 rfl rfl rfl rfl) (RS.q rfl (op_int rfl rfl (ix_lss _ _ _) rfl) (RS.mv rfl rfl rfl rfl (RS.op (u:=.ptr 2 0 1) (want1 rfl rfl rfl h17) (op_fa und45 rfl (sz_of inf3) rfl rfl rfl) rfl rfl (RS.op (u:=.int .i64 x15.To) (want1 rfl rfl rfl h17) (ld_one und3 rfl rfl rfl rfl) rfl rfl (RS.op (want1 rfl rfl rfl h17) (op_int rfl rfl (ix_lss _ _ _) rfl) rfl rfl (RS.q (u:=.bool (decide (x15.To<0))) rfl (op_pick0 rfl h17 rfl) ?_)))))))
 refine RS.mv rfl rfl rfl rfl (RS.op (u:=.ptr 2 0 1) (want1 rfl rfl rfl h18) (op_fa und45 rfl (sz_of inf3) rfl rfl rfl) rfl rfl (RS.op (u:=.int .i64 x15.To) (want1 rfl rfl rfl h18) (ld_one und3 rfl rfl rfl rfl) rfl rfl (RS.op (want1 rfl rfl rfl h18) (op_move rfl) rfl rfl (RS.op (want1 rfl rfl rfl h18) (op_int rfl rfl (ix_geq _ _ _) rfl) rfl rfl (RS.q (u:=.bool (decide (x15.To ≥ p2))) rfl (op_pick0 rfl h18 rfl) ?_)))))
 refine sd ?_
 exact ⟨_,_,⟨rfl,rfl⟩,(Nat.zero_le _),Gh.toC (n1:=3) ⟨rfl,rfl,rfl,rfl,rfl,rfl,rfl,trivial⟩ rfl (Nat.zero_le _) (by simp)⟩
 replace hF:=cond_f h14 hF
 refine st ?_
 refine WPU.exit ?_
 refine st ?_
 exact ⟨_,_,⟨w12,hF,rfl,rfl⟩,(Nat.zero_le _),Gh.toC (n1:=2) trivial rfl (Nat.zero_le _) (by simp)⟩
theorem graph_nodeError_ok (n:Nat) (p1:GNode) (p2:Int) (r:Int) (hF:graph_nodeError n p1 p2=some r) (σ:Sg):EvU Try.prog 30 [.agg (cGNode p1),.int .i64 p2] σ (fun u σ'=>u = .int .i64 r∧σ'=σ) :=
 EvU.pure1C (graph_nodeError_0 n p1 p2 r hF) σ
def graph_Canon_K1 (p1:GFS) (n:Nat)  : Option (GFS×Int) :=
 bindO (graph_canonical n p1 0) fun r9 =>
 some (r9,0)
def graph_Canon_L1 (p1:GFS) (n:Nat):Nat→Int→Option (GFS×Int)
 | 0,_=>none
 | m1+1,z8 =>
  cond (decide (z8<(p1.Nodes.length:Int)))
   (bindO (idxO p1.Nodes z8) fun x12 =>
   bindO (graph_nodeError n x12 (p1.Nodes.length:Int)) fun r14 =>
   cond (r14 != 0)
    (some ((GFS.mk []),r14))
    ((graph_Canon_L1 p1 n m1) (IntKind.i64.wrap (z8+1))))
   (graph_Canon_K1 p1 n)
def graph_Canon (n:Nat) (p1:GFS):Option (GFS×Int) :=
 cond ((p1.Nodes.length:Int) == 0)
  (some ((GFS.mk []),1))
  (cond (decide ((p1.Nodes.length:Int) > 4096))
   (some ((GFS.mk []),7))
   (graph_Canon_L1 p1 n n 0))
theorem graph_Canon_0 (n:Nat) (p1:GFS) (r:GFS×Int) (hF:graph_Canon n p1=some r):EvU Try.prog 13 [.agg [.isl false (List.map cGNode p1.Nodes)]] ⟨[],0⟩ (fun u _=>u = .tup [.agg [.isl false (List.map cGNode r.1.Nodes)],.int .i64 r.2]∧Bel 0 u):=by
 unfold graph_Canon at hF
 refine EvU.of_body Try.tb_ok fn13 rfl ?_
 refine WPU.ghost (tm':=fr 36 [(0,.agg [.isl false (List.map cGNode p1.Nodes)])]) (Gh.start (Nat.le_of_ble_eq_true rfl)) (Nat.zero_le _) ?_
 refine sr ?_
 refine RS.q (u:=.ptr 0 0 0) (σ':=⟨[(0,.row [.isl false (List.map cGNode p1.Nodes)] 25)],1⟩) rfl (op_box rfl rfl rfl) (RS.q (u:=.ptr 1 0 0) (σ':=⟨[(1,.row [.nils] 25),(0,.row [.isl false (List.map cGNode p1.Nodes)] 25)],2⟩) rfl (op_alloc inf25 rfl rfl) ?_)
 refine se ?_
 refine RS.q (u:=.ptr 0 0 0) rfl (op_fa und25 rfl (sz_of inf23) rfl rfl rfl) (RS.q (u:=.isl false (List.map cGNode p1.Nodes)) rfl (ld_one und23 rfl rfl rfl rfl) (RS.q rfl (op_len rfl rfl rfl (len_isl cGNode und23)) (RS.q rfl (op_int rfl rfl (ix_eql _ _ _) rfl) ?_)))
 refine sd ?_
 refine WPU.condS (t:=((p1.Nodes.length:Int) == 0)) rfl (fun h2=>?_) (fun h2=>?_)
 replace hF:=cond_t h2 hF
 refine sr ?_
 refine RS.q (u:=.agg [.nils]) rfl (op_bld bd25 rfl rfl rfl) (RS.opn (u:=.junk) (σ':=⟨[(1,.row [.nils] 25),(0,.row [.isl false (List.map cGNode p1.Nodes)] 25)],2⟩) rfl (op_store (sz_of inf25) rfl rfl rfl rfl rfl rfl rfl rfl) rfl ?_)
 refine sd ?_
 refine WPU.ret ?_
 refine st ?_
 have hr:=Option.some.inj hF
 subst hr
 exact ⟨.inr rfl,[.agg [.nils],.int .i64 1],res_c (ld_agg und25 rfl (sz_of inf25) rfl rfl rfl) (res_t rfl (res_n)),.tup [.agg [.isl false []],.int .i64 1],⟨[],0⟩,Nat.le_refl _,Gh.trans (Gh.wk (.cons (.tup (.cons (.agg (.cons (.nil false) .nil)) (.cons (.refl _) .nil))) .nil)) (Gh.toR (.tup [.agg [.isl false []],.int .i64 1]) rfl),rfl,BU.h⟩
 replace hF:=cond_f h2 hF
 refine st ?_
 refine WPU.skip ?_
 refine sr ?_
 refine RS.q (u:=.ptr 0 0 0) rfl (op_fa und25 rfl (sz_of inf23) rfl rfl rfl) (RS.q (u:=.isl false (List.map cGNode p1.Nodes)) rfl (ld_one und23 rfl rfl rfl rfl) (RS.q rfl (op_len rfl rfl rfl (len_isl cGNode und23)) (RS.q rfl (op_int rfl rfl (ix_gtr _ _ _) rfl) ?_)))
 refine sd ?_
 refine WPU.condS (t:=(decide ((p1.Nodes.length:Int) > 4096))) rfl (fun h3=>?_) (fun h3=>?_)
 replace hF:=cond_t h3 hF
 refine sr ?_
 refine RS.q (u:=.agg [.nils]) rfl (op_bld bd25 rfl rfl rfl) (RS.opn (u:=.junk) (σ':=⟨[(1,.row [.nils] 25),(0,.row [.isl false (List.map cGNode p1.Nodes)] 25)],2⟩) rfl (op_store (sz_of inf25) rfl rfl rfl rfl rfl rfl rfl rfl) rfl ?_)
 refine sd ?_
 refine WPU.ret ?_
 refine st ?_
 have hr:=Option.some.inj hF
 subst hr
 exact ⟨.inr rfl,[.agg [.nils],.int .i64 7],res_c (ld_agg und25 rfl (sz_of inf25) rfl rfl rfl) (res_t rfl (res_n)),.tup [.agg [.isl false []],.int .i64 7],⟨[],0⟩,Nat.le_refl _,Gh.trans (Gh.wk (.cons (.tup (.cons (.agg (.cons (.nil false) .nil)) (.cons (.refl _) .nil))) .nil)) (Gh.toR (.tup [.agg [.isl false []],.int .i64 7]) rfl),rfl,BU.h⟩
 replace hF:=cond_f h3 hF
 refine st ?_
 refine WPU.skip ?_
 refine sr ?_
 refine RS.q (u:=.ptr 0 0 0) rfl (op_fa und25 rfl (sz_of inf23) rfl rfl rfl) (RS.q (u:=.isl false (List.map cGNode p1.Nodes)) rfl (ld_one und23 rfl rfl rfl rfl) (RS.q rfl (op_len rfl rfl rfl (len_isl cGNode und23)) (RS.mv rfl rfl rfl rfl ?_)))
 refine sd ?_
 refine WPU.ghost (tm':=fr 36 [(1,.ptr 0 0 0),(2,.ptr 1 0 0),(18,.isl false (List.map cGNode p1.Nodes)),(19,.int .i64 (p1.Nodes.length:Int)),(20,.int .i64 0)]) (Gh.sub ⟨rfl,rfl,rfl,rfl,rfl,trivial⟩) (Nat.zero_le _) ?_
 refine WPU.loopK (fun m tm σ=>∃ z8:Int,graph_Canon_L1 p1 n m z8=some r∧tm=fr 36 [(1,.ptr 0 0 0),(2,.ptr 1 0 0),(18,.isl false (List.map cGNode p1.Nodes)),(19,.int .i64 (p1.Nodes.length:Int)),(20,.int .i64 z8)]∧σ=⟨[(1,.row [.nils] 25),(0,.row [.isl false (List.map cGNode p1.Nodes)] 25)],2⟩) (fun tm σ=>graph_Canon_K1 p1 n=some r∧tm=fr 36 [(1,.ptr 0 0 0),(2,.ptr 1 0 0)]∧σ=⟨[(1,.row [.nils] 25),(0,.row [.isl false (List.map cGNode p1.Nodes)] 25)],2⟩) n ⟨0,hF,rfl,rfl⟩ ?_ ?_
 rintro _ _ ⟨hF,rfl,rfl⟩
 unfold graph_Canon_K1 at hF
 refine st ?_
 obtain ⟨r9,h10,hF⟩:=bindO_some hF
 refine sr ?_
 refine RS.q (u:=.agg [.isl false (List.map cGNode p1.Nodes)]) rfl (ld_agg und25 rfl (sz_of inf25) rfl rfl rfl) (RS.call (u:=.agg [.isl false (List.map cGNode r9.Nodes)]) (args:=[.agg [.isl false (List.map cGNode p1.Nodes)],.int .i64 0]) rfl (op_call rfl rfl fn31 hb31 rfl rfl) (graph_canonical_ok n p1 0 r9 h10 _) rfl rfl (RS.opn (u:=.junk) (σ':=⟨[(1,.row [.isl false (List.map cGNode r9.Nodes)] 25),(0,.row [.isl false (List.map cGNode p1.Nodes)] 25)],2⟩) rfl (op_store (sz_of inf25) rfl rfl rfl rfl rfl rfl rfl rfl) rfl ?_))
 refine sd ?_
 refine WPU.ret ?_
 refine st ?_
 have hr:=Option.some.inj hF
 subst hr
 exact ⟨.inr rfl,[.agg [.isl false (List.map cGNode r9.Nodes)],.int .i64 0],res_c (ld_agg und25 rfl (sz_of inf25) rfl rfl rfl) (res_t rfl (res_n)),.tup [.agg [.isl false (List.map cGNode r9.Nodes)],.int .i64 0],⟨[],0⟩,Nat.le_refl _,Gh.toR (.tup [.agg [.isl false (List.map cGNode r9.Nodes)],.int .i64 0]) rfl,rfl,BU.h⟩
 rintro m1 _ _ ⟨z8,hF,rfl,rfl⟩
 rcases m1 with _ | m1
 cases hF
 unfold graph_Canon_L1 at hF
 refine sr ?_
 refine RS.q rfl (op_int rfl rfl (ix_lss _ _ _) rfl) ?_
 refine sd ?_
 refine WPU.condS (t:=(decide (z8<(p1.Nodes.length:Int)))) rfl (fun h11=>?_) (fun h11=>?_)
 replace hF:=cond_t h11 hF
 refine st ?_
 refine WPU.skip ?_
 refine st ?_
 refine WPU.block ?_
 refine st ?_
 obtain ⟨x12,h13,hF⟩:=bindO_some hF
 refine sr ?_
 refine RS.q (u:=.iptr (cGNode x12)) rfl (op_ia rfl rfl (ia_isl cGNode und23 (sz_of inf43) len_cGNode h13 rfl)) (RS.q (u:=.agg (cGNode x12)) rfl (li_agg und43 rfl (sz_of inf43) rfl rfl) (RS.q (u:=.ptr 2 0 0) (σ':=⟨[(2,.row [.int .i64 0,.nils] 43),(1,.row [.nils] 25),(0,.row [.isl false (List.map cGNode p1.Nodes)] 25)],3⟩) rfl (op_alloc inf43 rfl rfl) (RS.opn (u:=.junk) (σ':=⟨[(2,.row (cGNode x12) 43),(1,.row [.nils] 25),(0,.row [.isl false (List.map cGNode p1.Nodes)] 25)],3⟩) rfl (op_store (sz_of inf43) rfl rfl rfl rfl rfl rfl rfl rfl) rfl ?_)))
 refine sd ?_
 obtain ⟨r14,h15,hF⟩:=bindO_some hF
 refine sr ?_
 refine RS.q (u:=.agg (cGNode x12)) rfl (ld_agg und43 rfl (sz_of inf43) rfl rfl rfl) (RS.q (u:=.ptr 0 0 0) rfl (op_fa und25 rfl (sz_of inf23) rfl rfl rfl) (RS.q (u:=.isl false (List.map cGNode p1.Nodes)) rfl (ld_one und23 rfl rfl rfl rfl) (RS.q rfl (op_len rfl rfl rfl (len_isl cGNode und23)) (RS.call (u:=.int .i64 r14) (args:=[.agg (cGNode x12),.int .i64 (p1.Nodes.length:Int)]) rfl (op_call rfl rfl fn30 hb30 rfl rfl) (graph_nodeError_ok n x12 (p1.Nodes.length:Int) r14 h15 _) rfl rfl ?_))))
 refine se ?_
 refine RS.q rfl (op_int rfl rfl (ix_neq _ _ _) rfl) ?_
 refine sd ?_
 refine WPU.condS (t:=(r14 != 0)) rfl (fun h16=>?_) (fun h16=>?_)
 replace hF:=cond_t h16 hF
 refine sr ?_
 refine RS.q (u:=.agg [.nils]) rfl (op_bld bd25 rfl rfl rfl) (RS.mv rfl rfl rfl rfl (RS.opn (u:=.junk) (σ':=⟨[(2,.row (cGNode x12) 43),(1,.row [.nils] 25),(0,.row [.isl false (List.map cGNode p1.Nodes)] 25)],3⟩) rfl (op_store (sz_of inf25) rfl rfl rfl rfl rfl rfl rfl rfl) rfl ?_))
 refine sd ?_
 refine WPU.ret ?_
 refine st ?_
 have hr:=Option.some.inj hF
 subst hr
 exact ⟨.inr rfl,[.agg [.nils],.int .i64 r14],res_c (ld_agg und25 rfl (sz_of inf25) rfl rfl rfl) (res_t rfl (res_n)),.tup [.agg [.isl false []],.int .i64 r14],⟨[],0⟩,Nat.le_refl _,Gh.trans (Gh.wk (.cons (.tup (.cons (.agg (.cons (.nil false) .nil)) (.cons (.refl _) .nil))) .nil)) (Gh.toR (.tup [.agg [.isl false []],.int .i64 r14]) rfl),rfl,BU.h⟩
 replace hF:=cond_f h16 hF
 refine st ?_
 refine WPU.skip ?_
 refine sr ?_
 refine RS.q rfl (op_int rfl rfl (ix_add _ _ _) rfl) (RS.mv rfl rfl rfl rfl ?_)
 refine sd ?_
 exact ⟨m1,_,_,Nat.lt_succ_self _,⟨(IntKind.i64.wrap (z8+1)),hF,rfl,rfl⟩,(Nat.zero_le _),Gh.toC (n1:=2) ⟨rfl,rfl,rfl,rfl,rfl,trivial⟩ rfl (Nat.zero_le _) (by simp)⟩
 replace hF:=cond_f h11 hF
 refine st ?_
 refine WPU.exit ?_
 refine st ?_
 exact ⟨_,_,⟨hF,rfl,rfl⟩,(Nat.zero_le _),Gh.toC (n1:=2) ⟨rfl,rfl,trivial⟩ rfl (Nat.zero_le _) (by simp)⟩
theorem graph_Canon_ok (n:Nat) (p1:GFS) (r:GFS×Int) (hF:graph_Canon n p1=some r) (σ:Sg):EvU Try.prog 13 [.agg [.isl false (List.map cGNode p1.Nodes)]] σ (fun u σ'=>u = .tup [.agg [.isl false (List.map cGNode r.1.Nodes)],.int .i64 r.2]∧σ'=σ) :=
 EvU.pure1C (graph_Canon_0 n p1 r hF) σ
def ref07_Equal (n:Nat) (p1:GFS) (p2:GFS):Option (Bool) :=
 bindO (ref07_Compare n p1 p2) fun r3 =>
 some (r3 == 0)
theorem ref07_Equal_0 (n:Nat) (p1:GFS) (p2:GFS) (r:Bool) (hF:ref07_Equal n p1 p2=some r):EvU Try.prog 14 [.agg [.isl false (List.map cGNode p1.Nodes)],.agg [.isl false (List.map cGNode p2.Nodes)]] ⟨[],0⟩ (fun u _=>u = .bool r∧Bel 0 u):=by
 unfold ref07_Equal at hF
 refine EvU.of_body Try.tb_ok fn14 rfl ?_
 refine WPU.ghost (tm':=fr 9 [(0,.agg [.isl false (List.map cGNode p1.Nodes)]),(1,.agg [.isl false (List.map cGNode p2.Nodes)])]) (Gh.start (Nat.le_of_ble_eq_true rfl)) (Nat.zero_le _) ?_
 refine sr ?_
 refine RS.q (u:=.ptr 0 0 0) (σ':=⟨[(0,.row [.isl false (List.map cGNode p1.Nodes)] 25)],1⟩) rfl (op_box rfl rfl rfl) (RS.q (u:=.ptr 1 0 0) (σ':=⟨[(1,.row [.isl false (List.map cGNode p2.Nodes)] 25),(0,.row [.isl false (List.map cGNode p1.Nodes)] 25)],2⟩) rfl (op_box rfl rfl rfl) ?_)
 refine sd ?_
 obtain ⟨r3,h4,hF⟩:=bindO_some hF
 refine sr ?_
 refine RS.q (u:=.agg [.isl false (List.map cGNode p1.Nodes)]) rfl (ld_agg und25 rfl (sz_of inf25) rfl rfl rfl) (RS.q (u:=.agg [.isl false (List.map cGNode p2.Nodes)]) rfl (ld_agg und25 rfl (sz_of inf25) rfl rfl rfl) (RS.call (u:=.int .i64 r3) (args:=[.agg [.isl false (List.map cGNode p1.Nodes)],.agg [.isl false (List.map cGNode p2.Nodes)]]) rfl (op_call rfl rfl fn25 hb25 rfl rfl) (ref07_Compare_ok n p1 p2 r3 h4 _) rfl rfl (RS.q rfl (op_int rfl rfl (ix_eql _ _ _) rfl) ?_)))
 refine sd ?_
 refine WPU.ret ?_
 refine st ?_
 have hr:=Option.some.inj hF
 subst hr
 exact ⟨.inr rfl,[.bool (r3 == 0)],res_t rfl (res_n),.bool (r3 == 0),⟨[],0⟩,Nat.le_refl _,Gh.toR (.bool (r3 == 0)) rfl,rfl,BU.h⟩
theorem ref07_Equal_ok (n:Nat) (p1:GFS) (p2:GFS) (r:Bool) (hF:ref07_Equal n p1 p2=some r) (σ:Sg):EvU Try.prog 14 [.agg [.isl false (List.map cGNode p1.Nodes)],.agg [.isl false (List.map cGNode p2.Nodes)]] σ (fun u σ'=>u = .bool r∧σ'=σ) :=
 EvU.pure1C (ref07_Equal_0 n p1 p2 r hF) σ
def ref07_Atom (n:Nat) (p1:Int):Option (GFS) :=
 some (GFS.mk ([(GNode.mk p1 [])]))
theorem ref07_Atom_0 (n:Nat) (p1:Int) (r:GFS) (hF:ref07_Atom n p1=some r):EvU Try.prog 15 [.int .i64 p1] ⟨[],0⟩ (fun u _=>u = .agg [.isl false (List.map cGNode r.Nodes)]∧Bel 0 u):=by
 unfold ref07_Atom at hF
 refine EvU.of_body Try.tb_ok fn15 rfl ?_
 refine WPU.ghost (tm':=fr 7 [(0,.int .i64 p1)]) (Gh.start (Nat.le_of_ble_eq_true rfl)) (Nat.zero_le _) ?_
 refine sr ?_
 refine RS.q (u:=.ptr 0 0 0) (σ':=⟨[(0,.row [.nils] 25)],1⟩) rfl (op_alloc inf25 rfl rfl) ?_
 refine se ?_
 refine RS.q (u:=.agg [.int .i64 p1,.nils]) rfl (op_bld bd43 rfl rfl rfl) (RS.q (u:=.sl 1 0 1 1) (σ':=⟨[(1,.row [.int .i64 p1,.nils] 43),(0,.row [.nils] 25)],2⟩) rfl (op_bsl und23 inf43 rfl rfl rfl rfl rfl rfl rfl) (RS.q (u:=.agg [.sl 1 0 1 1]) rfl (op_bld bd25 rfl rfl rfl) (RS.opn (u:=.junk) (σ':=⟨[(1,.row [.int .i64 p1,.nils] 43),(0,.row [.sl 1 0 1 1] 25)],2⟩) rfl (op_store (sz_of inf25) rfl rfl rfl rfl rfl rfl rfl rfl) rfl ?_)))
 refine sd ?_
 refine WPU.ret ?_
 refine st ?_
 have hr:=Option.some.inj hF
 subst hr
 exact ⟨.inr rfl,[.agg [.sl 1 0 1 1]],res_c (ld_agg und25 rfl (sz_of inf25) rfl rfl rfl) (res_n),.agg [.isl false (List.map cGNode ([(GNode.mk p1 [])]))],⟨[],0⟩,Nat.le_refl _,Gh.trans (Gh.trans (Gh.rowW (K:=1) (q':=[.int .i64 p1,.isl false []]) rfl rfl (.cons (.refl _) (.cons (.nil false) .nil))) (Gh.fz (tm':=[.agg [.isl false (List.map cGNode ([(GNode.mk p1 [])]))]]) (h':=[(0,.row [.isl false (List.map cGNode ([(GNode.mk p1 [])]))] 25)]) 1 (.row [.int .i64 p1,.isl false []] 43) 2 rfl (by simp) (by simp only [oneU,fzL_nil,fzL_cons,fz_int,fz_bool,fz_str,fz_nils,fz_nilp,fz_nilm,fz_nilf,fz_junk,fz_isl,fz_map,fz_agg,fz_tup,fz_fn,junkT,fz_sl,fz_p0,Nat.reduceLeDiff,Nat.reduceMul,List.length_cons,List.length_nil,Nat.reduceAdd]<;>simp only [chunks,List.take,List.drop,List.map,cGNode]) (by simp only [fzH,fzB,ug,Nat.beq,cond_true,cond_false,oneU,fzL_nil,fzL_cons,fz_int,fz_bool,fz_str,fz_nils,fz_nilp,fz_nilm,fz_nilf,fz_junk,fz_isl,fz_map,fz_agg,fz_tup,fz_fn,junkT,fz_sl,fz_p0,Nat.reduceLeDiff,Nat.reduceMul,List.length_cons,List.length_nil,Nat.reduceAdd]<;>simp only [chunks,List.take,List.drop,List.map,cGNode]))) (Gh.toR (.agg [.isl false (List.map cGNode ([(GNode.mk p1 [])]))]) rfl),rfl,BU.h⟩
theorem ref07_Atom_ok (n:Nat) (p1:Int) (r:GFS) (hF:ref07_Atom n p1=some r) (σ:Sg):EvU Try.prog 15 [.int .i64 p1] σ (fun u σ'=>u = .agg [.isl false (List.map cGNode r.Nodes)]∧σ'=σ) :=
 EvU.pure1C (ref07_Atom_0 n p1 r hF) σ
def graph_Sub (n:Nat) (p1:GFS) (p2:Int):Option (GFS) :=
 bindO (graph_canonical n p1 p2) fun r3 =>
 some r3
theorem graph_Sub_0 (n:Nat) (p1:GFS) (p2:Int) (r:GFS) (hF:graph_Sub n p1 p2=some r):EvU Try.prog 20 [.agg [.isl false (List.map cGNode p1.Nodes)],.int .i64 p2] ⟨[],0⟩ (fun u _=>u = .agg [.isl false (List.map cGNode r.Nodes)]∧Bel 0 u):=by
 unfold graph_Sub at hF
 refine EvU.of_body Try.tb_ok fn20 rfl ?_
 refine WPU.ghost (tm':=fr 8 [(0,.agg [.isl false (List.map cGNode p1.Nodes)]),(1,.int .i64 p2)]) (Gh.start (Nat.le_of_ble_eq_true rfl)) (Nat.zero_le _) ?_
 refine sr ?_
 refine RS.q (u:=.ptr 0 0 0) (σ':=⟨[(0,.row [.isl false (List.map cGNode p1.Nodes)] 25)],1⟩) rfl (op_box rfl rfl rfl) (RS.q (u:=.ptr 1 0 0) (σ':=⟨[(1,.row [.nils] 25),(0,.row [.isl false (List.map cGNode p1.Nodes)] 25)],2⟩) rfl (op_alloc inf25 rfl rfl) ?_)
 refine sd ?_
 obtain ⟨r3,h4,hF⟩:=bindO_some hF
 refine sr ?_
 refine RS.q (u:=.agg [.isl false (List.map cGNode p1.Nodes)]) rfl (ld_agg und25 rfl (sz_of inf25) rfl rfl rfl) (RS.mv rfl rfl rfl rfl (RS.call (u:=.agg [.isl false (List.map cGNode r3.Nodes)]) (args:=[.agg [.isl false (List.map cGNode p1.Nodes)],.int .i64 p2]) rfl (op_call rfl rfl fn31 hb31 rfl rfl) (graph_canonical_ok n p1 p2 r3 h4 _) rfl rfl (RS.opn (u:=.junk) (σ':=⟨[(1,.row [.isl false (List.map cGNode r3.Nodes)] 25),(0,.row [.isl false (List.map cGNode p1.Nodes)] 25)],2⟩) rfl (op_store (sz_of inf25) rfl rfl rfl rfl rfl rfl rfl rfl) rfl ?_)))
 refine sd ?_
 refine WPU.ret ?_
 refine st ?_
 have hr:=Option.some.inj hF
 subst hr
 exact ⟨.inr rfl,[.agg [.isl false (List.map cGNode r3.Nodes)]],res_c (ld_agg und25 rfl (sz_of inf25) rfl rfl rfl) (res_n),.agg [.isl false (List.map cGNode r3.Nodes)],⟨[],0⟩,Nat.le_refl _,Gh.toR (.agg [.isl false (List.map cGNode r3.Nodes)]) rfl,rfl,BU.h⟩
theorem graph_Sub_ok (n:Nat) (p1:GFS) (p2:Int) (r:GFS) (hF:graph_Sub n p1 p2=some r) (σ:Sg):EvU Try.prog 20 [.agg [.isl false (List.map cGNode p1.Nodes)],.int .i64 p2] σ (fun u σ'=>u = .agg [.isl false (List.map cGNode r.Nodes)]∧σ'=σ) :=
 EvU.pure1C (graph_Sub_0 n p1 p2 r hF) σ
def law07_node_K1 (p1:Int) (l12:List GArc):Option (GNode) :=
 some (GNode.mk p1 l12)
def law07_node_L1 (p1:Int) (p2:List Int):Nat→Int→(List GArc)→Option (GNode)
 | 0,_,_=>none
 | m1+1,z9,l10 =>
  cond (decide ((IntKind.i64.wrap (z9+1))<(p2.length:Int)))
   (bindO (idxO p2 z9) fun x15 =>
   bindO (idxO p2 (IntKind.i64.wrap (z9+1))) fun x17 =>
   needO ((l10.length+1)*16≤140737488355328∧l10.length+1≤140737488355328) (
   (law07_node_L1 p1 p2 m1) (IntKind.i64.wrap (z9+2)) (l10++[(GArc.mk x15 x17)])))
   (law07_node_K1 p1 l10)
def law07_node (n:Nat) (p1:Int) (p2:List Int):Option (GNode) :=
 law07_node_L1 p1 p2 n 0 ([]:List GArc)
theorem law07_node_0 (n:Nat) (p1:Int) (p2:List Int) (r:GNode) (hF:law07_node n p1 p2=some r):EvU Try.prog 29 [.int .i64 p1,.isl false (List.map (cI .i64) p2)] ⟨[],0⟩ (fun u _=>u = .agg (cGNode r)∧Bel 0 u):=by
 unfold law07_node at hF
 refine EvU.of_body Try.tb_ok fn29 rfl ?_
 refine WPU.ghost (tm':=fr 32 [(0,.int .i64 p1),(1,.isl false (List.map (cI .i64) p2))]) (Gh.start (Nat.le_of_ble_eq_true rfl)) (Nat.zero_le _) ?_
 refine sr ?_
 refine RS.q (u:=.ptr 0 0 0) (σ':=⟨[(0,.row [.int .i64 0,.nils] 43)],1⟩) rfl (op_alloc inf43 rfl rfl) ?_
 refine se ?_
 refine RS.q (u:=.agg [.int .i64 p1,.nils]) rfl (op_bld bd43 rfl rfl rfl) (RS.q (u:=.ptr 1 0 0) (σ':=⟨[(1,.row [.int .i64 0,.nils] 43),(0,.row [.int .i64 0,.nils] 43)],2⟩) rfl (op_alloc inf43 rfl rfl) (RS.opn (u:=.junk) (σ':=⟨[(1,.row [.int .i64 p1,.nils] 43),(0,.row [.int .i64 0,.nils] 43)],2⟩) rfl (op_store (sz_of inf43) rfl rfl rfl rfl rfl rfl rfl rfl) rfl ?_))
 refine se ?_
 refine sd ?_
 refine WPU.ghost (tm':=fr 32 [(1,.isl false (List.map (cI .i64) p2)),(4,.ptr 0 0 0),(5,.ptr 1 0 0),(6,.int .i64 0)]) (σ':=⟨[(2,.vec (List.map cGArc ([]:List GArc)).flatten 45 2 0),(1,.row [.int .i64 p1,.vl 2 0 0 (([]:List GArc).length)] 43),(0,.row [.int .i64 0,.nils] 43)],3⟩) (Gh.trans (Gh.nilC 1 1 45 2 (by decide) (Nat.zero_le _) rfl rfl) (Gh.eqS ⟨rfl,rfl,rfl,rfl,trivial⟩ rfl)) (Nat.zero_le _) ?_
 refine WPU.ghost (tm':=fr 32 [(1,.isl false (List.map (cI .i64) p2)),(4,.ptr 0 0 0),(5,.ptr 1 0 0),(6,.int .i64 0)]) (Gh.sub ⟨rfl,rfl,rfl,rfl,trivial⟩) (Nat.zero_le _) ?_
 refine WPU.loopK (fun m tm σ=>∃ z9:Int,∃ l10:List GArc,∃ t11:Nat,law07_node_L1 p1 p2 m z9 l10=some r∧tm=fr 32 [(1,.isl false (List.map (cI .i64) p2)),(4,.ptr 0 0 0),(5,.ptr 1 0 0),(6,.int .i64 z9)]∧σ=⟨[(2,.vec (List.map cGArc l10).flatten 45 2 t11),(1,.row [.int .i64 p1,.vl 2 t11 0 l10.length] 43),(0,.row [.int .i64 0,.nils] 43)],3⟩) (fun tm σ=>∃ l12:List GArc,∃ t13:Nat,law07_node_K1 p1 l12=some r∧tm=fr 32 [(4,.ptr 0 0 0),(5,.ptr 1 0 0)]∧σ=⟨[(2,.vec (List.map cGArc l12).flatten 45 2 t13),(1,.row [.int .i64 p1,.vl 2 t13 0 l12.length] 43),(0,.row [.int .i64 0,.nils] 43)],3⟩) n ⟨0,([]:List GArc),0,hF,rfl,rfl⟩ ?_ ?_
 rintro _ _ ⟨l12,t13,hF,rfl,rfl⟩
 unfold law07_node_K1 at hF
 refine sr ?_
 refine RS.q (u:=.agg [.int .i64 p1,.vl 2 t13 0 l12.length]) rfl (ld_agg und43 rfl (sz_of inf43) rfl rfl rfl) (RS.opn (u:=.junk) (σ':=⟨[(2,.vec (List.map cGArc l12).flatten 45 2 t13),(1,.row [.int .i64 p1,.vl 2 t13 0 l12.length] 43),(0,.row [.int .i64 p1,.vl 2 t13 0 l12.length] 43)],3⟩) rfl (op_store (sz_of inf43) rfl rfl rfl rfl rfl rfl rfl rfl) rfl ?_)
 refine sd ?_
 refine WPU.ret ?_
 refine st ?_
 have hr:=Option.some.inj hF
 subst hr
 exact ⟨.inr rfl,[.agg [.int .i64 p1,.vl 2 t13 0 l12.length]],res_c (ld_agg und43 rfl (sz_of inf43) rfl rfl rfl) (res_n),.agg [.int .i64 p1,.isl false (List.map cGArc l12)],⟨[],0⟩,Nat.le_refl _,Gh.trans (Gh.fz (tm':=[.agg [.int .i64 p1,.isl false (List.map cGArc l12)]]) (h':=[(1,.row [.int .i64 p1,.isl false (List.map cGArc l12)] 43),(0,.row [.int .i64 p1,.isl false (List.map cGArc l12)] 43)]) 2 (.vec (List.map cGArc l12).flatten 45 2 t13) 2 rfl (by simp) (by simp only [oneU,fzL_nil,fzL_cons,fz_int,fz_bool,fz_str,fz_nils,fz_nilp,fz_nilm,fz_nilf,fz_junk,fz_isl,fz_map,fz_agg,fz_tup,fz_fn,junkT,fz_vl len_cGArc]) (by simp only [fzH,fzB,ug,Nat.beq,cond_true,cond_false,oneU,fzL_nil,fzL_cons,fz_int,fz_bool,fz_str,fz_nils,fz_nilp,fz_nilm,fz_nilf,fz_junk,fz_isl,fz_map,fz_agg,fz_tup,fz_fn,junkT,fz_vl len_cGArc])) (Gh.toR (.agg [.int .i64 p1,.isl false (List.map cGArc l12)]) rfl),rfl,BU.h⟩
 rintro m1 _ _ ⟨z9,l10,t11,hF,rfl,rfl⟩
 rcases m1 with _ | m1
 cases hF
 unfold law07_node_L1 at hF
 refine sr ?_
 refine RS.q rfl (op_int rfl rfl (ix_add _ _ _) rfl) (RS.mv rfl rfl rfl rfl (RS.q rfl (op_len rfl rfl rfl (len_isl (cI .i64) und55)) (RS.q rfl (op_int rfl rfl (ix_lss _ _ _) rfl) ?_)))
 refine sd ?_
 refine WPU.condS (t:=(decide ((IntKind.i64.wrap (z9+1))<(p2.length:Int)))) rfl (fun h14=>?_) (fun h14=>?_)
 replace hF:=cond_t h14 hF
 refine st ?_
 refine WPU.skip ?_
 refine st ?_
 refine WPU.block ?_
 refine st ?_
 obtain ⟨x15,h16,hF⟩:=bindO_some hF
 obtain ⟨x17,h18,hF⟩:=bindO_some hF
 obtain ⟨h19,hF⟩:=needO_some hF
 refine WPU.drawE Try.tb_ok [(0,12),(1,12)] (by kernel_rfl) ?_
 refine RD.q (u:=.ptr 1 0 1) rfl (op_fa und43 rfl (sz_of inf41) rfl rfl rfl) (RD.q (u:=.vl 2 t11 0 l10.length) rfl (ld_one und41 rfl rfl rfl rfl) ?_)
 repeat refine RD.mv rfl rfl rfl rfl ?_
 refine RD.q (u:=.iptr [.int .i64 x15]) rfl (op_ia rfl rfl (ia_isl (cI .i64) und55 (sz_of inf3) (len_cI .i64) h16 rfl)) (RD.q (u:=.int .i64 x15) rfl (li_one und3 rfl rfl rfl) ?_)
 repeat refine RD.mv rfl rfl rfl rfl ?_
 refine RD.q rfl (op_int rfl rfl (ix_add _ _ _) rfl) (RD.q (u:=.iptr [.int .i64 x17]) rfl (op_ia rfl rfl (ia_isl (cI .i64) und55 (sz_of inf3) (len_cI .i64) h18 rfl)) (RD.q (u:=.int .i64 x17) rfl (li_one und3 rfl rfl rfl) (RD.q (u:=.agg [.int .i64 x15,.int .i64 x17]) rfl (op_bld bd45 rfl rfl rfl) (RD.act (u:=.sl 3 0 1 1) (σ':=⟨[(3,.row [.int .i64 x15,.int .i64 x17] 45),(2,.vec (List.map cGArc l10).flatten 45 2 t11),(1,.row [.int .i64 p1,.vl 2 t11 0 l10.length] 43),(0,.row [.int .i64 0,.nils] 43)],4⟩) rfl (op_bsl und41 inf45 rfl rfl rfl rfl rfl rfl rfl) rfl rfl (RD.act (u:=.vl 2 (t11+1) 0 ((l10++[(GArc.mk x15 x17)]).length)) (σ':=⟨[(3,.row [.int .i64 x15,.int .i64 x17] 45),(2,.vec (List.map cGArc (l10++[(GArc.mk x15 x17)])).flatten 45 2 (t11+1)),(1,.row [.int .i64 p1,.vl 2 t11 0 l10.length] 43),(0,.row [.int .i64 0,.nils] 43)],4⟩) rfl (op_app rfl rfl rfl rfl (app_vl cGArc ([(GArc.mk x15 x17)]) und41 und41 inf45 rfl len_cGArc rfl (src_row cGArc [(GArc.mk x15 x17)] rfl rfl rfl rfl) h19)) rfl rfl (RD.q (u:=.ptr 1 0 1) rfl (op_fa und43 rfl (sz_of inf41) rfl rfl rfl) (RD.actn (u:=.junk) (σ':=⟨[(3,.row [.int .i64 x15,.int .i64 x17] 45),(2,.vec (List.map cGArc (l10++[(GArc.mk x15 x17)])).flatten 45 2 (t11+1)),(1,.row [.int .i64 p1,.vl 2 (t11+1) 0 ((l10++[(GArc.mk x15 x17)]).length)] 43),(0,.row [.int .i64 0,.nils] 43)],4⟩) rfl (op_store (sz_of inf41) rfl rfl rfl rfl rfl rfl rfl rfl) rfl ?_)))))))
 refine RD.done ⟨by kernel_rfl,⟨op_fa und43 rfl (sz_of inf41) rfl rfl rfl,⟨ld_one und41 rfl rfl rfl rfl,trivial⟩⟩,?_⟩
 refine sr ?_
 refine RS.q rfl (op_int rfl rfl (ix_add _ _ _) rfl) ?_
 refine sd ?_
 exact ⟨m1,_,_,Nat.lt_succ_self _,⟨(IntKind.i64.wrap (z9+2)),(l10++[(GArc.mk x15 x17)]),(t11+1),hF,rfl,rfl⟩,(Nat.zero_le _),Gh.toC (n1:=3) ⟨rfl,rfl,rfl,rfl,trivial⟩ rfl (Nat.zero_le _) (by simp)⟩
 replace hF:=cond_f h14 hF
 refine st ?_
 refine WPU.exit ?_
 refine st ?_
 exact ⟨_,_,⟨l10,t11,hF,rfl,rfl⟩,(Nat.zero_le _),Gh.toC (n1:=3) ⟨rfl,rfl,trivial⟩ rfl (Nat.zero_le _) (by simp)⟩
theorem law07_node_ok (n:Nat) (p1:Int) (p2:List Int) (r:GNode) (hF:law07_node n p1 p2=some r) (σ:Sg):EvU Try.prog 29 [.int .i64 p1,.isl false (List.map (cI .i64) p2)] σ (fun u σ'=>u = .agg (cGNode r)∧σ'=σ) :=
 EvU.pure1C (law07_node_0 n p1 p2 r hF) σ
def law07_of (n:Nat) (p1:List GNode):Option (GFS) :=
 some (GFS.mk p1)
theorem law07_of_0 (n:Nat) (p1:List GNode) (r:GFS) (hF:law07_of n p1=some r):EvU Try.prog 32 [.isl false (List.map cGNode p1)] ⟨[],0⟩ (fun u _=>u = .agg [.isl false (List.map cGNode r.Nodes)]∧Bel 0 u):=by
 unfold law07_of at hF
 refine EvU.of_body Try.tb_ok fn32 rfl ?_
 refine WPU.ghost (tm':=fr 5 [(0,.isl false (List.map cGNode p1))]) (Gh.start (Nat.le_of_ble_eq_true rfl)) (Nat.zero_le _) ?_
 refine sr ?_
 refine RS.q (u:=.ptr 0 0 0) (σ':=⟨[(0,.row [.nils] 25)],1⟩) rfl (op_alloc inf25 rfl rfl) ?_
 refine se ?_
 refine RS.q (u:=.agg [.isl false (List.map cGNode p1)]) rfl (op_bld bd25 rfl rfl rfl) (RS.opn (u:=.junk) (σ':=⟨[(0,.row [.isl false (List.map cGNode p1)] 25)],1⟩) rfl (op_store (sz_of inf25) rfl rfl rfl rfl rfl rfl rfl rfl) rfl ?_)
 refine sd ?_
 refine WPU.ret ?_
 refine st ?_
 have hr:=Option.some.inj hF
 subst hr
 exact ⟨.inr rfl,[.agg [.isl false (List.map cGNode p1)]],res_c (ld_agg und25 rfl (sz_of inf25) rfl rfl rfl) (res_n),.agg [.isl false (List.map cGNode p1)],⟨[],0⟩,Nat.le_refl _,Gh.toR (.agg [.isl false (List.map cGNode p1)]) rfl,rfl,BU.h⟩
theorem law07_of_ok (n:Nat) (p1:List GNode) (r:GFS) (hF:law07_of n p1=some r) (σ:Sg):EvU Try.prog 32 [.isl false (List.map cGNode p1)] σ (fun u σ'=>u = .agg [.isl false (List.map cGNode r.Nodes)]∧σ'=σ) :=
 EvU.pure1C (law07_of_0 n p1 r hF) σ
end Go.Proofs
end
