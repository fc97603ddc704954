/-
  Texts of the walk: H4 PlA H5.
-/
import Derived.Test.YtdpffcolmflpjaaP15
section
namespace Go.Proofs
open Go Go.Rx Go.Vx Try
set_option maxRecDepth 10000
set_option linter.unusedSimpArgs false
set_option linter.unusedVariables false
theorem q99 (n:Nat) (p1:GFS) (p2:List Int) (r:GFS) (hF:q3n n p1 p2=some r):EvU Try.prog 27 [.agg [.isl false (List.map cGNode p1.Nodes)],.isl false (List.map (cI .u8) p2)] ⟨[],0⟩ (fun u _=>u = .agg [.isl false (List.map cGNode r.Nodes)]∧Bel 0 u):=by
 unfold q3n at hF
 refine EvU.of_body Try.tb_ok fn27 rfl ?_
 refine WPU.ghost (tm':=fr 136 [(0,.agg [.isl false (List.map cGNode p1.Nodes)]),(1,.isl false (List.map (cI .u8) p2))]) (Gh.start (Nat.le_of_ble_eq_true rfl)) (Nat.zero_le _) ?_
 refine sr ?_
 refine RS.q (u:=.ptr 0 0 0) (σ':=⟨[(0,.row [.isl false (List.map cGNode p1.Nodes)] 25)],1⟩) rfl (q3h rfl rfl rfl) (RS.q (u:=.ptr 1 0 0) (σ':=⟨[(1,.row [.nils] 25),(0,.row [.isl false (List.map cGNode p1.Nodes)] 25)],2⟩) rfl (q0z inf25 rfl rfl) ?_)
 refine se ?_
 refine RS.q (u:=.ptr 0 0 0) rfl (q19 und25 rfl (q02 inf23) rfl rfl rfl) (RS.q (u:=.isl false (List.map cGNode p1.Nodes)) rfl (q0d und23 rfl rfl rfl rfl) (RS.q rfl (q1a rfl rfl rfl (q10 cGNode und23)) ?_))
 refine sd ?_
 obtain ⟨h3,hF⟩:=q29 hF
 refine sr ?_
 refine RS.q (u:=.sl 2 0 ((p1.Nodes.length:Int).toNat) ((p1.Nodes.length:Int).toNat)) (σ':=⟨[(2,.row (List.map (cI .i64) (List.replicate (p1.Nodes.length:Int).toNat 0)).flatten 3),(1,.row [.nils] 25),(0,.row [.isl false (List.map cGNode p1.Nodes)] 25)],3⟩) rfl (op_mks (cI .i64) 0 rfl rfl und55 inf3 rfl rfl rfl rfl h3) ?_
 refine se ?_
 refine RS.q rfl (q1a rfl rfl rfl (len_sl und55 rfl)) (RS.mv rfl rfl rfl rfl ?_)
 refine sd ?_
 refine WPU.ghost (tm':=fr 136 [(1,.isl false (List.map (cI .u8) p2)),(2,.ptr 0 0 0),(4,.ptr 1 0 0),(5,.int .i64 (p1.Nodes.length:Int)),(6,.sl 2 0 ((p1.Nodes.length:Int).toNat) ((p1.Nodes.length:Int).toNat)),(24,.int .i64 (((p1.Nodes.length:Int).toNat:Nat):Int)),(25,.int .i64 0)]) (Gh.sub ⟨rfl,rfl,rfl,rfl,rfl,rfl,rfl,trivial⟩) (Nat.zero_le _) ?_
 refine WPU.loopK (fun m tm σ=>∃ z10:Int,∃ l11:List Int,q2n p1 p2 n m z10 l11=some r∧tm=fr 136 [(1,.isl false (List.map (cI .u8) p2)),(2,.ptr 0 0 0),(4,.ptr 1 0 0),(5,.int .i64 (p1.Nodes.length:Int)),(6,.sl 2 0 ((p1.Nodes.length:Int).toNat) ((p1.Nodes.length:Int).toNat)),(24,.int .i64 (((p1.Nodes.length:Int).toNat:Nat):Int)),(25,.int .i64 z10)]∧σ=⟨[(2,.row (List.map (cI .i64) l11).flatten 3),(1,.row [.nils] 25),(0,.row [.isl false (List.map cGNode p1.Nodes)] 25)],3⟩) (fun tm σ=>∃ l12:List Int,q35 p1 p2 n l12=some r∧tm=fr 136 [(1,.isl false (List.map (cI .u8) p2)),(2,.ptr 0 0 0),(4,.ptr 1 0 0),(5,.int .i64 (p1.Nodes.length:Int)),(6,.sl 2 0 ((p1.Nodes.length:Int).toNat) ((p1.Nodes.length:Int).toNat))]∧σ=⟨[(2,.row (List.map (cI .i64) l12).flatten 3),(1,.row [.nils] 25),(0,.row [.isl false (List.map cGNode p1.Nodes)] 25)],3⟩) n ⟨0,(List.replicate (p1.Nodes.length:Int).toNat 0),hF,rfl,rfl⟩ ?_ ?_
 rintro _ _ ⟨l12,hF,rfl,rfl⟩
 unfold q35 at hF
 refine sr ?_
 refine RS.q rfl (q1a rfl rfl rfl (q10 (cI .u8) und37)) (RS.mv rfl rfl rfl rfl ?_)
 refine sd ?_
 refine WPU.ghost (tm':=fr 136 [(2,.ptr 0 0 0),(4,.ptr 1 0 0),(5,.int .i64 (p1.Nodes.length:Int)),(6,.sl 2 0 ((p1.Nodes.length:Int).toNat) ((p1.Nodes.length:Int).toNat)),(33,.isl false (List.map (cI .u8) p2)),(34,.int .i64 (p2.length:Int)),(35,.int .i64 0)]) (Gh.sub ⟨rfl,rfl,rfl,rfl,rfl,rfl,rfl,trivial⟩) (Nat.zero_le _) ?_
 refine WPU.loopK (fun m tm σ=>∃ z19:Int,∃ l20:List Int,q1w p1 p2 n m z19 l20=some r∧tm=fr 136 [(2,.ptr 0 0 0),(4,.ptr 1 0 0),(5,.int .i64 (p1.Nodes.length:Int)),(6,.sl 2 0 ((p1.Nodes.length:Int).toNat) ((p1.Nodes.length:Int).toNat)),(33,.isl false (List.map (cI .u8) p2)),(34,.int .i64 (p2.length:Int)),(35,.int .i64 z19)]∧σ=⟨[(2,.row (List.map (cI .i64) l20).flatten 3),(1,.row [.nils] 25),(0,.row [.isl false (List.map cGNode p1.Nodes)] 25)],3⟩) (fun tm σ=>∃ l21:List Int,q36 p1 n l21=some r∧tm=fr 136 [(2,.ptr 0 0 0),(4,.ptr 1 0 0),(5,.int .i64 (p1.Nodes.length:Int)),(6,.sl 2 0 ((p1.Nodes.length:Int).toNat) ((p1.Nodes.length:Int).toNat))]∧σ=⟨[(2,.row (List.map (cI .i64) l21).flatten 3),(1,.row [.nils] 25),(0,.row [.isl false (List.map cGNode p1.Nodes)] 25)],3⟩) n ⟨0,l12,hF,rfl,rfl⟩ ?_ ?_
 rintro _ _ ⟨l21,hF,rfl,rfl⟩
 unfold q36 at hF
 refine st ?_
 obtain ⟨h22,hF⟩:=q29 hF
 refine sr ?_
 refine RS.q rfl (q05 rfl rfl (q3g _ _ _) rfl) (RS.q (u:=.sl 3 0 ((IntKind.i64.wrap ((p1.Nodes.length:Int)+1)).toNat) ((IntKind.i64.wrap ((p1.Nodes.length:Int)+1)).toNat)) (σ':=⟨[(3,.row (List.map cGNode (List.replicate (IntKind.i64.wrap ((p1.Nodes.length:Int)+1)).toNat (GNode.mk 0 []))).flatten 43),(2,.row (List.map (cI .i64) l21).flatten 3),(1,.row [.nils] 25),(0,.row [.isl false (List.map cGNode p1.Nodes)] 25)],4⟩) rfl (op_mks cGNode (GNode.mk 0 []) rfl rfl und23 inf43 rfl rfl rfl rfl h22) (RS.q (u:=.agg [.sl 3 0 ((IntKind.i64.wrap ((p1.Nodes.length:Int)+1)).toNat) ((IntKind.i64.wrap ((p1.Nodes.length:Int)+1)).toNat)]) rfl (q5x bd25 rfl rfl rfl) (RS.q (u:=.ptr 4 0 0) (σ':=⟨[(4,.row [.nils] 25),(3,.row (List.map cGNode (List.replicate (IntKind.i64.wrap ((p1.Nodes.length:Int)+1)).toNat (GNode.mk 0 []))).flatten 43),(2,.row (List.map (cI .i64) l21).flatten 3),(1,.row [.nils] 25),(0,.row [.isl false (List.map cGNode p1.Nodes)] 25)],5⟩) rfl (q0z inf25 rfl rfl) (RS.opn (u:=.junk) (σ':=⟨[(4,.row [.sl 3 0 ((IntKind.i64.wrap ((p1.Nodes.length:Int)+1)).toNat) ((IntKind.i64.wrap ((p1.Nodes.length:Int)+1)).toNat)] 25),(3,.row (List.map cGNode (List.replicate (IntKind.i64.wrap ((p1.Nodes.length:Int)+1)).toNat (GNode.mk 0 []))).flatten 43),(2,.row (List.map (cI .i64) l21).flatten 3),(1,.row [.nils] 25),(0,.row [.isl false (List.map cGNode p1.Nodes)] 25)],5⟩) rfl (q0q (q02 inf25) rfl rfl rfl rfl rfl rfl rfl rfl) rfl ?_))))
 refine se ?_
 refine RS.q (u:=.ptr 0 0 0) rfl (q19 und25 rfl (q02 inf23) rfl rfl rfl) (RS.q (u:=.isl false (List.map cGNode p1.Nodes)) rfl (q0d und23 rfl rfl rfl rfl) (RS.q rfl (q1a rfl rfl rfl (q10 cGNode und23)) (RS.mv rfl rfl rfl rfl ?_)))
 refine sd ?_
 refine WPU.ghost (tm':=fr 136 [(2,.ptr 0 0 0),(4,.ptr 1 0 0),(5,.int .i64 (p1.Nodes.length:Int)),(6,.sl 2 0 ((p1.Nodes.length:Int).toNat) ((p1.Nodes.length:Int).toNat)),(13,.ptr 4 0 0),(75,.int .i64 (p1.Nodes.length:Int)),(76,.int .i64 0)]) (Gh.sub ⟨rfl,rfl,rfl,rfl,rfl,rfl,rfl,trivial⟩) (Nat.zero_le _) ?_
 refine WPU.loopK (fun m tm σ=>∃ z29:Int,∃ l30:List GNode,q1n p1 n l21 m z29 l30=some r∧tm=fr 136 [(2,.ptr 0 0 0),(4,.ptr 1 0 0),(5,.int .i64 (p1.Nodes.length:Int)),(6,.sl 2 0 ((p1.Nodes.length:Int).toNat) ((p1.Nodes.length:Int).toNat)),(13,.ptr 4 0 0),(75,.int .i64 (p1.Nodes.length:Int)),(76,.int .i64 z29)]∧σ=⟨[(4,.row [.sl 3 0 ((IntKind.i64.wrap ((p1.Nodes.length:Int)+1)).toNat) ((IntKind.i64.wrap ((p1.Nodes.length:Int)+1)).toNat)] 25),(3,.row (List.map cGNode l30).flatten 43),(2,.row (List.map (cI .i64) l21).flatten 3),(1,.row [.nils] 25),(0,.row [.isl false (List.map cGNode p1.Nodes)] 25)],5⟩) (fun tm σ=>∃ l31:List GNode,q37 p1 n l31=some r∧tm=fr 136 [(4,.ptr 1 0 0),(5,.int .i64 (p1.Nodes.length:Int)),(13,.ptr 4 0 0)]∧σ=⟨[(4,.row [.sl 3 0 ((IntKind.i64.wrap ((p1.Nodes.length:Int)+1)).toNat) ((IntKind.i64.wrap ((p1.Nodes.length:Int)+1)).toNat)] 25),(3,.row (List.map cGNode l31).flatten 43),(2,.row (List.map (cI .i64) l21).flatten 3),(1,.row [.nils] 25),(0,.row [.isl false (List.map cGNode p1.Nodes)] 25)],5⟩) n ⟨0,(List.replicate (IntKind.i64.wrap ((p1.Nodes.length:Int)+1)).toNat (GNode.mk 0 [])),hF,rfl,rfl⟩ ?_ ?_
 rintro _ _ ⟨l31,hF,rfl,rfl⟩
 unfold q37 at hF
 refine st ?_
 obtain ⟨r32,h33,hF⟩:=q00 hF
 obtain ⟨x34,h35,hF⟩:=q00 hF
 refine WPU.drawE Try.tb_ok [(0,3),(0,4),(1,3),(1,4),(2,3),(2,4)] (by kernel_rfl) ?_
 refine RD.q (u:=.ptr 4 0 0) rfl (q19 und25 rfl (q02 inf23) rfl rfl rfl) (RD.q (u:=.sl 3 0 ((IntKind.i64.wrap ((p1.Nodes.length:Int)+1)).toNat) ((IntKind.i64.wrap ((p1.Nodes.length:Int)+1)).toNat)) rfl (q0d und23 rfl rfl rfl rfl) (RD.mv rfl rfl rfl rfl (RD.act (u:=.sl 5 0 2 2) (σ':=⟨[(5,.row [.int .i64 2,.int .i64 0] 3),(4,.row [.sl 3 0 ((IntKind.i64.wrap ((p1.Nodes.length:Int)+1)).toNat) ((IntKind.i64.wrap ((p1.Nodes.length:Int)+1)).toNat)] 25),(3,.row (List.map cGNode l31).flatten 43),(2,.row (List.map (cI .i64) l21).flatten 3),(1,.row [.nils] 25),(0,.row [.isl false (List.map cGNode p1.Nodes)] 25)],6⟩) rfl (q21 und55 inf3 rfl rfl rfl rfl rfl rfl rfl) rfl rfl ?_)))
 refine RD.fcall (u:=.agg (cGNode r32)) (args:=[.int .i64 3,.sl 5 0 2 2]) (σ1:=⟨[(4,.row [.sl 3 0 ((IntKind.i64.wrap ((p1.Nodes.length:Int)+1)).toNat) ((IntKind.i64.wrap ((p1.Nodes.length:Int)+1)).toNat)] 25),(3,.row (List.map cGNode l31).flatten 43),(2,.row (List.map (cI .i64) l21).flatten 3),(1,.row [.nils] 25),(0,.row [.isl false (List.map cGNode p1.Nodes)] 25)],6⟩) rfl (q01 rfl rfl fn29 hb29 rfl rfl) (Gh.fz (tm':=[.int .i64 3,.isl false (List.map (cI .i64) ([2,0]))]) (h':=[(4,.row [.sl 3 0 ((IntKind.i64.wrap ((p1.Nodes.length:Int)+1)).toNat) ((IntKind.i64.wrap ((p1.Nodes.length:Int)+1)).toNat)] 25),(3,.row (List.map cGNode l31).flatten 43),(2,.row (List.map (cI .i64) l21).flatten 3),(1,.row [.nils] 25),(0,.row [.isl false (List.map cGNode p1.Nodes)] 25)]) 5 (.row [.int .i64 2,.int .i64 0] 3) 1 rfl (by simp) (by simp only [oneU,q06,q03,q0i,q08,q0l,q0c,q0b,q0a,q09,q07,q0j,q0k,q0h,q0m,q18,junkT,q1q,q1t,q3d (show Nat.beq 3 5=false from rfl),q3c (show Nat.beq 3 5=false from rfl),q3b (show Nat.beq 3 5=false from rfl),q28 _ _ _ (q2d 5 (fun q=>q3x _ q) l31),q28 _ _ _ (q2d 5 (fun q=>q7d _ .i64 q) l21),Nat.reduceLeDiff,Nat.reduceMul,List.length_cons,List.length_nil,Nat.reduceAdd]<;>simp only [chunks,List.take,List.drop,List.map,cI,cB,cS,cL]) (by simp only [fzH,fzB,ug,Nat.beq,cond_true,cond_false,oneU,q06,q03,q0i,q08,q0l,q0c,q0b,q0a,q09,q07,q0j,q0k,q0h,q0m,q18,junkT,q1q,q1t,q3d (show Nat.beq 3 5=false from rfl),q3c (show Nat.beq 3 5=false from rfl),q3b (show Nat.beq 3 5=false from rfl),q28 _ _ _ (q2d 5 (fun q=>q3x _ q) l31),q28 _ _ _ (q2d 5 (fun q=>q7d _ .i64 q) l21),Nat.reduceLeDiff,Nat.reduceMul,List.length_cons,List.length_nil,Nat.reduceAdd]<;>simp only [chunks,List.take,List.drop,List.map,cI,cB,cS,cL])) (Nat.le_of_ble_eq_true rfl) (q04 n 3 ([2,0]) r32 h33 _) rfl rfl ?_
 refine RD.q (u:=.ptr 3 0 (0*2+(p1.Nodes.length:Int).toNat*2)) rfl (q2a rfl rfl (q64 und23 (q02 inf43) rfl h35)) (RD.actn (u:=.junk) (σ':=⟨[(4,.row [.sl 3 0 ((IntKind.i64.wrap ((p1.Nodes.length:Int)+1)).toNat) ((IntKind.i64.wrap ((p1.Nodes.length:Int)+1)).toNat)] 25),(3,.row (List.map cGNode (l31.set (p1.Nodes.length:Int).toNat r32)).flatten 43),(2,.row (List.map (cI .i64) l21).flatten 3),(1,.row [.nils] 25),(0,.row [.isl false (List.map cGNode p1.Nodes)] 25)],6⟩) rfl (st_rl cGNode (q02 inf43) q1o rfl rfl rfl rfl rfl rfl h35 rfl) rfl ?_)
 refine RD.done ⟨by kernel_rfl,⟨q19 und25 rfl (q02 inf23) rfl rfl rfl,⟨q19 und25 rfl (q02 inf23) rfl rfl rfl,⟨q0d und23 rfl rfl rfl rfl,⟨q0d und23 rfl rfl rfl rfl,⟨q39 rfl,⟨q39 rfl,trivial⟩⟩⟩⟩⟩⟩,?_⟩
 refine sr ?_
 refine RS.q (u:=.agg [.sl 3 0 ((IntKind.i64.wrap ((p1.Nodes.length:Int)+1)).toNat) ((IntKind.i64.wrap ((p1.Nodes.length:Int)+1)).toNat)]) rfl (q0p und25 rfl (q02 inf25) rfl rfl rfl) (RS.opn (u:=.junk) (σ':=⟨[(4,.row [.sl 3 0 ((IntKind.i64.wrap ((p1.Nodes.length:Int)+1)).toNat) ((IntKind.i64.wrap ((p1.Nodes.length:Int)+1)).toNat)] 25),(3,.row (List.map cGNode (l31.set (p1.Nodes.length:Int).toNat r32)).flatten 43),(2,.row (List.map (cI .i64) l21).flatten 3),(1,.row [.sl 3 0 ((IntKind.i64.wrap ((p1.Nodes.length:Int)+1)).toNat) ((IntKind.i64.wrap ((p1.Nodes.length:Int)+1)).toNat)] 25),(0,.row [.isl false (List.map cGNode p1.Nodes)] 25)],6⟩) rfl (q0q (q02 inf25) rfl rfl rfl rfl rfl rfl rfl rfl) rfl ?_)
 refine sd ?_
 refine WPU.ret ?_
 refine st ?_
 obtain ⟨h36,hF⟩:=q29 hF
 have hr:=Option.some.inj hF
 subst hr
 exact ⟨.inr rfl,[.agg [.sl 3 0 ((IntKind.i64.wrap ((p1.Nodes.length:Int)+1)).toNat) ((IntKind.i64.wrap ((p1.Nodes.length:Int)+1)).toNat)]],res_c (q0p und25 rfl (q02 inf25) rfl rfl rfl) (q1v),.agg [.isl false (List.map cGNode (l31.set (p1.Nodes.length:Int).toNat r32))],⟨[],0⟩,Nat.le_refl _,Gh.trans (Gh.fz (tm':=[.agg [.isl false (List.map cGNode (l31.set (p1.Nodes.length:Int).toNat r32))]]) (h':=[(4,.row [.isl false (List.map cGNode (l31.set (p1.Nodes.length:Int).toNat r32))] 25),(2,.row (List.map (cI .i64) l21).flatten 3),(1,.row [.isl false (List.map cGNode (l31.set (p1.Nodes.length:Int).toNat r32))] 25),(0,.row [.isl false (List.map cGNode p1.Nodes)] 25)]) 3 (.row (List.map cGNode (l31.set (p1.Nodes.length:Int).toNat r32)).flatten 43) 2 rfl (by simp) (by simp only [oneU,q06,q03,q0i,q08,q0l,q0c,q0b,q0a,q09,q07,q0j,q0k,q0h,q0m,q18,junkT,fz_rl q1o h36,q28 _ _ _ (q2d 3 (fun q=>q7d _ .i64 q) l21)]) (by simp only [fzH,fzB,ug,Nat.beq,cond_true,cond_false,oneU,q06,q03,q0i,q08,q0l,q0c,q0b,q0a,q09,q07,q0j,q0k,q0h,q0m,q18,junkT,fz_rl q1o h36,q28 _ _ _ (q2d 3 (fun q=>q7d _ .i64 q) l21)])) (Gh.toR (.agg [.isl false (List.map cGNode (l31.set (p1.Nodes.length:Int).toNat r32))]) rfl),rfl,BU.h⟩
 rintro m3 _ _ ⟨z29,l30,hF,rfl,rfl⟩
 rcases m3 with _ | m3
 cases hF
 unfold q1n at hF
 refine sr ?_
 refine RS.q rfl (q05 rfl rfl (q2l _ _ _) rfl) ?_
 refine sd ?_
 refine WPU.condS (t:=(decide (z29<(p1.Nodes.length:Int)))) rfl (fun h37=>?_) (fun h37=>?_)
 replace hF:=q0o h37 hF
 refine st ?_
 refine WPU.skip ?_
 refine st ?_
 refine WPU.block ?_
 refine sr ?_
 refine sd ?_
 obtain ⟨x38,h39,hF⟩:=q00 hF
 refine sr ?_
 refine RS.q (u:=.ptr 0 0 0) rfl (q19 und25 rfl (q02 inf23) rfl rfl rfl) (RS.q (u:=.isl false (List.map cGNode p1.Nodes)) rfl (q0d und23 rfl rfl rfl rfl) (RS.mv rfl rfl rfl rfl (RS.q (u:=.iptr (cGNode x38)) rfl (q2a rfl rfl (q3f cGNode und23 (q02 inf43) q1o h39 rfl)) (RS.q (u:=.iptr (cGNode x38)) rfl (q9b und43 rfl (q02 inf3) rfl rfl) (RS.q (u:=.int .i64 x38.Typex) rfl (q56 und3 rfl rfl rfl) (RS.q (u:=.agg [.int .i64 x38.Typex,.nils]) rfl (q5x bd43 rfl rfl rfl) (RS.q (u:=.ptr 5 0 0) (σ':=⟨[(5,.row [.int .i64 0,.nils] 43),(4,.row [.sl 3 0 ((IntKind.i64.wrap ((p1.Nodes.length:Int)+1)).toNat) ((IntKind.i64.wrap ((p1.Nodes.length:Int)+1)).toNat)] 25),(3,.row (List.map cGNode l30).flatten 43),(2,.row (List.map (cI .i64) l21).flatten 3),(1,.row [.nils] 25),(0,.row [.isl false (List.map cGNode p1.Nodes)] 25)],6⟩) rfl (q0z inf43 rfl rfl) ?_)))))))
 refine RS.opn (u:=.junk) (σ':=⟨[(5,.row [.int .i64 x38.Typex,.nils] 43),(4,.row [.sl 3 0 ((IntKind.i64.wrap ((p1.Nodes.length:Int)+1)).toNat) ((IntKind.i64.wrap ((p1.Nodes.length:Int)+1)).toNat)] 25),(3,.row (List.map cGNode l30).flatten 43),(2,.row (List.map (cI .i64) l21).flatten 3),(1,.row [.nils] 25),(0,.row [.isl false (List.map cGNode p1.Nodes)] 25)],6⟩) rfl (q0q (q02 inf43) rfl rfl rfl rfl rfl rfl rfl rfl) rfl ?_
 refine sd ?_
 obtain ⟨x40,h41,hF⟩:=q00 hF
 refine sr ?_
 refine RS.q (u:=.ptr 0 0 0) rfl (q19 und25 rfl (q02 inf23) rfl rfl rfl) (RS.q (u:=.isl false (List.map cGNode p1.Nodes)) rfl (q0d und23 rfl rfl rfl rfl) (RS.mv rfl rfl rfl rfl (RS.q (u:=.iptr (cGNode x40)) rfl (q2a rfl rfl (q3f cGNode und23 (q02 inf43) q1o h41 rfl)) (RS.q (u:=.iptr [.isl false (List.map cGArc x40.Arcs)]) rfl (q9b und43 rfl (q02 inf41) rfl rfl) (RS.q (u:=.isl false (List.map cGArc x40.Arcs)) rfl (q56 und41 rfl rfl rfl) (RS.q rfl (q1a rfl rfl rfl (q10 cGArc und41)) (RS.q rfl (q05 rfl rfl (ix_sub _ _ _) rfl) ?_)))))))
 refine sd ?_
 refine WPU.ghost (tm':=fr 136 [(2,.ptr 0 0 0),(4,.ptr 1 0 0),(5,.int .i64 (p1.Nodes.length:Int)),(6,.sl 2 0 ((p1.Nodes.length:Int).toNat) ((p1.Nodes.length:Int).toNat)),(13,.ptr 4 0 0),(14,.int .i64 z29),(15,.ptr 5 0 0),(16,.int .i64 (IntKind.i64.wrap ((x40.Arcs.length:Int) - 1))),(75,.int .i64 (p1.Nodes.length:Int)),(76,.int .i64 z29)]) (σ':=⟨[(6,.vec (List.map cGArc ([]:List GArc)).flatten 45 2 0),(5,.row [.int .i64 x38.Typex,.vl 6 0 0 (([]:List GArc).length)] 43),(4,.row [.sl 3 0 ((IntKind.i64.wrap ((p1.Nodes.length:Int)+1)).toNat) ((IntKind.i64.wrap ((p1.Nodes.length:Int)+1)).toNat)] 25),(3,.row (List.map cGNode l30).flatten 43),(2,.row (List.map (cI .i64) l21).flatten 3),(1,.row [.nils] 25),(0,.row [.isl false (List.map cGNode p1.Nodes)] 25)],7⟩) (Gh.trans (Gh.nilC 5 1 45 2 (by decide) (Nat.zero_le _) rfl rfl) (Gh.eqS ⟨rfl,rfl,rfl,rfl,rfl,rfl,rfl,rfl,rfl,rfl,trivial⟩ rfl)) (Nat.zero_le _) ?_
 refine WPU.ghost (tm':=fr 136 [(2,.ptr 0 0 0),(4,.ptr 1 0 0),(5,.int .i64 (p1.Nodes.length:Int)),(6,.sl 2 0 ((p1.Nodes.length:Int).toNat) ((p1.Nodes.length:Int).toNat)),(13,.ptr 4 0 0),(14,.int .i64 z29),(15,.ptr 5 0 0),(16,.int .i64 (IntKind.i64.wrap ((x40.Arcs.length:Int) - 1))),(75,.int .i64 (p1.Nodes.length:Int)),(76,.int .i64 z29)]) (Gh.sub ⟨rfl,rfl,rfl,rfl,rfl,rfl,rfl,rfl,rfl,rfl,trivial⟩) (Nat.zero_le _) ?_
 refine WPU.loopK (fun m tm σ=>∃ z53:Int,∃ l54:List GArc,∃ t55:Nat,q2o p1 l21 z29 l30 (q1n p1 n l21 m3) x38 m z53 l54=some r∧tm=fr 136 [(2,.ptr 0 0 0),(4,.ptr 1 0 0),(5,.int .i64 (p1.Nodes.length:Int)),(6,.sl 2 0 ((p1.Nodes.length:Int).toNat) ((p1.Nodes.length:Int).toNat)),(13,.ptr 4 0 0),(14,.int .i64 z29),(15,.ptr 5 0 0),(16,.int .i64 z53),(75,.int .i64 (p1.Nodes.length:Int)),(76,.int .i64 z29)]∧σ=⟨[(6,.vec (List.map cGArc l54).flatten 45 2 t55),(5,.row [.int .i64 x38.Typex,.vl 6 t55 0 l54.length] 43),(4,.row [.sl 3 0 ((IntKind.i64.wrap ((p1.Nodes.length:Int)+1)).toNat) ((IntKind.i64.wrap ((p1.Nodes.length:Int)+1)).toNat)] 25),(3,.row (List.map cGNode l30).flatten 43),(2,.row (List.map (cI .i64) l21).flatten 3),(1,.row [.nils] 25),(0,.row [.isl false (List.map cGNode p1.Nodes)] 25)],7⟩) (fun tm σ=>∃ l56:List GArc,∃ t57:Nat,q38 p1 l21 z29 l30 (q1n p1 n l21 m3) x38 l56=some r∧tm=fr 136 [(2,.ptr 0 0 0),(4,.ptr 1 0 0),(5,.int .i64 (p1.Nodes.length:Int)),(6,.sl 2 0 ((p1.Nodes.length:Int).toNat) ((p1.Nodes.length:Int).toNat)),(13,.ptr 4 0 0),(14,.int .i64 z29),(15,.ptr 5 0 0),(75,.int .i64 (p1.Nodes.length:Int)),(76,.int .i64 z29)]∧σ=⟨[(6,.vec (List.map cGArc l56).flatten 45 2 t57),(5,.row [.int .i64 x38.Typex,.vl 6 t57 0 l56.length] 43),(4,.row [.sl 3 0 ((IntKind.i64.wrap ((p1.Nodes.length:Int)+1)).toNat) ((IntKind.i64.wrap ((p1.Nodes.length:Int)+1)).toNat)] 25),(3,.row (List.map cGNode l30).flatten 43),(2,.row (List.map (cI .i64) l21).flatten 3),(1,.row [.nils] 25),(0,.row [.isl false (List.map cGNode p1.Nodes)] 25)],7⟩) n ⟨(IntKind.i64.wrap ((x40.Arcs.length:Int) - 1)),([]:List GArc),0,hF,rfl,rfl⟩ ?_ ?_
 rintro _ _ ⟨l56,t57,hF,rfl,rfl⟩
 unfold q38 at hF
 refine st ?_
 refine WPU.ghost (tm':=fr 136 [(2,.ptr 0 0 0),(4,.ptr 1 0 0),(5,.int .i64 (p1.Nodes.length:Int)),(6,.sl 2 0 ((p1.Nodes.length:Int).toNat) ((p1.Nodes.length:Int).toNat)),(13,.ptr 4 0 0),(14,.int .i64 z29),(15,.ptr 5 0 0),(75,.int .i64 (p1.Nodes.length:Int)),(76,.int .i64 z29)]) (σ':=⟨[(5,.row [.int .i64 x38.Typex,.isl false (List.map cGArc l56)] 43),(4,.row [.sl 3 0 ((IntKind.i64.wrap ((p1.Nodes.length:Int)+1)).toNat) ((IntKind.i64.wrap ((p1.Nodes.length:Int)+1)).toNat)] 25),(3,.row (List.map cGNode l30).flatten 43),(2,.row (List.map (cI .i64) l21).flatten 3),(1,.row [.nils] 25),(0,.row [.isl false (List.map cGNode p1.Nodes)] 25)],7⟩) (Gh.trans (Gh.sub (l':=[(2,.ptr 0 0 0),(4,.ptr 1 0 0),(5,.int .i64 (p1.Nodes.length:Int)),(6,.sl 2 0 ((p1.Nodes.length:Int).toNat) ((p1.Nodes.length:Int).toNat)),(13,.ptr 4 0 0),(14,.int .i64 z29),(15,.ptr 5 0 0),(75,.int .i64 (p1.Nodes.length:Int)),(76,.int .i64 z29)]) ⟨rfl,rfl,rfl,rfl,rfl,rfl,rfl,rfl,rfl,trivial⟩) (Gh.fzS (l':=[(2,.ptr 0 0 0),(4,.ptr 1 0 0),(5,.int .i64 (p1.Nodes.length:Int)),(6,.sl 2 0 ((p1.Nodes.length:Int).toNat) ((p1.Nodes.length:Int).toNat)),(13,.ptr 4 0 0),(14,.int .i64 z29),(15,.ptr 5 0 0),(75,.int .i64 (p1.Nodes.length:Int)),(76,.int .i64 z29)]) (h':=[(5,.row [.int .i64 x38.Typex,.isl false (List.map cGArc l56)] 43),(4,.row [.sl 3 0 ((IntKind.i64.wrap ((p1.Nodes.length:Int)+1)).toNat) ((IntKind.i64.wrap ((p1.Nodes.length:Int)+1)).toNat)] 25),(3,.row (List.map cGNode l30).flatten 43),(2,.row (List.map (cI .i64) l21).flatten 3),(1,.row [.nils] 25),(0,.row [.isl false (List.map cGNode p1.Nodes)] 25)]) 6 (.vec (List.map cGArc l56).flatten 45 2 t57) 2 rfl (by simp) (by simp only [fzS,oneU,q06,q03,q0i,q08,q0l,q0c,q0b,q0a,q09,q07,q0j,q0k,q0h,q0m,q18,junkT,fz_vl q1f,q3d (show Nat.beq 0 6=false from rfl),q3c (show Nat.beq 0 6=false from rfl),q3b (show Nat.beq 0 6=false from rfl),q3d (show Nat.beq 1 6=false from rfl),q3c (show Nat.beq 1 6=false from rfl),q3b (show Nat.beq 1 6=false from rfl),q3d (show Nat.beq 2 6=false from rfl),q3c (show Nat.beq 2 6=false from rfl),q3b (show Nat.beq 2 6=false from rfl),q3d (show Nat.beq 3 6=false from rfl),q3c (show Nat.beq 3 6=false from rfl),q3b (show Nat.beq 3 6=false from rfl),q3d (show Nat.beq 4 6=false from rfl),q3c (show Nat.beq 4 6=false from rfl),q3b (show Nat.beq 4 6=false from rfl),q3d (show Nat.beq 5 6=false from rfl),q3c (show Nat.beq 5 6=false from rfl),q3b (show Nat.beq 5 6=false from rfl),q28 _ _ _ (q2d 6 (fun q=>q3x _ q) l30),q28 _ _ _ (q2d 6 (fun q=>q7d _ .i64 q) l21)]) (by simp only [fzH,fzB,ug,Nat.beq,cond_true,cond_false,oneU,q06,q03,q0i,q08,q0l,q0c,q0b,q0a,q09,q07,q0j,q0k,q0h,q0m,q18,junkT,fz_vl q1f,q3d (show Nat.beq 0 6=false from rfl),q3c (show Nat.beq 0 6=false from rfl),q3b (show Nat.beq 0 6=false from rfl),q3d (show Nat.beq 1 6=false from rfl),q3c (show Nat.beq 1 6=false from rfl),q3b (show Nat.beq 1 6=false from rfl),q3d (show Nat.beq 2 6=false from rfl),q3c (show Nat.beq 2 6=false from rfl),q3b (show Nat.beq 2 6=false from rfl),q3d (show Nat.beq 3 6=false from rfl),q3c (show Nat.beq 3 6=false from rfl),q3b (show Nat.beq 3 6=false from rfl),q3d (show Nat.beq 4 6=false from rfl),q3c (show Nat.beq 4 6=false from rfl),q3b (show Nat.beq 4 6=false from rfl),q3d (show Nat.beq 5 6=false from rfl),q3c (show Nat.beq 5 6=false from rfl),q3b (show Nat.beq 5 6=false from rfl),q28 _ _ _ (q2d 6 (fun q=>q3x _ q) l30),q28 _ _ _ (q2d 6 (fun q=>q7d _ .i64 q) l21)]))) (Nat.zero_le _) ?_
 refine st ?_
 obtain ⟨x58,h59,hF⟩:=q00 hF
 obtain ⟨x60,h61,hF⟩:=q00 hF
 refine WPU.drawE Try.tb_ok [] (by kernel_rfl) ?_
 refine RD.q (u:=.ptr 4 0 0) rfl (q19 und25 rfl (q02 inf23) rfl rfl rfl) (RD.q (u:=.sl 3 0 ((IntKind.i64.wrap ((p1.Nodes.length:Int)+1)).toNat) ((IntKind.i64.wrap ((p1.Nodes.length:Int)+1)).toNat)) rfl (q0d und23 rfl rfl rfl rfl) ?_)
 repeat refine RD.mv rfl rfl rfl rfl ?_
 refine RD.q (u:=.ptr 2 0 (0*1+z29.toNat*1)) rfl (q2a rfl rfl (q64 und55 (q02 inf3) rfl h59)) (RD.q (u:=.int .i64 x58) rfl (q6p (cI .i64) (fun x=>.int .i64 x) und3 rfl (fun _=>rfl) rfl rfl h59) (RD.q (u:=.agg [.int .i64 x38.Typex,.isl false (List.map cGArc l56)]) rfl (q0p und43 rfl (q02 inf43) rfl rfl rfl) (RD.q (u:=.ptr 3 0 (0*2+x58.toNat*2)) rfl (q2a rfl rfl (q64 und23 (q02 inf43) rfl h61)) (RD.actn (u:=.junk) (σ':=⟨[(5,.row [.int .i64 x38.Typex,.isl false (List.map cGArc l56)] 43),(4,.row [.sl 3 0 ((IntKind.i64.wrap ((p1.Nodes.length:Int)+1)).toNat) ((IntKind.i64.wrap ((p1.Nodes.length:Int)+1)).toNat)] 25),(3,.row (List.map cGNode (l30.set x58.toNat (GNode.mk x38.Typex l56))).flatten 43),(2,.row (List.map (cI .i64) l21).flatten 3),(1,.row [.nils] 25),(0,.row [.isl false (List.map cGNode p1.Nodes)] 25)],7⟩) rfl (st_rl cGNode (q02 inf43) q1o rfl rfl rfl rfl rfl rfl h61 rfl) rfl ?_))))
 refine RD.done ⟨by kernel_rfl,trivial,?_⟩
 refine sr ?_
 refine RS.q rfl (q05 rfl rfl (q3g _ _ _) rfl) (RS.mv rfl rfl rfl rfl ?_)
 refine sd ?_
 exact ⟨m3,_,_,Nat.lt_succ_self _,⟨(IntKind.i64.wrap (z29+1)),(l30.set x58.toNat (GNode.mk x38.Typex l56)),hF,rfl,rfl⟩,(Nat.zero_le _),Gh.toC (n1:=5) ⟨rfl,rfl,rfl,rfl,rfl,rfl,rfl,trivial⟩ rfl (Nat.zero_le _) (by simp)⟩
 rintro m4 _ _ ⟨z53,l54,t55,hF,rfl,rfl⟩
 rcases m4 with _ | m4
 cases hF
 unfold q2o at hF
 refine sr ?_
 refine RS.q rfl (q05 rfl rfl (ix_geq _ _ _) rfl) ?_
 refine sd ?_
 refine WPU.condS (t:=(decide (z53 ≥ 0))) rfl (fun h62=>?_) (fun h62=>?_)
 replace hF:=q0o h62 hF
 refine st ?_
 refine WPU.skip ?_
 refine st ?_
 refine WPU.block ?_
 refine st ?_
 obtain ⟨x63,h64,hF⟩:=q00 hF
 obtain ⟨x65,h66,hF⟩:=q00 hF
 refine sr ?_
 refine RS.q (u:=.ptr 0 0 0) rfl (q19 und25 rfl (q02 inf23) rfl rfl rfl) (RS.q (u:=.isl false (List.map cGNode p1.Nodes)) rfl (q0d und23 rfl rfl rfl rfl) (RS.mv rfl rfl rfl rfl (RS.q (u:=.iptr (cGNode x63)) rfl (q2a rfl rfl (q3f cGNode und23 (q02 inf43) q1o h64 rfl)) (RS.q (u:=.iptr [.isl false (List.map cGArc x63.Arcs)]) rfl (q9b und43 rfl (q02 inf41) rfl rfl) (RS.q (u:=.isl false (List.map cGArc x63.Arcs)) rfl (q56 und41 rfl rfl rfl) (RS.mv rfl rfl rfl rfl (RS.q (u:=.iptr (cGArc x65)) rfl (q2a rfl rfl (q3f cGArc und41 (q02 inf45) q1f h66 rfl)) ?_)))))))
 refine RS.q (u:=.agg (cGArc x65)) rfl (q84 und45 rfl (q02 inf45) rfl rfl) (RS.q (u:=.ptr 7 0 0) (σ':=⟨[(7,.row [.int .i64 0,.int .i64 0] 45),(6,.vec (List.map cGArc l54).flatten 45 2 t55),(5,.row [.int .i64 x38.Typex,.vl 6 t55 0 l54.length] 43),(4,.row [.sl 3 0 ((IntKind.i64.wrap ((p1.Nodes.length:Int)+1)).toNat) ((IntKind.i64.wrap ((p1.Nodes.length:Int)+1)).toNat)] 25),(3,.row (List.map cGNode l30).flatten 43),(2,.row (List.map (cI .i64) l21).flatten 3),(1,.row [.nils] 25),(0,.row [.isl false (List.map cGNode p1.Nodes)] 25)],8⟩) rfl (q0z inf45 rfl rfl) (RS.opn (u:=.junk) (σ':=⟨[(7,.row (cGArc x65) 45),(6,.vec (List.map cGArc l54).flatten 45 2 t55),(5,.row [.int .i64 x38.Typex,.vl 6 t55 0 l54.length] 43),(4,.row [.sl 3 0 ((IntKind.i64.wrap ((p1.Nodes.length:Int)+1)).toNat) ((IntKind.i64.wrap ((p1.Nodes.length:Int)+1)).toNat)] 25),(3,.row (List.map cGNode l30).flatten 43),(2,.row (List.map (cI .i64) l21).flatten 3),(1,.row [.nils] 25),(0,.row [.isl false (List.map cGNode p1.Nodes)] 25)],8⟩) rfl (q0q (q02 inf45) rfl rfl rfl rfl rfl rfl rfl rfl) rfl ?_))
 refine sd ?_
 obtain ⟨x67,h68,hF⟩:=q00 hF
 obtain ⟨h69,hF⟩:=q29 hF
 refine WPU.drawE Try.tb_ok [(0,10),(1,10)] (by kernel_rfl) ?_
 refine RD.q (u:=.ptr 5 0 1) rfl (q19 und43 rfl (q02 inf41) rfl rfl rfl) (RD.q (u:=.vl 6 t55 0 l54.length) rfl (q0d und41 rfl rfl rfl rfl) (RD.q (u:=.ptr 7 0 0) rfl (q19 und45 rfl (q02 inf3) rfl rfl rfl) (RD.q (u:=.int .i64 x65.Feat) rfl (q0d und3 rfl rfl rfl rfl) (RD.mv rfl rfl rfl rfl (RD.q (u:=.ptr 7 0 1) rfl (q19 und45 rfl (q02 inf3) rfl rfl rfl) (RD.q (u:=.int .i64 x65.To) rfl (q0d und3 rfl rfl rfl rfl) (RD.q (u:=.ptr 2 0 (0*1+x65.To.toNat*1)) rfl (q2a rfl rfl (q64 und55 (q02 inf3) rfl h68)) ?_)))))))
 refine RD.q (u:=.int .i64 x67) rfl (q6p (cI .i64) (fun x=>.int .i64 x) und3 rfl (fun _=>rfl) rfl rfl h68) (RD.q (u:=.agg [.int .i64 x65.Feat,.int .i64 x67]) rfl (q5x bd45 rfl rfl rfl) (RD.act (u:=.sl 8 0 1 1) (σ':=⟨[(8,.row [.int .i64 x65.Feat,.int .i64 x67] 45),(7,.row (cGArc x65) 45),(6,.vec (List.map cGArc l54).flatten 45 2 t55),(5,.row [.int .i64 x38.Typex,.vl 6 t55 0 l54.length] 43),(4,.row [.sl 3 0 ((IntKind.i64.wrap ((p1.Nodes.length:Int)+1)).toNat) ((IntKind.i64.wrap ((p1.Nodes.length:Int)+1)).toNat)] 25),(3,.row (List.map cGNode l30).flatten 43),(2,.row (List.map (cI .i64) l21).flatten 3),(1,.row [.nils] 25),(0,.row [.isl false (List.map cGNode p1.Nodes)] 25)],9⟩) rfl (q21 und41 inf45 rfl rfl rfl rfl rfl rfl rfl) rfl rfl (RD.act (u:=.vl 6 (t55+1) 0 ((l54++[(GArc.mk x65.Feat x67)]).length)) (σ':=⟨[(8,.row [.int .i64 x65.Feat,.int .i64 x67] 45),(7,.row (cGArc x65) 45),(6,.vec (List.map cGArc (l54++[(GArc.mk x65.Feat x67)])).flatten 45 2 (t55+1)),(5,.row [.int .i64 x38.Typex,.vl 6 t55 0 l54.length] 43),(4,.row [.sl 3 0 ((IntKind.i64.wrap ((p1.Nodes.length:Int)+1)).toNat) ((IntKind.i64.wrap ((p1.Nodes.length:Int)+1)).toNat)] 25),(3,.row (List.map cGNode l30).flatten 43),(2,.row (List.map (cI .i64) l21).flatten 3),(1,.row [.nils] 25),(0,.row [.isl false (List.map cGNode p1.Nodes)] 25)],9⟩) rfl (op_app rfl rfl rfl rfl (app_vl cGArc ([(GArc.mk x65.Feat x67)]) und41 und41 inf45 rfl q1f rfl (q8z cGArc [(GArc.mk x65.Feat x67)] rfl rfl rfl rfl) h69)) rfl rfl (RD.q (u:=.ptr 5 0 1) rfl (q19 und43 rfl (q02 inf41) rfl rfl rfl) (RD.actn (u:=.junk) (σ':=⟨[(8,.row [.int .i64 x65.Feat,.int .i64 x67] 45),(7,.row (cGArc x65) 45),(6,.vec (List.map cGArc (l54++[(GArc.mk x65.Feat x67)])).flatten 45 2 (t55+1)),(5,.row [.int .i64 x38.Typex,.vl 6 (t55+1) 0 ((l54++[(GArc.mk x65.Feat x67)]).length)] 43),(4,.row [.sl 3 0 ((IntKind.i64.wrap ((p1.Nodes.length:Int)+1)).toNat) ((IntKind.i64.wrap ((p1.Nodes.length:Int)+1)).toNat)] 25),(3,.row (List.map cGNode l30).flatten 43),(2,.row (List.map (cI .i64) l21).flatten 3),(1,.row [.nils] 25),(0,.row [.isl false (List.map cGNode p1.Nodes)] 25)],9⟩) rfl (q0q (q02 inf41) rfl rfl rfl rfl rfl rfl rfl rfl) rfl ?_)))))
 refine RD.done ⟨by kernel_rfl,⟨q19 und43 rfl (q02 inf41) rfl rfl rfl,⟨q0d und41 rfl rfl rfl rfl,trivial⟩⟩,?_⟩
 refine sr ?_
 refine RS.q rfl (q05 rfl rfl (ix_sub _ _ _) rfl) ?_
 refine sd ?_
 exact ⟨m4,_,_,Nat.lt_succ_self _,⟨(IntKind.i64.wrap (z53 - 1)),(l54++[(GArc.mk x65.Feat x67)]),(t55+1),hF,rfl,rfl⟩,(Nat.zero_le _),Gh.toC (n1:=7) ⟨rfl,rfl,rfl,rfl,rfl,rfl,rfl,rfl,rfl,rfl,trivial⟩ rfl (Nat.zero_le _) (by simp)⟩
 replace hF:=q0n h62 hF
 refine st ?_
 refine WPU.exit ?_
 refine st ?_
 exact ⟨_,_,⟨l54,t55,hF,rfl,rfl⟩,(Nat.zero_le _),Gh.toC (n1:=7) ⟨rfl,rfl,rfl,rfl,rfl,rfl,rfl,rfl,rfl,trivial⟩ rfl (Nat.zero_le _) (by simp)⟩
 replace hF:=q0n h37 hF
 refine st ?_
 refine WPU.exit ?_
 refine st ?_
 exact ⟨_,_,⟨l30,hF,rfl,rfl⟩,(Nat.zero_le _),Gh.toC (n1:=5) ⟨rfl,rfl,rfl,trivial⟩ rfl (Nat.zero_le _) (by simp)⟩
 rintro m2 _ _ ⟨z19,l20,hF,rfl,rfl⟩
 rcases m2 with _ | m2
 cases hF
 unfold q1w at hF
 refine sr ?_
 refine RS.q rfl (q05 rfl rfl (q2l _ _ _) rfl) ?_
 refine sd ?_
 refine WPU.condS (t:=(decide (z19<(p2.length:Int)))) rfl (fun h70=>?_) (fun h70=>?_)
 replace hF:=q0o h70 hF
 refine st ?_
 refine WPU.skip ?_
 refine st ?_
 refine WPU.block ?_
 refine st ?_
 obtain ⟨x71,h72,hF⟩:=q00 hF
 refine sr ?_
 refine RS.q (u:=.iptr [.int .u8 x71]) rfl (q2a rfl rfl (q3f (cI .u8) und37 (q02 inf5) (q5n .u8) h72 rfl)) (RS.q (u:=.int .u8 x71) rfl (q56 und5 rfl rfl rfl) ?_)
 repeat refine RS.as rfl rfl rfl rfl ?_
 refine se ?_
 refine RS.q rfl (q05 rfl rfl (qac _ _ _) rfl) ?_
 refine sd ?_
 refine WPU.joinK (fun tm σ=>∃ l74:List Int,q2m z19 (q1w p1 p2 n m2) l74=some r∧tm=fr 136 [(2,.ptr 0 0 0),(4,.ptr 1 0 0),(5,.int .i64 (p1.Nodes.length:Int)),(6,.sl 2 0 ((p1.Nodes.length:Int).toNat) ((p1.Nodes.length:Int).toNat)),(33,.isl false (List.map (cI .u8) p2)),(34,.int .i64 (p2.length:Int)),(35,.int .i64 z19)]∧σ=⟨[(2,.row (List.map (cI .i64) l74).flatten 3),(1,.row [.nils] 25),(0,.row [.isl false (List.map cGNode p1.Nodes)] 25)],3⟩) ?_ ?_
 rintro _ _ ⟨l74,hF,rfl,rfl⟩
 unfold q2m at hF
 refine sr ?_
 refine RS.q rfl (q05 rfl rfl (q3g _ _ _) rfl) (RS.mv rfl rfl rfl rfl ?_)
 refine sd ?_
 exact ⟨m2,_,_,Nat.lt_succ_self _,⟨(IntKind.i64.wrap (z19+1)),l74,hF,rfl,rfl⟩,(Nat.zero_le _),Gh.toC (n1:=3) ⟨rfl,rfl,rfl,rfl,rfl,rfl,rfl,trivial⟩ rfl (Nat.zero_le _) (by simp)⟩
 refine WPU.condS (t:=(decide ((p1.Nodes.length:Int) > 1))) rfl (fun h73=>?_) (fun h73=>?_)
 replace hF:=q0o h73 hF
 refine st ?_
 obtain ⟨h75,hF⟩:=q29 hF
 obtain ⟨h76,hF⟩:=q29 hF
 refine WPU.drawE Try.tb_ok [] (by kernel_rfl) ?_
 repeat refine RD.mv rfl rfl rfl rfl ?_
 refine RD.q rfl (q05 rfl rfl (ix_sub _ _ _) rfl) (RD.q rfl (q05 rfl rfl (ix_rem _ h75) rfl) (RD.q rfl (q05 rfl rfl (q3g _ _ _) rfl) (RD.mv rfl rfl rfl rfl ?_)))
 refine RD.q (u:=.int .i64 (IntKind.i64.wrap x71)) rfl (op_conv rfl rfl (by simp only [convX,und5,und3]<;>rfl) rfl) ?_
 refine RD.mv rfl rfl rfl rfl (RD.q rfl (q05 rfl rfl (ix_sub _ _ _) rfl) (RD.q rfl (q05 rfl rfl (ix_rem _ h76) rfl) (RD.q rfl (q05 rfl rfl (q3g _ _ _) rfl) ?_)))
 repeat refine RD.as rfl rfl rfl rfl ?_
 refine RD.done ⟨by kernel_rfl,trivial,?_⟩
 refine st ?_
 obtain ⟨x77,h78,hF⟩:=q00 hF
 refine sr ?_
 repeat refine RS.mv rfl rfl rfl rfl ?_
 refine RS.q (u:=.ptr 2 0 (0*1+(IntKind.i64.wrap (1+(z19.tmod (IntKind.i64.wrap ((p1.Nodes.length:Int) - 1))))).toNat*1)) rfl (q2a rfl rfl (q64 und55 (q02 inf3) rfl h78)) (RS.q (u:=.int .i64 x77) rfl (q6p (cI .i64) (fun x=>.int .i64 x) und3 rfl (fun _=>rfl) rfl rfl h78) ?_)
 refine sd ?_
 obtain ⟨x79,h80,hF⟩:=q00 hF
 obtain ⟨x81,h82,hF⟩:=q00 hF
 refine sr ?_
 repeat refine RS.mv rfl rfl rfl rfl ?_
 refine RS.q (u:=.ptr 2 0 (0*1+(IntKind.i64.wrap (1+((IntKind.i64.wrap x71).tmod (IntKind.i64.wrap ((p1.Nodes.length:Int) - 1))))).toNat*1)) rfl (q2a rfl rfl (q64 und55 (q02 inf3) rfl h80)) (RS.q (u:=.int .i64 x79) rfl (q6p (cI .i64) (fun x=>.int .i64 x) und3 rfl (fun _=>rfl) rfl rfl h80) (RS.q (u:=.ptr 2 0 (0*1+(IntKind.i64.wrap (1+(z19.tmod (IntKind.i64.wrap ((p1.Nodes.length:Int) - 1))))).toNat*1)) rfl (q2a rfl rfl (q64 und55 (q02 inf3) rfl h82)) (RS.opn (u:=.junk) (σ':=⟨[(2,.row (List.map (cI .i64) (l20.set (IntKind.i64.wrap (1+(z19.tmod (IntKind.i64.wrap ((p1.Nodes.length:Int) - 1))))).toNat x79)).flatten 3),(1,.row [.nils] 25),(0,.row [.isl false (List.map cGNode p1.Nodes)] 25)],3⟩) rfl (st_rl (cI .i64) (q02 inf3) (q5n .i64) rfl rfl rfl rfl rfl rfl h82 rfl) rfl ?_)))
 refine sd ?_
 obtain ⟨x83,h84,hF⟩:=q00 hF
 refine sr ?_
 repeat refine RS.mv rfl rfl rfl rfl ?_
 refine RS.q (u:=.ptr 2 0 (0*1+(IntKind.i64.wrap (1+((IntKind.i64.wrap x71).tmod (IntKind.i64.wrap ((p1.Nodes.length:Int) - 1))))).toNat*1)) rfl (q2a rfl rfl (q64 und55 (q02 inf3) rfl h84)) (RS.opn (u:=.junk) (σ':=⟨[(2,.row (List.map (cI .i64) ((l20.set (IntKind.i64.wrap (1+(z19.tmod (IntKind.i64.wrap ((p1.Nodes.length:Int) - 1))))).toNat x79).set (IntKind.i64.wrap (1+((IntKind.i64.wrap x71).tmod (IntKind.i64.wrap ((p1.Nodes.length:Int) - 1))))).toNat x77)).flatten 3),(1,.row [.nils] 25),(0,.row [.isl false (List.map cGNode p1.Nodes)] 25)],3⟩) rfl (st_rl (cI .i64) (q02 inf3) (q5n .i64) rfl rfl rfl rfl rfl rfl h84 rfl) rfl ?_)
 refine sd ?_
 exact ⟨_,_,⟨((l20.set (IntKind.i64.wrap (1+(z19.tmod (IntKind.i64.wrap ((p1.Nodes.length:Int) - 1))))).toNat x79).set (IntKind.i64.wrap (1+((IntKind.i64.wrap x71).tmod (IntKind.i64.wrap ((p1.Nodes.length:Int) - 1))))).toNat x77),hF,rfl,rfl⟩,(Nat.zero_le _),Gh.toC (n1:=3) ⟨rfl,rfl,rfl,rfl,rfl,rfl,rfl,trivial⟩ rfl (Nat.zero_le _) (by simp)⟩
 replace hF:=q0n h73 hF
 refine st ?_
 refine WPU.skip ?_
 refine st ?_
 exact ⟨_,_,⟨l20,hF,rfl,rfl⟩,(Nat.zero_le _),Gh.toC (n1:=3) ⟨rfl,rfl,rfl,rfl,rfl,rfl,rfl,trivial⟩ rfl (Nat.zero_le _) (by simp)⟩
 replace hF:=q0n h70 hF
 refine st ?_
 refine WPU.exit ?_
 refine st ?_
 exact ⟨_,_,⟨l20,hF,rfl,rfl⟩,(Nat.zero_le _),Gh.toC (n1:=3) ⟨rfl,rfl,rfl,rfl,trivial⟩ rfl (Nat.zero_le _) (by simp)⟩
 rintro m1 _ _ ⟨z10,l11,hF,rfl,rfl⟩
 rcases m1 with _ | m1
 cases hF
 unfold q2n at hF
 refine sr ?_
 refine RS.q rfl (q05 rfl rfl (q2l _ _ _) rfl) ?_
 refine sd ?_
 refine WPU.condS (t:=(decide (z10<(((p1.Nodes.length:Int).toNat:Nat):Int)))) rfl (fun h85=>?_) (fun h85=>?_)
 replace hF:=q0o h85 hF
 refine st ?_
 refine WPU.skip ?_
 refine st ?_
 refine WPU.block ?_
 refine sr ?_
 refine sd ?_
 obtain ⟨x86,h87,hF⟩:=q00 hF
 refine sr ?_
 repeat refine RS.mv rfl rfl rfl rfl ?_
 refine RS.q (u:=.ptr 2 0 (0*1+z10.toNat*1)) rfl (q2a rfl rfl (q64 und55 (q02 inf3) rfl h87)) (RS.opn (u:=.junk) (σ':=⟨[(2,.row (List.map (cI .i64) (l11.set z10.toNat z10)).flatten 3),(1,.row [.nils] 25),(0,.row [.isl false (List.map cGNode p1.Nodes)] 25)],3⟩) rfl (st_rl (cI .i64) (q02 inf3) (q5n .i64) rfl rfl rfl rfl rfl rfl h87 rfl) rfl ?_)
 refine se ?_
 refine RS.q rfl (q05 rfl rfl (q3g _ _ _) rfl) (RS.mv rfl rfl rfl rfl ?_)
 refine sd ?_
 exact ⟨m1,_,_,Nat.lt_succ_self _,⟨(IntKind.i64.wrap (z10+1)),(l11.set z10.toNat z10),hF,rfl,rfl⟩,(Nat.zero_le _),Gh.toC (n1:=3) ⟨rfl,rfl,rfl,rfl,rfl,rfl,rfl,trivial⟩ rfl (Nat.zero_le _) (by simp)⟩
 replace hF:=q0n h85 hF
 refine st ?_
 refine WPU.exit ?_
 refine st ?_
 exact ⟨_,_,⟨l11,hF,rfl,rfl⟩,(Nat.zero_le _),Gh.toC (n1:=3) ⟨rfl,rfl,rfl,rfl,rfl,trivial⟩ rfl (Nat.zero_le _) (by simp)⟩
theorem q8q (n:Nat) (p1:GFS) (p2:List Int) (r:GFS) (hF:q3n n p1 p2=some r) (σ:Sg):EvU Try.prog 27 [.agg [.isl false (List.map cGNode p1.Nodes)],.isl false (List.map (cI .u8) p2)] σ (fun u σ'=>u = .agg [.isl false (List.map cGNode r.Nodes)]∧σ'=σ) :=
 EvU.pure1C (q99 n p1 p2 r hF) σ
def q4x (n:Nat) (p1:List GNode):Option (GFS) :=
 some (GFS.mk p1)
theorem law07_of_0 (n:Nat) (p1:List GNode) (r:GFS) (hF:q4x n p1=some r):EvU Try.prog 32 [.isl false (List.map cGNode p1)] ⟨[],0⟩ (fun u _=>u = .agg [.isl false (List.map cGNode r.Nodes)]∧Bel 0 u):=by
 unfold q4x at hF
 refine EvU.of_body Try.tb_ok fn32 rfl ?_
 refine WPU.ghost (tm':=fr 5 [(0,.isl false (List.map cGNode p1))]) (Gh.start (Nat.le_of_ble_eq_true rfl)) (Nat.zero_le _) ?_
 refine sr ?_
 refine RS.q (u:=.ptr 0 0 0) (σ':=⟨[(0,.row [.nils] 25)],1⟩) rfl (q0z inf25 rfl rfl) ?_
 refine se ?_
 refine RS.q (u:=.agg [.isl false (List.map cGNode p1)]) rfl (q5x bd25 rfl rfl rfl) (RS.opn (u:=.junk) (σ':=⟨[(0,.row [.isl false (List.map cGNode p1)] 25)],1⟩) rfl (q0q (q02 inf25) rfl rfl rfl rfl rfl rfl rfl rfl) rfl ?_)
 refine sd ?_
 refine WPU.ret ?_
 refine st ?_
 have hr:=Option.some.inj hF
 subst hr
 exact ⟨.inr rfl,[.agg [.isl false (List.map cGNode p1)]],res_c (q0p und25 rfl (q02 inf25) rfl rfl rfl) (q1v),.agg [.isl false (List.map cGNode p1)],⟨[],0⟩,Nat.le_refl _,Gh.toR (.agg [.isl false (List.map cGNode p1)]) rfl,rfl,BU.h⟩
theorem q16 (n:Nat) (p1:List GNode) (r:GFS) (hF:q4x n p1=some r) (σ:Sg):EvU Try.prog 32 [.isl false (List.map cGNode p1)] σ (fun u σ'=>u = .agg [.isl false (List.map cGNode r.Nodes)]∧σ'=σ) :=
 EvU.pure1C (law07_of_0 n p1 r hF) σ
def q1r (n:Nat)  : Option (Bool) :=
 bindO (q1c n 1 ([0,2,1,1])) fun r1 =>
 bindO (q1c n 2 []) fun r3 =>
 bindO (q1c n 3 ([0,1])) fun r5 =>
 bindO (q4x n ([r1,r3,r5])) fun r7 =>
 bindO (q2p n r7) fun r9 =>
 bindO (q1c n 4 ([7,2,3,1])) fun r11 =>
 bindO (q1c n 5 []) fun r13 =>
 bindO (q1c n 6 ([2,0])) fun r15 =>
 bindO (q4x n ([r11,r13,r15])) fun r17 =>
 bindO (q2p n r17) fun r19 =>
 bindO (cond (r9.2 != 0)
  (some true)
  (cond (r19.2 != 0)
   (some true)
   (bindO (q1c n 1 ([0,1,1,2])) fun r23 =>
   bindO (q1c n 3 ([0,2])) fun r25 =>
   bindO (q1c n 2 []) fun r27 =>
   bindO (q4x n ([r23,r25,r27])) fun r29 =>
   bindO (q2r n (GFS.mk r9.1.Nodes) r29) fun r31 =>
   cond (!r31)
    (some true)
    (bindO (q1c n 4 ([3,1,7,2])) fun r34 =>
    bindO (q1c n 5 []) fun r36 =>
    bindO (q1c n 6 ([2,0])) fun r38 =>
    bindO (q4x n ([r34,r36,r38])) fun r40 =>
    bindO (q2r n (GFS.mk r19.1.Nodes) r40) fun r42 =>
    some (!r42))))) fun b44 =>
 cond b44
  (some false)
  (bindO (q2p n (GFS.mk [])) fun r47 =>
  bindO (cond (r47.2 == 1)
   (bindO (q7z n (GFS.mk r9.1.Nodes) 1) fun r50 =>
   bindO (q1c n 3 ([0,1])) fun r52 =>
   bindO (q1c n 2 []) fun r54 =>
   bindO (q4x n ([r52,r54])) fun r56 =>
   bindO (q2r n r50 r56) fun r58 =>
   cond r58
    (bindO (q1c n 1 ([5,0])) fun r61 =>
    bindO (q4x n ([r61])) fun r63 =>
    bindO (q55 n r63) fun r65 =>
    cond r65
     (bindO (q55 n (GFS.mk r9.1.Nodes)) fun r68 =>
     cond (!r68)
      (bindO (q62 n 4) fun r71 =>
      bindO (q1c n 4 []) fun r73 =>
      bindO (q4x n ([r73])) fun r75 =>
      bindO (q2r n r71 r75) fun r77 =>
      cond r77
       (bindO (q69 n (GFS.mk r9.1.Nodes) (GFS.mk r9.1.Nodes)) fun r80 =>
       cond r80
        (bindO (q62 n 9) fun r83 =>
        bindO (q4l n r83 (GFS.mk r9.1.Nodes)) fun r85 =>
        some (r85 == (-1)))
        (some false))
       (some false))
      (some false))
     (some false))
    (some false))
   (some false)) fun b87 =>
  some b87)
theorem q7c (n:Nat)  (r:Bool) (hF:q1r n  = some r):EvU Try.prog 16 [] ⟨[],0⟩ (fun u _=>u = .bool r∧Bel 0 u):=by
 unfold q1r at hF
 refine EvU.of_body Try.tb_ok fn16 rfl ?_
 refine WPU.ghost (tm':=fr 106 []) (Gh.start (Nat.le_of_ble_eq_true rfl)) (Nat.zero_le _) ?_
 refine sr ?_
 refine sd ?_
 obtain ⟨r1,h2,hF⟩:=q00 hF
 obtain ⟨r3,h4,hF⟩:=q00 hF
 obtain ⟨r5,h6,hF⟩:=q00 hF
 obtain ⟨r7,h8,hF⟩:=q00 hF
 obtain ⟨r9,h10,hF⟩:=q00 hF
 refine sr ?_
 refine RS.q (u:=.sl 0 0 4 4) (σ':=⟨[(0,.row [.int .i64 0,.int .i64 2,.int .i64 1,.int .i64 1] 3)],1⟩) rfl (q21 und55 inf3 rfl rfl rfl rfl rfl rfl rfl) ?_
 refine RS.fcall (u:=.agg (cGNode r1)) (args:=[.int .i64 1,.sl 0 0 4 4]) (σ1:=⟨[],1⟩) rfl (q01 rfl rfl fn29 hb29 rfl rfl) (Gh.fz (tm':=[.int .i64 1,.isl false (List.map (cI .i64) ([0,2,1,1]))]) (h':=[]) 0 (.row [.int .i64 0,.int .i64 2,.int .i64 1,.int .i64 1] 3) 1 rfl (by simp) (by simp only [oneU,q06,q03,q0i,q08,q0l,q0c,q0b,q0a,q09,q07,q0j,q0k,q0h,q0m,q18,junkT,q1q,q1t,Nat.reduceLeDiff,Nat.reduceMul,List.length_cons,List.length_nil,Nat.reduceAdd]<;>simp only [chunks,List.take,List.drop,List.map,cI,cB,cS,cL]) (by simp only [fzH,fzB,ug,Nat.beq,cond_true,cond_false,oneU,q06,q03,q0i,q08,q0l,q0c,q0b,q0a,q09,q07,q0j,q0k,q0h,q0m,q18,junkT,q1q,q1t,Nat.reduceLeDiff,Nat.reduceMul,List.length_cons,List.length_nil,Nat.reduceAdd]<;>simp only [chunks,List.take,List.drop,List.map,cI,cB,cS,cL])) (Nat.le_of_ble_eq_true rfl) (q04 n 1 ([0,2,1,1]) r1 h2 _) rfl rfl ?_
 refine RS.call (u:=.agg (cGNode r3)) (args:=[.int .i64 2,.nils]) rfl (q01 rfl rfl fn29 hb29 rfl rfl) (EvU.wkA (args':=[.int .i64 2,.isl false []]) (.cons (.refl _) (.cons (.nil false) .nil)) (fun s=>q04 n 2 [] r3 h4 s) _) rfl rfl (RS.q (u:=.sl 1 0 2 2) (σ':=⟨[(1,.row [.int .i64 0,.int .i64 1] 3)],2⟩) rfl (q21 und55 inf3 rfl rfl rfl rfl rfl rfl rfl) ?_)
 refine RS.fcall (u:=.agg (cGNode r5)) (args:=[.int .i64 3,.sl 1 0 2 2]) (σ1:=⟨[],2⟩) rfl (q01 rfl rfl fn29 hb29 rfl rfl) (Gh.fz (tm':=[.int .i64 3,.isl false (List.map (cI .i64) ([0,1]))]) (h':=[]) 1 (.row [.int .i64 0,.int .i64 1] 3) 1 rfl (by simp) (by simp only [oneU,q06,q03,q0i,q08,q0l,q0c,q0b,q0a,q09,q07,q0j,q0k,q0h,q0m,q18,junkT,q1q,q1t,Nat.reduceLeDiff,Nat.reduceMul,List.length_cons,List.length_nil,Nat.reduceAdd]<;>simp only [chunks,List.take,List.drop,List.map,cI,cB,cS,cL]) (by simp only [fzH,fzB,ug,Nat.beq,cond_true,cond_false,oneU,q06,q03,q0i,q08,q0l,q0c,q0b,q0a,q09,q07,q0j,q0k,q0h,q0m,q18,junkT,q1q,q1t,Nat.reduceLeDiff,Nat.reduceMul,List.length_cons,List.length_nil,Nat.reduceAdd]<;>simp only [chunks,List.take,List.drop,List.map,cI,cB,cS,cL])) (Nat.le_of_ble_eq_true rfl) (q04 n 3 ([0,1]) r5 h6 _) rfl rfl ?_
 refine RS.q (u:=.sl 2 0 3 3) (σ':=⟨[(2,.row [.int .i64 r1.Typex,.isl false (List.map cGArc r1.Arcs),.int .i64 r3.Typex,.isl false (List.map cGArc r3.Arcs),.int .i64 r5.Typex,.isl false (List.map cGArc r5.Arcs)] 43)],3⟩) rfl (q21 und23 inf43 rfl rfl rfl rfl rfl rfl rfl) ?_
 refine RS.fcall (u:=.agg [.isl false (List.map cGNode r7.Nodes)]) (args:=[.sl 2 0 3 3]) (σ1:=⟨[],3⟩) rfl (q01 rfl rfl fn32 hb32 rfl rfl) (Gh.fz (tm':=[.isl false (List.map cGNode ([r1,r3,r5]))]) (h':=[]) 2 (.row [.int .i64 r1.Typex,.isl false (List.map cGArc r1.Arcs),.int .i64 r3.Typex,.isl false (List.map cGArc r3.Arcs),.int .i64 r5.Typex,.isl false (List.map cGArc r5.Arcs)] 43) 2 rfl (by simp) (by simp only [oneU,q06,q03,q0i,q08,q0l,q0c,q0b,q0a,q09,q07,q0j,q0k,q0h,q0m,q18,junkT,q1q,q1t,Nat.reduceLeDiff,Nat.reduceMul,List.length_cons,List.length_nil,Nat.reduceAdd]<;>simp only [chunks,List.take,List.drop,List.map,cGNode]) (by simp only [fzH,fzB,ug,Nat.beq,cond_true,cond_false,oneU,q06,q03,q0i,q08,q0l,q0c,q0b,q0a,q09,q07,q0j,q0k,q0h,q0m,q18,junkT,q1q,q1t,Nat.reduceLeDiff,Nat.reduceMul,List.length_cons,List.length_nil,Nat.reduceAdd]<;>simp only [chunks,List.take,List.drop,List.map,cGNode])) (Nat.le_of_ble_eq_true rfl) (q16 n ([r1,r3,r5]) r7 h8 _) rfl rfl ?_
 refine RS.call (u:=.tup [.agg [.isl false (List.map cGNode r9.1.Nodes)],.int .i64 r9.2]) (args:=[.agg [.isl false (List.map cGNode r7.Nodes)]]) rfl (q01 rfl rfl fn13 hb13 rfl rfl) (q3m n r7 r9 h10 _) rfl rfl (RS.mv rfl rfl rfl rfl (RS.q rfl (q5y rfl rfl) (RS.q rfl (q5y rfl rfl) (RS.q (u:=.ptr 3 0 0) (σ':=⟨[(3,.row [.nils] 25)],4⟩) rfl (q0z inf25 rfl rfl) (RS.opn (u:=.junk) (σ':=⟨[(3,.row [.isl false (List.map cGNode r9.1.Nodes)] 25)],4⟩) rfl (q0q (q02 inf25) rfl rfl rfl rfl rfl rfl rfl rfl) rfl ?_)))))
 refine sd ?_
 obtain ⟨r11,h12,hF⟩:=q00 hF
 obtain ⟨r13,h14,hF⟩:=q00 hF
 obtain ⟨r15,h16,hF⟩:=q00 hF
 obtain ⟨r17,h18,hF⟩:=q00 hF
 obtain ⟨r19,h20,hF⟩:=q00 hF
 refine sr ?_
 refine RS.q (u:=.sl 4 0 4 4) (σ':=⟨[(4,.row [.int .i64 7,.int .i64 2,.int .i64 3,.int .i64 1] 3),(3,.row [.isl false (List.map cGNode r9.1.Nodes)] 25)],5⟩) rfl (q21 und55 inf3 rfl rfl rfl rfl rfl rfl rfl) ?_
 refine RS.fcall (u:=.agg (cGNode r11)) (args:=[.int .i64 4,.sl 4 0 4 4]) (σ1:=⟨[(3,.row [.isl false (List.map cGNode r9.1.Nodes)] 25)],5⟩) rfl (q01 rfl rfl fn29 hb29 rfl rfl) (Gh.fz (tm':=[.int .i64 4,.isl false (List.map (cI .i64) ([7,2,3,1]))]) (h':=[(3,.row [.isl false (List.map cGNode r9.1.Nodes)] 25)]) 4 (.row [.int .i64 7,.int .i64 2,.int .i64 3,.int .i64 1] 3) 1 rfl (by simp) (by simp only [oneU,q06,q03,q0i,q08,q0l,q0c,q0b,q0a,q09,q07,q0j,q0k,q0h,q0m,q18,junkT,q1q,q1t,Nat.reduceLeDiff,Nat.reduceMul,List.length_cons,List.length_nil,Nat.reduceAdd]<;>simp only [chunks,List.take,List.drop,List.map,cI,cB,cS,cL]) (by simp only [fzH,fzB,ug,Nat.beq,cond_true,cond_false,oneU,q06,q03,q0i,q08,q0l,q0c,q0b,q0a,q09,q07,q0j,q0k,q0h,q0m,q18,junkT,q1q,q1t,Nat.reduceLeDiff,Nat.reduceMul,List.length_cons,List.length_nil,Nat.reduceAdd]<;>simp only [chunks,List.take,List.drop,List.map,cI,cB,cS,cL])) (Nat.le_of_ble_eq_true rfl) (q04 n 4 ([7,2,3,1]) r11 h12 _) rfl rfl ?_
 refine RS.call (u:=.agg (cGNode r13)) (args:=[.int .i64 5,.nils]) rfl (q01 rfl rfl fn29 hb29 rfl rfl) (EvU.wkA (args':=[.int .i64 5,.isl false []]) (.cons (.refl _) (.cons (.nil false) .nil)) (fun s=>q04 n 5 [] r13 h14 s) _) rfl rfl (RS.q (u:=.sl 5 0 2 2) (σ':=⟨[(5,.row [.int .i64 2,.int .i64 0] 3),(3,.row [.isl false (List.map cGNode r9.1.Nodes)] 25)],6⟩) rfl (q21 und55 inf3 rfl rfl rfl rfl rfl rfl rfl) ?_)
 refine RS.fcall (u:=.agg (cGNode r15)) (args:=[.int .i64 6,.sl 5 0 2 2]) (σ1:=⟨[(3,.row [.isl false (List.map cGNode r9.1.Nodes)] 25)],6⟩) rfl (q01 rfl rfl fn29 hb29 rfl rfl) (Gh.fz (tm':=[.int .i64 6,.isl false (List.map (cI .i64) ([2,0]))]) (h':=[(3,.row [.isl false (List.map cGNode r9.1.Nodes)] 25)]) 5 (.row [.int .i64 2,.int .i64 0] 3) 1 rfl (by simp) (by simp only [oneU,q06,q03,q0i,q08,q0l,q0c,q0b,q0a,q09,q07,q0j,q0k,q0h,q0m,q18,junkT,q1q,q1t,Nat.reduceLeDiff,Nat.reduceMul,List.length_cons,List.length_nil,Nat.reduceAdd]<;>simp only [chunks,List.take,List.drop,List.map,cI,cB,cS,cL]) (by simp only [fzH,fzB,ug,Nat.beq,cond_true,cond_false,oneU,q06,q03,q0i,q08,q0l,q0c,q0b,q0a,q09,q07,q0j,q0k,q0h,q0m,q18,junkT,q1q,q1t,Nat.reduceLeDiff,Nat.reduceMul,List.length_cons,List.length_nil,Nat.reduceAdd]<;>simp only [chunks,List.take,List.drop,List.map,cI,cB,cS,cL])) (Nat.le_of_ble_eq_true rfl) (q04 n 6 ([2,0]) r15 h16 _) rfl rfl ?_
 refine RS.q (u:=.sl 6 0 3 3) (σ':=⟨[(6,.row [.int .i64 r11.Typex,.isl false (List.map cGArc r11.Arcs),.int .i64 r13.Typex,.isl false (List.map cGArc r13.Arcs),.int .i64 r15.Typex,.isl false (List.map cGArc r15.Arcs)] 43),(3,.row [.isl false (List.map cGNode r9.1.Nodes)] 25)],7⟩) rfl (q21 und23 inf43 rfl rfl rfl rfl rfl rfl rfl) ?_
 refine RS.fcall (u:=.agg [.isl false (List.map cGNode r17.Nodes)]) (args:=[.sl 6 0 3 3]) (σ1:=⟨[(3,.row [.isl false (List.map cGNode r9.1.Nodes)] 25)],7⟩) rfl (q01 rfl rfl fn32 hb32 rfl rfl) (Gh.fz (tm':=[.isl false (List.map cGNode ([r11,r13,r15]))]) (h':=[(3,.row [.isl false (List.map cGNode r9.1.Nodes)] 25)]) 6 (.row [.int .i64 r11.Typex,.isl false (List.map cGArc r11.Arcs),.int .i64 r13.Typex,.isl false (List.map cGArc r13.Arcs),.int .i64 r15.Typex,.isl false (List.map cGArc r15.Arcs)] 43) 2 rfl (by simp) (by simp only [oneU,q06,q03,q0i,q08,q0l,q0c,q0b,q0a,q09,q07,q0j,q0k,q0h,q0m,q18,junkT,q1q,q1t,Nat.reduceLeDiff,Nat.reduceMul,List.length_cons,List.length_nil,Nat.reduceAdd]<;>simp only [chunks,List.take,List.drop,List.map,cGNode]) (by simp only [fzH,fzB,ug,Nat.beq,cond_true,cond_false,oneU,q06,q03,q0i,q08,q0l,q0c,q0b,q0a,q09,q07,q0j,q0k,q0h,q0m,q18,junkT,q1q,q1t,Nat.reduceLeDiff,Nat.reduceMul,List.length_cons,List.length_nil,Nat.reduceAdd]<;>simp only [chunks,List.take,List.drop,List.map,cGNode])) (Nat.le_of_ble_eq_true rfl) (q16 n ([r11,r13,r15]) r17 h18 _) rfl rfl ?_
 refine RS.call (u:=.tup [.agg [.isl false (List.map cGNode r19.1.Nodes)],.int .i64 r19.2]) (args:=[.agg [.isl false (List.map cGNode r17.Nodes)]]) rfl (q01 rfl rfl fn13 hb13 rfl rfl) (q3m n r17 r19 h20 _) rfl rfl (RS.mv rfl rfl rfl rfl (RS.q rfl (q5y rfl rfl) (RS.q rfl (q5y rfl rfl) (RS.q (u:=.ptr 7 0 0) (σ':=⟨[(7,.row [.nils] 25),(3,.row [.isl false (List.map cGNode r9.1.Nodes)] 25)],8⟩) rfl (q0z inf25 rfl rfl) (RS.opn (u:=.junk) (σ':=⟨[(7,.row [.isl false (List.map cGNode r19.1.Nodes)] 25),(3,.row [.isl false (List.map cGNode r9.1.Nodes)] 25)],8⟩) rfl (q0q (q02 inf25) rfl rfl rfl rfl rfl rfl rfl rfl) rfl ?_)))))
 refine sd ?_
 obtain ⟨b44,h45,hF⟩:=q00 hF
 refine WPU.joinK (fun tm σ=>tm=fr 106 [(1,.ptr 3 0 0),(58,.bool b44)]∧σ=⟨[(7,.row [.isl false (List.map cGNode r19.1.Nodes)] 25),(3,.row [.isl false (List.map cGNode r9.1.Nodes)] 25)],8⟩) ?_ ?_
 rintro _ _ ⟨rfl,rfl⟩
 refine st ?_
 refine WPU.condS (t:=b44) rfl (fun h46=>?_) (fun h46=>?_)
 replace hF:=q0o h46 hF
 refine sr ?_
 refine sd ?_
 refine WPU.ret ?_
 refine st ?_
 have hr:=Option.some.inj hF
 subst hr
 exact ⟨.inr rfl,[.bool false],q2b rfl (q1v),.bool false,⟨[],0⟩,Nat.le_refl _,Gh.toR (.bool false) rfl,rfl,BU.h⟩
 replace hF:=q0n h46 hF
 refine st ?_
 refine WPU.skip ?_
 refine st ?_
 obtain ⟨r47,h48,hF⟩:=q00 hF
 refine sr ?_
 refine RS.q (u:=.agg [.nils]) rfl (q5x bd25 rfl rfl rfl) (RS.call (u:=.tup [.agg [.isl false (List.map cGNode r47.1.Nodes)],.int .i64 r47.2]) (args:=[.agg [.nils]]) rfl (q01 rfl rfl fn13 hb13 rfl rfl) (EvU.wkA (args':=[.agg [.isl false []]]) (.cons (.agg (.cons (.nil false) .nil)) .nil) (fun s=>q3m n (GFS.mk []) r47 h48 s) _) rfl rfl (RS.mv rfl rfl rfl rfl (RS.q rfl (q5y rfl rfl) (RS.q rfl (q5y rfl rfl) (RS.q (u:=.ptr 8 0 0) (σ':=⟨[(8,.row [.nils] 25),(7,.row [.isl false (List.map cGNode r19.1.Nodes)] 25),(3,.row [.isl false (List.map cGNode r9.1.Nodes)] 25)],9⟩) rfl (q0z inf25 rfl rfl) (RS.opn (u:=.junk) (σ':=⟨[(8,.row [.isl false (List.map cGNode r47.1.Nodes)] 25),(7,.row [.isl false (List.map cGNode r19.1.Nodes)] 25),(3,.row [.isl false (List.map cGNode r9.1.Nodes)] 25)],9⟩) rfl (q0q (q02 inf25) rfl rfl rfl rfl rfl rfl rfl rfl) rfl ?_))))))
 refine sd ?_
 obtain ⟨b87,h88,hF⟩:=q00 hF
 refine WPU.joinK (fun tm σ=>tm=fr 106 [(0,.bool b87)]∧σ=⟨[(8,.row [.isl false (List.map cGNode r47.1.Nodes)] 25),(7,.row [.isl false (List.map cGNode r19.1.Nodes)] 25),(3,.row [.isl false (List.map cGNode r9.1.Nodes)] 25)],9⟩) ?_ ?_
 rintro _ _ ⟨rfl,rfl⟩
 refine st ?_
 refine WPU.ret ?_
 refine st ?_
 have hr:=Option.some.inj hF
 subst hr
 exact ⟨.inr rfl,[.bool b87],q2b rfl (q1v),.bool b87,⟨[],0⟩,Nat.le_refl _,Gh.toR (.bool b87) rfl,rfl,BU.h⟩
 rcases q2y (r47.2 == 1) with h49 | h49
 replace h88:=q0o h49 h88
 obtain ⟨r50,h51,h88⟩:=q00 h88
 obtain ⟨r52,h53,h88⟩:=q00 h88
 obtain ⟨r54,h55,h88⟩:=q00 h88
 obtain ⟨r56,h57,h88⟩:=q00 h88
 obtain ⟨r58,h59,h88⟩:=q00 h88
 rcases q2y r58 with h60 | h60
 replace h88:=q0o h60 h88
 obtain ⟨r61,h62,h88⟩:=q00 h88
 obtain ⟨r63,h64,h88⟩:=q00 h88
 obtain ⟨r65,h66,h88⟩:=q00 h88
 rcases q2y r65 with h67 | h67
 replace h88:=q0o h67 h88
 obtain ⟨r68,h69,h88⟩:=q00 h88
 rcases q2y (!r68) with h70 | h70
 replace h88:=q0o h70 h88
 obtain ⟨r71,h72,h88⟩:=q00 h88
 obtain ⟨r73,h74,h88⟩:=q00 h88
 obtain ⟨r75,h76,h88⟩:=q00 h88
 obtain ⟨r77,h78,h88⟩:=q00 h88
 rcases q2y r77 with h79 | h79
 replace h88:=q0o h79 h88
 obtain ⟨r80,h81,h88⟩:=q00 h88
 rcases q2y r80 with h82 | h82
 replace h88:=q0o h82 h88
 obtain ⟨r83,h84,h88⟩:=q00 h88
 obtain ⟨r85,h86,h88⟩:=q00 h88
 replace h88:=Option.some.inj h88
 subst h88
 refine WPU.drawE Try.tb_ok [] (by kernel_rfl) ?_
 refine RD.mv rfl rfl rfl rfl (RD.q rfl (q05 rfl rfl (q45 _ _ _) rfl) (RD.mv rfl rfl rfl rfl (RD.look (u:=.agg [.isl false (List.map cGNode r9.1.Nodes)]) (want1 rfl rfl rfl h49) (q0p und25 rfl (q02 inf25) rfl rfl rfl) rfl rfl (RD.free (u:=.agg [.isl false (List.map cGNode r50.Nodes)]) (args:=[.agg [.isl false (List.map cGNode r9.1.Nodes)],.int .i64 1]) (want1 rfl rfl rfl h49) (q01 rfl rfl fn20 hb20 rfl rfl) (fun s=>q4g n (GFS.mk r9.1.Nodes) 1 r50 h51 s) rfl rfl (RD.freeO (u:=.isl false (List.map (cI .i64) ([0,1]))) (want1 rfl rfl rfl h49) (FreeO.bs (cs:=[.int .i64 0,.int .i64 1]) und55 inf3 rfl rfl rfl rfl rfl rfl rfl rfl rfl) rfl rfl (RD.free (u:=.agg (cGNode r52)) (args:=[.int .i64 3,.isl false (List.map (cI .i64) ([0,1]))]) (want1 rfl rfl rfl h49) (q01 rfl rfl fn29 hb29 rfl rfl) (fun s=>q04 n 3 ([0,1]) r52 h53 s) rfl rfl (RD.free (u:=.agg (cGNode r54)) (args:=[.int .i64 2,.nils]) (want1 rfl rfl rfl h49) (q01 rfl rfl fn29 hb29 rfl rfl) (fun s=>EvU.wkA (args':=[.int .i64 2,.isl false []]) (.cons (.refl _) (.cons (.nil false) .nil)) (fun s=>q04 n 2 [] r54 h55 s) s) rfl rfl ?_)))))))
 refine RD.act (u:=.sl 9 0 2 2) (σ':=⟨[(9,.row [.int .i64 r52.Typex,.isl false (List.map cGArc r52.Arcs),.int .i64 r54.Typex,.isl false (List.map cGArc r54.Arcs)] 43),(8,.row [.isl false (List.map cGNode r47.1.Nodes)] 25),(7,.row [.isl false (List.map cGNode r19.1.Nodes)] 25),(3,.row [.isl false (List.map cGNode r9.1.Nodes)] 25)],10⟩) (want1 rfl rfl rfl h49) (q21 und23 inf43 rfl rfl rfl rfl rfl rfl rfl) rfl rfl ?_
 refine RD.fcall (u:=.agg [.isl false (List.map cGNode r56.Nodes)]) (args:=[.sl 9 0 2 2]) (σ1:=⟨[(8,.row [.isl false (List.map cGNode r47.1.Nodes)] 25),(7,.row [.isl false (List.map cGNode r19.1.Nodes)] 25),(3,.row [.isl false (List.map cGNode r9.1.Nodes)] 25)],10⟩) (want1 rfl rfl rfl h49) (q01 rfl rfl fn32 hb32 rfl rfl) (Gh.fz (tm':=[.isl false (List.map cGNode ([r52,r54]))]) (h':=[(8,.row [.isl false (List.map cGNode r47.1.Nodes)] 25),(7,.row [.isl false (List.map cGNode r19.1.Nodes)] 25),(3,.row [.isl false (List.map cGNode r9.1.Nodes)] 25)]) 9 (.row [.int .i64 r52.Typex,.isl false (List.map cGArc r52.Arcs),.int .i64 r54.Typex,.isl false (List.map cGArc r54.Arcs)] 43) 2 rfl (by simp) (by simp only [oneU,q06,q03,q0i,q08,q0l,q0c,q0b,q0a,q09,q07,q0j,q0k,q0h,q0m,q18,junkT,q1q,q1t,Nat.reduceLeDiff,Nat.reduceMul,List.length_cons,List.length_nil,Nat.reduceAdd]<;>simp only [chunks,List.take,List.drop,List.map,cGNode]) (by simp only [fzH,fzB,ug,Nat.beq,cond_true,cond_false,oneU,q06,q03,q0i,q08,q0l,q0c,q0b,q0a,q09,q07,q0j,q0k,q0h,q0m,q18,junkT,q1q,q1t,Nat.reduceLeDiff,Nat.reduceMul,List.length_cons,List.length_nil,Nat.reduceAdd]<;>simp only [chunks,List.take,List.drop,List.map,cGNode])) (Nat.le_of_ble_eq_true rfl) (q16 n ([r52,r54]) r56 h57 _) rfl rfl ?_
 refine RD.free (u:=.bool r58) (args:=[.agg [.isl false (List.map cGNode r50.Nodes)],.agg [.isl false (List.map cGNode r56.Nodes)]]) (want1 rfl rfl rfl h49) (q01 rfl rfl fn14 hb14 rfl rfl) (fun s=>q0s n r50 r56 r58 h59 s) rfl rfl (RD.q (u:=.bool r58) rfl (q0g rfl h49 rfl) (RD.mv rfl rfl rfl rfl (RD.act (u:=.sl 10 0 2 2) (σ':=⟨[(10,.row [.int .i64 5,.int .i64 0] 3),(8,.row [.isl false (List.map cGNode r47.1.Nodes)] 25),(7,.row [.isl false (List.map cGNode r19.1.Nodes)] 25),(3,.row [.isl false (List.map cGNode r9.1.Nodes)] 25)],11⟩) (want1 rfl rfl rfl h60) (q21 und55 inf3 rfl rfl rfl rfl rfl rfl rfl) rfl rfl ?_)))
 refine RD.fcall (u:=.agg (cGNode r61)) (args:=[.int .i64 1,.sl 10 0 2 2]) (σ1:=⟨[(8,.row [.isl false (List.map cGNode r47.1.Nodes)] 25),(7,.row [.isl false (List.map cGNode r19.1.Nodes)] 25),(3,.row [.isl false (List.map cGNode r9.1.Nodes)] 25)],11⟩) (want1 rfl rfl rfl h60) (q01 rfl rfl fn29 hb29 rfl rfl) (Gh.fz (tm':=[.int .i64 1,.isl false (List.map (cI .i64) ([5,0]))]) (h':=[(8,.row [.isl false (List.map cGNode r47.1.Nodes)] 25),(7,.row [.isl false (List.map cGNode r19.1.Nodes)] 25),(3,.row [.isl false (List.map cGNode r9.1.Nodes)] 25)]) 10 (.row [.int .i64 5,.int .i64 0] 3) 1 rfl (by simp) (by simp only [oneU,q06,q03,q0i,q08,q0l,q0c,q0b,q0a,q09,q07,q0j,q0k,q0h,q0m,q18,junkT,q1q,q1t,Nat.reduceLeDiff,Nat.reduceMul,List.length_cons,List.length_nil,Nat.reduceAdd]<;>simp only [chunks,List.take,List.drop,List.map,cI,cB,cS,cL]) (by simp only [fzH,fzB,ug,Nat.beq,cond_true,cond_false,oneU,q06,q03,q0i,q08,q0l,q0c,q0b,q0a,q09,q07,q0j,q0k,q0h,q0m,q18,junkT,q1q,q1t,Nat.reduceLeDiff,Nat.reduceMul,List.length_cons,List.length_nil,Nat.reduceAdd]<;>simp only [chunks,List.take,List.drop,List.map,cI,cB,cS,cL])) (Nat.le_of_ble_eq_true rfl) (q04 n 1 ([5,0]) r61 h62 _) rfl rfl ?_
 refine RD.act (u:=.sl 11 0 1 1) (σ':=⟨[(11,.row (cGNode r61) 43),(8,.row [.isl false (List.map cGNode r47.1.Nodes)] 25),(7,.row [.isl false (List.map cGNode r19.1.Nodes)] 25),(3,.row [.isl false (List.map cGNode r9.1.Nodes)] 25)],12⟩) (want1 rfl rfl rfl h60) (q21 und23 inf43 rfl rfl rfl rfl rfl rfl rfl) rfl rfl ?_
 refine RD.fcall (u:=.agg [.isl false (List.map cGNode r63.Nodes)]) (args:=[.sl 11 0 1 1]) (σ1:=⟨[(8,.row [.isl false (List.map cGNode r47.1.Nodes)] 25),(7,.row [.isl false (List.map cGNode r19.1.Nodes)] 25),(3,.row [.isl false (List.map cGNode r9.1.Nodes)] 25)],12⟩) (want1 rfl rfl rfl h60) (q01 rfl rfl fn32 hb32 rfl rfl) (Gh.fz (tm':=[.isl false (List.map cGNode ([r61]))]) (h':=[(8,.row [.isl false (List.map cGNode r47.1.Nodes)] 25),(7,.row [.isl false (List.map cGNode r19.1.Nodes)] 25),(3,.row [.isl false (List.map cGNode r9.1.Nodes)] 25)]) 11 (.row [.int .i64 r61.Typex,.isl false (List.map cGArc r61.Arcs)] 43) 2 rfl (by simp) (by simp only [oneU,q06,q03,q0i,q08,q0l,q0c,q0b,q0a,q09,q07,q0j,q0k,q0h,q0m,q18,junkT,q1q,q1t,q26,Nat.reduceLeDiff,Nat.reduceMul,List.length_cons,List.length_nil,Nat.reduceAdd]<;>simp only [chunks,List.take,List.drop,List.map,cGNode]) (by simp only [fzH,fzB,ug,Nat.beq,cond_true,cond_false,oneU,q06,q03,q0i,q08,q0l,q0c,q0b,q0a,q09,q07,q0j,q0k,q0h,q0m,q18,junkT,q1q,q1t,q26,Nat.reduceLeDiff,Nat.reduceMul,List.length_cons,List.length_nil,Nat.reduceAdd]<;>simp only [chunks,List.take,List.drop,List.map,cGNode])) (Nat.le_of_ble_eq_true rfl) (q16 n ([r61]) r63 h64 _) rfl rfl ?_
 refine RD.free (u:=.bool r65) (args:=[.agg [.isl false (List.map cGNode r63.Nodes)]]) (want1 rfl rfl rfl h60) (q01 rfl rfl fn22 hb22 rfl rfl) (fun s=>q1y n r63 r65 h66 s) rfl rfl (RD.q (u:=.bool r65) rfl (q0g rfl h60 rfl) (RD.mv rfl rfl rfl rfl (RD.look (u:=.agg [.isl false (List.map cGNode r9.1.Nodes)]) (want1 rfl rfl rfl h67) (q0p und25 rfl (q02 inf25) rfl rfl rfl) rfl rfl (RD.free (u:=.bool r68) (args:=[.agg [.isl false (List.map cGNode r9.1.Nodes)]]) (want1 rfl rfl rfl h67) (q01 rfl rfl fn22 hb22 rfl rfl) (fun s=>q1y n (GFS.mk r9.1.Nodes) r68 h69 s) rfl rfl (RD.look (u:=.bool (!r68)) (want1 rfl rfl rfl h67) (q7o rfl rfl rfl rfl) rfl rfl (RD.q (u:=.bool (!r68)) rfl (q0g rfl h67 rfl) (RD.mv rfl rfl rfl rfl ?_)))))))
 refine RD.free (u:=.agg [.isl false (List.map cGNode r71.Nodes)]) (args:=[.int .i64 4]) (want1 rfl rfl rfl h70) (q01 rfl rfl fn12 hb12 rfl rfl) (fun s=>q5e n 4 r71 h72 s) rfl rfl (RD.free (u:=.agg (cGNode r73)) (args:=[.int .i64 4,.nils]) (want1 rfl rfl rfl h70) (q01 rfl rfl fn29 hb29 rfl rfl) (fun s=>EvU.wkA (args':=[.int .i64 4,.isl false []]) (.cons (.refl _) (.cons (.nil false) .nil)) (fun s=>q04 n 4 [] r73 h74 s) s) rfl rfl (RD.act (u:=.sl 12 0 1 1) (σ':=⟨[(12,.row (cGNode r73) 43),(8,.row [.isl false (List.map cGNode r47.1.Nodes)] 25),(7,.row [.isl false (List.map cGNode r19.1.Nodes)] 25),(3,.row [.isl false (List.map cGNode r9.1.Nodes)] 25)],13⟩) (want1 rfl rfl rfl h70) (q21 und23 inf43 rfl rfl rfl rfl rfl rfl rfl) rfl rfl ?_))
 refine RD.fcall (u:=.agg [.isl false (List.map cGNode r75.Nodes)]) (args:=[.sl 12 0 1 1]) (σ1:=⟨[(8,.row [.isl false (List.map cGNode r47.1.Nodes)] 25),(7,.row [.isl false (List.map cGNode r19.1.Nodes)] 25),(3,.row [.isl false (List.map cGNode r9.1.Nodes)] 25)],13⟩) (want1 rfl rfl rfl h70) (q01 rfl rfl fn32 hb32 rfl rfl) (Gh.fz (tm':=[.isl false (List.map cGNode ([r73]))]) (h':=[(8,.row [.isl false (List.map cGNode r47.1.Nodes)] 25),(7,.row [.isl false (List.map cGNode r19.1.Nodes)] 25),(3,.row [.isl false (List.map cGNode r9.1.Nodes)] 25)]) 12 (.row [.int .i64 r73.Typex,.isl false (List.map cGArc r73.Arcs)] 43) 2 rfl (by simp) (by simp only [oneU,q06,q03,q0i,q08,q0l,q0c,q0b,q0a,q09,q07,q0j,q0k,q0h,q0m,q18,junkT,q1q,q1t,q26,Nat.reduceLeDiff,Nat.reduceMul,List.length_cons,List.length_nil,Nat.reduceAdd]<;>simp only [chunks,List.take,List.drop,List.map,cGNode]) (by simp only [fzH,fzB,ug,Nat.beq,cond_true,cond_false,oneU,q06,q03,q0i,q08,q0l,q0c,q0b,q0a,q09,q07,q0j,q0k,q0h,q0m,q18,junkT,q1q,q1t,q26,Nat.reduceLeDiff,Nat.reduceMul,List.length_cons,List.length_nil,Nat.reduceAdd]<;>simp only [chunks,List.take,List.drop,List.map,cGNode])) (Nat.le_of_ble_eq_true rfl) (q16 n ([r73]) r75 h76 _) rfl rfl ?_
 refine RD.free (u:=.bool r77) (args:=[.agg [.isl false (List.map cGNode r71.Nodes)],.agg [.isl false (List.map cGNode r75.Nodes)]]) (want1 rfl rfl rfl h70) (q01 rfl rfl fn14 hb14 rfl rfl) (fun s=>q0s n r71 r75 r77 h78 s) rfl rfl (RD.q (u:=.bool r77) rfl (q0g rfl h70 rfl) (RD.mv rfl rfl rfl rfl (RD.look (u:=.agg [.isl false (List.map cGNode r9.1.Nodes)]) (want1 rfl rfl rfl h79) (q0p und25 rfl (q02 inf25) rfl rfl rfl) rfl rfl (RD.look (u:=.agg [.isl false (List.map cGNode r9.1.Nodes)]) (want1 rfl rfl rfl h79) (q0p und25 rfl (q02 inf25) rfl rfl rfl) rfl rfl (RD.free (u:=.bool r80) (args:=[.agg [.isl false (List.map cGNode r9.1.Nodes)],.agg [.isl false (List.map cGNode r9.1.Nodes)]]) (want1 rfl rfl rfl h79) (q01 rfl rfl fn26 hb26 rfl rfl) (fun s=>q7e n (GFS.mk r9.1.Nodes) (GFS.mk r9.1.Nodes) r80 h81 s) rfl rfl (RD.q (u:=.bool r80) rfl (q0g rfl h79 rfl) (RD.mv rfl rfl rfl rfl ?_)))))))
 refine RD.free (u:=.agg [.isl false (List.map cGNode r83.Nodes)]) (args:=[.int .i64 9]) (want1 rfl rfl rfl h82) (q01 rfl rfl fn12 hb12 rfl rfl) (fun s=>q5e n 9 r83 h84 s) rfl rfl (RD.look (u:=.agg [.isl false (List.map cGNode r9.1.Nodes)]) (want1 rfl rfl rfl h82) (q0p und25 rfl (q02 inf25) rfl rfl rfl) rfl rfl (RD.free (u:=.int .i64 r85) (args:=[.agg [.isl false (List.map cGNode r83.Nodes)],.agg [.isl false (List.map cGNode r9.1.Nodes)]]) (want1 rfl rfl rfl h82) (q01 rfl rfl fn24 hb24 rfl rfl) (fun s=>q6k n r83 (GFS.mk r9.1.Nodes) r85 h86 s) rfl rfl (RD.look (want1 rfl rfl rfl h82) (q05 rfl rfl (q45 _ _ _) rfl) rfl rfl (RD.q (u:=.bool (r85 == (-1))) rfl (q0g rfl h82 rfl) (RD.as rfl rfl rfl rfl ?_)))))
 refine RD.done ⟨by kernel_rfl,trivial,?_⟩
 refine st ?_
 exact ⟨_,_,⟨rfl,rfl⟩,(Nat.zero_le _),Gh.toC (n1:=9) ⟨rfl,trivial⟩ rfl (Nat.zero_le _) (by simp)⟩
 replace h88:=q0n h82 h88
 replace h88:=Option.some.inj h88
 subst h88
 refine WPU.drawE Try.tb_ok [] (by kernel_rfl) ?_
 refine RD.mv rfl rfl rfl rfl (RD.q rfl (q05 rfl rfl (q45 _ _ _) rfl) (RD.mv rfl rfl rfl rfl (RD.look (u:=.agg [.isl false (List.map cGNode r9.1.Nodes)]) (want1 rfl rfl rfl h49) (q0p und25 rfl (q02 inf25) rfl rfl rfl) rfl rfl (RD.free (u:=.agg [.isl false (List.map cGNode r50.Nodes)]) (args:=[.agg [.isl false (List.map cGNode r9.1.Nodes)],.int .i64 1]) (want1 rfl rfl rfl h49) (q01 rfl rfl fn20 hb20 rfl rfl) (fun s=>q4g n (GFS.mk r9.1.Nodes) 1 r50 h51 s) rfl rfl (RD.freeO (u:=.isl false (List.map (cI .i64) ([0,1]))) (want1 rfl rfl rfl h49) (FreeO.bs (cs:=[.int .i64 0,.int .i64 1]) und55 inf3 rfl rfl rfl rfl rfl rfl rfl rfl rfl) rfl rfl (RD.free (u:=.agg (cGNode r52)) (args:=[.int .i64 3,.isl false (List.map (cI .i64) ([0,1]))]) (want1 rfl rfl rfl h49) (q01 rfl rfl fn29 hb29 rfl rfl) (fun s=>q04 n 3 ([0,1]) r52 h53 s) rfl rfl (RD.free (u:=.agg (cGNode r54)) (args:=[.int .i64 2,.nils]) (want1 rfl rfl rfl h49) (q01 rfl rfl fn29 hb29 rfl rfl) (fun s=>EvU.wkA (args':=[.int .i64 2,.isl false []]) (.cons (.refl _) (.cons (.nil false) .nil)) (fun s=>q04 n 2 [] r54 h55 s) s) rfl rfl ?_)))))))
 refine RD.act (u:=.sl 9 0 2 2) (σ':=⟨[(9,.row [.int .i64 r52.Typex,.isl false (List.map cGArc r52.Arcs),.int .i64 r54.Typex,.isl false (List.map cGArc r54.Arcs)] 43),(8,.row [.isl false (List.map cGNode r47.1.Nodes)] 25),(7,.row [.isl false (List.map cGNode r19.1.Nodes)] 25),(3,.row [.isl false (List.map cGNode r9.1.Nodes)] 25)],10⟩) (want1 rfl rfl rfl h49) (q21 und23 inf43 rfl rfl rfl rfl rfl rfl rfl) rfl rfl ?_
 refine RD.fcall (u:=.agg [.isl false (List.map cGNode r56.Nodes)]) (args:=[.sl 9 0 2 2]) (σ1:=⟨[(8,.row [.isl false (List.map cGNode r47.1.Nodes)] 25),(7,.row [.isl false (List.map cGNode r19.1.Nodes)] 25),(3,.row [.isl false (List.map cGNode r9.1.Nodes)] 25)],10⟩) (want1 rfl rfl rfl h49) (q01 rfl rfl fn32 hb32 rfl rfl) (Gh.fz (tm':=[.isl false (List.map cGNode ([r52,r54]))]) (h':=[(8,.row [.isl false (List.map cGNode r47.1.Nodes)] 25),(7,.row [.isl false (List.map cGNode r19.1.Nodes)] 25),(3,.row [.isl false (List.map cGNode r9.1.Nodes)] 25)]) 9 (.row [.int .i64 r52.Typex,.isl false (List.map cGArc r52.Arcs),.int .i64 r54.Typex,.isl false (List.map cGArc r54.Arcs)] 43) 2 rfl (by simp) (by simp only [oneU,q06,q03,q0i,q08,q0l,q0c,q0b,q0a,q09,q07,q0j,q0k,q0h,q0m,q18,junkT,q1q,q1t,Nat.reduceLeDiff,Nat.reduceMul,List.length_cons,List.length_nil,Nat.reduceAdd]<;>simp only [chunks,List.take,List.drop,List.map,cGNode]) (by simp only [fzH,fzB,ug,Nat.beq,cond_true,cond_false,oneU,q06,q03,q0i,q08,q0l,q0c,q0b,q0a,q09,q07,q0j,q0k,q0h,q0m,q18,junkT,q1q,q1t,Nat.reduceLeDiff,Nat.reduceMul,List.length_cons,List.length_nil,Nat.reduceAdd]<;>simp only [chunks,List.take,List.drop,List.map,cGNode])) (Nat.le_of_ble_eq_true rfl) (q16 n ([r52,r54]) r56 h57 _) rfl rfl ?_
 refine RD.free (u:=.bool r58) (args:=[.agg [.isl false (List.map cGNode r50.Nodes)],.agg [.isl false (List.map cGNode r56.Nodes)]]) (want1 rfl rfl rfl h49) (q01 rfl rfl fn14 hb14 rfl rfl) (fun s=>q0s n r50 r56 r58 h59 s) rfl rfl (RD.q (u:=.bool r58) rfl (q0g rfl h49 rfl) (RD.mv rfl rfl rfl rfl (RD.act (u:=.sl 10 0 2 2) (σ':=⟨[(10,.row [.int .i64 5,.int .i64 0] 3),(8,.row [.isl false (List.map cGNode r47.1.Nodes)] 25),(7,.row [.isl false (List.map cGNode r19.1.Nodes)] 25),(3,.row [.isl false (List.map cGNode r9.1.Nodes)] 25)],11⟩) (want1 rfl rfl rfl h60) (q21 und55 inf3 rfl rfl rfl rfl rfl rfl rfl) rfl rfl ?_)))
 refine RD.fcall (u:=.agg (cGNode r61)) (args:=[.int .i64 1,.sl 10 0 2 2]) (σ1:=⟨[(8,.row [.isl false (List.map cGNode r47.1.Nodes)] 25),(7,.row [.isl false (List.map cGNode r19.1.Nodes)] 25),(3,.row [.isl false (List.map cGNode r9.1.Nodes)] 25)],11⟩) (want1 rfl rfl rfl h60) (q01 rfl rfl fn29 hb29 rfl rfl) (Gh.fz (tm':=[.int .i64 1,.isl false (List.map (cI .i64) ([5,0]))]) (h':=[(8,.row [.isl false (List.map cGNode r47.1.Nodes)] 25),(7,.row [.isl false (List.map cGNode r19.1.Nodes)] 25),(3,.row [.isl false (List.map cGNode r9.1.Nodes)] 25)]) 10 (.row [.int .i64 5,.int .i64 0] 3) 1 rfl (by simp) (by simp only [oneU,q06,q03,q0i,q08,q0l,q0c,q0b,q0a,q09,q07,q0j,q0k,q0h,q0m,q18,junkT,q1q,q1t,Nat.reduceLeDiff,Nat.reduceMul,List.length_cons,List.length_nil,Nat.reduceAdd]<;>simp only [chunks,List.take,List.drop,List.map,cI,cB,cS,cL]) (by simp only [fzH,fzB,ug,Nat.beq,cond_true,cond_false,oneU,q06,q03,q0i,q08,q0l,q0c,q0b,q0a,q09,q07,q0j,q0k,q0h,q0m,q18,junkT,q1q,q1t,Nat.reduceLeDiff,Nat.reduceMul,List.length_cons,List.length_nil,Nat.reduceAdd]<;>simp only [chunks,List.take,List.drop,List.map,cI,cB,cS,cL])) (Nat.le_of_ble_eq_true rfl) (q04 n 1 ([5,0]) r61 h62 _) rfl rfl ?_
 refine RD.act (u:=.sl 11 0 1 1) (σ':=⟨[(11,.row (cGNode r61) 43),(8,.row [.isl false (List.map cGNode r47.1.Nodes)] 25),(7,.row [.isl false (List.map cGNode r19.1.Nodes)] 25),(3,.row [.isl false (List.map cGNode r9.1.Nodes)] 25)],12⟩) (want1 rfl rfl rfl h60) (q21 und23 inf43 rfl rfl rfl rfl rfl rfl rfl) rfl rfl ?_
 refine RD.fcall (u:=.agg [.isl false (List.map cGNode r63.Nodes)]) (args:=[.sl 11 0 1 1]) (σ1:=⟨[(8,.row [.isl false (List.map cGNode r47.1.Nodes)] 25),(7,.row [.isl false (List.map cGNode r19.1.Nodes)] 25),(3,.row [.isl false (List.map cGNode r9.1.Nodes)] 25)],12⟩) (want1 rfl rfl rfl h60) (q01 rfl rfl fn32 hb32 rfl rfl) (Gh.fz (tm':=[.isl false (List.map cGNode ([r61]))]) (h':=[(8,.row [.isl false (List.map cGNode r47.1.Nodes)] 25),(7,.row [.isl false (List.map cGNode r19.1.Nodes)] 25),(3,.row [.isl false (List.map cGNode r9.1.Nodes)] 25)]) 11 (.row [.int .i64 r61.Typex,.isl false (List.map cGArc r61.Arcs)] 43) 2 rfl (by simp) (by simp only [oneU,q06,q03,q0i,q08,q0l,q0c,q0b,q0a,q09,q07,q0j,q0k,q0h,q0m,q18,junkT,q1q,q1t,q26,Nat.reduceLeDiff,Nat.reduceMul,List.length_cons,List.length_nil,Nat.reduceAdd]<;>simp only [chunks,List.take,List.drop,List.map,cGNode]) (by simp only [fzH,fzB,ug,Nat.beq,cond_true,cond_false,oneU,q06,q03,q0i,q08,q0l,q0c,q0b,q0a,q09,q07,q0j,q0k,q0h,q0m,q18,junkT,q1q,q1t,q26,Nat.reduceLeDiff,Nat.reduceMul,List.length_cons,List.length_nil,Nat.reduceAdd]<;>simp only [chunks,List.take,List.drop,List.map,cGNode])) (Nat.le_of_ble_eq_true rfl) (q16 n ([r61]) r63 h64 _) rfl rfl ?_
 refine RD.free (u:=.bool r65) (args:=[.agg [.isl false (List.map cGNode r63.Nodes)]]) (want1 rfl rfl rfl h60) (q01 rfl rfl fn22 hb22 rfl rfl) (fun s=>q1y n r63 r65 h66 s) rfl rfl (RD.q (u:=.bool r65) rfl (q0g rfl h60 rfl) (RD.mv rfl rfl rfl rfl (RD.look (u:=.agg [.isl false (List.map cGNode r9.1.Nodes)]) (want1 rfl rfl rfl h67) (q0p und25 rfl (q02 inf25) rfl rfl rfl) rfl rfl (RD.free (u:=.bool r68) (args:=[.agg [.isl false (List.map cGNode r9.1.Nodes)]]) (want1 rfl rfl rfl h67) (q01 rfl rfl fn22 hb22 rfl rfl) (fun s=>q1y n (GFS.mk r9.1.Nodes) r68 h69 s) rfl rfl (RD.look (u:=.bool (!r68)) (want1 rfl rfl rfl h67) (q7o rfl rfl rfl rfl) rfl rfl (RD.q (u:=.bool (!r68)) rfl (q0g rfl h67 rfl) (RD.mv rfl rfl rfl rfl ?_)))))))
 refine RD.free (u:=.agg [.isl false (List.map cGNode r71.Nodes)]) (args:=[.int .i64 4]) (want1 rfl rfl rfl h70) (q01 rfl rfl fn12 hb12 rfl rfl) (fun s=>q5e n 4 r71 h72 s) rfl rfl (RD.free (u:=.agg (cGNode r73)) (args:=[.int .i64 4,.nils]) (want1 rfl rfl rfl h70) (q01 rfl rfl fn29 hb29 rfl rfl) (fun s=>EvU.wkA (args':=[.int .i64 4,.isl false []]) (.cons (.refl _) (.cons (.nil false) .nil)) (fun s=>q04 n 4 [] r73 h74 s) s) rfl rfl (RD.act (u:=.sl 12 0 1 1) (σ':=⟨[(12,.row (cGNode r73) 43),(8,.row [.isl false (List.map cGNode r47.1.Nodes)] 25),(7,.row [.isl false (List.map cGNode r19.1.Nodes)] 25),(3,.row [.isl false (List.map cGNode r9.1.Nodes)] 25)],13⟩) (want1 rfl rfl rfl h70) (q21 und23 inf43 rfl rfl rfl rfl rfl rfl rfl) rfl rfl ?_))
 refine RD.fcall (u:=.agg [.isl false (List.map cGNode r75.Nodes)]) (args:=[.sl 12 0 1 1]) (σ1:=⟨[(8,.row [.isl false (List.map cGNode r47.1.Nodes)] 25),(7,.row [.isl false (List.map cGNode r19.1.Nodes)] 25),(3,.row [.isl false (List.map cGNode r9.1.Nodes)] 25)],13⟩) (want1 rfl rfl rfl h70) (q01 rfl rfl fn32 hb32 rfl rfl) (Gh.fz (tm':=[.isl false (List.map cGNode ([r73]))]) (h':=[(8,.row [.isl false (List.map cGNode r47.1.Nodes)] 25),(7,.row [.isl false (List.map cGNode r19.1.Nodes)] 25),(3,.row [.isl false (List.map cGNode r9.1.Nodes)] 25)]) 12 (.row [.int .i64 r73.Typex,.isl false (List.map cGArc r73.Arcs)] 43) 2 rfl (by simp) (by simp only [oneU,q06,q03,q0i,q08,q0l,q0c,q0b,q0a,q09,q07,q0j,q0k,q0h,q0m,q18,junkT,q1q,q1t,q26,Nat.reduceLeDiff,Nat.reduceMul,List.length_cons,List.length_nil,Nat.reduceAdd]<;>simp only [chunks,List.take,List.drop,List.map,cGNode]) (by simp only [fzH,fzB,ug,Nat.beq,cond_true,cond_false,oneU,q06,q03,q0i,q08,q0l,q0c,q0b,q0a,q09,q07,q0j,q0k,q0h,q0m,q18,junkT,q1q,q1t,q26,Nat.reduceLeDiff,Nat.reduceMul,List.length_cons,List.length_nil,Nat.reduceAdd]<;>simp only [chunks,List.take,List.drop,List.map,cGNode])) (Nat.le_of_ble_eq_true rfl) (q16 n ([r73]) r75 h76 _) rfl rfl ?_
 refine RD.free (u:=.bool r77) (args:=[.agg [.isl false (List.map cGNode r71.Nodes)],.agg [.isl false (List.map cGNode r75.Nodes)]]) (want1 rfl rfl rfl h70) (q01 rfl rfl fn14 hb14 rfl rfl) (fun s=>q0s n r71 r75 r77 h78 s) rfl rfl (RD.q (u:=.bool r77) rfl (q0g rfl h70 rfl) (RD.mv rfl rfl rfl rfl (RD.look (u:=.agg [.isl false (List.map cGNode r9.1.Nodes)]) (want1 rfl rfl rfl h79) (q0p und25 rfl (q02 inf25) rfl rfl rfl) rfl rfl (RD.look (u:=.agg [.isl false (List.map cGNode r9.1.Nodes)]) (want1 rfl rfl rfl h79) (q0p und25 rfl (q02 inf25) rfl rfl rfl) rfl rfl (RD.free (u:=.bool r80) (args:=[.agg [.isl false (List.map cGNode r9.1.Nodes)],.agg [.isl false (List.map cGNode r9.1.Nodes)]]) (want1 rfl rfl rfl h79) (q01 rfl rfl fn26 hb26 rfl rfl) (fun s=>q7e n (GFS.mk r9.1.Nodes) (GFS.mk r9.1.Nodes) r80 h81 s) rfl rfl (RD.q (u:=.bool r80) rfl (q0g rfl h79 rfl) (RD.mv rfl rfl rfl rfl ?_)))))))
 repeat refine RD.no (want0 rfl rfl rfl h82) rfl rfl ?_
 refine RD.q (u:=.bool false) rfl (q0e rfl h82 rfl) (RD.as rfl rfl rfl rfl ?_)
 refine RD.done ⟨by kernel_rfl,trivial,?_⟩
 refine st ?_
 exact ⟨_,_,⟨rfl,rfl⟩,(Nat.zero_le _),Gh.toC (n1:=9) ⟨rfl,trivial⟩ rfl (Nat.zero_le _) (by simp)⟩
 replace h88:=q0n h79 h88
 replace h88:=Option.some.inj h88
 subst h88
 refine WPU.drawE Try.tb_ok [] (by kernel_rfl) ?_
 refine RD.mv rfl rfl rfl rfl (RD.q rfl (q05 rfl rfl (q45 _ _ _) rfl) (RD.mv rfl rfl rfl rfl (RD.look (u:=.agg [.isl false (List.map cGNode r9.1.Nodes)]) (want1 rfl rfl rfl h49) (q0p und25 rfl (q02 inf25) rfl rfl rfl) rfl rfl (RD.free (u:=.agg [.isl false (List.map cGNode r50.Nodes)]) (args:=[.agg [.isl false (List.map cGNode r9.1.Nodes)],.int .i64 1]) (want1 rfl rfl rfl h49) (q01 rfl rfl fn20 hb20 rfl rfl) (fun s=>q4g n (GFS.mk r9.1.Nodes) 1 r50 h51 s) rfl rfl (RD.freeO (u:=.isl false (List.map (cI .i64) ([0,1]))) (want1 rfl rfl rfl h49) (FreeO.bs (cs:=[.int .i64 0,.int .i64 1]) und55 inf3 rfl rfl rfl rfl rfl rfl rfl rfl rfl) rfl rfl (RD.free (u:=.agg (cGNode r52)) (args:=[.int .i64 3,.isl false (List.map (cI .i64) ([0,1]))]) (want1 rfl rfl rfl h49) (q01 rfl rfl fn29 hb29 rfl rfl) (fun s=>q04 n 3 ([0,1]) r52 h53 s) rfl rfl (RD.free (u:=.agg (cGNode r54)) (args:=[.int .i64 2,.nils]) (want1 rfl rfl rfl h49) (q01 rfl rfl fn29 hb29 rfl rfl) (fun s=>EvU.wkA (args':=[.int .i64 2,.isl false []]) (.cons (.refl _) (.cons (.nil false) .nil)) (fun s=>q04 n 2 [] r54 h55 s) s) rfl rfl ?_)))))))
 refine RD.act (u:=.sl 9 0 2 2) (σ':=⟨[(9,.row [.int .i64 r52.Typex,.isl false (List.map cGArc r52.Arcs),.int .i64 r54.Typex,.isl false (List.map cGArc r54.Arcs)] 43),(8,.row [.isl false (List.map cGNode r47.1.Nodes)] 25),(7,.row [.isl false (List.map cGNode r19.1.Nodes)] 25),(3,.row [.isl false (List.map cGNode r9.1.Nodes)] 25)],10⟩) (want1 rfl rfl rfl h49) (q21 und23 inf43 rfl rfl rfl rfl rfl rfl rfl) rfl rfl ?_
 refine RD.fcall (u:=.agg [.isl false (List.map cGNode r56.Nodes)]) (args:=[.sl 9 0 2 2]) (σ1:=⟨[(8,.row [.isl false (List.map cGNode r47.1.Nodes)] 25),(7,.row [.isl false (List.map cGNode r19.1.Nodes)] 25),(3,.row [.isl false (List.map cGNode r9.1.Nodes)] 25)],10⟩) (want1 rfl rfl rfl h49) (q01 rfl rfl fn32 hb32 rfl rfl) (Gh.fz (tm':=[.isl false (List.map cGNode ([r52,r54]))]) (h':=[(8,.row [.isl false (List.map cGNode r47.1.Nodes)] 25),(7,.row [.isl false (List.map cGNode r19.1.Nodes)] 25),(3,.row [.isl false (List.map cGNode r9.1.Nodes)] 25)]) 9 (.row [.int .i64 r52.Typex,.isl false (List.map cGArc r52.Arcs),.int .i64 r54.Typex,.isl false (List.map cGArc r54.Arcs)] 43) 2 rfl (by simp) (by simp only [oneU,q06,q03,q0i,q08,q0l,q0c,q0b,q0a,q09,q07,q0j,q0k,q0h,q0m,q18,junkT,q1q,q1t,Nat.reduceLeDiff,Nat.reduceMul,List.length_cons,List.length_nil,Nat.reduceAdd]<;>simp only [chunks,List.take,List.drop,List.map,cGNode]) (by simp only [fzH,fzB,ug,Nat.beq,cond_true,cond_false,oneU,q06,q03,q0i,q08,q0l,q0c,q0b,q0a,q09,q07,q0j,q0k,q0h,q0m,q18,junkT,q1q,q1t,Nat.reduceLeDiff,Nat.reduceMul,List.length_cons,List.length_nil,Nat.reduceAdd]<;>simp only [chunks,List.take,List.drop,List.map,cGNode])) (Nat.le_of_ble_eq_true rfl) (q16 n ([r52,r54]) r56 h57 _) rfl rfl ?_
 refine RD.free (u:=.bool r58) (args:=[.agg [.isl false (List.map cGNode r50.Nodes)],.agg [.isl false (List.map cGNode r56.Nodes)]]) (want1 rfl rfl rfl h49) (q01 rfl rfl fn14 hb14 rfl rfl) (fun s=>q0s n r50 r56 r58 h59 s) rfl rfl (RD.q (u:=.bool r58) rfl (q0g rfl h49 rfl) (RD.mv rfl rfl rfl rfl (RD.act (u:=.sl 10 0 2 2) (σ':=⟨[(10,.row [.int .i64 5,.int .i64 0] 3),(8,.row [.isl false (List.map cGNode r47.1.Nodes)] 25),(7,.row [.isl false (List.map cGNode r19.1.Nodes)] 25),(3,.row [.isl false (List.map cGNode r9.1.Nodes)] 25)],11⟩) (want1 rfl rfl rfl h60) (q21 und55 inf3 rfl rfl rfl rfl rfl rfl rfl) rfl rfl ?_)))
 refine RD.fcall (u:=.agg (cGNode r61)) (args:=[.int .i64 1,.sl 10 0 2 2]) (σ1:=⟨[(8,.row [.isl false (List.map cGNode r47.1.Nodes)] 25),(7,.row [.isl false (List.map cGNode r19.1.Nodes)] 25),(3,.row [.isl false (List.map cGNode r9.1.Nodes)] 25)],11⟩) (want1 rfl rfl rfl h60) (q01 rfl rfl fn29 hb29 rfl rfl) (Gh.fz (tm':=[.int .i64 1,.isl false (List.map (cI .i64) ([5,0]))]) (h':=[(8,.row [.isl false (List.map cGNode r47.1.Nodes)] 25),(7,.row [.isl false (List.map cGNode r19.1.Nodes)] 25),(3,.row [.isl false (List.map cGNode r9.1.Nodes)] 25)]) 10 (.row [.int .i64 5,.int .i64 0] 3) 1 rfl (by simp) (by simp only [oneU,q06,q03,q0i,q08,q0l,q0c,q0b,q0a,q09,q07,q0j,q0k,q0h,q0m,q18,junkT,q1q,q1t,Nat.reduceLeDiff,Nat.reduceMul,List.length_cons,List.length_nil,Nat.reduceAdd]<;>simp only [chunks,List.take,List.drop,List.map,cI,cB,cS,cL]) (by simp only [fzH,fzB,ug,Nat.beq,cond_true,cond_false,oneU,q06,q03,q0i,q08,q0l,q0c,q0b,q0a,q09,q07,q0j,q0k,q0h,q0m,q18,junkT,q1q,q1t,Nat.reduceLeDiff,Nat.reduceMul,List.length_cons,List.length_nil,Nat.reduceAdd]<;>simp only [chunks,List.take,List.drop,List.map,cI,cB,cS,cL])) (Nat.le_of_ble_eq_true rfl) (q04 n 1 ([5,0]) r61 h62 _) rfl rfl ?_
 refine RD.act (u:=.sl 11 0 1 1) (σ':=⟨[(11,.row (cGNode r61) 43),(8,.row [.isl false (List.map cGNode r47.1.Nodes)] 25),(7,.row [.isl false (List.map cGNode r19.1.Nodes)] 25),(3,.row [.isl false (List.map cGNode r9.1.Nodes)] 25)],12⟩) (want1 rfl rfl rfl h60) (q21 und23 inf43 rfl rfl rfl rfl rfl rfl rfl) rfl rfl ?_
 refine RD.fcall (u:=.agg [.isl false (List.map cGNode r63.Nodes)]) (args:=[.sl 11 0 1 1]) (σ1:=⟨[(8,.row [.isl false (List.map cGNode r47.1.Nodes)] 25),(7,.row [.isl false (List.map cGNode r19.1.Nodes)] 25),(3,.row [.isl false (List.map cGNode r9.1.Nodes)] 25)],12⟩) (want1 rfl rfl rfl h60) (q01 rfl rfl fn32 hb32 rfl rfl) (Gh.fz (tm':=[.isl false (List.map cGNode ([r61]))]) (h':=[(8,.row [.isl false (List.map cGNode r47.1.Nodes)] 25),(7,.row [.isl false (List.map cGNode r19.1.Nodes)] 25),(3,.row [.isl false (List.map cGNode r9.1.Nodes)] 25)]) 11 (.row [.int .i64 r61.Typex,.isl false (List.map cGArc r61.Arcs)] 43) 2 rfl (by simp) (by simp only [oneU,q06,q03,q0i,q08,q0l,q0c,q0b,q0a,q09,q07,q0j,q0k,q0h,q0m,q18,junkT,q1q,q1t,q26,Nat.reduceLeDiff,Nat.reduceMul,List.length_cons,List.length_nil,Nat.reduceAdd]<;>simp only [chunks,List.take,List.drop,List.map,cGNode]) (by simp only [fzH,fzB,ug,Nat.beq,cond_true,cond_false,oneU,q06,q03,q0i,q08,q0l,q0c,q0b,q0a,q09,q07,q0j,q0k,q0h,q0m,q18,junkT,q1q,q1t,q26,Nat.reduceLeDiff,Nat.reduceMul,List.length_cons,List.length_nil,Nat.reduceAdd]<;>simp only [chunks,List.take,List.drop,List.map,cGNode])) (Nat.le_of_ble_eq_true rfl) (q16 n ([r61]) r63 h64 _) rfl rfl ?_
 refine RD.free (u:=.bool r65) (args:=[.agg [.isl false (List.map cGNode r63.Nodes)]]) (want1 rfl rfl rfl h60) (q01 rfl rfl fn22 hb22 rfl rfl) (fun s=>q1y n r63 r65 h66 s) rfl rfl (RD.q (u:=.bool r65) rfl (q0g rfl h60 rfl) (RD.mv rfl rfl rfl rfl (RD.look (u:=.agg [.isl false (List.map cGNode r9.1.Nodes)]) (want1 rfl rfl rfl h67) (q0p und25 rfl (q02 inf25) rfl rfl rfl) rfl rfl (RD.free (u:=.bool r68) (args:=[.agg [.isl false (List.map cGNode r9.1.Nodes)]]) (want1 rfl rfl rfl h67) (q01 rfl rfl fn22 hb22 rfl rfl) (fun s=>q1y n (GFS.mk r9.1.Nodes) r68 h69 s) rfl rfl (RD.look (u:=.bool (!r68)) (want1 rfl rfl rfl h67) (q7o rfl rfl rfl rfl) rfl rfl (RD.q (u:=.bool (!r68)) rfl (q0g rfl h67 rfl) (RD.mv rfl rfl rfl rfl ?_)))))))
 refine RD.free (u:=.agg [.isl false (List.map cGNode r71.Nodes)]) (args:=[.int .i64 4]) (want1 rfl rfl rfl h70) (q01 rfl rfl fn12 hb12 rfl rfl) (fun s=>q5e n 4 r71 h72 s) rfl rfl (RD.free (u:=.agg (cGNode r73)) (args:=[.int .i64 4,.nils]) (want1 rfl rfl rfl h70) (q01 rfl rfl fn29 hb29 rfl rfl) (fun s=>EvU.wkA (args':=[.int .i64 4,.isl false []]) (.cons (.refl _) (.cons (.nil false) .nil)) (fun s=>q04 n 4 [] r73 h74 s) s) rfl rfl (RD.act (u:=.sl 12 0 1 1) (σ':=⟨[(12,.row (cGNode r73) 43),(8,.row [.isl false (List.map cGNode r47.1.Nodes)] 25),(7,.row [.isl false (List.map cGNode r19.1.Nodes)] 25),(3,.row [.isl false (List.map cGNode r9.1.Nodes)] 25)],13⟩) (want1 rfl rfl rfl h70) (q21 und23 inf43 rfl rfl rfl rfl rfl rfl rfl) rfl rfl ?_))
 refine RD.fcall (u:=.agg [.isl false (List.map cGNode r75.Nodes)]) (args:=[.sl 12 0 1 1]) (σ1:=⟨[(8,.row [.isl false (List.map cGNode r47.1.Nodes)] 25),(7,.row [.isl false (List.map cGNode r19.1.Nodes)] 25),(3,.row [.isl false (List.map cGNode r9.1.Nodes)] 25)],13⟩) (want1 rfl rfl rfl h70) (q01 rfl rfl fn32 hb32 rfl rfl) (Gh.fz (tm':=[.isl false (List.map cGNode ([r73]))]) (h':=[(8,.row [.isl false (List.map cGNode r47.1.Nodes)] 25),(7,.row [.isl false (List.map cGNode r19.1.Nodes)] 25),(3,.row [.isl false (List.map cGNode r9.1.Nodes)] 25)]) 12 (.row [.int .i64 r73.Typex,.isl false (List.map cGArc r73.Arcs)] 43) 2 rfl (by simp) (by simp only [oneU,q06,q03,q0i,q08,q0l,q0c,q0b,q0a,q09,q07,q0j,q0k,q0h,q0m,q18,junkT,q1q,q1t,q26,Nat.reduceLeDiff,Nat.reduceMul,List.length_cons,List.length_nil,Nat.reduceAdd]<;>simp only [chunks,List.take,List.drop,List.map,cGNode]) (by simp only [fzH,fzB,ug,Nat.beq,cond_true,cond_false,oneU,q06,q03,q0i,q08,q0l,q0c,q0b,q0a,q09,q07,q0j,q0k,q0h,q0m,q18,junkT,q1q,q1t,q26,Nat.reduceLeDiff,Nat.reduceMul,List.length_cons,List.length_nil,Nat.reduceAdd]<;>simp only [chunks,List.take,List.drop,List.map,cGNode])) (Nat.le_of_ble_eq_true rfl) (q16 n ([r73]) r75 h76 _) rfl rfl ?_
 refine RD.free (u:=.bool r77) (args:=[.agg [.isl false (List.map cGNode r71.Nodes)],.agg [.isl false (List.map cGNode r75.Nodes)]]) (want1 rfl rfl rfl h70) (q01 rfl rfl fn14 hb14 rfl rfl) (fun s=>q0s n r71 r75 r77 h78 s) rfl rfl (RD.q (u:=.bool r77) rfl (q0g rfl h70 rfl) (RD.mv rfl rfl rfl rfl ?_))
 repeat refine RD.no (want0 rfl rfl rfl h79) rfl rfl ?_
 refine RD.q (u:=.bool false) rfl (q0e rfl h79 rfl) (RD.mv rfl rfl rfl rfl ?_)
 repeat refine RD.no (want0 rfl rfl rfl rfl) rfl rfl ?_
 refine RD.q (u:=.bool false) rfl (q0e rfl rfl rfl) (RD.as rfl rfl rfl rfl ?_)
 refine RD.done ⟨by kernel_rfl,trivial,?_⟩
 refine st ?_
 exact ⟨_,_,⟨rfl,rfl⟩,(Nat.zero_le _),Gh.toC (n1:=9) ⟨rfl,trivial⟩ rfl (Nat.zero_le _) (by simp)⟩
 replace h88:=q0n h70 h88
 replace h88:=Option.some.inj h88
 subst h88
 refine WPU.drawE Try.tb_ok [] (by kernel_rfl) ?_
 refine RD.mv rfl rfl rfl rfl (RD.q rfl (q05 rfl rfl (q45 _ _ _) rfl) (RD.mv rfl rfl rfl rfl (RD.look (u:=.agg [.isl false (List.map cGNode r9.1.Nodes)]) (want1 rfl rfl rfl h49) (q0p und25 rfl (q02 inf25) rfl rfl rfl) rfl rfl (RD.free (u:=.agg [.isl false (List.map cGNode r50.Nodes)]) (args:=[.agg [.isl false (List.map cGNode r9.1.Nodes)],.int .i64 1]) (want1 rfl rfl rfl h49) (q01 rfl rfl fn20 hb20 rfl rfl) (fun s=>q4g n (GFS.mk r9.1.Nodes) 1 r50 h51 s) rfl rfl (RD.freeO (u:=.isl false (List.map (cI .i64) ([0,1]))) (want1 rfl rfl rfl h49) (FreeO.bs (cs:=[.int .i64 0,.int .i64 1]) und55 inf3 rfl rfl rfl rfl rfl rfl rfl rfl rfl) rfl rfl (RD.free (u:=.agg (cGNode r52)) (args:=[.int .i64 3,.isl false (List.map (cI .i64) ([0,1]))]) (want1 rfl rfl rfl h49) (q01 rfl rfl fn29 hb29 rfl rfl) (fun s=>q04 n 3 ([0,1]) r52 h53 s) rfl rfl (RD.free (u:=.agg (cGNode r54)) (args:=[.int .i64 2,.nils]) (want1 rfl rfl rfl h49) (q01 rfl rfl fn29 hb29 rfl rfl) (fun s=>EvU.wkA (args':=[.int .i64 2,.isl false []]) (.cons (.refl _) (.cons (.nil false) .nil)) (fun s=>q04 n 2 [] r54 h55 s) s) rfl rfl ?_)))))))
 refine RD.act (u:=.sl 9 0 2 2) (σ':=⟨[(9,.row [.int .i64 r52.Typex,.isl false (List.map cGArc r52.Arcs),.int .i64 r54.Typex,.isl false (List.map cGArc r54.Arcs)] 43),(8,.row [.isl false (List.map cGNode r47.1.Nodes)] 25),(7,.row [.isl false (List.map cGNode r19.1.Nodes)] 25),(3,.row [.isl false (List.map cGNode r9.1.Nodes)] 25)],10⟩) (want1 rfl rfl rfl h49) (q21 und23 inf43 rfl rfl rfl rfl rfl rfl rfl) rfl rfl ?_
 refine RD.fcall (u:=.agg [.isl false (List.map cGNode r56.Nodes)]) (args:=[.sl 9 0 2 2]) (σ1:=⟨[(8,.row [.isl false (List.map cGNode r47.1.Nodes)] 25),(7,.row [.isl false (List.map cGNode r19.1.Nodes)] 25),(3,.row [.isl false (List.map cGNode r9.1.Nodes)] 25)],10⟩) (want1 rfl rfl rfl h49) (q01 rfl rfl fn32 hb32 rfl rfl) (Gh.fz (tm':=[.isl false (List.map cGNode ([r52,r54]))]) (h':=[(8,.row [.isl false (List.map cGNode r47.1.Nodes)] 25),(7,.row [.isl false (List.map cGNode r19.1.Nodes)] 25),(3,.row [.isl false (List.map cGNode r9.1.Nodes)] 25)]) 9 (.row [.int .i64 r52.Typex,.isl false (List.map cGArc r52.Arcs),.int .i64 r54.Typex,.isl false (List.map cGArc r54.Arcs)] 43) 2 rfl (by simp) (by simp only [oneU,q06,q03,q0i,q08,q0l,q0c,q0b,q0a,q09,q07,q0j,q0k,q0h,q0m,q18,junkT,q1q,q1t,Nat.reduceLeDiff,Nat.reduceMul,List.length_cons,List.length_nil,Nat.reduceAdd]<;>simp only [chunks,List.take,List.drop,List.map,cGNode]) (by simp only [fzH,fzB,ug,Nat.beq,cond_true,cond_false,oneU,q06,q03,q0i,q08,q0l,q0c,q0b,q0a,q09,q07,q0j,q0k,q0h,q0m,q18,junkT,q1q,q1t,Nat.reduceLeDiff,Nat.reduceMul,List.length_cons,List.length_nil,Nat.reduceAdd]<;>simp only [chunks,List.take,List.drop,List.map,cGNode])) (Nat.le_of_ble_eq_true rfl) (q16 n ([r52,r54]) r56 h57 _) rfl rfl ?_
 refine RD.free (u:=.bool r58) (args:=[.agg [.isl false (List.map cGNode r50.Nodes)],.agg [.isl false (List.map cGNode r56.Nodes)]]) (want1 rfl rfl rfl h49) (q01 rfl rfl fn14 hb14 rfl rfl) (fun s=>q0s n r50 r56 r58 h59 s) rfl rfl (RD.q (u:=.bool r58) rfl (q0g rfl h49 rfl) (RD.mv rfl rfl rfl rfl (RD.act (u:=.sl 10 0 2 2) (σ':=⟨[(10,.row [.int .i64 5,.int .i64 0] 3),(8,.row [.isl false (List.map cGNode r47.1.Nodes)] 25),(7,.row [.isl false (List.map cGNode r19.1.Nodes)] 25),(3,.row [.isl false (List.map cGNode r9.1.Nodes)] 25)],11⟩) (want1 rfl rfl rfl h60) (q21 und55 inf3 rfl rfl rfl rfl rfl rfl rfl) rfl rfl ?_)))
 refine RD.fcall (u:=.agg (cGNode r61)) (args:=[.int .i64 1,.sl 10 0 2 2]) (σ1:=⟨[(8,.row [.isl false (List.map cGNode r47.1.Nodes)] 25),(7,.row [.isl false (List.map cGNode r19.1.Nodes)] 25),(3,.row [.isl false (List.map cGNode r9.1.Nodes)] 25)],11⟩) (want1 rfl rfl rfl h60) (q01 rfl rfl fn29 hb29 rfl rfl) (Gh.fz (tm':=[.int .i64 1,.isl false (List.map (cI .i64) ([5,0]))]) (h':=[(8,.row [.isl false (List.map cGNode r47.1.Nodes)] 25),(7,.row [.isl false (List.map cGNode r19.1.Nodes)] 25),(3,.row [.isl false (List.map cGNode r9.1.Nodes)] 25)]) 10 (.row [.int .i64 5,.int .i64 0] 3) 1 rfl (by simp) (by simp only [oneU,q06,q03,q0i,q08,q0l,q0c,q0b,q0a,q09,q07,q0j,q0k,q0h,q0m,q18,junkT,q1q,q1t,Nat.reduceLeDiff,Nat.reduceMul,List.length_cons,List.length_nil,Nat.reduceAdd]<;>simp only [chunks,List.take,List.drop,List.map,cI,cB,cS,cL]) (by simp only [fzH,fzB,ug,Nat.beq,cond_true,cond_false,oneU,q06,q03,q0i,q08,q0l,q0c,q0b,q0a,q09,q07,q0j,q0k,q0h,q0m,q18,junkT,q1q,q1t,Nat.reduceLeDiff,Nat.reduceMul,List.length_cons,List.length_nil,Nat.reduceAdd]<;>simp only [chunks,List.take,List.drop,List.map,cI,cB,cS,cL])) (Nat.le_of_ble_eq_true rfl) (q04 n 1 ([5,0]) r61 h62 _) rfl rfl ?_
 refine RD.act (u:=.sl 11 0 1 1) (σ':=⟨[(11,.row (cGNode r61) 43),(8,.row [.isl false (List.map cGNode r47.1.Nodes)] 25),(7,.row [.isl false (List.map cGNode r19.1.Nodes)] 25),(3,.row [.isl false (List.map cGNode r9.1.Nodes)] 25)],12⟩) (want1 rfl rfl rfl h60) (q21 und23 inf43 rfl rfl rfl rfl rfl rfl rfl) rfl rfl ?_
 refine RD.fcall (u:=.agg [.isl false (List.map cGNode r63.Nodes)]) (args:=[.sl 11 0 1 1]) (σ1:=⟨[(8,.row [.isl false (List.map cGNode r47.1.Nodes)] 25),(7,.row [.isl false (List.map cGNode r19.1.Nodes)] 25),(3,.row [.isl false (List.map cGNode r9.1.Nodes)] 25)],12⟩) (want1 rfl rfl rfl h60) (q01 rfl rfl fn32 hb32 rfl rfl) (Gh.fz (tm':=[.isl false (List.map cGNode ([r61]))]) (h':=[(8,.row [.isl false (List.map cGNode r47.1.Nodes)] 25),(7,.row [.isl false (List.map cGNode r19.1.Nodes)] 25),(3,.row [.isl false (List.map cGNode r9.1.Nodes)] 25)]) 11 (.row [.int .i64 r61.Typex,.isl false (List.map cGArc r61.Arcs)] 43) 2 rfl (by simp) (by simp only [oneU,q06,q03,q0i,q08,q0l,q0c,q0b,q0a,q09,q07,q0j,q0k,q0h,q0m,q18,junkT,q1q,q1t,q26,Nat.reduceLeDiff,Nat.reduceMul,List.length_cons,List.length_nil,Nat.reduceAdd]<;>simp only [chunks,List.take,List.drop,List.map,cGNode]) (by simp only [fzH,fzB,ug,Nat.beq,cond_true,cond_false,oneU,q06,q03,q0i,q08,q0l,q0c,q0b,q0a,q09,q07,q0j,q0k,q0h,q0m,q18,junkT,q1q,q1t,q26,Nat.reduceLeDiff,Nat.reduceMul,List.length_cons,List.length_nil,Nat.reduceAdd]<;>simp only [chunks,List.take,List.drop,List.map,cGNode])) (Nat.le_of_ble_eq_true rfl) (q16 n ([r61]) r63 h64 _) rfl rfl ?_
 refine RD.free (u:=.bool r65) (args:=[.agg [.isl false (List.map cGNode r63.Nodes)]]) (want1 rfl rfl rfl h60) (q01 rfl rfl fn22 hb22 rfl rfl) (fun s=>q1y n r63 r65 h66 s) rfl rfl (RD.q (u:=.bool r65) rfl (q0g rfl h60 rfl) (RD.mv rfl rfl rfl rfl (RD.look (u:=.agg [.isl false (List.map cGNode r9.1.Nodes)]) (want1 rfl rfl rfl h67) (q0p und25 rfl (q02 inf25) rfl rfl rfl) rfl rfl (RD.free (u:=.bool r68) (args:=[.agg [.isl false (List.map cGNode r9.1.Nodes)]]) (want1 rfl rfl rfl h67) (q01 rfl rfl fn22 hb22 rfl rfl) (fun s=>q1y n (GFS.mk r9.1.Nodes) r68 h69 s) rfl rfl (RD.look (u:=.bool (!r68)) (want1 rfl rfl rfl h67) (q7o rfl rfl rfl rfl) rfl rfl (RD.q (u:=.bool (!r68)) rfl (q0g rfl h67 rfl) (RD.mv rfl rfl rfl rfl ?_)))))))
 repeat refine RD.no (want0 rfl rfl rfl h70) rfl rfl ?_
 refine RD.q (u:=.bool false) rfl (q0e rfl h70 rfl) (RD.mv rfl rfl rfl rfl ?_)
 repeat refine RD.no (want0 rfl rfl rfl rfl) rfl rfl ?_
 refine RD.q (u:=.bool false) rfl (q0e rfl rfl rfl) (RD.mv rfl rfl rfl rfl ?_)
 repeat refine RD.no (want0 rfl rfl rfl rfl) rfl rfl ?_
 refine RD.q (u:=.bool false) rfl (q0e rfl rfl rfl) (RD.as rfl rfl rfl rfl ?_)
 refine RD.done ⟨by kernel_rfl,trivial,?_⟩
 refine st ?_
 exact ⟨_,_,⟨rfl,rfl⟩,(Nat.zero_le _),Gh.toC (n1:=9) ⟨rfl,trivial⟩ rfl (Nat.zero_le _) (by simp)⟩
 replace h88:=q0n h67 h88
 replace h88:=Option.some.inj h88
 subst h88
 refine WPU.drawE Try.tb_ok [] (by kernel_rfl) ?_
 refine RD.mv rfl rfl rfl rfl (RD.q rfl (q05 rfl rfl (q45 _ _ _) rfl) (RD.mv rfl rfl rfl rfl (RD.look (u:=.agg [.isl false (List.map cGNode r9.1.Nodes)]) (want1 rfl rfl rfl h49) (q0p und25 rfl (q02 inf25) rfl rfl rfl) rfl rfl (RD.free (u:=.agg [.isl false (List.map cGNode r50.Nodes)]) (args:=[.agg [.isl false (List.map cGNode r9.1.Nodes)],.int .i64 1]) (want1 rfl rfl rfl h49) (q01 rfl rfl fn20 hb20 rfl rfl) (fun s=>q4g n (GFS.mk r9.1.Nodes) 1 r50 h51 s) rfl rfl (RD.freeO (u:=.isl false (List.map (cI .i64) ([0,1]))) (want1 rfl rfl rfl h49) (FreeO.bs (cs:=[.int .i64 0,.int .i64 1]) und55 inf3 rfl rfl rfl rfl rfl rfl rfl rfl rfl) rfl rfl (RD.free (u:=.agg (cGNode r52)) (args:=[.int .i64 3,.isl false (List.map (cI .i64) ([0,1]))]) (want1 rfl rfl rfl h49) (q01 rfl rfl fn29 hb29 rfl rfl) (fun s=>q04 n 3 ([0,1]) r52 h53 s) rfl rfl (RD.free (u:=.agg (cGNode r54)) (args:=[.int .i64 2,.nils]) (want1 rfl rfl rfl h49) (q01 rfl rfl fn29 hb29 rfl rfl) (fun s=>EvU.wkA (args':=[.int .i64 2,.isl false []]) (.cons (.refl _) (.cons (.nil false) .nil)) (fun s=>q04 n 2 [] r54 h55 s) s) rfl rfl ?_)))))))
 refine RD.act (u:=.sl 9 0 2 2) (σ':=⟨[(9,.row [.int .i64 r52.Typex,.isl false (List.map cGArc r52.Arcs),.int .i64 r54.Typex,.isl false (List.map cGArc r54.Arcs)] 43),(8,.row [.isl false (List.map cGNode r47.1.Nodes)] 25),(7,.row [.isl false (List.map cGNode r19.1.Nodes)] 25),(3,.row [.isl false (List.map cGNode r9.1.Nodes)] 25)],10⟩) (want1 rfl rfl rfl h49) (q21 und23 inf43 rfl rfl rfl rfl rfl rfl rfl) rfl rfl ?_
 refine RD.fcall (u:=.agg [.isl false (List.map cGNode r56.Nodes)]) (args:=[.sl 9 0 2 2]) (σ1:=⟨[(8,.row [.isl false (List.map cGNode r47.1.Nodes)] 25),(7,.row [.isl false (List.map cGNode r19.1.Nodes)] 25),(3,.row [.isl false (List.map cGNode r9.1.Nodes)] 25)],10⟩) (want1 rfl rfl rfl h49) (q01 rfl rfl fn32 hb32 rfl rfl) (Gh.fz (tm':=[.isl false (List.map cGNode ([r52,r54]))]) (h':=[(8,.row [.isl false (List.map cGNode r47.1.Nodes)] 25),(7,.row [.isl false (List.map cGNode r19.1.Nodes)] 25),(3,.row [.isl false (List.map cGNode r9.1.Nodes)] 25)]) 9 (.row [.int .i64 r52.Typex,.isl false (List.map cGArc r52.Arcs),.int .i64 r54.Typex,.isl false (List.map cGArc r54.Arcs)] 43) 2 rfl (by simp) (by simp only [oneU,q06,q03,q0i,q08,q0l,q0c,q0b,q0a,q09,q07,q0j,q0k,q0h,q0m,q18,junkT,q1q,q1t,Nat.reduceLeDiff,Nat.reduceMul,List.length_cons,List.length_nil,Nat.reduceAdd]<;>simp only [chunks,List.take,List.drop,List.map,cGNode]) (by simp only [fzH,fzB,ug,Nat.beq,cond_true,cond_false,oneU,q06,q03,q0i,q08,q0l,q0c,q0b,q0a,q09,q07,q0j,q0k,q0h,q0m,q18,junkT,q1q,q1t,Nat.reduceLeDiff,Nat.reduceMul,List.length_cons,List.length_nil,Nat.reduceAdd]<;>simp only [chunks,List.take,List.drop,List.map,cGNode])) (Nat.le_of_ble_eq_true rfl) (q16 n ([r52,r54]) r56 h57 _) rfl rfl ?_
 refine RD.free (u:=.bool r58) (args:=[.agg [.isl false (List.map cGNode r50.Nodes)],.agg [.isl false (List.map cGNode r56.Nodes)]]) (want1 rfl rfl rfl h49) (q01 rfl rfl fn14 hb14 rfl rfl) (fun s=>q0s n r50 r56 r58 h59 s) rfl rfl (RD.q (u:=.bool r58) rfl (q0g rfl h49 rfl) (RD.mv rfl rfl rfl rfl (RD.act (u:=.sl 10 0 2 2) (σ':=⟨[(10,.row [.int .i64 5,.int .i64 0] 3),(8,.row [.isl false (List.map cGNode r47.1.Nodes)] 25),(7,.row [.isl false (List.map cGNode r19.1.Nodes)] 25),(3,.row [.isl false (List.map cGNode r9.1.Nodes)] 25)],11⟩) (want1 rfl rfl rfl h60) (q21 und55 inf3 rfl rfl rfl rfl rfl rfl rfl) rfl rfl ?_)))
 refine RD.fcall (u:=.agg (cGNode r61)) (args:=[.int .i64 1,.sl 10 0 2 2]) (σ1:=⟨[(8,.row [.isl false (List.map cGNode r47.1.Nodes)] 25),(7,.row [.isl false (List.map cGNode r19.1.Nodes)] 25),(3,.row [.isl false (List.map cGNode r9.1.Nodes)] 25)],11⟩) (want1 rfl rfl rfl h60) (q01 rfl rfl fn29 hb29 rfl rfl) (Gh.fz (tm':=[.int .i64 1,.isl false (List.map (cI .i64) ([5,0]))]) (h':=[(8,.row [.isl false (List.map cGNode r47.1.Nodes)] 25),(7,.row [.isl false (List.map cGNode r19.1.Nodes)] 25),(3,.row [.isl false (List.map cGNode r9.1.Nodes)] 25)]) 10 (.row [.int .i64 5,.int .i64 0] 3) 1 rfl (by simp) (by simp only [oneU,q06,q03,q0i,q08,q0l,q0c,q0b,q0a,q09,q07,q0j,q0k,q0h,q0m,q18,junkT,q1q,q1t,Nat.reduceLeDiff,Nat.reduceMul,List.length_cons,List.length_nil,Nat.reduceAdd]<;>simp only [chunks,List.take,List.drop,List.map,cI,cB,cS,cL]) (by simp only [fzH,fzB,ug,Nat.beq,cond_true,cond_false,oneU,q06,q03,q0i,q08,q0l,q0c,q0b,q0a,q09,q07,q0j,q0k,q0h,q0m,q18,junkT,q1q,q1t,Nat.reduceLeDiff,Nat.reduceMul,List.length_cons,List.length_nil,Nat.reduceAdd]<;>simp only [chunks,List.take,List.drop,List.map,cI,cB,cS,cL])) (Nat.le_of_ble_eq_true rfl) (q04 n 1 ([5,0]) r61 h62 _) rfl rfl ?_
 refine RD.act (u:=.sl 11 0 1 1) (σ':=⟨[(11,.row (cGNode r61) 43),(8,.row [.isl false (List.map cGNode r47.1.Nodes)] 25),(7,.row [.isl false (List.map cGNode r19.1.Nodes)] 25),(3,.row [.isl false (List.map cGNode r9.1.Nodes)] 25)],12⟩) (want1 rfl rfl rfl h60) (q21 und23 inf43 rfl rfl rfl rfl rfl rfl rfl) rfl rfl ?_
 refine RD.fcall (u:=.agg [.isl false (List.map cGNode r63.Nodes)]) (args:=[.sl 11 0 1 1]) (σ1:=⟨[(8,.row [.isl false (List.map cGNode r47.1.Nodes)] 25),(7,.row [.isl false (List.map cGNode r19.1.Nodes)] 25),(3,.row [.isl false (List.map cGNode r9.1.Nodes)] 25)],12⟩) (want1 rfl rfl rfl h60) (q01 rfl rfl fn32 hb32 rfl rfl) (Gh.fz (tm':=[.isl false (List.map cGNode ([r61]))]) (h':=[(8,.row [.isl false (List.map cGNode r47.1.Nodes)] 25),(7,.row [.isl false (List.map cGNode r19.1.Nodes)] 25),(3,.row [.isl false (List.map cGNode r9.1.Nodes)] 25)]) 11 (.row [.int .i64 r61.Typex,.isl false (List.map cGArc r61.Arcs)] 43) 2 rfl (by simp) (by simp only [oneU,q06,q03,q0i,q08,q0l,q0c,q0b,q0a,q09,q07,q0j,q0k,q0h,q0m,q18,junkT,q1q,q1t,q26,Nat.reduceLeDiff,Nat.reduceMul,List.length_cons,List.length_nil,Nat.reduceAdd]<;>simp only [chunks,List.take,List.drop,List.map,cGNode]) (by simp only [fzH,fzB,ug,Nat.beq,cond_true,cond_false,oneU,q06,q03,q0i,q08,q0l,q0c,q0b,q0a,q09,q07,q0j,q0k,q0h,q0m,q18,junkT,q1q,q1t,q26,Nat.reduceLeDiff,Nat.reduceMul,List.length_cons,List.length_nil,Nat.reduceAdd]<;>simp only [chunks,List.take,List.drop,List.map,cGNode])) (Nat.le_of_ble_eq_true rfl) (q16 n ([r61]) r63 h64 _) rfl rfl ?_
 refine RD.free (u:=.bool r65) (args:=[.agg [.isl false (List.map cGNode r63.Nodes)]]) (want1 rfl rfl rfl h60) (q01 rfl rfl fn22 hb22 rfl rfl) (fun s=>q1y n r63 r65 h66 s) rfl rfl (RD.q (u:=.bool r65) rfl (q0g rfl h60 rfl) (RD.mv rfl rfl rfl rfl ?_))
 repeat refine RD.no (want0 rfl rfl rfl h67) rfl rfl ?_
 refine RD.q (u:=.bool false) rfl (q0e rfl h67 rfl) (RD.mv rfl rfl rfl rfl ?_)
 repeat refine RD.no (want0 rfl rfl rfl rfl) rfl rfl ?_
 refine RD.q (u:=.bool false) rfl (q0e rfl rfl rfl) (RD.mv rfl rfl rfl rfl ?_)
 repeat refine RD.no (want0 rfl rfl rfl rfl) rfl rfl ?_
 refine RD.q (u:=.bool false) rfl (q0e rfl rfl rfl) (RD.mv rfl rfl rfl rfl ?_)
 repeat refine RD.no (want0 rfl rfl rfl rfl) rfl rfl ?_
 refine RD.q (u:=.bool false) rfl (q0e rfl rfl rfl) (RD.as rfl rfl rfl rfl ?_)
 refine RD.done ⟨by kernel_rfl,trivial,?_⟩
 refine st ?_
 exact ⟨_,_,⟨rfl,rfl⟩,(Nat.zero_le _),Gh.toC (n1:=9) ⟨rfl,trivial⟩ rfl (Nat.zero_le _) (by simp)⟩
 replace h88:=q0n h60 h88
 replace h88:=Option.some.inj h88
 subst h88
 refine WPU.drawE Try.tb_ok [] (by kernel_rfl) ?_
 refine RD.mv rfl rfl rfl rfl (RD.q rfl (q05 rfl rfl (q45 _ _ _) rfl) (RD.mv rfl rfl rfl rfl (RD.look (u:=.agg [.isl false (List.map cGNode r9.1.Nodes)]) (want1 rfl rfl rfl h49) (q0p und25 rfl (q02 inf25) rfl rfl rfl) rfl rfl (RD.free (u:=.agg [.isl false (List.map cGNode r50.Nodes)]) (args:=[.agg [.isl false (List.map cGNode r9.1.Nodes)],.int .i64 1]) (want1 rfl rfl rfl h49) (q01 rfl rfl fn20 hb20 rfl rfl) (fun s=>q4g n (GFS.mk r9.1.Nodes) 1 r50 h51 s) rfl rfl (RD.freeO (u:=.isl false (List.map (cI .i64) ([0,1]))) (want1 rfl rfl rfl h49) (FreeO.bs (cs:=[.int .i64 0,.int .i64 1]) und55 inf3 rfl rfl rfl rfl rfl rfl rfl rfl rfl) rfl rfl (RD.free (u:=.agg (cGNode r52)) (args:=[.int .i64 3,.isl false (List.map (cI .i64) ([0,1]))]) (want1 rfl rfl rfl h49) (q01 rfl rfl fn29 hb29 rfl rfl) (fun s=>q04 n 3 ([0,1]) r52 h53 s) rfl rfl (RD.free (u:=.agg (cGNode r54)) (args:=[.int .i64 2,.nils]) (want1 rfl rfl rfl h49) (q01 rfl rfl fn29 hb29 rfl rfl) (fun s=>EvU.wkA (args':=[.int .i64 2,.isl false []]) (.cons (.refl _) (.cons (.nil false) .nil)) (fun s=>q04 n 2 [] r54 h55 s) s) rfl rfl ?_)))))))
 refine RD.act (u:=.sl 9 0 2 2) (σ':=⟨[(9,.row [.int .i64 r52.Typex,.isl false (List.map cGArc r52.Arcs),.int .i64 r54.Typex,.isl false (List.map cGArc r54.Arcs)] 43),(8,.row [.isl false (List.map cGNode r47.1.Nodes)] 25),(7,.row [.isl false (List.map cGNode r19.1.Nodes)] 25),(3,.row [.isl false (List.map cGNode r9.1.Nodes)] 25)],10⟩) (want1 rfl rfl rfl h49) (q21 und23 inf43 rfl rfl rfl rfl rfl rfl rfl) rfl rfl ?_
 refine RD.fcall (u:=.agg [.isl false (List.map cGNode r56.Nodes)]) (args:=[.sl 9 0 2 2]) (σ1:=⟨[(8,.row [.isl false (List.map cGNode r47.1.Nodes)] 25),(7,.row [.isl false (List.map cGNode r19.1.Nodes)] 25),(3,.row [.isl false (List.map cGNode r9.1.Nodes)] 25)],10⟩) (want1 rfl rfl rfl h49) (q01 rfl rfl fn32 hb32 rfl rfl) (Gh.fz (tm':=[.isl false (List.map cGNode ([r52,r54]))]) (h':=[(8,.row [.isl false (List.map cGNode r47.1.Nodes)] 25),(7,.row [.isl false (List.map cGNode r19.1.Nodes)] 25),(3,.row [.isl false (List.map cGNode r9.1.Nodes)] 25)]) 9 (.row [.int .i64 r52.Typex,.isl false (List.map cGArc r52.Arcs),.int .i64 r54.Typex,.isl false (List.map cGArc r54.Arcs)] 43) 2 rfl (by simp) (by simp only [oneU,q06,q03,q0i,q08,q0l,q0c,q0b,q0a,q09,q07,q0j,q0k,q0h,q0m,q18,junkT,q1q,q1t,Nat.reduceLeDiff,Nat.reduceMul,List.length_cons,List.length_nil,Nat.reduceAdd]<;>simp only [chunks,List.take,List.drop,List.map,cGNode]) (by simp only [fzH,fzB,ug,Nat.beq,cond_true,cond_false,oneU,q06,q03,q0i,q08,q0l,q0c,q0b,q0a,q09,q07,q0j,q0k,q0h,q0m,q18,junkT,q1q,q1t,Nat.reduceLeDiff,Nat.reduceMul,List.length_cons,List.length_nil,Nat.reduceAdd]<;>simp only [chunks,List.take,List.drop,List.map,cGNode])) (Nat.le_of_ble_eq_true rfl) (q16 n ([r52,r54]) r56 h57 _) rfl rfl ?_
 refine RD.free (u:=.bool r58) (args:=[.agg [.isl false (List.map cGNode r50.Nodes)],.agg [.isl false (List.map cGNode r56.Nodes)]]) (want1 rfl rfl rfl h49) (q01 rfl rfl fn14 hb14 rfl rfl) (fun s=>q0s n r50 r56 r58 h59 s) rfl rfl (RD.q (u:=.bool r58) rfl (q0g rfl h49 rfl) (RD.mv rfl rfl rfl rfl ?_))
 repeat refine RD.no (want0 rfl rfl rfl h60) rfl rfl ?_
 refine RD.q (u:=.bool false) rfl (q0e rfl h60 rfl) (RD.mv rfl rfl rfl rfl ?_)
 repeat refine RD.no (want0 rfl rfl rfl rfl) rfl rfl ?_
 refine RD.q (u:=.bool false) rfl (q0e rfl rfl rfl) (RD.mv rfl rfl rfl rfl ?_)
 repeat refine RD.no (want0 rfl rfl rfl rfl) rfl rfl ?_
 refine RD.q (u:=.bool false) rfl (q0e rfl rfl rfl) (RD.mv rfl rfl rfl rfl ?_)
 repeat refine RD.no (want0 rfl rfl rfl rfl) rfl rfl ?_
 refine RD.q (u:=.bool false) rfl (q0e rfl rfl rfl) (RD.mv rfl rfl rfl rfl ?_)
 repeat refine RD.no (want0 rfl rfl rfl rfl) rfl rfl ?_
 refine RD.q (u:=.bool false) rfl (q0e rfl rfl rfl) (RD.as rfl rfl rfl rfl ?_)
 refine RD.done ⟨by kernel_rfl,trivial,?_⟩
 refine st ?_
 exact ⟨_,_,⟨rfl,rfl⟩,(Nat.zero_le _),Gh.toC (n1:=9) ⟨rfl,trivial⟩ rfl (Nat.zero_le _) (by simp)⟩
 replace h88:=q0n h49 h88
 replace h88:=Option.some.inj h88
 subst h88
 refine WPU.drawE Try.tb_ok [] (by kernel_rfl) ?_
 refine RD.mv rfl rfl rfl rfl (RD.q rfl (q05 rfl rfl (q45 _ _ _) rfl) (RD.mv rfl rfl rfl rfl ?_))
 repeat refine RD.no (want0 rfl rfl rfl h49) rfl rfl ?_
 refine RD.q (u:=.bool false) rfl (q0e rfl h49 rfl) (RD.mv rfl rfl rfl rfl ?_)
 repeat refine RD.no (want0 rfl rfl rfl rfl) rfl rfl ?_
 refine RD.q (u:=.bool false) rfl (q0e rfl rfl rfl) (RD.mv rfl rfl rfl rfl ?_)
 repeat refine RD.no (want0 rfl rfl rfl rfl) rfl rfl ?_
 refine RD.q (u:=.bool false) rfl (q0e rfl rfl rfl) (RD.mv rfl rfl rfl rfl ?_)
 repeat refine RD.no (want0 rfl rfl rfl rfl) rfl rfl ?_
 refine RD.q (u:=.bool false) rfl (q0e rfl rfl rfl) (RD.mv rfl rfl rfl rfl ?_)
 repeat refine RD.no (want0 rfl rfl rfl rfl) rfl rfl ?_
 refine RD.q (u:=.bool false) rfl (q0e rfl rfl rfl) (RD.mv rfl rfl rfl rfl ?_)
 repeat refine RD.no (want0 rfl rfl rfl rfl) rfl rfl ?_
 refine RD.q (u:=.bool false) rfl (q0e rfl rfl rfl) (RD.as rfl rfl rfl rfl ?_)
 refine RD.done ⟨by kernel_rfl,trivial,?_⟩
 refine st ?_
 exact ⟨_,_,⟨rfl,rfl⟩,(Nat.zero_le _),Gh.toC (n1:=9) ⟨rfl,trivial⟩ rfl (Nat.zero_le _) (by simp)⟩
 rcases q2y (r9.2 != 0) with h21 | h21
 replace h45:=q0o h21 h45
 replace h45:=Option.some.inj h45
 subst h45
 refine WPU.drawE Try.tb_ok [] (by kernel_rfl) ?_
 refine RD.mv rfl rfl rfl rfl (RD.q rfl (q05 rfl rfl (q5m _ _ _) rfl) (RD.mv rfl rfl rfl rfl ?_))
 repeat refine RD.no (want0 rfl rfl rfl h21) rfl rfl ?_
 refine RD.q (u:=.bool true) rfl (q0g rfl h21 rfl) (RD.mv rfl rfl rfl rfl ?_)
 repeat refine RD.no (want0 rfl rfl rfl rfl) rfl rfl ?_
 refine RD.q (u:=.bool true) rfl (q0g rfl rfl rfl) (RD.mv rfl rfl rfl rfl ?_)
 repeat refine RD.no (want0 rfl rfl rfl rfl) rfl rfl ?_
 refine RD.q (u:=.bool true) rfl (q0g rfl rfl rfl) ?_
 refine RD.done ⟨by kernel_rfl,trivial,?_⟩
 refine st ?_
 exact ⟨_,_,⟨rfl,rfl⟩,(Nat.zero_le _),Gh.toC (n1:=8) ⟨rfl,rfl,trivial⟩ rfl (Nat.zero_le _) (by simp)⟩
 replace h45:=q0n h21 h45
 rcases q2y (r19.2 != 0) with h22 | h22
 replace h45:=q0o h22 h45
 replace h45:=Option.some.inj h45
 subst h45
 refine WPU.drawE Try.tb_ok [] (by kernel_rfl) ?_
 refine RD.mv rfl rfl rfl rfl (RD.q rfl (q05 rfl rfl (q5m _ _ _) rfl) (RD.mv rfl rfl rfl rfl (RD.look (want1 rfl rfl rfl h21) (q39 rfl) rfl rfl (RD.look (want1 rfl rfl rfl h21) (q05 rfl rfl (q5m _ _ _) rfl) rfl rfl (RD.q (u:=.bool (r19.2 != 0)) rfl (q0e rfl h21 rfl) (RD.mv rfl rfl rfl rfl ?_))))))
 repeat refine RD.no (want0 rfl rfl rfl h22) rfl rfl ?_
 refine RD.q (u:=.bool true) rfl (q0g rfl h22 rfl) (RD.mv rfl rfl rfl rfl ?_)
 repeat refine RD.no (want0 rfl rfl rfl rfl) rfl rfl ?_
 refine RD.q (u:=.bool true) rfl (q0g rfl rfl rfl) ?_
 refine RD.done ⟨by kernel_rfl,trivial,?_⟩
 refine st ?_
 exact ⟨_,_,⟨rfl,rfl⟩,(Nat.zero_le _),Gh.toC (n1:=8) ⟨rfl,rfl,trivial⟩ rfl (Nat.zero_le _) (by simp)⟩
 replace h45:=q0n h22 h45
 obtain ⟨r23,h24,h45⟩:=q00 h45
 obtain ⟨r25,h26,h45⟩:=q00 h45
 obtain ⟨r27,h28,h45⟩:=q00 h45
 obtain ⟨r29,h30,h45⟩:=q00 h45
 obtain ⟨r31,h32,h45⟩:=q00 h45
 rcases q2y (!r31) with h33 | h33
 replace h45:=q0o h33 h45
 replace h45:=Option.some.inj h45
 subst h45
 refine WPU.drawE Try.tb_ok [(7,13),(7,14)] (by kernel_rfl) ?_
 refine RD.mv rfl rfl rfl rfl (RD.q rfl (q05 rfl rfl (q5m _ _ _) rfl) (RD.mv rfl rfl rfl rfl (RD.look (want1 rfl rfl rfl h21) (q39 rfl) rfl rfl (RD.look (want1 rfl rfl rfl h21) (q05 rfl rfl (q5m _ _ _) rfl) rfl rfl (RD.q (u:=.bool (r19.2 != 0)) rfl (q0e rfl h21 rfl) (RD.mv rfl rfl rfl rfl (RD.look (u:=.agg [.isl false (List.map cGNode r9.1.Nodes)]) (want1 rfl rfl rfl h22) (q0p und25 rfl (q02 inf25) rfl rfl rfl) rfl rfl ?_)))))))
 refine RD.freeO (u:=.isl false (List.map (cI .i64) ([0,1,1,2]))) (want1 rfl rfl rfl h22) (FreeO.bs (cs:=[.int .i64 0,.int .i64 1,.int .i64 1,.int .i64 2]) und55 inf3 rfl rfl rfl rfl rfl rfl rfl rfl rfl) rfl rfl (RD.free (u:=.agg (cGNode r23)) (args:=[.int .i64 1,.isl false (List.map (cI .i64) ([0,1,1,2]))]) (want1 rfl rfl rfl h22) (q01 rfl rfl fn29 hb29 rfl rfl) (fun s=>q04 n 1 ([0,1,1,2]) r23 h24 s) rfl rfl (RD.freeO (u:=.isl false (List.map (cI .i64) ([0,2]))) (want1 rfl rfl rfl h22) (FreeO.bs (cs:=[.int .i64 0,.int .i64 2]) und55 inf3 rfl rfl rfl rfl rfl rfl rfl rfl rfl) rfl rfl (RD.free (u:=.agg (cGNode r25)) (args:=[.int .i64 3,.isl false (List.map (cI .i64) ([0,2]))]) (want1 rfl rfl rfl h22) (q01 rfl rfl fn29 hb29 rfl rfl) (fun s=>q04 n 3 ([0,2]) r25 h26 s) rfl rfl (RD.free (u:=.agg (cGNode r27)) (args:=[.int .i64 2,.nils]) (want1 rfl rfl rfl h22) (q01 rfl rfl fn29 hb29 rfl rfl) (fun s=>EvU.wkA (args':=[.int .i64 2,.isl false []]) (.cons (.refl _) (.cons (.nil false) .nil)) (fun s=>q04 n 2 [] r27 h28 s) s) rfl rfl (RD.act (u:=.sl 8 0 3 3) (σ':=⟨[(8,.row [.int .i64 r23.Typex,.isl false (List.map cGArc r23.Arcs),.int .i64 r25.Typex,.isl false (List.map cGArc r25.Arcs),.int .i64 r27.Typex,.isl false (List.map cGArc r27.Arcs)] 43),(7,.row [.isl false (List.map cGNode r19.1.Nodes)] 25),(3,.row [.isl false (List.map cGNode r9.1.Nodes)] 25)],9⟩) (want1 rfl rfl rfl h22) (q21 und23 inf43 rfl rfl rfl rfl rfl rfl rfl) rfl rfl ?_)))))
 refine RD.fcall (u:=.agg [.isl false (List.map cGNode r29.Nodes)]) (args:=[.sl 8 0 3 3]) (σ1:=⟨[(7,.row [.isl false (List.map cGNode r19.1.Nodes)] 25),(3,.row [.isl false (List.map cGNode r9.1.Nodes)] 25)],9⟩) (want1 rfl rfl rfl h22) (q01 rfl rfl fn32 hb32 rfl rfl) (Gh.fz (tm':=[.isl false (List.map cGNode ([r23,r25,r27]))]) (h':=[(7,.row [.isl false (List.map cGNode r19.1.Nodes)] 25),(3,.row [.isl false (List.map cGNode r9.1.Nodes)] 25)]) 8 (.row [.int .i64 r23.Typex,.isl false (List.map cGArc r23.Arcs),.int .i64 r25.Typex,.isl false (List.map cGArc r25.Arcs),.int .i64 r27.Typex,.isl false (List.map cGArc r27.Arcs)] 43) 2 rfl (by simp) (by simp only [oneU,q06,q03,q0i,q08,q0l,q0c,q0b,q0a,q09,q07,q0j,q0k,q0h,q0m,q18,junkT,q1q,q1t,Nat.reduceLeDiff,Nat.reduceMul,List.length_cons,List.length_nil,Nat.reduceAdd]<;>simp only [chunks,List.take,List.drop,List.map,cGNode]) (by simp only [fzH,fzB,ug,Nat.beq,cond_true,cond_false,oneU,q06,q03,q0i,q08,q0l,q0c,q0b,q0a,q09,q07,q0j,q0k,q0h,q0m,q18,junkT,q1q,q1t,Nat.reduceLeDiff,Nat.reduceMul,List.length_cons,List.length_nil,Nat.reduceAdd]<;>simp only [chunks,List.take,List.drop,List.map,cGNode])) (Nat.le_of_ble_eq_true rfl) (q16 n ([r23,r25,r27]) r29 h30 _) rfl rfl ?_
 refine RD.free (u:=.bool r31) (args:=[.agg [.isl false (List.map cGNode r9.1.Nodes)],.agg [.isl false (List.map cGNode r29.Nodes)]]) (want1 rfl rfl rfl h22) (q01 rfl rfl fn14 hb14 rfl rfl) (fun s=>q0s n (GFS.mk r9.1.Nodes) r29 r31 h32 s) rfl rfl (RD.look (u:=.bool (!r31)) (want1 rfl rfl rfl h22) (q7o rfl rfl rfl rfl) rfl rfl (RD.q (u:=.bool (!r31)) rfl (q0e rfl h22 rfl) (RD.mv rfl rfl rfl rfl ?_)))
 repeat refine RD.no (want0 rfl rfl rfl h33) rfl rfl ?_
 refine RD.q (u:=.bool true) rfl (q0g rfl h33 rfl) ?_
 refine RD.done ⟨by kernel_rfl,⟨q0p und25 rfl (q02 inf25) rfl rfl rfl,⟨q0p und25 rfl (q02 inf25) rfl rfl rfl,trivial⟩⟩,?_⟩
 refine st ?_
 exact ⟨_,_,⟨rfl,rfl⟩,(Nat.zero_le _),Gh.toC (n1:=8) ⟨rfl,rfl,trivial⟩ rfl (Nat.zero_le _) (by simp)⟩
 replace h45:=q0n h33 h45
 obtain ⟨r34,h35,h45⟩:=q00 h45
 obtain ⟨r36,h37,h45⟩:=q00 h45
 obtain ⟨r38,h39,h45⟩:=q00 h45
 obtain ⟨r40,h41,h45⟩:=q00 h45
 obtain ⟨r42,h43,h45⟩:=q00 h45
 replace h45:=Option.some.inj h45
 subst h45
 refine WPU.drawE Try.tb_ok [(7,13),(7,14),(19,25),(19,26)] (by kernel_rfl) ?_
 refine RD.mv rfl rfl rfl rfl (RD.q rfl (q05 rfl rfl (q5m _ _ _) rfl) (RD.mv rfl rfl rfl rfl (RD.look (want1 rfl rfl rfl h21) (q39 rfl) rfl rfl (RD.look (want1 rfl rfl rfl h21) (q05 rfl rfl (q5m _ _ _) rfl) rfl rfl (RD.q (u:=.bool (r19.2 != 0)) rfl (q0e rfl h21 rfl) (RD.mv rfl rfl rfl rfl (RD.look (u:=.agg [.isl false (List.map cGNode r9.1.Nodes)]) (want1 rfl rfl rfl h22) (q0p und25 rfl (q02 inf25) rfl rfl rfl) rfl rfl ?_)))))))
 refine RD.freeO (u:=.isl false (List.map (cI .i64) ([0,1,1,2]))) (want1 rfl rfl rfl h22) (FreeO.bs (cs:=[.int .i64 0,.int .i64 1,.int .i64 1,.int .i64 2]) und55 inf3 rfl rfl rfl rfl rfl rfl rfl rfl rfl) rfl rfl (RD.free (u:=.agg (cGNode r23)) (args:=[.int .i64 1,.isl false (List.map (cI .i64) ([0,1,1,2]))]) (want1 rfl rfl rfl h22) (q01 rfl rfl fn29 hb29 rfl rfl) (fun s=>q04 n 1 ([0,1,1,2]) r23 h24 s) rfl rfl (RD.freeO (u:=.isl false (List.map (cI .i64) ([0,2]))) (want1 rfl rfl rfl h22) (FreeO.bs (cs:=[.int .i64 0,.int .i64 2]) und55 inf3 rfl rfl rfl rfl rfl rfl rfl rfl rfl) rfl rfl (RD.free (u:=.agg (cGNode r25)) (args:=[.int .i64 3,.isl false (List.map (cI .i64) ([0,2]))]) (want1 rfl rfl rfl h22) (q01 rfl rfl fn29 hb29 rfl rfl) (fun s=>q04 n 3 ([0,2]) r25 h26 s) rfl rfl (RD.free (u:=.agg (cGNode r27)) (args:=[.int .i64 2,.nils]) (want1 rfl rfl rfl h22) (q01 rfl rfl fn29 hb29 rfl rfl) (fun s=>EvU.wkA (args':=[.int .i64 2,.isl false []]) (.cons (.refl _) (.cons (.nil false) .nil)) (fun s=>q04 n 2 [] r27 h28 s) s) rfl rfl (RD.act (u:=.sl 8 0 3 3) (σ':=⟨[(8,.row [.int .i64 r23.Typex,.isl false (List.map cGArc r23.Arcs),.int .i64 r25.Typex,.isl false (List.map cGArc r25.Arcs),.int .i64 r27.Typex,.isl false (List.map cGArc r27.Arcs)] 43),(7,.row [.isl false (List.map cGNode r19.1.Nodes)] 25),(3,.row [.isl false (List.map cGNode r9.1.Nodes)] 25)],9⟩) (want1 rfl rfl rfl h22) (q21 und23 inf43 rfl rfl rfl rfl rfl rfl rfl) rfl rfl ?_)))))
 refine RD.fcall (u:=.agg [.isl false (List.map cGNode r29.Nodes)]) (args:=[.sl 8 0 3 3]) (σ1:=⟨[(7,.row [.isl false (List.map cGNode r19.1.Nodes)] 25),(3,.row [.isl false (List.map cGNode r9.1.Nodes)] 25)],9⟩) (want1 rfl rfl rfl h22) (q01 rfl rfl fn32 hb32 rfl rfl) (Gh.fz (tm':=[.isl false (List.map cGNode ([r23,r25,r27]))]) (h':=[(7,.row [.isl false (List.map cGNode r19.1.Nodes)] 25),(3,.row [.isl false (List.map cGNode r9.1.Nodes)] 25)]) 8 (.row [.int .i64 r23.Typex,.isl false (List.map cGArc r23.Arcs),.int .i64 r25.Typex,.isl false (List.map cGArc r25.Arcs),.int .i64 r27.Typex,.isl false (List.map cGArc r27.Arcs)] 43) 2 rfl (by simp) (by simp only [oneU,q06,q03,q0i,q08,q0l,q0c,q0b,q0a,q09,q07,q0j,q0k,q0h,q0m,q18,junkT,q1q,q1t,Nat.reduceLeDiff,Nat.reduceMul,List.length_cons,List.length_nil,Nat.reduceAdd]<;>simp only [chunks,List.take,List.drop,List.map,cGNode]) (by simp only [fzH,fzB,ug,Nat.beq,cond_true,cond_false,oneU,q06,q03,q0i,q08,q0l,q0c,q0b,q0a,q09,q07,q0j,q0k,q0h,q0m,q18,junkT,q1q,q1t,Nat.reduceLeDiff,Nat.reduceMul,List.length_cons,List.length_nil,Nat.reduceAdd]<;>simp only [chunks,List.take,List.drop,List.map,cGNode])) (Nat.le_of_ble_eq_true rfl) (q16 n ([r23,r25,r27]) r29 h30 _) rfl rfl ?_
 refine RD.free (u:=.bool r31) (args:=[.agg [.isl false (List.map cGNode r9.1.Nodes)],.agg [.isl false (List.map cGNode r29.Nodes)]]) (want1 rfl rfl rfl h22) (q01 rfl rfl fn14 hb14 rfl rfl) (fun s=>q0s n (GFS.mk r9.1.Nodes) r29 r31 h32 s) rfl rfl (RD.look (u:=.bool (!r31)) (want1 rfl rfl rfl h22) (q7o rfl rfl rfl rfl) rfl rfl (RD.q (u:=.bool (!r31)) rfl (q0e rfl h22 rfl) (RD.mv rfl rfl rfl rfl (RD.look (u:=.agg [.isl false (List.map cGNode r19.1.Nodes)]) (want1 rfl rfl rfl h33) (q0p und25 rfl (q02 inf25) rfl rfl rfl) rfl rfl (RD.freeO (u:=.isl false (List.map (cI .i64) ([3,1,7,2]))) (want1 rfl rfl rfl h33) (FreeO.bs (cs:=[.int .i64 3,.int .i64 1,.int .i64 7,.int .i64 2]) und55 inf3 rfl rfl rfl rfl rfl rfl rfl rfl rfl) rfl rfl (RD.free (u:=.agg (cGNode r34)) (args:=[.int .i64 4,.isl false (List.map (cI .i64) ([3,1,7,2]))]) (want1 rfl rfl rfl h33) (q01 rfl rfl fn29 hb29 rfl rfl) (fun s=>q04 n 4 ([3,1,7,2]) r34 h35 s) rfl rfl (RD.free (u:=.agg (cGNode r36)) (args:=[.int .i64 5,.nils]) (want1 rfl rfl rfl h33) (q01 rfl rfl fn29 hb29 rfl rfl) (fun s=>EvU.wkA (args':=[.int .i64 5,.isl false []]) (.cons (.refl _) (.cons (.nil false) .nil)) (fun s=>q04 n 5 [] r36 h37 s) s) rfl rfl ?_)))))))
 refine RD.freeO (u:=.isl false (List.map (cI .i64) ([2,0]))) (want1 rfl rfl rfl h33) (FreeO.bs (cs:=[.int .i64 2,.int .i64 0]) und55 inf3 rfl rfl rfl rfl rfl rfl rfl rfl rfl) rfl rfl (RD.free (u:=.agg (cGNode r38)) (args:=[.int .i64 6,.isl false (List.map (cI .i64) ([2,0]))]) (want1 rfl rfl rfl h33) (q01 rfl rfl fn29 hb29 rfl rfl) (fun s=>q04 n 6 ([2,0]) r38 h39 s) rfl rfl (RD.act (u:=.sl 9 0 3 3) (σ':=⟨[(9,.row [.int .i64 r34.Typex,.isl false (List.map cGArc r34.Arcs),.int .i64 r36.Typex,.isl false (List.map cGArc r36.Arcs),.int .i64 r38.Typex,.isl false (List.map cGArc r38.Arcs)] 43),(7,.row [.isl false (List.map cGNode r19.1.Nodes)] 25),(3,.row [.isl false (List.map cGNode r9.1.Nodes)] 25)],10⟩) (want1 rfl rfl rfl h33) (q21 und23 inf43 rfl rfl rfl rfl rfl rfl rfl) rfl rfl ?_))
 refine RD.fcall (u:=.agg [.isl false (List.map cGNode r40.Nodes)]) (args:=[.sl 9 0 3 3]) (σ1:=⟨[(7,.row [.isl false (List.map cGNode r19.1.Nodes)] 25),(3,.row [.isl false (List.map cGNode r9.1.Nodes)] 25)],10⟩) (want1 rfl rfl rfl h33) (q01 rfl rfl fn32 hb32 rfl rfl) (Gh.fz (tm':=[.isl false (List.map cGNode ([r34,r36,r38]))]) (h':=[(7,.row [.isl false (List.map cGNode r19.1.Nodes)] 25),(3,.row [.isl false (List.map cGNode r9.1.Nodes)] 25)]) 9 (.row [.int .i64 r34.Typex,.isl false (List.map cGArc r34.Arcs),.int .i64 r36.Typex,.isl false (List.map cGArc r36.Arcs),.int .i64 r38.Typex,.isl false (List.map cGArc r38.Arcs)] 43) 2 rfl (by simp) (by simp only [oneU,q06,q03,q0i,q08,q0l,q0c,q0b,q0a,q09,q07,q0j,q0k,q0h,q0m,q18,junkT,q1q,q1t,Nat.reduceLeDiff,Nat.reduceMul,List.length_cons,List.length_nil,Nat.reduceAdd]<;>simp only [chunks,List.take,List.drop,List.map,cGNode]) (by simp only [fzH,fzB,ug,Nat.beq,cond_true,cond_false,oneU,q06,q03,q0i,q08,q0l,q0c,q0b,q0a,q09,q07,q0j,q0k,q0h,q0m,q18,junkT,q1q,q1t,Nat.reduceLeDiff,Nat.reduceMul,List.length_cons,List.length_nil,Nat.reduceAdd]<;>simp only [chunks,List.take,List.drop,List.map,cGNode])) (Nat.le_of_ble_eq_true rfl) (q16 n ([r34,r36,r38]) r40 h41 _) rfl rfl ?_
 refine RD.free (u:=.bool r42) (args:=[.agg [.isl false (List.map cGNode r19.1.Nodes)],.agg [.isl false (List.map cGNode r40.Nodes)]]) (want1 rfl rfl rfl h33) (q01 rfl rfl fn14 hb14 rfl rfl) (fun s=>q0s n (GFS.mk r19.1.Nodes) r40 r42 h43 s) rfl rfl (RD.look (u:=.bool (!r42)) (want1 rfl rfl rfl h33) (q7o rfl rfl rfl rfl) rfl rfl (RD.q (u:=.bool (!r42)) rfl (q0e rfl h33 rfl) ?_))
 refine RD.done ⟨by kernel_rfl,⟨q0p und25 rfl (q02 inf25) rfl rfl rfl,⟨q0p und25 rfl (q02 inf25) rfl rfl rfl,⟨q0p und25 rfl (q02 inf25) rfl rfl rfl,⟨q0p und25 rfl (q02 inf25) rfl rfl rfl,trivial⟩⟩⟩⟩,?_⟩
 refine st ?_
 exact ⟨_,_,⟨rfl,rfl⟩,(Nat.zero_le _),Gh.toC (n1:=8) ⟨rfl,rfl,trivial⟩ rfl (Nat.zero_le _) (by simp)⟩
theorem q3t (n:Nat)  (r:Bool) (hF:q1r n  = some r) (σ:Sg):EvU Try.prog 16 [] σ (fun u σ'=>u = .bool r∧σ'=σ) :=
 EvU.pure1C (q7c n  r hF) σ
def q4c (n:Nat) (p1:GFS) (p2:List Int):Option (Bool) :=
 bindO (bindO (q4u n p1) fun r3 =>
 cond (!r3)
  (some true)
  (some (decide ((p2.length:Int) > 30)))) fun b6 =>
 cond b6
  (bindO (q1r n) fun r9 =>
  some r9)
  (bindO (q2p n p1) fun r11 =>
  cond (r11.2 != 0)
   (bindO (cond ((r11.1.Nodes.length:Int) == 0)
    (bindO (q1r n) fun r15 =>
    some r15)
    (some false)) fun b17 =>
   some b17)
   (bindO (q3n n p1 p2) fun r19 =>
   bindO (q2p n r19) fun r21 =>
   bindO (q2p n (GFS.mk r11.1.Nodes)) fun r23 =>
   bindO (cond (r21.2 == 0)
    (cond (r23.2 == 0)
     (bindO (q2r n (GFS.mk r11.1.Nodes) (GFS.mk r21.1.Nodes)) fun r27 =>
     cond r27
      (bindO (q2r n (GFS.mk r11.1.Nodes) (GFS.mk r23.1.Nodes)) fun r30 =>
      cond r30
       (bindO (q1r n) fun r33 =>
       some r33)
       (some false))
      (some false))
     (some false))
    (some false)) fun b35 =>
   some b35))
theorem q83 (n:Nat) (p1:GFS) (p2:List Int) (r:Bool) (hF:q4c n p1 p2=some r):EvU Try.prog 8 [.agg [.isl false (List.map cGNode p1.Nodes)],.isl false (List.map (cI .u8) p2)] ⟨[],0⟩ (fun u _=>u = .bool r∧Bel 0 u):=by
 unfold q4c at hF
 refine EvU.of_body Try.tb_ok fn8 rfl ?_
 refine WPU.ghost (tm':=fr 65 [(0,.agg [.isl false (List.map cGNode p1.Nodes)]),(1,.isl false (List.map (cI .u8) p2))]) (Gh.start (Nat.le_of_ble_eq_true rfl)) (Nat.zero_le _) ?_
 refine sr ?_
 refine RS.q (u:=.ptr 0 0 0) (σ':=⟨[(0,.row [.isl false (List.map cGNode p1.Nodes)] 25)],1⟩) rfl (q3h rfl rfl rfl) ?_
 refine sd ?_
 obtain ⟨b6,h7,hF⟩:=q00 hF
 refine WPU.joinK (fun tm σ=>tm=fr 65 [(1,.isl false (List.map (cI .u8) p2)),(2,.ptr 0 0 0),(18,.bool b6)]∧σ=⟨[(0,.row [.isl false (List.map cGNode p1.Nodes)] 25)],1⟩) ?_ ?_
 rintro _ _ ⟨rfl,rfl⟩
 refine st ?_
 refine WPU.condS (t:=b6) rfl (fun h8=>?_) (fun h8=>?_)
 replace hF:=q0o h8 hF
 refine st ?_
 obtain ⟨r9,h10,hF⟩:=q00 hF
 refine sr ?_
 refine RS.call (u:=.bool r9) (args:=[]) rfl (q01 rfl rfl fn16 hb16 rfl rfl) (q3t n  r9 h10 _) rfl rfl ?_
 refine sd ?_
 refine WPU.ret ?_
 refine st ?_
 have hr:=Option.some.inj hF
 subst hr
 exact ⟨.inr rfl,[.bool r9],q2b rfl (q1v),.bool r9,⟨[],0⟩,Nat.le_refl _,Gh.toR (.bool r9) rfl,rfl,BU.h⟩
 replace hF:=q0n h8 hF
 refine st ?_
 refine WPU.skip ?_
 refine st ?_
 obtain ⟨r11,h12,hF⟩:=q00 hF
 refine sr ?_
 refine RS.q (u:=.agg [.isl false (List.map cGNode p1.Nodes)]) rfl (q0p und25 rfl (q02 inf25) rfl rfl rfl) (RS.call (u:=.tup [.agg [.isl false (List.map cGNode r11.1.Nodes)],.int .i64 r11.2]) (args:=[.agg [.isl false (List.map cGNode p1.Nodes)]]) rfl (q01 rfl rfl fn13 hb13 rfl rfl) (q3m n p1 r11 h12 _) rfl rfl (RS.mv rfl rfl rfl rfl (RS.q rfl (q5y rfl rfl) (RS.q rfl (q5y rfl rfl) (RS.q (u:=.ptr 1 0 0) (σ':=⟨[(1,.row [.nils] 25),(0,.row [.isl false (List.map cGNode p1.Nodes)] 25)],2⟩) rfl (q0z inf25 rfl rfl) (RS.opn (u:=.junk) (σ':=⟨[(1,.row [.isl false (List.map cGNode r11.1.Nodes)] 25),(0,.row [.isl false (List.map cGNode p1.Nodes)] 25)],2⟩) rfl (q0q (q02 inf25) rfl rfl rfl rfl rfl rfl rfl rfl) rfl ?_))))))
 refine se ?_
 refine RS.q rfl (q05 rfl rfl (q5m _ _ _) rfl) ?_
 refine sd ?_
 refine WPU.condS (t:=(r11.2 != 0)) rfl (fun h13=>?_) (fun h13=>?_)
 replace hF:=q0o h13 hF
 refine st ?_
 obtain ⟨b17,h18,hF⟩:=q00 hF
 refine WPU.joinK (fun tm σ=>tm=fr 65 [(4,.bool b17)]∧σ=⟨[(1,.row [.isl false (List.map cGNode r11.1.Nodes)] 25),(0,.row [.isl false (List.map cGNode p1.Nodes)] 25)],2⟩) ?_ ?_
 rintro _ _ ⟨rfl,rfl⟩
 refine st ?_
 refine WPU.ret ?_
 refine st ?_
 have hr:=Option.some.inj hF
 subst hr
 exact ⟨.inr rfl,[.bool b17],q2b rfl (q1v),.bool b17,⟨[],0⟩,Nat.le_refl _,Gh.toR (.bool b17) rfl,rfl,BU.h⟩
 rcases q2y ((r11.1.Nodes.length:Int) == 0) with h14 | h14
 replace h18:=q0o h14 h18
 obtain ⟨r15,h16,h18⟩:=q00 h18
 replace h18:=Option.some.inj h18
 subst h18
 refine sr ?_
 refine RS.q (u:=.ptr 1 0 0) rfl (q19 und25 rfl (q02 inf23) rfl rfl rfl) (RS.q (u:=.isl false (List.map cGNode r11.1.Nodes)) rfl (q0d und23 rfl rfl rfl rfl) (RS.q rfl (q1a rfl rfl rfl (q10 cGNode und23)) (RS.q rfl (q05 rfl rfl (q45 _ _ _) rfl) (RS.mv rfl rfl rfl rfl (RS.call (u:=.bool r15) (args:=[]) (want1 rfl rfl rfl h14) (q01 rfl rfl fn16 hb16 rfl rfl) (q3t n  r15 h16 _) rfl rfl (RS.q (u:=.bool r15) rfl (q0g rfl h14 rfl) ?_))))))
 refine sd ?_
 exact ⟨_,_,⟨rfl,rfl⟩,(Nat.zero_le _),Gh.toC (n1:=2) ⟨rfl,trivial⟩ rfl (Nat.zero_le _) (by simp)⟩
 replace h18:=q0n h14 h18
 replace h18:=Option.some.inj h18
 subst h18
 refine sr ?_
 refine RS.q (u:=.ptr 1 0 0) rfl (q19 und25 rfl (q02 inf23) rfl rfl rfl) (RS.q (u:=.isl false (List.map cGNode r11.1.Nodes)) rfl (q0d und23 rfl rfl rfl rfl) (RS.q rfl (q1a rfl rfl rfl (q10 cGNode und23)) (RS.q rfl (q05 rfl rfl (q45 _ _ _) rfl) (RS.mv rfl rfl rfl rfl (RS.no (want0 rfl rfl rfl h14) rfl rfl (RS.q (u:=.bool false) rfl (q0e rfl h14 rfl) ?_))))))
 refine sd ?_
 exact ⟨_,_,⟨rfl,rfl⟩,(Nat.zero_le _),Gh.toC (n1:=2) ⟨rfl,trivial⟩ rfl (Nat.zero_le _) (by simp)⟩
 replace hF:=q0n h13 hF
 refine st ?_
 refine WPU.skip ?_
 refine st ?_
 obtain ⟨r19,h20,hF⟩:=q00 hF
 obtain ⟨r21,h22,hF⟩:=q00 hF
 refine sr ?_
 refine RS.q (u:=.agg [.isl false (List.map cGNode p1.Nodes)]) rfl (q0p und25 rfl (q02 inf25) rfl rfl rfl) (RS.mv rfl rfl rfl rfl (RS.call (u:=.agg [.isl false (List.map cGNode r19.Nodes)]) (args:=[.agg [.isl false (List.map cGNode p1.Nodes)],.isl false (List.map (cI .u8) p2)]) rfl (q01 rfl rfl fn27 hb27 rfl rfl) (q8q n p1 p2 r19 h20 _) rfl rfl (RS.call (u:=.tup [.agg [.isl false (List.map cGNode r21.1.Nodes)],.int .i64 r21.2]) (args:=[.agg [.isl false (List.map cGNode r19.Nodes)]]) rfl (q01 rfl rfl fn13 hb13 rfl rfl) (q3m n r19 r21 h22 _) rfl rfl (RS.mv rfl rfl rfl rfl (RS.q rfl (q5y rfl rfl) (RS.q rfl (q5y rfl rfl) (RS.q (u:=.ptr 2 0 0) (σ':=⟨[(2,.row [.nils] 25),(1,.row [.isl false (List.map cGNode r11.1.Nodes)] 25),(0,.row [.isl false (List.map cGNode p1.Nodes)] 25)],3⟩) rfl (q0z inf25 rfl rfl) ?_)))))))
 refine RS.opn (u:=.junk) (σ':=⟨[(2,.row [.isl false (List.map cGNode r21.1.Nodes)] 25),(1,.row [.isl false (List.map cGNode r11.1.Nodes)] 25),(0,.row [.isl false (List.map cGNode p1.Nodes)] 25)],3⟩) rfl (q0q (q02 inf25) rfl rfl rfl rfl rfl rfl rfl rfl) rfl ?_
 refine sd ?_
 obtain ⟨r23,h24,hF⟩:=q00 hF
 refine sr ?_
 refine RS.q (u:=.agg [.isl false (List.map cGNode r11.1.Nodes)]) rfl (q0p und25 rfl (q02 inf25) rfl rfl rfl) (RS.call (u:=.tup [.agg [.isl false (List.map cGNode r23.1.Nodes)],.int .i64 r23.2]) (args:=[.agg [.isl false (List.map cGNode r11.1.Nodes)]]) rfl (q01 rfl rfl fn13 hb13 rfl rfl) (q3m n (GFS.mk r11.1.Nodes) r23 h24 _) rfl rfl (RS.mv rfl rfl rfl rfl (RS.q rfl (q5y rfl rfl) (RS.q rfl (q5y rfl rfl) (RS.q (u:=.ptr 3 0 0) (σ':=⟨[(3,.row [.nils] 25),(2,.row [.isl false (List.map cGNode r21.1.Nodes)] 25),(1,.row [.isl false (List.map cGNode r11.1.Nodes)] 25),(0,.row [.isl false (List.map cGNode p1.Nodes)] 25)],4⟩) rfl (q0z inf25 rfl rfl) (RS.opn (u:=.junk) (σ':=⟨[(3,.row [.isl false (List.map cGNode r23.1.Nodes)] 25),(2,.row [.isl false (List.map cGNode r21.1.Nodes)] 25),(1,.row [.isl false (List.map cGNode r11.1.Nodes)] 25),(0,.row [.isl false (List.map cGNode p1.Nodes)] 25)],4⟩) rfl (q0q (q02 inf25) rfl rfl rfl rfl rfl rfl rfl rfl) rfl ?_))))))
 refine sd ?_
 obtain ⟨b35,h36,hF⟩:=q00 hF
 refine WPU.joinK (fun tm σ=>tm=fr 65 [(4,.bool b35)]∧σ=⟨[(3,.row [.isl false (List.map cGNode r23.1.Nodes)] 25),(2,.row [.isl false (List.map cGNode r21.1.Nodes)] 25),(1,.row [.isl false (List.map cGNode r11.1.Nodes)] 25),(0,.row [.isl false (List.map cGNode p1.Nodes)] 25)],4⟩) ?_ ?_
 rintro _ _ ⟨rfl,rfl⟩
 refine st ?_
 refine WPU.ret ?_
 refine st ?_
 have hr:=Option.some.inj hF
 subst hr
 exact ⟨.inr rfl,[.bool b35],q2b rfl (q1v),.bool b35,⟨[],0⟩,Nat.le_refl _,Gh.toR (.bool b35) rfl,rfl,BU.h⟩
 rcases q2y (r21.2 == 0) with h25 | h25
 replace h36:=q0o h25 h36
 rcases q2y (r23.2 == 0) with h26 | h26
 replace h36:=q0o h26 h36
 obtain ⟨r27,h28,h36⟩:=q00 h36
 rcases q2y r27 with h29 | h29
 replace h36:=q0o h29 h36
 obtain ⟨r30,h31,h36⟩:=q00 h36
 rcases q2y r30 with h32 | h32
 replace h36:=q0o h32 h36
 obtain ⟨r33,h34,h36⟩:=q00 h36
 replace h36:=Option.some.inj h36
 subst h36
 refine sr ?_
 refine RS.q rfl (q05 rfl rfl (q45 _ _ _) rfl) (RS.mv rfl rfl rfl rfl (RS.op (want1 rfl rfl rfl h25) (q39 rfl) rfl rfl (RS.op (want1 rfl rfl rfl h25) (q05 rfl rfl (q45 _ _ _) rfl) rfl rfl (RS.q (u:=.bool (r23.2 == 0)) rfl (q0g rfl h25 rfl) (RS.mv rfl rfl rfl rfl (RS.op (u:=.agg [.isl false (List.map cGNode r11.1.Nodes)]) (want1 rfl rfl rfl h26) (q0p und25 rfl (q02 inf25) rfl rfl rfl) rfl rfl (RS.op (u:=.agg [.isl false (List.map cGNode r21.1.Nodes)]) (want1 rfl rfl rfl h26) (q0p und25 rfl (q02 inf25) rfl rfl rfl) rfl rfl ?_)))))))
 refine RS.call (u:=.bool r27) (args:=[.agg [.isl false (List.map cGNode r11.1.Nodes)],.agg [.isl false (List.map cGNode r21.1.Nodes)]]) (want1 rfl rfl rfl h26) (q01 rfl rfl fn14 hb14 rfl rfl) (q0s n (GFS.mk r11.1.Nodes) (GFS.mk r21.1.Nodes) r27 h28 _) rfl rfl (RS.q (u:=.bool r27) rfl (q0g rfl h26 rfl) (RS.mv rfl rfl rfl rfl (RS.op (u:=.agg [.isl false (List.map cGNode r11.1.Nodes)]) (want1 rfl rfl rfl h29) (q0p und25 rfl (q02 inf25) rfl rfl rfl) rfl rfl (RS.op (u:=.agg [.isl false (List.map cGNode r23.1.Nodes)]) (want1 rfl rfl rfl h29) (q0p und25 rfl (q02 inf25) rfl rfl rfl) rfl rfl (RS.call (u:=.bool r30) (args:=[.agg [.isl false (List.map cGNode r11.1.Nodes)],.agg [.isl false (List.map cGNode r23.1.Nodes)]]) (want1 rfl rfl rfl h29) (q01 rfl rfl fn14 hb14 rfl rfl) (q0s n (GFS.mk r11.1.Nodes) (GFS.mk r23.1.Nodes) r30 h31 _) rfl rfl (RS.q (u:=.bool r30) rfl (q0g rfl h29 rfl) (RS.mv rfl rfl rfl rfl ?_)))))))
 refine RS.call (u:=.bool r33) (args:=[]) (want1 rfl rfl rfl h32) (q01 rfl rfl fn16 hb16 rfl rfl) (q3t n  r33 h34 _) rfl rfl (RS.q (u:=.bool r33) rfl (q0g rfl h32 rfl) ?_)
 refine sd ?_
 exact ⟨_,_,⟨rfl,rfl⟩,(Nat.zero_le _),Gh.toC (n1:=4) ⟨rfl,trivial⟩ rfl (Nat.zero_le _) (by simp)⟩
 replace h36:=q0n h32 h36
 replace h36:=Option.some.inj h36
 subst h36
 refine sr ?_
 refine RS.q rfl (q05 rfl rfl (q45 _ _ _) rfl) (RS.mv rfl rfl rfl rfl (RS.op (want1 rfl rfl rfl h25) (q39 rfl) rfl rfl (RS.op (want1 rfl rfl rfl h25) (q05 rfl rfl (q45 _ _ _) rfl) rfl rfl (RS.q (u:=.bool (r23.2 == 0)) rfl (q0g rfl h25 rfl) (RS.mv rfl rfl rfl rfl (RS.op (u:=.agg [.isl false (List.map cGNode r11.1.Nodes)]) (want1 rfl rfl rfl h26) (q0p und25 rfl (q02 inf25) rfl rfl rfl) rfl rfl (RS.op (u:=.agg [.isl false (List.map cGNode r21.1.Nodes)]) (want1 rfl rfl rfl h26) (q0p und25 rfl (q02 inf25) rfl rfl rfl) rfl rfl ?_)))))))
 refine RS.call (u:=.bool r27) (args:=[.agg [.isl false (List.map cGNode r11.1.Nodes)],.agg [.isl false (List.map cGNode r21.1.Nodes)]]) (want1 rfl rfl rfl h26) (q01 rfl rfl fn14 hb14 rfl rfl) (q0s n (GFS.mk r11.1.Nodes) (GFS.mk r21.1.Nodes) r27 h28 _) rfl rfl (RS.q (u:=.bool r27) rfl (q0g rfl h26 rfl) (RS.mv rfl rfl rfl rfl (RS.op (u:=.agg [.isl false (List.map cGNode r11.1.Nodes)]) (want1 rfl rfl rfl h29) (q0p und25 rfl (q02 inf25) rfl rfl rfl) rfl rfl (RS.op (u:=.agg [.isl false (List.map cGNode r23.1.Nodes)]) (want1 rfl rfl rfl h29) (q0p und25 rfl (q02 inf25) rfl rfl rfl) rfl rfl (RS.call (u:=.bool r30) (args:=[.agg [.isl false (List.map cGNode r11.1.Nodes)],.agg [.isl false (List.map cGNode r23.1.Nodes)]]) (want1 rfl rfl rfl h29) (q01 rfl rfl fn14 hb14 rfl rfl) (q0s n (GFS.mk r11.1.Nodes) (GFS.mk r23.1.Nodes) r30 h31 _) rfl rfl (RS.q (u:=.bool r30) rfl (q0g rfl h29 rfl) (RS.mv rfl rfl rfl rfl ?_)))))))
 refine RS.no (want0 rfl rfl rfl h32) rfl rfl (RS.q (u:=.bool false) rfl (q0e rfl h32 rfl) ?_)
 refine sd ?_
 exact ⟨_,_,⟨rfl,rfl⟩,(Nat.zero_le _),Gh.toC (n1:=4) ⟨rfl,trivial⟩ rfl (Nat.zero_le _) (by simp)⟩
 replace h36:=q0n h29 h36
 replace h36:=Option.some.inj h36
 subst h36
 refine sr ?_
 refine RS.q rfl (q05 rfl rfl (q45 _ _ _) rfl) (RS.mv rfl rfl rfl rfl (RS.op (want1 rfl rfl rfl h25) (q39 rfl) rfl rfl (RS.op (want1 rfl rfl rfl h25) (q05 rfl rfl (q45 _ _ _) rfl) rfl rfl (RS.q (u:=.bool (r23.2 == 0)) rfl (q0g rfl h25 rfl) (RS.mv rfl rfl rfl rfl (RS.op (u:=.agg [.isl false (List.map cGNode r11.1.Nodes)]) (want1 rfl rfl rfl h26) (q0p und25 rfl (q02 inf25) rfl rfl rfl) rfl rfl (RS.op (u:=.agg [.isl false (List.map cGNode r21.1.Nodes)]) (want1 rfl rfl rfl h26) (q0p und25 rfl (q02 inf25) rfl rfl rfl) rfl rfl ?_)))))))
 refine RS.call (u:=.bool r27) (args:=[.agg [.isl false (List.map cGNode r11.1.Nodes)],.agg [.isl false (List.map cGNode r21.1.Nodes)]]) (want1 rfl rfl rfl h26) (q01 rfl rfl fn14 hb14 rfl rfl) (q0s n (GFS.mk r11.1.Nodes) (GFS.mk r21.1.Nodes) r27 h28 _) rfl rfl (RS.q (u:=.bool r27) rfl (q0g rfl h26 rfl) (RS.mv rfl rfl rfl rfl ?_))
 repeat refine RS.no (want0 rfl rfl rfl h29) rfl rfl ?_
 refine RS.q (u:=.bool false) rfl (q0e rfl h29 rfl) (RS.mv rfl rfl rfl rfl (RS.no (want0 rfl rfl rfl rfl) rfl rfl (RS.q (u:=.bool false) rfl (q0e rfl rfl rfl) ?_)))
 refine sd ?_
 exact ⟨_,_,⟨rfl,rfl⟩,(Nat.zero_le _),Gh.toC (n1:=4) ⟨rfl,trivial⟩ rfl (Nat.zero_le _) (by simp)⟩
 replace h36:=q0n h26 h36
 replace h36:=Option.some.inj h36
 subst h36
 refine sr ?_
 refine RS.q rfl (q05 rfl rfl (q45 _ _ _) rfl) (RS.mv rfl rfl rfl rfl (RS.op (want1 rfl rfl rfl h25) (q39 rfl) rfl rfl (RS.op (want1 rfl rfl rfl h25) (q05 rfl rfl (q45 _ _ _) rfl) rfl rfl (RS.q (u:=.bool (r23.2 == 0)) rfl (q0g rfl h25 rfl) (RS.mv rfl rfl rfl rfl ?_)))))
 repeat refine RS.no (want0 rfl rfl rfl h26) rfl rfl ?_
 refine RS.q (u:=.bool false) rfl (q0e rfl h26 rfl) (RS.mv rfl rfl rfl rfl ?_)
 repeat refine RS.no (want0 rfl rfl rfl rfl) rfl rfl ?_
 refine RS.q (u:=.bool false) rfl (q0e rfl rfl rfl) (RS.mv rfl rfl rfl rfl (RS.no (want0 rfl rfl rfl rfl) rfl rfl (RS.q (u:=.bool false) rfl (q0e rfl rfl rfl) ?_)))
 refine sd ?_
 exact ⟨_,_,⟨rfl,rfl⟩,(Nat.zero_le _),Gh.toC (n1:=4) ⟨rfl,trivial⟩ rfl (Nat.zero_le _) (by simp)⟩
 replace h36:=q0n h25 h36
 replace h36:=Option.some.inj h36
 subst h36
 refine sr ?_
 refine RS.q rfl (q05 rfl rfl (q45 _ _ _) rfl) (RS.mv rfl rfl rfl rfl ?_)
 repeat refine RS.no (want0 rfl rfl rfl h25) rfl rfl ?_
 refine RS.q (u:=.bool false) rfl (q0e rfl h25 rfl) (RS.mv rfl rfl rfl rfl ?_)
 repeat refine RS.no (want0 rfl rfl rfl rfl) rfl rfl ?_
 refine RS.q (u:=.bool false) rfl (q0e rfl rfl rfl) (RS.mv rfl rfl rfl rfl ?_)
 repeat refine RS.no (want0 rfl rfl rfl rfl) rfl rfl ?_
 refine RS.q (u:=.bool false) rfl (q0e rfl rfl rfl) (RS.mv rfl rfl rfl rfl (RS.no (want0 rfl rfl rfl rfl) rfl rfl (RS.q (u:=.bool false) rfl (q0e rfl rfl rfl) ?_)))
 refine sd ?_
 exact ⟨_,_,⟨rfl,rfl⟩,(Nat.zero_le _),Gh.toC (n1:=4) ⟨rfl,trivial⟩ rfl (Nat.zero_le _) (by simp)⟩
 obtain ⟨r3,h4,h7⟩:=q00 h7
 rcases q2y (!r3) with h5 | h5
 replace h7:=q0o h5 h7
 replace h7:=Option.some.inj h7
 subst h7
 refine sr ?_
 refine RS.q (u:=.agg [.isl false (List.map cGNode p1.Nodes)]) rfl (q0p und25 rfl (q02 inf25) rfl rfl rfl) (RS.call (u:=.bool r3) (args:=[.agg [.isl false (List.map cGNode p1.Nodes)]]) rfl (q01 rfl rfl fn17 hb17 rfl rfl) (q7f n p1 r3 h4 _) rfl rfl (RS.q (u:=.bool (!r3)) rfl (q7o rfl rfl rfl rfl) (RS.mv rfl rfl rfl rfl ?_)))
 repeat refine RS.no (want0 rfl rfl rfl h5) rfl rfl ?_
 refine RS.q (u:=.bool true) rfl (q0g rfl h5 rfl) ?_
 refine sd ?_
 exact ⟨_,_,⟨rfl,rfl⟩,(Nat.zero_le _),Gh.toC (n1:=1) ⟨rfl,rfl,rfl,trivial⟩ rfl (Nat.zero_le _) (by simp)⟩
 replace h7:=q0n h5 h7
 replace h7:=Option.some.inj h7
 subst h7
 refine sr ?_
 refine RS.q (u:=.agg [.isl false (List.map cGNode p1.Nodes)]) rfl (q0p und25 rfl (q02 inf25) rfl rfl rfl) (RS.call (u:=.bool r3) (args:=[.agg [.isl false (List.map cGNode p1.Nodes)]]) rfl (q01 rfl rfl fn17 hb17 rfl rfl) (q7f n p1 r3 h4 _) rfl rfl (RS.q (u:=.bool (!r3)) rfl (q7o rfl rfl rfl rfl) (RS.mv rfl rfl rfl rfl (RS.op (want1 rfl rfl rfl h5) (q39 rfl) rfl rfl (RS.op (want1 rfl rfl rfl h5) (q1a rfl rfl rfl (q10 (cI .u8) und37)) rfl rfl (RS.op (want1 rfl rfl rfl h5) (q05 rfl rfl (qac _ _ _) rfl) rfl rfl (RS.q (u:=.bool (decide ((p2.length:Int) > 30))) rfl (q0e rfl h5 rfl) ?_)))))))
 refine sd ?_
 exact ⟨_,_,⟨rfl,rfl⟩,(Nat.zero_le _),Gh.toC (n1:=1) ⟨rfl,rfl,rfl,trivial⟩ rfl (Nat.zero_le _) (by simp)⟩
end Go.Proofs
end
section
namespace Go.Proofs
open Go Go.Rx Go.Vx Go.Shelf Go.Sort
set_option linter.unusedVariables false
theorem q1d {α β:Type} (a:α) (k:α→Option β):bindO (some a) k=k a:=rfl
theorem wr {z:Int} (h1 : -9223372036854775808≤z) (h2:z≤9223372036854775807):IntKind.i64.wrap z=z:=q9s (by omega) (by omega)
theorem wr1 {i len:Nat} (h:i<len) (hl:len≤9223372036854775807):IntKind.i64.wrap ((i:Int)+1)=((i+1:Nat):Int):=by rw [wr (by omega) (by omega)]; simp
theorem wrn {z:Int} {k:Nat} (h:z=k) (h2:k≤9223372036854775807):IntKind.i64.wrap z=(k:Int):=by subst h; exact wr (by omega) (by omega)
theorem q61 {α:Type} {l:List α} {i:Nat} (h:i<l.length):∃ x,l[i]? = some x∧x∈l:=⟨l[i],by simp [h],by simp⟩
theorem q6v {α:Type} {l:List α} {i:Nat} {x:α} (h:l[i]? = some x):l.take (i+1)=l.take i++[x]:=by rw [List.take_add_one,h]; rfl
theorem drop_cons' {α:Type} {l:List α} {i:Nat} {x:α} (h:l[i]? = some x):l.drop i=x::l.drop (i+1):=by
 have hlt:i<l.length:=(List.getElem?_eq_some_iff.1 h).1
 rw [List.drop_eq_getElem_cons hlt]
 congr 1
 rw [List.getElem?_eq_getElem hlt] at h
 exact Option.some.inj h
theorem dlt {i n:Nat} (h:i<n):decide ((i:Int)<(n:Int))=true:=by simp; omega
theorem dnlt {i n:Nat} (h:¬ i<n):decide ((i:Int)<(n:Int))=false:=by simp; omega
theorem drop_nil' {α:Type} {l:List α} {i:Nat} (h:¬ i<l.length):l.drop i=[]:=List.drop_eq_nil_of_le (by omega)
structure Cmp {α:Type} (c:α→α→Int):Prop where
 val:∀ x y,c x y = -1∨c x y=0∨c x y=1
 anti:∀ x y,c y x = - c x y
 trans:∀ x y z,c x y≤0→c y z≤0→c x z≤0
theorem Cmp.self {α:Type} {c:α→α→Int} (h:Cmp c) (x:α):c x x=0:=by have:=h.anti x x; omega
theorem Cmp.congr {α:Type} {c:α→α→Int} (h:Cmp c) {x y:α} (hxy:c x y=0) (z:α):c x z=c y z:=by
 have h1:=h.val x z
 have h2:=h.val y z
 have a1:=h.anti x y
 have a2:=h.anti x z
 have a3:=h.anti y z
 have t1:=h.trans x y z
 have t2:=h.trans y x z
 have t3:=h.trans z x y
 have t4:=h.trans z y x
 omega
theorem Cmp.congr' {α:Type} {c:α→α→Int} (h:Cmp c) {x y:α} (hxy:c x y=0) (z:α):c z x=c z y:=by
 have h1:=h.congr hxy z
 have a2:=h.anti x z
 have a3:=h.anti y z
 omega
theorem Cmp.lt_of {α:Type} {c:α→α→Int} (h:Cmp c) {x y z:α} (h1:c x y<0) (h2:c y z≤0):c x z<0:=by
 have t1:=h.trans x y z (by omega) h2
 rcases Int.lt_or_eq_of_le t1 with h3 | h3
 ·exact h3
 ·have:=h.congr h3 y
  have a3:=h.anti y z
  omega
def lexC {α:Type} (c d:α→α→Int) (x y:α):Int:=if c x y≠0 then c x y else d x y
theorem Cmp.lex {α:Type} {c d:α→α→Int} (hc:Cmp c) (hd:Cmp d):Cmp (lexC c d) where
 val x y:=by unfold lexC; split; exact hc.val x y; exact hd.val x y
 anti x y:=by
  unfold lexC
  have a1:=hc.anti x y
  have a2:=hd.anti x y
  by_cases h:c x y=0
  ·have:c y x=0:=by omega
   simp [h,this,a2]
  ·have:¬ c y x=0:=by omega
   simp [h,this,a1]
 trans x y z h1 h2:=by
  unfold lexC at *
  by_cases h:c x y=0
  ·have e:=hc.congr h z
   simp only [h,ne_eq,not_true,if_false] at h1
   rw [e]
   by_cases h':c y z=0
   ·simp only [h',ne_eq,not_true,if_false] at h2 ⊢
    exact hd.trans x y z h1 h2
   ·simp only [h',ne_eq,not_false_eq_true,if_true] at h2 ⊢
    exact h2
  ·simp only [h,ne_eq,not_false_eq_true,if_true] at h1
   have h1':c x y<0:=by omega
   by_cases h':c y z=0
   ·have e:=hc.congr' h' x
    rw [← e]
    simp only [h,ne_eq,not_false_eq_true,if_true]
    exact h1
   ·simp only [h',ne_eq,not_false_eq_true,if_true] at h2
    have:=hc.lt_of h1' h2
    have hne:¬ c x z=0:=by omega
    simp only [hne,ne_eq,not_false_eq_true,if_true]
    omega
theorem Cmp.pull {α β:Type} {c:α→α→Int} (h:Cmp c) (f:β→α):Cmp (fun x y=>c (f x) (f y)):=⟨fun x y=>h.val _ _,fun x y=>h.anti _ _,fun x y z=>h.trans _ _ _⟩
def cmpI (a b:Int):Int:=if a<b then -1 else if b<a then 1 else 0
theorem qa0 {a b : Int} : cmpI a b = 0 ↔ a = b := by unfold cmpI; split; · omega
                                                     split <;> omega
theorem q8k : Cmp cmpI where
  val x y := by unfold cmpI; split; · simp
                split <;> simp
  anti x y := by unfold cmpI; split <;> split <;> (try split) <;> omega
  trans x y z := by
    unfold cmpI
    intro h1 h2
    split at h1 <;> split at h2 <;> (try split at h1) <;> (try split at h2) <;> (try split) <;> (try split) <;> omega
theorem ltOf_iff {α:Type} (c:α→α→Int) (x y:α):ltOf c x y=true↔c x y<0:=by simp [ltOf]
theorem Cmp.swo {α:Type} {c:α→α→Int} (h:Cmp c):SWO (ltOf c) where
 irrefl x:=by have:=h.self x; simp [ltOf,this]
 trans x y z h1 h2:=by rw [ltOf_iff] at *; exact h.lt_of h1 (by omega)
 ntrans x y z h1 h2:=by
  have e:∀ a b,ltOf c a b=false↔c b a≤0:=fun a b=>by have:=h.anti a b; simp [ltOf]; omega
  rw [e] at *
  exact h.trans z y x h2 h1
section
variable {α:Type} {c:α→α→Int}
theorem srt_le (hc:Cmp c) (l:List α):(srt (ltOf c) l).Pairwise (fun x y=>c x y≤0):=by
 have:=srt_asc hc.swo l
 refine List.Pairwise.imp ?_ this
 intro x y h
 have:=hc.anti x y
 simp [ltOf] at h
 omega
end
end Go.Proofs
end
section
namespace Go.Proofs
open Go Go.Rx Go.Vx Go.Shelf Go.Sort
set_option linter.unusedVariables false
set_option linter.unusedSimpArgs false
set_option maxRecDepth 10000
theorem ex_ok (m:Nat):q1r (m+60)=some true:=by kernel_rfl
theorem ex_n {n:Nat} (h:60≤n):q1r n=some true:=by
 have:=ex_ok (n - 60)
 rwa [Nat.sub_add_cancel h] at this
theorem cmpInt_eq (n:Nat) (a b:Int):q1j n a b=some (cmpI a b):=by
 have e1:(a != a)=false:=by simp
 have e2:(b != b)=false:=by simp
 simp only [q1j,q3y,q1d,e1,e2,cond_false,cmpI]
 by_cases h1:a<b
 ·simp [h1]
 ·by_cases h2:b<a<;>simp [h1,h2]
def lexL {α:Type} (c:α→α→Int):List α→List α→Int
 | [],[]=>0
 | [],_::_=>-1
 | _::_,[]=>1
 | x::xs,y::ys=>if c x y≠0 then c x y else lexL c xs ys
theorem Cmp.list {α:Type} {c:α→α→Int} (h:Cmp c):Cmp (lexL c) where
 val:=by
  intro x
  induction x with
  | nil=>intro y; cases y<;>simp [lexL]
  | cons a x ih =>
   intro y
   cases y with
   | nil=>simp [lexL]
   | cons b y=>simp only [lexL]; split; exact h.val a b; exact ih y
 anti:=by
  intro x
  induction x with
  | nil=>intro y; cases y<;>simp [lexL]
  | cons a x ih =>
   intro y
   cases y with
   | nil=>simp [lexL]
   | cons b y =>
    simp only [lexL]
    have a1:=h.anti a b
    have a2:=ih y
    by_cases e:c a b=0
    ·have:c b a=0:=by omega
     simp [e,this,a2]
    ·have:¬ c b a=0:=by omega
     simp [e,this,a1]
 trans:=by
  intro x
  induction x with
  | nil =>
   intro y z h1 h2
   cases z<;>simp [lexL]
  | cons a x ih =>
   intro y z h1 h2
   cases y with
   | nil=>simp [lexL] at h1
   | cons b y =>
    cases z with
    | nil=>simp [lexL] at h2
    | cons d z =>
     simp only [lexL] at *
     by_cases e:c a b=0
     ·have e2:=h.congr e d
      simp only [e,ne_eq,not_true,if_false] at h1
      rw [e2]
      by_cases e3:c b d=0
      ·simp only [e3,ne_eq,not_true,if_false] at h2 ⊢
       exact ih y z h1 h2
      ·simp only [e3,ne_eq,not_false_eq_true,if_true] at h2 ⊢
       exact h2
     ·simp only [e,ne_eq,not_false_eq_true,if_true] at h1
      have h1':c a b<0:=by omega
      by_cases e3:c b d=0
      ·have e4:=h.congr' e3 a
       rw [← e4]
       simp only [e,ne_eq,not_false_eq_true,if_true]
       exact h1
      ·simp only [e3,ne_eq,not_false_eq_true,if_true] at h2
       have:=h.lt_of h1' h2
       have hne:¬ c a d=0:=by omega
       simp only [hne,ne_eq,not_false_eq_true,if_true]
       omega
def ccA:GArc→GArc→Int:=lexC (fun x y=>cmpI x.Feat y.Feat) (fun x y=>cmpI x.To y.To)
theorem ccA_ok:Cmp ccA:=(q8k.pull _).lex (q8k.pull _)
def ccN:GNode→GNode→Int:=lexC (lexC (fun x y=>cmpI x.Typex y.Typex) (fun x y=>cmpI x.Arcs.length y.Arcs.length)) (fun x y=>lexL ccA x.Arcs y.Arcs)
theorem ccN_ok:Cmp ccN:=((q8k.pull _).lex (q8k.pull (fun x:GNode=>(x.Arcs.length:Int)))).lex (ccA_ok.list.pull _)
def ccG:GFS→GFS→Int:=lexC (fun x y=>cmpI x.Nodes.length y.Nodes.length) (fun x y=>lexL ccN x.Nodes y.Nodes)
theorem ccG_ok:Cmp ccG:=(q8k.pull (fun x:GFS=>(x.Nodes.length:Int))).lex (ccN_ok.list.pull _)
structure Small (f:GFS) (k:Nat):Prop where
 nodes:f.Nodes.length≤k
 arcs:∀ x∈f.Nodes,x.Arcs.length≤k
def arcN (l:List GArc):List Int:=l.flatMap fun a=>[a.Feat,a.To]
def nodeN (x:GNode):List Int:=[x.Typex,(x.Arcs.length:Int)]++arcN x.Arcs
def numN (f:GFS):List Int:=(f.Nodes.length:Int)::f.Nodes.flatMap nodeN
theorem arcN_len:∀ l:List GArc,(arcN l).length=2*l.length
 | []=>rfl
 | a::l=>by have:=arcN_len l; simp only [arcN,List.flatMap_cons,List.length_append,List.length_cons,List.length_nil] at *; omega
theorem nums_L2 {x:GNode} {i:Int} {rc:Int→List Int→Option (List Int)} (hx:x.Arcs.length≤1000000):∀ (m k:Nat) (acc:List Int),x.Arcs.length - k<m→k≤x.Arcs.length→acc.length+2*(x.Arcs.length - k)≤1000000000 →
  q2v i rc x m k acc=rc (IntKind.i64.wrap (i+1)) (acc++arcN (x.Arcs.drop k))
 | 0,k,acc,hm,_,_=>by omega
 | m+1,k,acc,hm,hk,ha=>by
  unfold q2v
  by_cases hlt:k<x.Arcs.length
  ·obtain ⟨a,h1,_⟩:=q61 hlt
   have hn:(acc.length+2)*8≤140737488355328∧acc.length+2≤140737488355328:=by omega
   simp only [dlt hlt,cond_true,q4b,h1,q1d,needO,hn,and_self,if_true,wr1 hlt (show x.Arcs.length≤9223372036854775807 by omega)]
   rw [nums_L2 hx m (k+1) _ (by omega) (by omega) (by simp only [List.length_append,List.length_cons,List.length_nil]; omega),drop_cons' h1]
   simp [arcN]
  ·simp only [dnlt hlt,cond_false,q4f,drop_nil' hlt,arcN,List.flatMap_nil,List.append_nil]
theorem nums_L1 {f:GFS} {n:Nat} (hf:Small f 1000) (hn:1001≤n):∀ (m i:Nat) (acc:List Int),f.Nodes.length - i<m→i≤f.Nodes.length→acc.length+2002*(f.Nodes.length - i)≤900000000 →
  q1u f n m i acc=some (acc++(f.Nodes.drop i).flatMap nodeN)
 | 0,i,acc,hm,_,_=>by omega
 | m+1,i,acc,hm,hi,ha=>by
  unfold q1u
  have hl:=hf.nodes
  by_cases hlt:i<f.Nodes.length
  ·obtain ⟨x,hx,hxm⟩:=q61 hlt
   have h2:=hf.arcs x hxm
   have hn:(acc.length+2)*8≤140737488355328∧acc.length+2≤140737488355328:=by omega
   have h0:=nums_L2 (i:=(i:Int)) (rc:=q1u f n m) (x:=x) (by omega) n 0 (acc++[x.Typex,(x.Arcs.length:Int)]) (by omega) (by omega) (by simp only [List.length_append,List.length_cons,List.length_nil]; omega)
   rw [Int.ofNat_zero,List.drop_zero] at h0
   simp only [dlt hlt,cond_true,q4b,hx,q1d,needO,hn,and_self,if_true,h0,wr1 hlt (show f.Nodes.length≤9223372036854775807 by omega)]
   rw [nums_L1 hf (by omega) m (i+1) _ (by omega) (by omega) (by simp only [List.length_append,List.length_cons,List.length_nil,arcN_len]; omega),drop_cons' hx]
   simp [nodeN]
  ·simp only [dnlt hlt,cond_false,q4e,drop_nil' hlt,List.flatMap_nil,List.append_nil]
theorem nums_ok {f:GFS} {n:Nat} (hf:Small f 1000) (hn:1001≤n):q42 n f=some (numN f):=by
 have hl:=hf.nodes
 have:=nums_L1 hf hn n 0 [(f.Nodes.length:Int)] (by omega) (by omega) (by simp only [List.length_cons,List.length_nil]; omega)
 rw [Int.ofNat_zero,List.drop_zero] at this
 simp only [q42,this,numN,List.singleton_append]
def lexM:List Int→List Int→Int
 | x::xs,y::ys=>if cmpI x y≠0 then cmpI x y else lexM xs ys
 | _,_=>0
theorem refCmp_L {l m:List Int} (hl:l.length≤1000000000):∀ (n i:Nat),l.length - i<n→i≤l.length→q2u l m n i=some (lexM (l.drop i) (m.drop i))
 | 0,i,hn,_=>by omega
 | n+1,i,hn,hi=>by
  unfold q2u
  by_cases h1:i<l.length
  ·obtain ⟨x,hx,_⟩:=q61 h1
   by_cases h2:i<m.length
   ·obtain ⟨y,hy,_⟩:=q61 h2
    simp only [dlt h1,dlt h2,cond_true,q1d,q4b,hx,hy,wr1 h1 (show l.length≤9223372036854775807 by omega),drop_cons' hx,drop_cons' hy,lexM,cmpI]
    by_cases h3:x<y
    ·simp [h3]
    ·by_cases h4:y<x
     ·simp [h3,h4]
     ·simp only [h3,h4,decide_false,cond_false,if_false,ne_eq,not_true,gt_iff_lt]
      exact refCmp_L hl n (i+1) (by omega) (by omega)
   ·simp only [dlt h1,dnlt h2,cond_true,cond_false,q1d,q3i,drop_cons' hx,drop_nil' h2,lexM]
  ·simp only [dnlt h1,cond_false,q1d,q3i,drop_nil' h1,lexM]
theorem numN_len {f:GFS} {k:Nat} (hf:Small f k):(numN f).length≤1+f.Nodes.length*(2+2*k):=by
 have:∀ l:List GNode,(∀ x∈l,x.Arcs.length≤k)→(l.flatMap nodeN).length≤l.length*(2+2*k):=by
  intro l
  induction l with
  | nil=>intro _; simp
  | cons x l ih =>
   intro h
   have h1:=ih fun y hy=>h y (List.mem_cons_of_mem _ hy)
   have h2:=h x (by simp)
   have h3:(l.length+1)*(2+2*k)=l.length*(2+2*k)+(2+2*k):=by rw [Nat.add_mul,Nat.one_mul]
   simp only [List.flatMap_cons,List.length_append,nodeN,List.length_cons,List.length_nil,arcN_len]
   rw [h3]
   omega
 have:=this f.Nodes hf.arcs
 simp only [numN,List.length_cons]
 omega
theorem refCmp_ok {f g:GFS} {n:Nat} (hf:Small f 1000) (hg:Small g 1000) (hn:3000000≤n):q41 n f g=some (lexM (numN f) (numN g)):=by
 have h1:=numN_len hf
 have h2:=hf.nodes
 have h3:f.Nodes.length*(2+2*1000)≤1000*(2+2*1000):=Nat.mul_le_mul_right _ h2
 have:=refCmp_L (l:=numN f) (m:=numN g) (by omega) n 0 (by omega) (by omega)
 rw [Int.ofNat_zero,List.drop_zero,List.drop_zero] at this
 simp only [q41,nums_ok hf (show 1001≤n by omega),nums_ok hg (show 1001≤n by omega),q1d,this]
theorem lexM_arcs {c d:List Int}:∀ {xs ys:List GArc},xs.length=ys.length→lexM (arcN xs++c) (arcN ys++d)=if lexL ccA xs ys≠0 then lexL ccA xs ys else lexM c d
 | [],[],_=>by simp [arcN,lexL]
 | [],_::_,h=>by simp at h
 | _::_,[],h=>by simp at h
 | x::xs,y::ys,h=>by
  simp only [List.length_cons,Nat.add_right_cancel_iff] at h
  have ih:=lexM_arcs (c:=c) (d:=d) h
  simp only [arcN,List.flatMap_cons,List.cons_append,List.nil_append,lexM,lexL] at ih ⊢
  rw [ih]
  unfold ccA lexC
  by_cases e:cmpI x.Feat y.Feat=0
  ·by_cases e2:cmpI x.To y.To=0<;>simp [e,e2]
  ·simp [e]
theorem lexM_nodes {c d:List Int}:∀ {xs ys:List GNode},xs.length=ys.length→lexM (xs.flatMap nodeN++c) (ys.flatMap nodeN++d)=if lexL ccN xs ys≠0 then lexL ccN xs ys else lexM c d
 | [],[],_=>by simp [lexL]
 | [],_::_,h=>by simp at h
 | _::_,[],h=>by simp at h
 | x::xs,y::ys,h=>by
  simp only [List.length_cons,Nat.add_right_cancel_iff] at h
  have ih:=lexM_nodes (c:=c) (d:=d) h
  simp only [List.flatMap_cons,nodeN,List.append_assoc,List.cons_append,List.nil_append,lexM,lexL]
  have hN:ccN x y=(if (if cmpI x.Typex y.Typex≠0 then cmpI x.Typex y.Typex else cmpI (x.Arcs.length:Int) y.Arcs.length)≠0 then (if cmpI x.Typex y.Typex≠0 then cmpI x.Typex y.Typex else cmpI (x.Arcs.length:Int) y.Arcs.length) else lexL ccA x.Arcs y.Arcs):=rfl
  simp only [hN]
  by_cases e:cmpI x.Typex y.Typex=0
  ·by_cases e2:cmpI (x.Arcs.length:Int) y.Arcs.length=0
   ·have hl:x.Arcs.length=y.Arcs.length:=by have:=qa0.1 e2; omega
    simp only [e,e2,ne_eq,not_true,if_false]
    rw [lexM_arcs hl,ih]
    by_cases e3:lexL ccA x.Arcs y.Arcs=0<;>simp [e3]
   ·simp [e,e2]
  ·simp [e]
theorem both_eq (f g:GFS):lexM (numN f) (numN g)=ccG f g:=by
 simp only [numN,lexM,ccG]
 unfold lexC
 by_cases e:cmpI (f.Nodes.length:Int) g.Nodes.length=0
 ·have hl:f.Nodes.length=g.Nodes.length:=by have:=qa0.1 e; omega
  have:=lexM_nodes (c:=[]) (d:=[]) hl
  simp only [List.append_nil,lexM] at this
  simp only [e,ne_eq,not_true,if_false,this]
  by_cases e2:lexL ccN f.Nodes g.Nodes=0<;>simp [e2]
 ·simp [e]
theorem refEq_ok {f g:GFS} {n:Nat} (hf:Small f 1000) (hg:Small g 1000) (hn:3000000≤n):q2r n f g=some (ccG f g == 0):=by
 simp only [q2r,refCmp_ok hf hg hn,q1d,both_eq]
theorem light_L1 {f:GFS} (hl:f.Nodes.length≤12):∀ (m i:Nat),f.Nodes.length - i<m→i≤f.Nodes.length→∃ b,q3o f m i=some b∧(b=true→∀ x∈f.Nodes.drop i,x.Arcs.length≤12)
 | 0,i,hm,_=>by omega
 | m+1,i,hm,hi=>by
  unfold q3o
  by_cases hlt:i<f.Nodes.length
  ·obtain ⟨x,hx,_⟩:=q61 hlt
   simp only [dlt hlt,cond_true,q4b,hx,q1d,wr1 hlt (show f.Nodes.length≤9223372036854775807 by omega)]
   by_cases h:(x.Arcs.length:Int) > 12
   ·simp only [h,decide_true,cond_true]; exact ⟨false,rfl,fun h=>by cases h⟩
   ·simp only [h,decide_false,cond_false]
    obtain ⟨b,h1,h2⟩:=light_L1 hl m (i+1) (by omega) (by omega)
    refine ⟨b,h1,fun hb=>?_⟩
    rw [drop_cons' hx]
    intro y hy
    rcases List.mem_cons.1 hy with rfl | hy
    ·omega
    ·exact h2 hb y hy
  ·simp only [dnlt hlt,cond_false,q4z,drop_nil' hlt]
   exact ⟨true,rfl,fun _ x hx=>by cases hx⟩
theorem light_ok (f:GFS) {n:Nat} (hn:20≤n):∃ b,q4u n f=some b∧(b=true→Small f 12):=by
 unfold q4u
 by_cases h:(f.Nodes.length:Int) > 12
 ·simp only [h,decide_true,cond_true]; exact ⟨false,rfl,fun h=>by cases h⟩
 ·simp only [h,decide_false,cond_false]
  obtain ⟨b,h1,h2⟩:=light_L1 (f:=f) (by omega) n 0 (by omega) (by omega)
  rw [Int.ofNat_zero] at h1
  rw [List.drop_zero] at h2
  exact ⟨b,h1,fun hb=>⟨by omega,h2 hb⟩⟩
theorem Small.up {f:GFS} {k k':Nat} (h:Small f k) (hk:k≤k'):Small f k':=⟨by have:=h.nodes; omega,fun x hx=>by have:=h.arcs x hx; omega⟩
end Go.Proofs
end
