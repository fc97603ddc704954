/-
  Texts of the walk: C1.
-/
import Derived.Test.YtafbldphahfemaaP11
section
namespace Go.Proofs
open Go Go.Rx Go.Vx Try
set_option maxRecDepth 10000
set_option linter.unusedSimpArgs false
set_option linter.unusedVariables false
theorem chart_Add_0 (n:Nat) (p1:GChart) (p2:GEdge) (r:GChart×Int×Int) (hF:q20 n p1 p2=some r):EvU Try.prog 14 [.agg (cGChart p1),.agg (cGEdge p2)] ⟨[],0⟩ (fun u _=>u = .tup [.agg (cGChart r.1),.int .i64 r.2.1,.int .i64 r.2.2]∧Bel 0 u):=by
 unfold q20 at hF
 refine EvU.of_body Try.tb_ok fn14 rfl ?_
 refine WPU.ghost (tm':=fr 117 [(0,.agg (cGChart p1)),(1,.agg (cGEdge p2))]) (Gh.start (Nat.le_of_ble_eq_true rfl)) (Nat.zero_le _) ?_
 refine sr ?_
 refine RS.q (u:=.ptr 0 0 0) (σ':=⟨[(0,.row (cGChart p1) 24)],1⟩) rfl (q2v rfl rfl rfl) (RS.q (u:=.ptr 1 0 0) (σ':=⟨[(1,.row (cGEdge p2) 42),(0,.row (cGChart p1) 24)],2⟩) rfl (q2v rfl rfl rfl) (RS.q (u:=.ptr 2 0 0) (σ':=⟨[(2,.row [.int .i64 0,.nils] 24),(1,.row (cGEdge p2) 42),(0,.row (cGChart p1) 24)],3⟩) rfl (q1d inf24 rfl rfl) ?_))
 repeat refine RS.as rfl rfl rfl rfl ?_
 refine sd ?_
 obtain ⟨b5,h6,hF⟩:=q01 hF
 refine WPU.joinK (fun tm σ=>tm=fr 117 [(2,.ptr 0 0 0),(3,.ptr 1 0 0),(4,.ptr 2 0 0),(26,.bool b5)]∧σ=⟨[(2,.row [.int .i64 0,.nils] 24),(1,.row (cGEdge p2) 42),(0,.row (cGChart p1) 24)],3⟩) ?_ ?_
 rintro _ _ ⟨rfl,rfl⟩
 refine st ?_
 refine WPU.condS (t:=b5) rfl (fun h7=>?_) (fun h7=>?_)
 replace hF:=q09 h7 hF
 refine sr ?_
 refine RS.q (u:=.agg (cGChart p1)) rfl (q0f und24 rfl (q00 inf24) rfl rfl rfl) (RS.opn (u:=.junk) (σ':=⟨[(2,.row (cGChart p1) 24),(1,.row (cGEdge p2) 42),(0,.row (cGChart p1) 24)],3⟩) rfl (q0g (q00 inf24) rfl rfl rfl rfl rfl rfl rfl rfl) rfl ?_)
 repeat refine RS.as rfl rfl rfl rfl ?_
 refine sd ?_
 refine WPU.ret ?_
 refine st ?_
 have hr:=Option.some.inj hF
 subst hr
 exact ⟨.inr rfl,[.agg (cGChart p1),.int .i64 0,.int .i64 2],q9d (q0f und24 rfl (q00 inf24) rfl rfl rfl) (q0t rfl (q0t rfl (q0q))),.tup [.agg (cGChart p1),.int .i64 0,.int .i64 2],⟨[],0⟩,Nat.le_refl _,Gh.toR (.tup [.agg (cGChart p1),.int .i64 0,.int .i64 2]) rfl,rfl,BU.h⟩
 replace hF:=q08 h7 hF
 refine st ?_
 refine WPU.skip ?_
 refine st ?_
 obtain ⟨b9,h10,hF⟩:=q01 hF
 refine WPU.joinK (fun tm σ=>tm=fr 117 [(2,.ptr 0 0 0),(3,.ptr 1 0 0),(4,.ptr 2 0 0),(35,.bool b9)]∧σ=⟨[(2,.row [.int .i64 0,.nils] 24),(1,.row (cGEdge p2) 42),(0,.row (cGChart p1) 24)],3⟩) ?_ ?_
 rintro _ _ ⟨rfl,rfl⟩
 refine st ?_
 refine WPU.condS (t:=b9) rfl (fun h11=>?_) (fun h11=>?_)
 replace hF:=q09 h11 hF
 refine sr ?_
 refine RS.q (u:=.agg (cGChart p1)) rfl (q0f und24 rfl (q00 inf24) rfl rfl rfl) (RS.opn (u:=.junk) (σ':=⟨[(2,.row (cGChart p1) 24),(1,.row (cGEdge p2) 42),(0,.row (cGChart p1) 24)],3⟩) rfl (q0g (q00 inf24) rfl rfl rfl rfl rfl rfl rfl rfl) rfl ?_)
 repeat refine RS.as rfl rfl rfl rfl ?_
 refine sd ?_
 refine WPU.ret ?_
 refine st ?_
 have hr:=Option.some.inj hF
 subst hr
 exact ⟨.inr rfl,[.agg (cGChart p1),.int .i64 0,.int .i64 14],q9d (q0f und24 rfl (q00 inf24) rfl rfl rfl) (q0t rfl (q0t rfl (q0q))),.tup [.agg (cGChart p1),.int .i64 0,.int .i64 14],⟨[],0⟩,Nat.le_refl _,Gh.toR (.tup [.agg (cGChart p1),.int .i64 0,.int .i64 14]) rfl,rfl,BU.h⟩
 replace hF:=q08 h11 hF
 refine st ?_
 refine WPU.skip ?_
 refine st ?_
 obtain ⟨r12,h13,hF⟩:=q01 hF
 refine sr ?_
 refine RS.q (u:=.agg (cGChart p1)) rfl (q0f und24 rfl (q00 inf24) rfl rfl rfl) (RS.q (u:=.agg (cGEdge p2)) rfl (q0f und42 rfl (q00 inf42) rfl rfl rfl) (RS.call (u:=.bool r12) (args:=[.agg (cGChart p1),.agg (cGEdge p2)]) rfl (q0b rfl rfl fn34 hb34 rfl rfl) (qc0 n p1 p2 r12 h13 _) rfl rfl (RS.q (u:=.bool (!r12)) rfl (op_un rfl rfl rfl rfl) ?_)))
 refine sd ?_
 refine WPU.condS (t:=(!r12)) rfl (fun h14=>?_) (fun h14=>?_)
 replace hF:=q09 h14 hF
 refine sr ?_
 refine RS.q (u:=.agg (cGChart p1)) rfl (q0f und24 rfl (q00 inf24) rfl rfl rfl) (RS.opn (u:=.junk) (σ':=⟨[(2,.row (cGChart p1) 24),(1,.row (cGEdge p2) 42),(0,.row (cGChart p1) 24)],3⟩) rfl (q0g (q00 inf24) rfl rfl rfl rfl rfl rfl rfl rfl) rfl ?_)
 repeat refine RS.as rfl rfl rfl rfl ?_
 refine sd ?_
 refine WPU.ret ?_
 refine st ?_
 have hr:=Option.some.inj hF
 subst hr
 exact ⟨.inr rfl,[.agg (cGChart p1),.int .i64 0,.int .i64 13],q9d (q0f und24 rfl (q00 inf24) rfl rfl rfl) (q0t rfl (q0t rfl (q0q))),.tup [.agg (cGChart p1),.int .i64 0,.int .i64 13],⟨[],0⟩,Nat.le_refl _,Gh.toR (.tup [.agg (cGChart p1),.int .i64 0,.int .i64 13]) rfl,rfl,BU.h⟩
 replace hF:=q08 h14 hF
 refine st ?_
 refine WPU.skip ?_
 refine sr ?_
 refine RS.q (u:=.ptr 0 0 1) rfl (q06 und24 rfl (q00 inf22) rfl rfl rfl) (RS.q (u:=.isl false (List.map cGEdge p1.Edges)) rfl (q05 und22 rfl rfl rfl rfl) (RS.q rfl (q0i rfl rfl rfl (q0d cGEdge und22)) (RS.mv rfl rfl rfl rfl ?_)))
 refine sd ?_
 refine WPU.ghost (tm':=fr 117 [(2,.ptr 0 0 0),(3,.ptr 1 0 0),(4,.ptr 2 0 0),(43,.isl false (List.map cGEdge p1.Edges)),(44,.int .i64 (p1.Edges.length:Int)),(45,.int .i64 0)]) (Gh.sub ⟨rfl,rfl,rfl,rfl,rfl,rfl,trivial⟩) (Nat.zero_le _) ?_
 refine WPU.loopK (fun m tm σ=>∃ z33:Int,q40 p1 p2 n m z33=some r∧tm=fr 117 [(2,.ptr 0 0 0),(3,.ptr 1 0 0),(4,.ptr 2 0 0),(43,.isl false (List.map cGEdge p1.Edges)),(44,.int .i64 (p1.Edges.length:Int)),(45,.int .i64 z33)]∧σ=⟨[(2,.row [.int .i64 0,.nils] 24),(1,.row (cGEdge p2) 42),(0,.row (cGChart p1) 24)],3⟩) (fun tm σ=>q71 p1 p2=some r∧tm=fr 117 [(2,.ptr 0 0 0),(3,.ptr 1 0 0),(4,.ptr 2 0 0)]∧σ=⟨[(2,.row [.int .i64 0,.nils] 24),(1,.row (cGEdge p2) 42),(0,.row (cGChart p1) 24)],3⟩) n ⟨0,hF,rfl,rfl⟩ ?_ ?_
 rintro _ _ ⟨hF,rfl,rfl⟩
 unfold q71 at hF
 refine sr ?_
 refine RS.q (u:=.ptr 0 0 1) rfl (q06 und24 rfl (q00 inf22) rfl rfl rfl) (RS.q (u:=.isl false (List.map cGEdge p1.Edges)) rfl (q05 und22 rfl rfl rfl rfl) (RS.q rfl (q0i rfl rfl rfl (q0d cGEdge und22)) ?_))
 refine sd ?_
 obtain ⟨l34,h35,hF⟩:=q01 hF
 obtain ⟨h36,hF⟩:=q0y hF
 refine WPU.drawE Try.tb_ok [(0,8),(0,9),(1,8),(1,9),(2,8),(3,8),(4,8),(5,8),(6,8),(11,8),(11,9),(11,12)] (by kernel_rfl) ?_
 refine RD.q (u:=.ptr 0 0 0) rfl (q06 und24 rfl (q00 inf3) rfl rfl rfl) (RD.q (u:=.int .i64 p1.Words) rfl (q05 und3 rfl rfl rfl rfl) (RD.q (u:=.ptr 0 0 1) rfl (q06 und24 rfl (q00 inf22) rfl rfl rfl) (RD.q (u:=.isl false (List.map cGEdge p1.Edges)) rfl (q05 und22 rfl rfl rfl rfl) ?_)))
 repeat refine RD.mv rfl rfl rfl rfl ?_
 refine RD.q (u:=.isl true (List.map cGEdge l34)) rfl (op_slice rfl em_n (em_s rfl) (em_s rfl) (sl_full cGEdge und22 (q00 inf42) q0h h35)) (RD.q (u:=.agg (cGEdge p2)) rfl (q0f und42 rfl (q00 inf42) rfl rfl rfl) (RD.act (u:=.sl 3 0 1 1) (σ':=⟨[(3,.row (cGEdge p2) 42),(2,.row [.int .i64 0,.nils] 24),(1,.row (cGEdge p2) 42),(0,.row (cGChart p1) 24)],4⟩) rfl (q77 und22 inf42 rfl rfl rfl rfl rfl rfl rfl) rfl rfl (RD.act (u:=.vl 4 0 0 ((l34++[p2]).length)) (σ':=⟨[(4,.vec (List.map cGEdge (l34++[p2])).flatten 42 12 0),(3,.row (cGEdge p2) 42),(2,.row [.int .i64 0,.nils] 24),(1,.row (cGEdge p2) 42),(0,.row (cGChart p1) 24)],5⟩) rfl (op_app rfl rfl rfl rfl (app_full cGEdge ([p2]) und22 und22 inf42 rfl q0h (qau cGEdge [p2] rfl rfl rfl rfl) (Nat.le_of_ble_eq_true rfl) h36)) rfl rfl (RD.q (u:=.agg [.int .i64 p1.Words,.vl 4 0 0 ((l34++[p2]).length)]) rfl (q80 bd24 rfl rfl rfl) (RD.mv rfl rfl rfl rfl (RD.actn (u:=.junk) (σ':=⟨[(4,.vec (List.map cGEdge (l34++[p2])).flatten 42 12 0),(3,.row (cGEdge p2) 42),(2,.row [.int .i64 p1.Words,.vl 4 0 0 ((l34++[p2]).length)] 24),(1,.row (cGEdge p2) 42),(0,.row (cGChart p1) 24)],5⟩) rfl (q0g (q00 inf24) rfl rfl rfl rfl rfl rfl rfl rfl) rfl ?_))))))
 repeat refine RD.as rfl rfl rfl rfl ?_
 refine RD.done ⟨by kernel_rfl,⟨q06 und24 rfl (q00 inf3) rfl rfl rfl,⟨q06 und24 rfl (q00 inf3) rfl rfl rfl,⟨q05 und3 rfl rfl rfl rfl,⟨q05 und3 rfl rfl rfl rfl,⟨q06 und24 rfl (q00 inf22) rfl rfl rfl,⟨q05 und22 rfl rfl rfl rfl,⟨q07 rfl,⟨q07 rfl,⟨op_slice rfl em_n (em_s rfl) (em_s rfl) (sl_full cGEdge und22 (q00 inf42) q0h h35),⟨q07 rfl,⟨q07 rfl,⟨q07 rfl,trivial⟩⟩⟩⟩⟩⟩⟩⟩⟩⟩⟩⟩,?_⟩
 refine st ?_
 refine WPU.ret ?_
 refine st ?_
 have hr:=Option.some.inj hF
 subst hr
 exact ⟨.inr rfl,[.agg [.int .i64 p1.Words,.vl 4 0 0 ((l34++[p2]).length)],.int .i64 (p1.Edges.length:Int),.int .i64 0],q9d (q0f und24 rfl (q00 inf24) rfl rfl rfl) (q0t rfl (q0t rfl (q0q))),.tup [.agg [.int .i64 p1.Words,.isl false (List.map cGEdge (l34++[p2]))],.int .i64 (p1.Edges.length:Int),.int .i64 0],⟨[],0⟩,Nat.le_refl _,Gh.trans (Gh.fz (tm':=[.tup [.agg [.int .i64 p1.Words,.isl false (List.map cGEdge (l34++[p2]))],.int .i64 (p1.Edges.length:Int),.int .i64 0]]) (h':=[(3,.row (cGEdge p2) 42),(2,.row [.int .i64 p1.Words,.isl false (List.map cGEdge (l34++[p2]))] 24),(1,.row (cGEdge p2) 42),(0,.row (cGChart p1) 24)]) 4 (.vec (List.map cGEdge (l34++[p2])).flatten 42 12 0) 12 rfl (by simp) (by simp only [oneU,q11,q0o,q22,q17,q25,q1b,q1a,q19,q18,q12,q23,q24,q21,q26,q3o,junkT,qb8 q0h,q0m,q7j]) (by simp only [fzH,fzB,ug,Nat.beq,cond_true,cond_false,oneU,q11,q0o,q22,q17,q25,q1b,q1a,q19,q18,q12,q23,q24,q21,q26,q3o,junkT,qb8 q0h,q0m,q7j])) (Gh.toR (.tup [.agg [.int .i64 p1.Words,.isl false (List.map cGEdge (l34++[p2]))],.int .i64 (p1.Edges.length:Int),.int .i64 0]) rfl),rfl,BU.h⟩
 rintro m1 _ _ ⟨z33,hF,rfl,rfl⟩
 rcases m1 with _ | m1
 cases hF
 unfold q40 at hF
 refine sr ?_
 refine RS.q rfl (q02 rfl rfl (q1i _ _ _) rfl) ?_
 refine sd ?_
 refine WPU.condS (t:=(decide (z33<(p1.Edges.length:Int)))) rfl (fun h37=>?_) (fun h37=>?_)
 replace hF:=q09 h37 hF
 refine st ?_
 refine WPU.skip ?_
 refine st ?_
 refine WPU.block ?_
 refine st ?_
 obtain ⟨x38,h39,hF⟩:=q01 hF
 refine sr ?_
 refine RS.q (u:=.iptr (cGEdge x38)) rfl (q13 rfl rfl (q0n cGEdge und22 (q00 inf42) q0h h39 rfl)) (RS.q (u:=.agg (cGEdge x38)) rfl (q2u und42 rfl (q00 inf42) rfl rfl) (RS.q (u:=.ptr 3 0 0) (σ':=⟨[(3,.row [.int .i64 0,.int .i64 0,.int .i64 0,.int .i64 0,.str [],.nils,.int .i64 0,.str [],.int .i64 0,.int .i64 0,.nils,.nils] 42),(2,.row [.int .i64 0,.nils] 24),(1,.row (cGEdge p2) 42),(0,.row (cGChart p1) 24)],4⟩) rfl (q1d inf42 rfl rfl) (RS.as rfl rfl rfl rfl (RS.opn (u:=.junk) (σ':=⟨[(3,.row (cGEdge x38) 42),(2,.row [.int .i64 0,.nils] 24),(1,.row (cGEdge p2) 42),(0,.row (cGChart p1) 24)],4⟩) rfl (q0g (q00 inf42) rfl rfl rfl rfl rfl rfl rfl rfl) rfl ?_))))
 refine sd ?_
 obtain ⟨b43,h44,hF⟩:=q01 hF
 refine WPU.joinK (fun tm σ=>tm=fr 117 [(2,.ptr 0 0 0),(3,.ptr 1 0 0),(4,.ptr 2 0 0),(7,.int .i64 z33),(8,.ptr 3 0 0),(43,.isl false (List.map cGEdge p1.Edges)),(44,.int .i64 (p1.Edges.length:Int)),(45,.int .i64 z33),(75,.bool b43)]∧σ=⟨[(3,.row (cGEdge x38) 42),(2,.row [.int .i64 0,.nils] 24),(1,.row (cGEdge p2) 42),(0,.row (cGChart p1) 24)],4⟩) ?_ ?_
 rintro _ _ ⟨rfl,rfl⟩
 refine st ?_
 refine WPU.condS (t:=b43) rfl (fun h45=>?_) (fun h45=>?_)
 replace hF:=q09 h45 hF
 refine st ?_
 refine WPU.exit ?_
 refine sr ?_
 refine RS.q rfl (q02 rfl rfl (q32 _ _ _) rfl) (RS.mv rfl rfl rfl rfl ?_)
 refine sd ?_
 exact ⟨m1,_,_,Nat.lt_succ_self _,⟨(IntKind.i64.wrap (z33+1)),hF,rfl,rfl⟩,(Nat.zero_le _),Gh.toC (n1:=3) ⟨rfl,rfl,rfl,rfl,rfl,rfl,trivial⟩ rfl (Nat.zero_le _) (by simp)⟩
 replace hF:=q08 h45 hF
 refine st ?_
 refine WPU.skip ?_
 refine st ?_
 obtain ⟨b56,h57,hF⟩:=q01 hF
 refine WPU.joinK (fun tm σ=>tm=fr 117 [(2,.ptr 0 0 0),(3,.ptr 1 0 0),(4,.ptr 2 0 0),(7,.int .i64 z33),(43,.isl false (List.map cGEdge p1.Edges)),(44,.int .i64 (p1.Edges.length:Int)),(45,.int .i64 z33),(98,.bool b56)]∧σ=⟨[(3,.row (cGEdge x38) 42),(2,.row [.int .i64 0,.nils] 24),(1,.row (cGEdge p2) 42),(0,.row (cGChart p1) 24)],4⟩) ?_ ?_
 rintro _ _ ⟨rfl,rfl⟩
 refine st ?_
 refine WPU.condS (t:=b56) rfl (fun h58=>?_) (fun h58=>?_)
 replace hF:=q09 h58 hF
 refine sr ?_
 refine RS.q (u:=.agg (cGChart p1)) rfl (q0f und24 rfl (q00 inf24) rfl rfl rfl) (RS.mv rfl rfl rfl rfl (RS.opn (u:=.junk) (σ':=⟨[(3,.row (cGEdge x38) 42),(2,.row (cGChart p1) 24),(1,.row (cGEdge p2) 42),(0,.row (cGChart p1) 24)],4⟩) rfl (q0g (q00 inf24) rfl rfl rfl rfl rfl rfl rfl rfl) rfl ?_))
 repeat refine RS.as rfl rfl rfl rfl ?_
 refine sd ?_
 refine WPU.ret ?_
 refine st ?_
 have hr:=Option.some.inj hF
 subst hr
 exact ⟨.inr rfl,[.agg (cGChart p1),.int .i64 z33,.int .i64 4],q9d (q0f und24 rfl (q00 inf24) rfl rfl rfl) (q0t rfl (q0t rfl (q0q))),.tup [.agg (cGChart p1),.int .i64 z33,.int .i64 4],⟨[],0⟩,Nat.le_refl _,Gh.toR (.tup [.agg (cGChart p1),.int .i64 z33,.int .i64 4]) rfl,rfl,BU.h⟩
 replace hF:=q08 h58 hF
 refine st ?_
 refine WPU.skip ?_
 refine sr ?_
 refine RS.q rfl (q02 rfl rfl (q32 _ _ _) rfl) (RS.mv rfl rfl rfl rfl ?_)
 refine sd ?_
 exact ⟨m1,_,_,Nat.lt_succ_self _,⟨(IntKind.i64.wrap (z33+1)),hF,rfl,rfl⟩,(Nat.zero_le _),Gh.toC (n1:=3) ⟨rfl,rfl,rfl,rfl,rfl,rfl,trivial⟩ rfl (Nat.zero_le _) (by simp)⟩
 rcases q0j (p2.Kind == 1) with h46 | h46
 replace h57:=q09 h46 h57
 obtain ⟨r47,h48,h57⟩:=q01 h57
 rcases q0j (r47 == 0) with h49 | h49
 replace h57:=q09 h49 h57
 replace h57:=Option.some.inj h57
 subst h57
 refine sr ?_
 refine RS.q (u:=.ptr 1 0 3) rfl (q06 und42 rfl (q00 inf3) rfl rfl rfl) (RS.q (u:=.int .i64 p2.Kind) rfl (q05 und3 rfl rfl rfl rfl) (RS.q rfl (q02 rfl rfl (q0e _ _ _) rfl) (RS.mv rfl rfl rfl rfl (RS.op (u:=.ptr 3 0 6) (want1 rfl rfl rfl h46) (q06 und42 rfl (q00 inf37) rfl rfl rfl) rfl rfl (RS.op (u:=.agg (xGDeriv x38.Lex)) (want1 rfl rfl rfl h46) (q0f und37 rfl (q00 inf37) rfl rfl rfl) rfl rfl (RS.op (u:=.ptr 1 0 6) (want1 rfl rfl rfl h46) (q06 und42 rfl (q00 inf37) rfl rfl rfl) rfl rfl (RS.op (u:=.agg (xGDeriv p2.Lex)) (want1 rfl rfl rfl h46) (q0f und37 rfl (q00 inf37) rfl rfl rfl) rfl rfl ?_)))))))
 refine RS.call (u:=.int .i64 r47) (args:=[.agg (xGDeriv x38.Lex),.agg (xGDeriv p2.Lex)]) (want1 rfl rfl rfl h46) (q0b rfl rfl fn35 hb35 rfl rfl) (q4o n x38.Lex p2.Lex r47 h48 _) rfl rfl (RS.op (want1 rfl rfl rfl h46) (q02 rfl rfl (q0e _ _ _) rfl) rfl rfl (RS.q (u:=.bool (r47 == 0)) rfl (q04 rfl h46 rfl) (RS.mv rfl rfl rfl rfl ?_)))
 repeat refine RS.no (want0 rfl rfl rfl h49) rfl rfl ?_
 repeat refine RS.no (wantT rfl rfl rfl) rfl rfl ?_
 refine RS.no (want0 rfl rfl rfl h49) rfl rfl (RS.q (u:=.bool true) rfl (q04 rfl h49 rfl) ?_)
 refine sd ?_
 exact ⟨_,_,⟨rfl,rfl⟩,(Nat.zero_le _),Gh.toC (n1:=4) ⟨rfl,rfl,rfl,rfl,rfl,rfl,rfl,rfl,trivial⟩ rfl (Nat.zero_le _) (by simp)⟩
 replace h57:=q08 h49 h57
 rcases q0j (p2.Kind == 2) with h50 | h50
 replace h57:=q09 h50 h57
 obtain ⟨r51,h52,h57⟩:=q01 h57
 replace h57:=Option.some.inj h57
 subst h57
 refine sr ?_
 refine RS.q (u:=.ptr 1 0 3) rfl (q06 und42 rfl (q00 inf3) rfl rfl rfl) (RS.q (u:=.int .i64 p2.Kind) rfl (q05 und3 rfl rfl rfl rfl) (RS.q rfl (q02 rfl rfl (q0e _ _ _) rfl) (RS.mv rfl rfl rfl rfl (RS.op (u:=.ptr 3 0 6) (want1 rfl rfl rfl h46) (q06 und42 rfl (q00 inf37) rfl rfl rfl) rfl rfl (RS.op (u:=.agg (xGDeriv x38.Lex)) (want1 rfl rfl rfl h46) (q0f und37 rfl (q00 inf37) rfl rfl rfl) rfl rfl (RS.op (u:=.ptr 1 0 6) (want1 rfl rfl rfl h46) (q06 und42 rfl (q00 inf37) rfl rfl rfl) rfl rfl (RS.op (u:=.agg (xGDeriv p2.Lex)) (want1 rfl rfl rfl h46) (q0f und37 rfl (q00 inf37) rfl rfl rfl) rfl rfl ?_)))))))
 refine RS.call (u:=.int .i64 r47) (args:=[.agg (xGDeriv x38.Lex),.agg (xGDeriv p2.Lex)]) (want1 rfl rfl rfl h46) (q0b rfl rfl fn35 hb35 rfl rfl) (q4o n x38.Lex p2.Lex r47 h48 _) rfl rfl (RS.op (want1 rfl rfl rfl h46) (q02 rfl rfl (q0e _ _ _) rfl) rfl rfl (RS.q (u:=.bool (r47 == 0)) rfl (q04 rfl h46 rfl) (RS.mv rfl rfl rfl rfl (RS.op (u:=.ptr 1 0 3) (want1 rfl rfl rfl h49) (q06 und42 rfl (q00 inf3) rfl rfl rfl) rfl rfl (RS.op (u:=.int .i64 p2.Kind) (want1 rfl rfl rfl h49) (q05 und3 rfl rfl rfl rfl) rfl rfl (RS.op (want1 rfl rfl rfl h49) (q02 rfl rfl (q0e _ _ _) rfl) rfl rfl (RS.op (want1 rfl rfl rfl h49) (q07 rfl) rfl rfl ?_)))))))
 refine RS.op (u:=.ptr 3 0 5) (want1 rfl rfl rfl h50) (q06 und42 rfl (q00 inf34) rfl rfl rfl) rfl rfl (RS.op (u:=.isl false (List.map (cI .i64) x38.Kids)) (want1 rfl rfl rfl h50) (q05 und34 rfl rfl rfl rfl) rfl rfl (RS.op (u:=.ptr 1 0 5) (want1 rfl rfl rfl h50) (q06 und42 rfl (q00 inf34) rfl rfl rfl) rfl rfl (RS.op (u:=.isl false (List.map (cI .i64) p2.Kids)) (want1 rfl rfl rfl h50) (q05 und34 rfl rfl rfl rfl) rfl rfl (RS.call (u:=.bool r51) (args:=[.isl false (List.map (cI .i64) x38.Kids),.isl false (List.map (cI .i64) p2.Kids)]) (want1 rfl rfl rfl h50) (q0b rfl rfl fn36 hb36 rfl rfl) (q6u n x38.Kids p2.Kids r51 h52 _) rfl rfl (RS.op (u:=.bool r51) (want1 rfl rfl rfl h49) (q04 rfl h50 rfl) rfl rfl (RS.q (u:=.bool r51) rfl (q03 rfl h49 rfl) ?_))))))
 refine sd ?_
 exact ⟨_,_,⟨rfl,rfl⟩,(Nat.zero_le _),Gh.toC (n1:=4) ⟨rfl,rfl,rfl,rfl,rfl,rfl,rfl,rfl,trivial⟩ rfl (Nat.zero_le _) (by simp)⟩
 replace h57:=q08 h50 h57
 replace h57:=Option.some.inj h57
 subst h57
 refine sr ?_
 refine RS.q (u:=.ptr 1 0 3) rfl (q06 und42 rfl (q00 inf3) rfl rfl rfl) (RS.q (u:=.int .i64 p2.Kind) rfl (q05 und3 rfl rfl rfl rfl) (RS.q rfl (q02 rfl rfl (q0e _ _ _) rfl) (RS.mv rfl rfl rfl rfl (RS.op (u:=.ptr 3 0 6) (want1 rfl rfl rfl h46) (q06 und42 rfl (q00 inf37) rfl rfl rfl) rfl rfl (RS.op (u:=.agg (xGDeriv x38.Lex)) (want1 rfl rfl rfl h46) (q0f und37 rfl (q00 inf37) rfl rfl rfl) rfl rfl (RS.op (u:=.ptr 1 0 6) (want1 rfl rfl rfl h46) (q06 und42 rfl (q00 inf37) rfl rfl rfl) rfl rfl (RS.op (u:=.agg (xGDeriv p2.Lex)) (want1 rfl rfl rfl h46) (q0f und37 rfl (q00 inf37) rfl rfl rfl) rfl rfl ?_)))))))
 refine RS.call (u:=.int .i64 r47) (args:=[.agg (xGDeriv x38.Lex),.agg (xGDeriv p2.Lex)]) (want1 rfl rfl rfl h46) (q0b rfl rfl fn35 hb35 rfl rfl) (q4o n x38.Lex p2.Lex r47 h48 _) rfl rfl (RS.op (want1 rfl rfl rfl h46) (q02 rfl rfl (q0e _ _ _) rfl) rfl rfl (RS.q (u:=.bool (r47 == 0)) rfl (q04 rfl h46 rfl) (RS.mv rfl rfl rfl rfl (RS.op (u:=.ptr 1 0 3) (want1 rfl rfl rfl h49) (q06 und42 rfl (q00 inf3) rfl rfl rfl) rfl rfl (RS.op (u:=.int .i64 p2.Kind) (want1 rfl rfl rfl h49) (q05 und3 rfl rfl rfl rfl) rfl rfl (RS.op (want1 rfl rfl rfl h49) (q02 rfl rfl (q0e _ _ _) rfl) rfl rfl (RS.op (want1 rfl rfl rfl h49) (q07 rfl) rfl rfl ?_)))))))
 repeat refine RS.no (want0 rfl rfl rfl h50) rfl rfl ?_
 refine RS.op (u:=.bool false) (want1 rfl rfl rfl h49) (q03 rfl h50 rfl) rfl rfl (RS.q (u:=.bool false) rfl (q03 rfl h49 rfl) ?_)
 refine sd ?_
 exact ⟨_,_,⟨rfl,rfl⟩,(Nat.zero_le _),Gh.toC (n1:=4) ⟨rfl,rfl,rfl,rfl,rfl,rfl,rfl,rfl,trivial⟩ rfl (Nat.zero_le _) (by simp)⟩
 replace h57:=q08 h46 h57
 rcases q0j (p2.Kind == 2) with h53 | h53
 replace h57:=q09 h53 h57
 obtain ⟨r54,h55,h57⟩:=q01 h57
 replace h57:=Option.some.inj h57
 subst h57
 refine sr ?_
 refine RS.q (u:=.ptr 1 0 3) rfl (q06 und42 rfl (q00 inf3) rfl rfl rfl) (RS.q (u:=.int .i64 p2.Kind) rfl (q05 und3 rfl rfl rfl rfl) (RS.q rfl (q02 rfl rfl (q0e _ _ _) rfl) (RS.mv rfl rfl rfl rfl ?_)))
 repeat refine RS.no (want0 rfl rfl rfl h46) rfl rfl ?_
 refine RS.q (u:=.bool false) rfl (q03 rfl h46 rfl) (RS.mv rfl rfl rfl rfl (RS.op (u:=.ptr 1 0 3) (want1 rfl rfl rfl rfl) (q06 und42 rfl (q00 inf3) rfl rfl rfl) rfl rfl (RS.op (u:=.int .i64 p2.Kind) (want1 rfl rfl rfl rfl) (q05 und3 rfl rfl rfl rfl) rfl rfl (RS.op (want1 rfl rfl rfl rfl) (q02 rfl rfl (q0e _ _ _) rfl) rfl rfl (RS.op (want1 rfl rfl rfl rfl) (q07 rfl) rfl rfl (RS.op (u:=.ptr 3 0 5) (want1 rfl rfl rfl h53) (q06 und42 rfl (q00 inf34) rfl rfl rfl) rfl rfl (RS.op (u:=.isl false (List.map (cI .i64) x38.Kids)) (want1 rfl rfl rfl h53) (q05 und34 rfl rfl rfl rfl) rfl rfl ?_)))))))
 refine RS.op (u:=.ptr 1 0 5) (want1 rfl rfl rfl h53) (q06 und42 rfl (q00 inf34) rfl rfl rfl) rfl rfl (RS.op (u:=.isl false (List.map (cI .i64) p2.Kids)) (want1 rfl rfl rfl h53) (q05 und34 rfl rfl rfl rfl) rfl rfl (RS.call (u:=.bool r54) (args:=[.isl false (List.map (cI .i64) x38.Kids),.isl false (List.map (cI .i64) p2.Kids)]) (want1 rfl rfl rfl h53) (q0b rfl rfl fn36 hb36 rfl rfl) (q6u n x38.Kids p2.Kids r54 h55 _) rfl rfl (RS.op (u:=.bool r54) (want1 rfl rfl rfl rfl) (q04 rfl h53 rfl) rfl rfl (RS.q (u:=.bool r54) rfl (q03 rfl rfl rfl) ?_))))
 refine sd ?_
 exact ⟨_,_,⟨rfl,rfl⟩,(Nat.zero_le _),Gh.toC (n1:=4) ⟨rfl,rfl,rfl,rfl,rfl,rfl,rfl,rfl,trivial⟩ rfl (Nat.zero_le _) (by simp)⟩
 replace h57:=q08 h53 h57
 replace h57:=Option.some.inj h57
 subst h57
 refine sr ?_
 refine RS.q (u:=.ptr 1 0 3) rfl (q06 und42 rfl (q00 inf3) rfl rfl rfl) (RS.q (u:=.int .i64 p2.Kind) rfl (q05 und3 rfl rfl rfl rfl) (RS.q rfl (q02 rfl rfl (q0e _ _ _) rfl) (RS.mv rfl rfl rfl rfl ?_)))
 repeat refine RS.no (want0 rfl rfl rfl h46) rfl rfl ?_
 refine RS.q (u:=.bool false) rfl (q03 rfl h46 rfl) (RS.mv rfl rfl rfl rfl (RS.op (u:=.ptr 1 0 3) (want1 rfl rfl rfl rfl) (q06 und42 rfl (q00 inf3) rfl rfl rfl) rfl rfl (RS.op (u:=.int .i64 p2.Kind) (want1 rfl rfl rfl rfl) (q05 und3 rfl rfl rfl rfl) rfl rfl (RS.op (want1 rfl rfl rfl rfl) (q02 rfl rfl (q0e _ _ _) rfl) rfl rfl (RS.op (want1 rfl rfl rfl rfl) (q07 rfl) rfl rfl ?_)))))
 repeat refine RS.no (want0 rfl rfl rfl h53) rfl rfl ?_
 refine RS.op (u:=.bool false) (want1 rfl rfl rfl rfl) (q03 rfl h53 rfl) rfl rfl (RS.q (u:=.bool false) rfl (q03 rfl rfl rfl) ?_)
 refine sd ?_
 exact ⟨_,_,⟨rfl,rfl⟩,(Nat.zero_le _),Gh.toC (n1:=4) ⟨rfl,rfl,rfl,rfl,rfl,rfl,rfl,rfl,trivial⟩ rfl (Nat.zero_le _) (by simp)⟩
 rcases q0j (x38.Kind != p2.Kind) with h40 | h40
 replace h44:=q09 h40 h44
 replace h44:=Option.some.inj h44
 subst h44
 refine sr ?_
 refine RS.q (u:=.ptr 3 0 3) rfl (q06 und42 rfl (q00 inf3) rfl rfl rfl) (RS.q (u:=.int .i64 x38.Kind) rfl (q05 und3 rfl rfl rfl rfl) (RS.q (u:=.ptr 1 0 3) rfl (q06 und42 rfl (q00 inf3) rfl rfl rfl) (RS.q (u:=.int .i64 p2.Kind) rfl (q05 und3 rfl rfl rfl rfl) (RS.q rfl (q02 rfl rfl (q0c _ _ _) rfl) (RS.mv rfl rfl rfl rfl ?_)))))
 repeat refine RS.no (want0 rfl rfl rfl h40) rfl rfl ?_
 refine RS.q (u:=.bool true) rfl (q04 rfl h40 rfl) (RS.mv rfl rfl rfl rfl ?_)
 repeat refine RS.no (want0 rfl rfl rfl rfl) rfl rfl ?_
 refine RS.q (u:=.bool true) rfl (q04 rfl rfl rfl) (RS.mv rfl rfl rfl rfl ?_)
 repeat refine RS.no (want0 rfl rfl rfl rfl) rfl rfl ?_
 refine RS.q (u:=.bool true) rfl (q04 rfl rfl rfl) ?_
 refine sd ?_
 exact ⟨_,_,⟨rfl,rfl⟩,(Nat.zero_le _),Gh.toC (n1:=4) ⟨rfl,rfl,rfl,rfl,rfl,rfl,rfl,rfl,rfl,trivial⟩ rfl (Nat.zero_le _) (by simp)⟩
 replace h44:=q08 h40 h44
 rcases q0j (!bytesEq x38.Name p2.Name) with h41 | h41
 replace h44:=q09 h41 h44
 replace h44:=Option.some.inj h44
 subst h44
 refine sr ?_
 refine RS.q (u:=.ptr 3 0 3) rfl (q06 und42 rfl (q00 inf3) rfl rfl rfl) (RS.q (u:=.int .i64 x38.Kind) rfl (q05 und3 rfl rfl rfl rfl) (RS.q (u:=.ptr 1 0 3) rfl (q06 und42 rfl (q00 inf3) rfl rfl rfl) (RS.q (u:=.int .i64 p2.Kind) rfl (q05 und3 rfl rfl rfl rfl) (RS.q rfl (q02 rfl rfl (q0c _ _ _) rfl) (RS.mv rfl rfl rfl rfl (RS.op (u:=.ptr 3 0 4) (want1 rfl rfl rfl h40) (q06 und42 rfl (q00 inf9) rfl rfl rfl) rfl rfl (RS.op (u:=.str x38.Name) (want1 rfl rfl rfl h40) (q05 und9 rfl rfl rfl rfl) rfl rfl ?_)))))))
 refine RS.op (u:=.ptr 1 0 4) (want1 rfl rfl rfl h40) (q06 und42 rfl (q00 inf9) rfl rfl rfl) rfl rfl (RS.op (u:=.str p2.Name) (want1 rfl rfl rfl h40) (q05 und9 rfl rfl rfl rfl) rfl rfl (RS.op (u:=.bool (!bytesEq x38.Name p2.Name)) (want1 rfl rfl rfl h40) (q2w rfl rfl rfl rfl) rfl rfl (RS.q (u:=.bool (!bytesEq x38.Name p2.Name)) rfl (q03 rfl h40 rfl) (RS.mv rfl rfl rfl rfl ?_))))
 repeat refine RS.no (want0 rfl rfl rfl h41) rfl rfl ?_
 refine RS.q (u:=.bool true) rfl (q04 rfl h41 rfl) (RS.mv rfl rfl rfl rfl ?_)
 repeat refine RS.no (want0 rfl rfl rfl rfl) rfl rfl ?_
 refine RS.q (u:=.bool true) rfl (q04 rfl rfl rfl) ?_
 refine sd ?_
 exact ⟨_,_,⟨rfl,rfl⟩,(Nat.zero_le _),Gh.toC (n1:=4) ⟨rfl,rfl,rfl,rfl,rfl,rfl,rfl,rfl,rfl,trivial⟩ rfl (Nat.zero_le _) (by simp)⟩
 replace h44:=q08 h41 h44
 rcases q0j (x38.From != p2.From) with h42 | h42
 replace h44:=q09 h42 h44
 replace h44:=Option.some.inj h44
 subst h44
 refine sr ?_
 refine RS.q (u:=.ptr 3 0 3) rfl (q06 und42 rfl (q00 inf3) rfl rfl rfl) (RS.q (u:=.int .i64 x38.Kind) rfl (q05 und3 rfl rfl rfl rfl) (RS.q (u:=.ptr 1 0 3) rfl (q06 und42 rfl (q00 inf3) rfl rfl rfl) (RS.q (u:=.int .i64 p2.Kind) rfl (q05 und3 rfl rfl rfl rfl) (RS.q rfl (q02 rfl rfl (q0c _ _ _) rfl) (RS.mv rfl rfl rfl rfl (RS.op (u:=.ptr 3 0 4) (want1 rfl rfl rfl h40) (q06 und42 rfl (q00 inf9) rfl rfl rfl) rfl rfl (RS.op (u:=.str x38.Name) (want1 rfl rfl rfl h40) (q05 und9 rfl rfl rfl rfl) rfl rfl ?_)))))))
 refine RS.op (u:=.ptr 1 0 4) (want1 rfl rfl rfl h40) (q06 und42 rfl (q00 inf9) rfl rfl rfl) rfl rfl (RS.op (u:=.str p2.Name) (want1 rfl rfl rfl h40) (q05 und9 rfl rfl rfl rfl) rfl rfl (RS.op (u:=.bool (!bytesEq x38.Name p2.Name)) (want1 rfl rfl rfl h40) (q2w rfl rfl rfl rfl) rfl rfl (RS.q (u:=.bool (!bytesEq x38.Name p2.Name)) rfl (q03 rfl h40 rfl) (RS.mv rfl rfl rfl rfl (RS.op (u:=.ptr 3 0 0) (want1 rfl rfl rfl h41) (q06 und42 rfl (q00 inf3) rfl rfl rfl) rfl rfl (RS.op (u:=.int .i64 x38.From) (want1 rfl rfl rfl h41) (q05 und3 rfl rfl rfl rfl) rfl rfl (RS.op (u:=.ptr 1 0 0) (want1 rfl rfl rfl h41) (q06 und42 rfl (q00 inf3) rfl rfl rfl) rfl rfl ?_)))))))
 refine RS.op (u:=.int .i64 p2.From) (want1 rfl rfl rfl h41) (q05 und3 rfl rfl rfl rfl) rfl rfl (RS.op (want1 rfl rfl rfl h41) (q02 rfl rfl (q0c _ _ _) rfl) rfl rfl (RS.q (u:=.bool (x38.From != p2.From)) rfl (q03 rfl h41 rfl) (RS.mv rfl rfl rfl rfl ?_)))
 repeat refine RS.no (want0 rfl rfl rfl h42) rfl rfl ?_
 refine RS.q (u:=.bool true) rfl (q04 rfl h42 rfl) ?_
 refine sd ?_
 exact ⟨_,_,⟨rfl,rfl⟩,(Nat.zero_le _),Gh.toC (n1:=4) ⟨rfl,rfl,rfl,rfl,rfl,rfl,rfl,rfl,rfl,trivial⟩ rfl (Nat.zero_le _) (by simp)⟩
 replace h44:=q08 h42 h44
 replace h44:=Option.some.inj h44
 subst h44
 refine sr ?_
 refine RS.q (u:=.ptr 3 0 3) rfl (q06 und42 rfl (q00 inf3) rfl rfl rfl) (RS.q (u:=.int .i64 x38.Kind) rfl (q05 und3 rfl rfl rfl rfl) (RS.q (u:=.ptr 1 0 3) rfl (q06 und42 rfl (q00 inf3) rfl rfl rfl) (RS.q (u:=.int .i64 p2.Kind) rfl (q05 und3 rfl rfl rfl rfl) (RS.q rfl (q02 rfl rfl (q0c _ _ _) rfl) (RS.mv rfl rfl rfl rfl (RS.op (u:=.ptr 3 0 4) (want1 rfl rfl rfl h40) (q06 und42 rfl (q00 inf9) rfl rfl rfl) rfl rfl (RS.op (u:=.str x38.Name) (want1 rfl rfl rfl h40) (q05 und9 rfl rfl rfl rfl) rfl rfl ?_)))))))
 refine RS.op (u:=.ptr 1 0 4) (want1 rfl rfl rfl h40) (q06 und42 rfl (q00 inf9) rfl rfl rfl) rfl rfl (RS.op (u:=.str p2.Name) (want1 rfl rfl rfl h40) (q05 und9 rfl rfl rfl rfl) rfl rfl (RS.op (u:=.bool (!bytesEq x38.Name p2.Name)) (want1 rfl rfl rfl h40) (q2w rfl rfl rfl rfl) rfl rfl (RS.q (u:=.bool (!bytesEq x38.Name p2.Name)) rfl (q03 rfl h40 rfl) (RS.mv rfl rfl rfl rfl (RS.op (u:=.ptr 3 0 0) (want1 rfl rfl rfl h41) (q06 und42 rfl (q00 inf3) rfl rfl rfl) rfl rfl (RS.op (u:=.int .i64 x38.From) (want1 rfl rfl rfl h41) (q05 und3 rfl rfl rfl rfl) rfl rfl (RS.op (u:=.ptr 1 0 0) (want1 rfl rfl rfl h41) (q06 und42 rfl (q00 inf3) rfl rfl rfl) rfl rfl ?_)))))))
 refine RS.op (u:=.int .i64 p2.From) (want1 rfl rfl rfl h41) (q05 und3 rfl rfl rfl rfl) rfl rfl (RS.op (want1 rfl rfl rfl h41) (q02 rfl rfl (q0c _ _ _) rfl) rfl rfl (RS.q (u:=.bool (x38.From != p2.From)) rfl (q03 rfl h41 rfl) (RS.mv rfl rfl rfl rfl (RS.op (u:=.ptr 3 0 1) (want1 rfl rfl rfl h42) (q06 und42 rfl (q00 inf3) rfl rfl rfl) rfl rfl (RS.op (u:=.int .i64 x38.To) (want1 rfl rfl rfl h42) (q05 und3 rfl rfl rfl rfl) rfl rfl (RS.op (u:=.ptr 1 0 1) (want1 rfl rfl rfl h42) (q06 und42 rfl (q00 inf3) rfl rfl rfl) rfl rfl (RS.op (u:=.int .i64 p2.To) (want1 rfl rfl rfl h42) (q05 und3 rfl rfl rfl rfl) rfl rfl ?_)))))))
 refine RS.op (want1 rfl rfl rfl h42) (q02 rfl rfl (q0c _ _ _) rfl) rfl rfl (RS.q (u:=.bool (x38.To != p2.To)) rfl (q03 rfl h42 rfl) ?_)
 refine sd ?_
 exact ⟨_,_,⟨rfl,rfl⟩,(Nat.zero_le _),Gh.toC (n1:=4) ⟨rfl,rfl,rfl,rfl,rfl,rfl,rfl,rfl,rfl,trivial⟩ rfl (Nat.zero_le _) (by simp)⟩
 replace hF:=q08 h37 hF
 refine st ?_
 refine WPU.exit ?_
 refine st ?_
 exact ⟨_,_,⟨hF,rfl,rfl⟩,(Nat.zero_le _),Gh.toC (n1:=3) ⟨rfl,rfl,rfl,trivial⟩ rfl (Nat.zero_le _) (by simp)⟩
 rcases q0j (p2.Kind != 1) with h8 | h8
 replace h10:=q09 h8 h10
 replace h10:=Option.some.inj h10
 subst h10
 refine sr ?_
 refine RS.q (u:=.ptr 1 0 3) rfl (q06 und42 rfl (q00 inf3) rfl rfl rfl) (RS.q (u:=.int .i64 p2.Kind) rfl (q05 und3 rfl rfl rfl rfl) (RS.q rfl (q02 rfl rfl (q0c _ _ _) rfl) (RS.mv rfl rfl rfl rfl (RS.op (u:=.ptr 1 0 3) (want1 rfl rfl rfl h8) (q06 und42 rfl (q00 inf3) rfl rfl rfl) rfl rfl (RS.op (u:=.int .i64 p2.Kind) (want1 rfl rfl rfl h8) (q05 und3 rfl rfl rfl rfl) rfl rfl (RS.op (want1 rfl rfl rfl h8) (q02 rfl rfl (q0c _ _ _) rfl) rfl rfl (RS.q (u:=.bool (p2.Kind != 2)) rfl (q04 rfl h8 rfl) ?_)))))))
 refine sd ?_
 exact ⟨_,_,⟨rfl,rfl⟩,(Nat.zero_le _),Gh.toC (n1:=3) ⟨rfl,rfl,rfl,rfl,trivial⟩ rfl (Nat.zero_le _) (by simp)⟩
 replace h10:=q08 h8 h10
 replace h10:=Option.some.inj h10
 subst h10
 refine sr ?_
 refine RS.q (u:=.ptr 1 0 3) rfl (q06 und42 rfl (q00 inf3) rfl rfl rfl) (RS.q (u:=.int .i64 p2.Kind) rfl (q05 und3 rfl rfl rfl rfl) (RS.q rfl (q02 rfl rfl (q0c _ _ _) rfl) (RS.mv rfl rfl rfl rfl ?_)))
 repeat refine RS.no (want0 rfl rfl rfl h8) rfl rfl ?_
 refine RS.q (u:=.bool false) rfl (q03 rfl h8 rfl) ?_
 refine sd ?_
 exact ⟨_,_,⟨rfl,rfl⟩,(Nat.zero_le _),Gh.toC (n1:=3) ⟨rfl,rfl,rfl,rfl,trivial⟩ rfl (Nat.zero_le _) (by simp)⟩
 rcases q0j (decide (p2.From<0)) with h3 | h3
 replace h6:=q09 h3 h6
 replace h6:=Option.some.inj h6
 subst h6
 refine sr ?_
 refine RS.q (u:=.ptr 1 0 0) rfl (q06 und42 rfl (q00 inf3) rfl rfl rfl) (RS.q (u:=.int .i64 p2.From) rfl (q05 und3 rfl rfl rfl rfl) (RS.q rfl (q02 rfl rfl (q1i _ _ _) rfl) (RS.mv rfl rfl rfl rfl ?_)))
 repeat refine RS.no (want0 rfl rfl rfl h3) rfl rfl ?_
 refine RS.q (u:=.bool true) rfl (q04 rfl h3 rfl) (RS.mv rfl rfl rfl rfl ?_)
 repeat refine RS.no (want0 rfl rfl rfl rfl) rfl rfl ?_
 refine RS.q (u:=.bool true) rfl (q04 rfl rfl rfl) ?_
 refine sd ?_
 exact ⟨_,_,⟨rfl,rfl⟩,(Nat.zero_le _),Gh.toC (n1:=3) ⟨rfl,rfl,rfl,rfl,trivial⟩ rfl (Nat.zero_le _) (by simp)⟩
 replace h6:=q08 h3 h6
 rcases q0j (decide (p2.From ≥ p2.To)) with h4 | h4
 replace h6:=q09 h4 h6
 replace h6:=Option.some.inj h6
 subst h6
 refine sr ?_
 refine RS.q (u:=.ptr 1 0 0) rfl (q06 und42 rfl (q00 inf3) rfl rfl rfl) (RS.q (u:=.int .i64 p2.From) rfl (q05 und3 rfl rfl rfl rfl) (RS.q rfl (q02 rfl rfl (q1i _ _ _) rfl) (RS.mv rfl rfl rfl rfl (RS.op (u:=.ptr 1 0 0) (want1 rfl rfl rfl h3) (q06 und42 rfl (q00 inf3) rfl rfl rfl) rfl rfl (RS.op (u:=.int .i64 p2.From) (want1 rfl rfl rfl h3) (q05 und3 rfl rfl rfl rfl) rfl rfl (RS.op (u:=.ptr 1 0 1) (want1 rfl rfl rfl h3) (q06 und42 rfl (q00 inf3) rfl rfl rfl) rfl rfl (RS.op (u:=.int .i64 p2.To) (want1 rfl rfl rfl h3) (q05 und3 rfl rfl rfl rfl) rfl rfl ?_)))))))
 refine RS.op (want1 rfl rfl rfl h3) (q02 rfl rfl (ix_geq _ _ _) rfl) rfl rfl (RS.q (u:=.bool (decide (p2.From ≥ p2.To))) rfl (q03 rfl h3 rfl) (RS.mv rfl rfl rfl rfl ?_))
 repeat refine RS.no (want0 rfl rfl rfl h4) rfl rfl ?_
 refine RS.q (u:=.bool true) rfl (q04 rfl h4 rfl) ?_
 refine sd ?_
 exact ⟨_,_,⟨rfl,rfl⟩,(Nat.zero_le _),Gh.toC (n1:=3) ⟨rfl,rfl,rfl,rfl,trivial⟩ rfl (Nat.zero_le _) (by simp)⟩
 replace h6:=q08 h4 h6
 replace h6:=Option.some.inj h6
 subst h6
 refine sr ?_
 refine RS.q (u:=.ptr 1 0 0) rfl (q06 und42 rfl (q00 inf3) rfl rfl rfl) (RS.q (u:=.int .i64 p2.From) rfl (q05 und3 rfl rfl rfl rfl) (RS.q rfl (q02 rfl rfl (q1i _ _ _) rfl) (RS.mv rfl rfl rfl rfl (RS.op (u:=.ptr 1 0 0) (want1 rfl rfl rfl h3) (q06 und42 rfl (q00 inf3) rfl rfl rfl) rfl rfl (RS.op (u:=.int .i64 p2.From) (want1 rfl rfl rfl h3) (q05 und3 rfl rfl rfl rfl) rfl rfl (RS.op (u:=.ptr 1 0 1) (want1 rfl rfl rfl h3) (q06 und42 rfl (q00 inf3) rfl rfl rfl) rfl rfl (RS.op (u:=.int .i64 p2.To) (want1 rfl rfl rfl h3) (q05 und3 rfl rfl rfl rfl) rfl rfl ?_)))))))
 refine RS.op (want1 rfl rfl rfl h3) (q02 rfl rfl (ix_geq _ _ _) rfl) rfl rfl (RS.q (u:=.bool (decide (p2.From ≥ p2.To))) rfl (q03 rfl h3 rfl) (RS.mv rfl rfl rfl rfl (RS.op (u:=.ptr 1 0 1) (want1 rfl rfl rfl h4) (q06 und42 rfl (q00 inf3) rfl rfl rfl) rfl rfl (RS.op (u:=.int .i64 p2.To) (want1 rfl rfl rfl h4) (q05 und3 rfl rfl rfl rfl) rfl rfl (RS.op (u:=.ptr 0 0 0) (want1 rfl rfl rfl h4) (q06 und24 rfl (q00 inf3) rfl rfl rfl) rfl rfl (RS.op (u:=.int .i64 p1.Words) (want1 rfl rfl rfl h4) (q05 und3 rfl rfl rfl rfl) rfl rfl (RS.op (want1 rfl rfl rfl h4) (q02 rfl rfl (q74 _ _ _) rfl) rfl rfl ?_)))))))
 refine RS.q (u:=.bool (decide (p2.To > p1.Words))) rfl (q03 rfl h4 rfl) ?_
 refine sd ?_
 exact ⟨_,_,⟨rfl,rfl⟩,(Nat.zero_le _),Gh.toC (n1:=3) ⟨rfl,rfl,rfl,rfl,trivial⟩ rfl (Nat.zero_le _) (by simp)⟩
theorem q37 (n:Nat) (p1:GChart) (p2:GEdge) (r:GChart×Int×Int) (hF:q20 n p1 p2=some r) (σ:Sg):EvU Try.prog 14 [.agg (cGChart p1),.agg (cGEdge p2)] σ (fun u σ'=>u = .tup [.agg (cGChart r.1),.int .i64 r.2.1,.int .i64 r.2.2]∧σ'=σ) :=
 EvU.pure1C (chart_Add_0 n p1 p2 r hF) σ
def q4u (p2:GEdge) (l32:List GDeriv):Option (GDeriv) :=
 some (GDeriv.mk 2 p2.Name p2.From p2.To l32)
def q2a (p1:GChart) (p2:GEdge) (self:GChart→GEdge→Option (GDeriv)):Nat→Int→(List GDeriv)→Option (GDeriv)
 | 0,_,_=>none
 | m1+1,z29,l30 =>
  cond (decide (z29<(p2.Kids.length:Int)))
   (bindO (idxO p2.Kids z29) fun x35 =>
   bindO (idxO p1.Edges x35) fun x37 =>
   bindO (self p1 x37) fun r39 =>
   needO ((l30.length+1)*64≤140737488355328∧l30.length+1≤140737488355328) (
   (q2a p1 p2 self m1) (IntKind.i64.wrap (z29+1)) (l30++[r39])))
   (q4u p2 l30)
def q5e (n:Nat) (self:GChart→GEdge→Option (GDeriv)) (p1:GChart) (p2:GEdge):Option (GDeriv) :=
 cond (p2.Kind == 1)
  (some p2.Lex)
  (q2a p1 p2 self n 0 ([]:List GDeriv))
def q1z:Nat→GChart→GEdge→Option (GDeriv)
 | 0,_,_=>none
 | n+1,p1,p2=>q5e n (q1z n) p1 p2
def q6s (n:Nat) (p1:GChart) (p2:Int):Option (GDeriv) :=
 bindO (cond (decide (p2<0))
  (some true)
  (some (decide (p2 ≥ (p1.Edges.length:Int))))) fun b4 =>
 cond b4
  (some (GDeriv.mk 0 [] 0 0 []))
  (bindO (idxO p1.Edges p2) fun x7 =>
  bindO (q1z n p1 x7) fun r9 =>
  some r9)
def q8d (n:Nat) (self:GDeriv→Option (Bool)) (p1:GDeriv):Option (Bool) :=
 cond (p1.Kind == 0)
  (some ((p1.Kids.length:Int) == 0))
  (bindO (cond (p1.Kind == 1)
   (cond ((p1.Kids.length:Int) == 1)
    (bindO (idxO p1.Kids 0) fun x5 =>
    cond (x5.From == p1.From)
     (bindO (idxO p1.Kids 0) fun x8 =>
     cond (x8.To == p1.To)
      (bindO (idxO p1.Kids 0) fun x11 =>
      bindO (self x11) fun r13 =>
      some r13)
      (some false))
     (some false))
    (some false))
   (some false)) fun b15 =>
  some b15)
def q6f:Nat→GDeriv→Option (Bool)
 | 0,_=>none
 | n+1,p1=>q8d n (q6f n) p1
def qap (n:Nat) (p1:GDeriv):Option (Bool) :=
 bindO (cond (p1.Kind == 0)
  (cond (bytesEq p1.Name [])
   (cond (p1.From == 0)
    (cond (p1.To == 0)
     (some ((p1.Kids.length:Int) == 0))
     (some false))
    (some false))
   (some false))
  (some false)) fun b6 =>
 some b6
def q5f (p2:GEdge) (z42:Int):Option (Bool) :=
 bindO (cond (p2.Unary == z42)
  (some (decide (z42≤2)))
  (some false)) fun b44 =>
 some b44
def q8f (p1:GChart) (p2:GEdge) (z39:Int):Option (Bool) :=
 cond (z39 != p2.To)
  (some false)
  (cond ((p2.Kids.length:Int) == 1)
   (bindO (idxO p2.Kids 0) fun x46 =>
   bindO (idxO p1.Edges x46) fun x48 =>
   q5f p2 (IntKind.i64.wrap (x48.Unary+1)))
   (q5f p2 0))
def q5g (p1:GChart) (p2:GEdge):Nat→Int→Int→Option (Bool)
 | 0,_,_=>none
 | m1+1,z37,z38 =>
  cond (decide (z38<(p2.Kids.length:Int)))
   (bindO (idxO p2.Kids z38) fun x51 =>
   bindO (cond (decide (x51<0))
    (some true)
    (cond (decide (x51 ≥ (p1.Edges.length:Int)))
     (some true)
     (bindO (idxO p1.Edges x51) fun x55 =>
     some (x55.From != z37)))) fun b57 =>
   cond b57
    (some false)
    (bindO (idxO p1.Edges x51) fun x60 =>
    (q5g p1 p2 m1) x60.To (IntKind.i64.wrap (z38+1))))
   (q8f p1 p2 z37)
def q8e (n:Nat) (p1:GChart) (p2:GEdge):Option (Bool) :=
 cond (p2.Kind == 1)
  (bindO (cond (bytesEq p2.Name p2.Lex.Name)
   (cond ((p2.Kids.length:Int) == 0)
    (cond (p2.Unary == 0)
     (bindO (q6f n p2.Lex) fun r7 =>
     cond r7
      (cond (p2.Lex.From == p2.From)
       (some (p2.Lex.To == p2.To))
       (some false))
      (some false))
     (some false))
    (some false))
   (some false)) fun b11 =>
  some b11)
  (bindO (cond (bytesEq p2.Name [])
   (some true)
   (bindO (qap n p2.Lex) fun r14 =>
   cond (!r14)
    (some true)
    (cond (decide ((p2.Kids.length:Int)<1))
     (some true)
     (some (decide ((p2.Kids.length:Int) > 2)))))) fun b18 =>
  cond b18
   (some false)
   (q5g p1 p2 n p2.From 0))
def qb2 (p1:GChart) (p2:GEdge) (l66:List GEdge):Option (GChart×Int×Int) :=
 needO ((l66.length+1)*160≤140737488355328∧l66.length+1≤140737488355328) (
 some ((GChart.mk p1.Words (l66++[p2])),(p1.Edges.length:Int),0))
def q79 (p1:GChart) (p2:GEdge):Nat→Int→(List GEdge)→Option (GChart×Int×Int)
 | 0,_,_=>none
 | m2+1,z63,l64 =>
  cond (decide (z63<(p1.Edges.length:Int)))
   (bindO (idxO p1.Edges z63) fun x70 =>
   needO ((l64.length+1)*160≤140737488355328∧l64.length+1≤140737488355328) (
   (q79 p1 p2 m2) (IntKind.i64.wrap (z63+1)) (l64++[x70])))
   (qb2 p1 p2 l64)
def qb1 (p1:GChart) (p2:GEdge) (n:Nat)  : Option (GChart×Int×Int) :=
 q79 p1 p2 n 0 ([]:List GEdge)
def q78 (p1:GChart) (p2:GEdge) (n:Nat) (r15:GDeriv):Nat→Int→Option (GChart×Int×Int)
 | 0,_=>none
 | m1+1,z38 =>
  cond (decide (z38<(p1.Edges.length:Int)))
   (bindO (q6s n p1 z38) fun r74 =>
   bindO (q1w n r74 r15) fun r76 =>
   cond (r76 == 0)
    (some (p1,z38,4))
    ((q78 p1 p2 n r15 m1) (IntKind.i64.wrap (z38+1))))
   (qb1 p1 p2 n)
def qce (n:Nat) (p1:GChart) (p2:GEdge):Option (GChart×Int×Int) :=
 bindO (cond (decide (p2.From<0))
  (some true)
  (cond (decide (p2.From ≥ p2.To))
   (some true)
   (some (decide (p2.To > p1.Words))))) fun b5 =>
 cond b5
  (some (p1,0,2))
  (bindO (cond (p2.Kind != 1)
   (some (p2.Kind != 2))
   (some false)) fun b9 =>
  cond b9
   (some (p1,0,14))
   (bindO (q8e n p1 p2) fun r12 =>
   cond (!r12)
    (some (p1,0,13))
    (bindO (q1z n p1 p2) fun r15 =>
    q78 p1 p2 n r15 n 0)))
def q1r (z10:Int) (rc1:Int→(List Int)→Option ((List Int))) (l21:List Int):Option ((List Int)) :=
 rc1 (IntKind.i64.wrap (z10+1)) l21
def q30  (l13:List Int):Option ((List Int)) :=
 some l13
def q0w (p1:GChart) (c2:Int) (f1:GEdge→Int→Option (Bool)):Nat→Int→(List Int)→Option ((List Int))
 | 0,_,_=>none
 | m1+1,z10,l11 =>
  cond (decide (z10<(p1.Edges.length:Int)))
   (bindO (idxO p1.Edges z10) fun x16 =>
   bindO (f1 x16 c2) fun r18 =>
   cond r18
    (needO ((l11.length+1)*8≤140737488355328∧l11.length+1≤140737488355328) (
    q1r z10 (q0w p1 c2 f1 m1) (l11++[z10])))
    (q1r z10 (q0w p1 c2 f1 m1) l11))
   (q30 l11)
def q2j (f1:GEdge→Int→Option (Bool)) (n:Nat) (p1:GChart) (c2:Int):Option ((List Int)) :=
 q0w p1 c2 f1 n 0 ([]:List Int)
theorem q6w (f1:GEdge→Int→Option (Bool)) (hf1:∀ (a0:GEdge) (a1:Int) (r:Bool),f1 a0 a1=some r→EvU Try.prog 40 [.agg (cGEdge a0),.iptr [.int .i64 a1]] ⟨[],0⟩ (fun u _=>u = .bool r∧Bel 0 u)) (n:Nat) (p1:GChart) (c2:Int) (r:(List Int)) (hF:q2j f1 n p1 c2=some r):EvU Try.prog 39 [.agg (cGChart p1),.fn (.func 40) [] [.iptr [.int .i64 c2]]] ⟨[],0⟩ (fun u _=>u = .isl false (List.map (cI .i64) r)∧Bel 0 u):=by
 unfold q2j at hF
 have hf1S:∀ (a0:GEdge) (a1:Int) (r:Bool),f1 a0 a1=some r→∀ σ,EvU Try.prog 40 [.agg (cGEdge a0),.iptr [.int .i64 a1]] σ (fun u σ'=>u = .bool r∧σ'=σ):=fun a0 a1 r h σ=>EvU.pure1C (hf1 a0 a1 r h) σ
 refine EvU.of_body Try.tb_ok fn39 rfl ?_
 refine WPU.ghost (tm':=fr 25 [(0,.agg (cGChart p1)),(1,.fn (.func 40) [] [.iptr [.int .i64 c2]])]) (Gh.start (Nat.le_of_ble_eq_true rfl)) (Nat.zero_le _) ?_
 refine sr ?_
 refine RS.q (u:=.ptr 0 0 0) (σ':=⟨[(0,.row (cGChart p1) 24)],1⟩) rfl (q2v rfl rfl rfl) ?_
 refine se ?_
 refine se ?_
 refine RS.q (u:=.ptr 0 0 1) rfl (q06 und24 rfl (q00 inf22) rfl rfl rfl) (RS.q (u:=.isl false (List.map cGEdge p1.Edges)) rfl (q05 und22 rfl rfl rfl rfl) (RS.q rfl (q0i rfl rfl rfl (q0d cGEdge und22)) (RS.mv rfl rfl rfl rfl ?_)))
 refine sd ?_
 refine WPU.ghost (tm':=fr 25 [(1,.fn (.func 40) [] [.iptr [.int .i64 c2]]),(5,.vl 1 0 0 (([]:List Int).length)),(9,.isl false (List.map cGEdge p1.Edges)),(10,.int .i64 (p1.Edges.length:Int)),(11,.int .i64 0)]) (σ':=⟨[(1,.vec (List.map (cI .i64) ([]:List Int)).flatten 3 1 0),(0,.row (cGChart p1) 24)],2⟩) (Gh.trans (Gh.nilS 5 3 1 (by decide) (Nat.zero_le _) rfl rfl) (Gh.eqS ⟨rfl,rfl,rfl,rfl,rfl,trivial⟩ rfl)) (Nat.zero_le _) ?_
 refine WPU.ghost (tm':=fr 25 [(1,.fn (.func 40) [] [.iptr [.int .i64 c2]]),(5,.vl 1 0 0 (([]:List Int).length)),(9,.isl false (List.map cGEdge p1.Edges)),(10,.int .i64 (p1.Edges.length:Int)),(11,.int .i64 0)]) (Gh.sub ⟨rfl,rfl,rfl,rfl,rfl,trivial⟩) (Nat.zero_le _) ?_
 refine WPU.loopK (fun m tm σ=>∃ z10:Int,∃ l11:List Int,∃ t12:Nat,q0w p1 c2 f1 m z10 l11=some r∧tm=fr 25 [(1,.fn (.func 40) [] [.iptr [.int .i64 c2]]),(5,.vl 1 t12 0 l11.length),(9,.isl false (List.map cGEdge p1.Edges)),(10,.int .i64 (p1.Edges.length:Int)),(11,.int .i64 z10)]∧σ=⟨[(1,.vec (List.map (cI .i64) l11).flatten 3 1 t12),(0,.row (cGChart p1) 24)],2⟩) (fun tm σ=>∃ l13:List Int,∃ t14:Nat,q30 l13=some r∧tm=fr 25 [(5,.vl 1 t14 0 l13.length)]∧σ=⟨[(1,.vec (List.map (cI .i64) l13).flatten 3 1 t14),(0,.row (cGChart p1) 24)],2⟩) n ⟨0,([]:List Int),0,hF,rfl,rfl⟩ ?_ ?_
 rintro _ _ ⟨l13,t14,hF,rfl,rfl⟩
 unfold q30 at hF
 refine sr ?_
 refine sd ?_
 refine WPU.ret ?_
 refine st ?_
 have hr:=Option.some.inj hF
 subst hr
 exact ⟨.inr rfl,[.vl 1 t14 0 l13.length],q0t rfl (q0q),.isl false (List.map (cI .i64) l13),⟨[],0⟩,Nat.le_refl _,Gh.trans (Gh.fz (tm':=[.isl false (List.map (cI .i64) l13)]) (h':=[(0,.row (cGChart p1) 24)]) 1 (.vec (List.map (cI .i64) l13).flatten 3 1 t14) 1 rfl (by simp) (by simp only [oneU,q11,q0o,q22,q17,q25,q1b,q1a,q19,q18,q12,q23,q24,q21,q26,q3o,junkT,qb8 (q27 .i64),q0m]) (by simp only [fzH,fzB,ug,Nat.beq,cond_true,cond_false,oneU,q11,q0o,q22,q17,q25,q1b,q1a,q19,q18,q12,q23,q24,q21,q26,q3o,junkT,qb8 (q27 .i64),q0m])) (Gh.toR (.isl false (List.map (cI .i64) l13)) rfl),rfl,BU.h⟩
 rintro m1 _ _ ⟨z10,l11,t12,hF,rfl,rfl⟩
 rcases m1 with _ | m1
 cases hF
 unfold q0w at hF
 refine sr ?_
 refine RS.q rfl (q02 rfl rfl (q1i _ _ _) rfl) ?_
 refine sd ?_
 refine WPU.condS (t:=(decide (z10<(p1.Edges.length:Int)))) rfl (fun h15=>?_) (fun h15=>?_)
 replace hF:=q09 h15 hF
 refine st ?_
 refine WPU.skip ?_
 refine st ?_
 refine WPU.block ?_
 refine st ?_
 obtain ⟨x16,h17,hF⟩:=q01 hF
 refine sr ?_
 refine RS.q (u:=.iptr (cGEdge x16)) rfl (q13 rfl rfl (q0n cGEdge und22 (q00 inf42) q0h h17 rfl)) (RS.q (u:=.agg (cGEdge x16)) rfl (q2u und42 rfl (q00 inf42) rfl rfl) (RS.q (u:=.ptr 2 0 0) (σ':=⟨[(2,.row [.int .i64 0,.int .i64 0,.int .i64 0,.int .i64 0,.str [],.nils,.int .i64 0,.str [],.int .i64 0,.int .i64 0,.nils,.nils] 42),(1,.vec (List.map (cI .i64) l11).flatten 3 1 t12),(0,.row (cGChart p1) 24)],3⟩) rfl (q1d inf42 rfl rfl) (RS.as rfl rfl rfl rfl (RS.opn (u:=.junk) (σ':=⟨[(2,.row (cGEdge x16) 42),(1,.vec (List.map (cI .i64) l11).flatten 3 1 t12),(0,.row (cGChart p1) 24)],3⟩) rfl (q0g (q00 inf42) rfl rfl rfl rfl rfl rfl rfl rfl) rfl ?_))))
 refine sd ?_
 obtain ⟨r18,h19,hF⟩:=q01 hF
 refine sr ?_
 refine RS.q (u:=.agg (cGEdge x16)) rfl (q0f und42 rfl (q00 inf42) rfl rfl rfl) (RS.call (u:=.bool r18) (args:=[.agg (cGEdge x16),.iptr [.int .i64 c2]]) rfl (q0b rfl rfl fn40 hb40 rfl rfl) (hf1S x16 c2 r18 h19 _) rfl rfl ?_)
 refine sd ?_
 refine WPU.joinK (fun tm σ=>∃ l21:List Int,∃ t22:Nat,q1r z10 (q0w p1 c2 f1 m1) l21=some r∧tm=fr 25 [(1,.fn (.func 40) [] [.iptr [.int .i64 c2]]),(5,.vl 1 t22 0 l21.length),(9,.isl false (List.map cGEdge p1.Edges)),(10,.int .i64 (p1.Edges.length:Int)),(11,.int .i64 z10)]∧σ=⟨[(2,.row (cGEdge x16) 42),(1,.vec (List.map (cI .i64) l21).flatten 3 1 t22),(0,.row (cGChart p1) 24)],3⟩) ?_ ?_
 rintro _ _ ⟨l21,t22,hF,rfl,rfl⟩
 unfold q1r at hF
 refine sr ?_
 refine RS.q rfl (q02 rfl rfl (q32 _ _ _) rfl) (RS.mv rfl rfl rfl rfl ?_)
 refine sd ?_
 exact ⟨m1,_,_,Nat.lt_succ_self _,⟨(IntKind.i64.wrap (z10+1)),l21,t22,hF,rfl,rfl⟩,(Nat.zero_le _),Gh.toC (n1:=2) ⟨rfl,rfl,rfl,rfl,rfl,trivial⟩ rfl (Nat.zero_le _) (by simp)⟩
 refine WPU.condS (t:=r18) rfl (fun h20=>?_) (fun h20=>?_)
 replace hF:=q09 h20 hF
 refine st ?_
 obtain ⟨h23,hF⟩:=q0y hF
 refine sr ?_
 repeat refine RS.mv rfl rfl rfl rfl ?_
 refine RS.q (u:=.sl 3 0 1 1) (σ':=⟨[(3,.row [.int .i64 z10] 3),(2,.row (cGEdge x16) 42),(1,.vec (List.map (cI .i64) l11).flatten 3 1 t12),(0,.row (cGChart p1) 24)],4⟩) rfl (q77 und34 inf3 rfl rfl rfl rfl rfl rfl rfl) (RS.q (u:=.vl 1 (t12+1) 0 ((l11++[z10]).length)) (σ':=⟨[(3,.row [.int .i64 z10] 3),(2,.row (cGEdge x16) 42),(1,.vec (List.map (cI .i64) (l11++[z10])).flatten 3 1 (t12+1)),(0,.row (cGChart p1) 24)],4⟩) rfl (op_app rfl rfl rfl rfl (app_vl (cI .i64) ([z10]) und34 und34 inf3 rfl (q27 .i64) rfl (qau (cI .i64) [z10] rfl rfl rfl rfl) h23)) ?_)
 refine sd ?_
 exact ⟨_,_,⟨(l11++[z10]),(t12+1),hF,rfl,rfl⟩,(Nat.zero_le _),Gh.toC (n1:=3) ⟨rfl,rfl,rfl,rfl,rfl,trivial⟩ rfl (Nat.zero_le _) (by simp)⟩
 replace hF:=q08 h20 hF
 refine st ?_
 refine WPU.skip ?_
 refine st ?_
 exact ⟨_,_,⟨l11,t12,hF,rfl,rfl⟩,(Nat.zero_le _),Gh.toC (n1:=3) ⟨rfl,rfl,rfl,rfl,rfl,trivial⟩ rfl (Nat.zero_le _) (by simp)⟩
 replace hF:=q08 h15 hF
 refine st ?_
 refine WPU.exit ?_
 refine st ?_
 exact ⟨_,_,⟨l11,t12,hF,rfl,rfl⟩,(Nat.zero_le _),Gh.toC (n1:=2) ⟨rfl,trivial⟩ rfl (Nat.zero_le _) (by simp)⟩
theorem q6l (f1:GEdge→Int→Option (Bool)) (hf1:∀ (a0:GEdge) (a1:Int) (r:Bool),f1 a0 a1=some r→EvU Try.prog 40 [.agg (cGEdge a0),.iptr [.int .i64 a1]] ⟨[],0⟩ (fun u _=>u = .bool r∧Bel 0 u)) (n:Nat) (p1:GChart) (c2:Int) (r:(List Int)) (hF:q2j f1 n p1 c2=some r) (σ:Sg):EvU Try.prog 39 [.agg (cGChart p1),.fn (.func 40) [] [.iptr [.int .i64 c2]]] σ (fun u σ'=>u = .isl false (List.map (cI .i64) r)∧σ'=σ) :=
 EvU.pure1C (q6w f1 hf1 n p1 c2 r hF) σ
def q4m (n:Nat) (p1:GEdge) (c2:Int):Option (Bool) :=
 some (p1.From == c2)
theorem q9k (n:Nat) (p1:GEdge) (c2:Int) (r:Bool) (hF:q4m n p1 c2=some r):EvU Try.prog 40 [.agg (cGEdge p1),.iptr [.int .i64 c2]] ⟨[],0⟩ (fun u _=>u = .bool r∧Bel 0 u):=by
 unfold q4m at hF
 refine EvU.of_body Try.tb_ok fn40 rfl ?_
 refine WPU.ghost (tm':=fr 8 [(0,.agg (cGEdge p1)),(1,.iptr [.int .i64 c2])]) (Gh.start (Nat.le_of_ble_eq_true rfl)) (Nat.zero_le _) ?_
 refine sr ?_
 refine RS.q (u:=.ptr 0 0 0) (σ':=⟨[(0,.row (cGEdge p1) 42)],1⟩) rfl (q2v rfl rfl rfl) ?_
 refine se ?_
 refine RS.q (u:=.ptr 0 0 0) rfl (q06 und42 rfl (q00 inf3) rfl rfl rfl) (RS.q (u:=.int .i64 p1.From) rfl (q05 und3 rfl rfl rfl rfl) (RS.q (u:=.int .i64 c2) rfl (q1c und3 rfl rfl rfl) (RS.q rfl (q02 rfl rfl (q0e _ _ _) rfl) ?_)))
 refine sd ?_
 refine WPU.ret ?_
 refine st ?_
 have hr:=Option.some.inj hF
 subst hr
 exact ⟨.inr rfl,[.bool (p1.From == c2)],q0t rfl (q0q),.bool (p1.From == c2),⟨[],0⟩,Nat.le_refl _,Gh.toR (.bool (p1.From == c2)) rfl,rfl,BU.h⟩
def q5s (n:Nat) (p1:GChart) (p2:Int):Option ((List Int)) :=
 bindO (q2j (q4m n) n p1 p2) fun r3 =>
 some r3
theorem qb7 (n:Nat) (p1:GChart) (p2:Int) (r:(List Int)) (hF:q5s n p1 p2=some r):EvU Try.prog 16 [.agg (cGChart p1),.int .i64 p2] ⟨[],0⟩ (fun u _=>u = .isl false (List.map (cI .i64) r)∧Bel 0 u):=by
 unfold q5s at hF
 refine EvU.of_body Try.tb_ok fn16 rfl ?_
 refine WPU.ghost (tm':=fr 8 [(0,.agg (cGChart p1)),(1,.int .i64 p2)]) (Gh.start (Nat.le_of_ble_eq_true rfl)) (Nat.zero_le _) ?_
 refine sr ?_
 refine RS.q (u:=.ptr 0 0 0) (σ':=⟨[(0,.row (cGChart p1) 24)],1⟩) rfl (q2v rfl rfl rfl) (RS.q (u:=.ptr 1 0 0) (σ':=⟨[(1,.row [.int .i64 p2] 3),(0,.row (cGChart p1) 24)],2⟩) rfl (q2v rfl rfl rfl) ?_)
 refine sd ?_
 refine WPU.ghost (tm':=fr 8 [(2,.ptr 0 0 0),(3,.iptr [.int .i64 p2])]) (σ':=⟨[(0,.row (cGChart p1) 24)],2⟩) (Gh.trans (Gh.sub (l':=[(2,.ptr 0 0 0),(3,.ptr 1 0 0)]) ⟨rfl,rfl,trivial⟩) (Gh.fzS (l':=[(2,.ptr 0 0 0),(3,.iptr [.int .i64 p2])]) (h':=[(0,.row (cGChart p1) 24)]) 1 (.row [.int .i64 p2] 3) 1 rfl (by simp) (by simp only [fzS,oneU,q11,q0o,q22,q17,q25,q1b,q1a,q19,q18,q12,q23,q24,q21,q26,q3o,junkT,q7c,q7k,q68,q0m,q3i (show Nat.beq 0 1=false from rfl),q3h (show Nat.beq 0 1=false from rfl),q3g (show Nat.beq 0 1=false from rfl),Nat.reduceLeDiff,Nat.reduceMul,List.length_cons,List.length_nil,Nat.reduceAdd]<;>simp only [chunks,List.take,List.drop,List.map,cI,cB,cS,cL]) (by simp only [fzH,fzB,ug,Nat.beq,cond_true,cond_false,oneU,q11,q0o,q22,q17,q25,q1b,q1a,q19,q18,q12,q23,q24,q21,q26,q3o,junkT,q7c,q7k,q68,q0m,q3i (show Nat.beq 0 1=false from rfl),q3h (show Nat.beq 0 1=false from rfl),q3g (show Nat.beq 0 1=false from rfl),Nat.reduceLeDiff,Nat.reduceMul,List.length_cons,List.length_nil,Nat.reduceAdd]<;>simp only [chunks,List.take,List.drop,List.map,cI,cB,cS,cL]))) (Nat.zero_le _) ?_
 refine st ?_
 obtain ⟨r3,h4,hF⟩:=q01 hF
 refine sr ?_
 refine RS.q (u:=.agg (cGChart p1)) rfl (q0f und24 rfl (q00 inf24) rfl rfl rfl) (RS.q rfl (op_fun rfl rfl) (RS.call (u:=.isl false (List.map (cI .i64) r3)) (args:=[.agg (cGChart p1),.fn (.func 40) [] [.iptr [.int .i64 p2]]]) rfl (q0b rfl rfl fn39 hb39 rfl rfl) (q6l (q4m n) (q9k n) n p1 p2 r3 h4 _) rfl rfl ?_))
 refine sd ?_
 refine WPU.ret ?_
 refine st ?_
 have hr:=Option.some.inj hF
 subst hr
 exact ⟨.inr rfl,[.isl false (List.map (cI .i64) r3)],q0t rfl (q0q),.isl false (List.map (cI .i64) r3),⟨[],0⟩,Nat.le_refl _,Gh.toR (.isl false (List.map (cI .i64) r3)) rfl,rfl,BU.h⟩
theorem qab (n:Nat) (p1:GChart) (p2:Int) (r:(List Int)) (hF:q5s n p1 p2=some r) (σ:Sg):EvU Try.prog 16 [.agg (cGChart p1),.int .i64 p2] σ (fun u σ'=>u = .isl false (List.map (cI .i64) r)∧σ'=σ) :=
 EvU.pure1C (qb7 n p1 p2 r hF) σ
def q2d (z10:Int) (rc1:Int→(List Int)→Option ((List Int))) (l21:List Int):Option ((List Int)) :=
 rc1 (IntKind.i64.wrap (z10+1)) l21
def q3a  (l13:List Int):Option ((List Int)) :=
 some l13
def q16 (p1:GChart) (c2:Int) (f1:GEdge→Int→Option (Bool)):Nat→Int→(List Int)→Option ((List Int))
 | 0,_,_=>none
 | m1+1,z10,l11 =>
  cond (decide (z10<(p1.Edges.length:Int)))
   (bindO (idxO p1.Edges z10) fun x16 =>
   bindO (f1 x16 c2) fun r18 =>
   cond r18
    (needO ((l11.length+1)*8≤140737488355328∧l11.length+1≤140737488355328) (
    q2d z10 (q16 p1 c2 f1 m1) (l11++[z10])))
    (q2d z10 (q16 p1 c2 f1 m1) l11))
   (q3a l11)
def q34 (f1:GEdge→Int→Option (Bool)) (n:Nat) (p1:GChart) (c2:Int):Option ((List Int)) :=
 q16 p1 c2 f1 n 0 ([]:List Int)
theorem q7i (f1:GEdge→Int→Option (Bool)) (hf1:∀ (a0:GEdge) (a1:Int) (r:Bool),f1 a0 a1=some r→EvU Try.prog 41 [.agg (cGEdge a0),.iptr [.int .i64 a1]] ⟨[],0⟩ (fun u _=>u = .bool r∧Bel 0 u)) (n:Nat) (p1:GChart) (c2:Int) (r:(List Int)) (hF:q34 f1 n p1 c2=some r):EvU Try.prog 39 [.agg (cGChart p1),.fn (.func 41) [] [.iptr [.int .i64 c2]]] ⟨[],0⟩ (fun u _=>u = .isl false (List.map (cI .i64) r)∧Bel 0 u):=by
 unfold q34 at hF
 have hf1S:∀ (a0:GEdge) (a1:Int) (r:Bool),f1 a0 a1=some r→∀ σ,EvU Try.prog 41 [.agg (cGEdge a0),.iptr [.int .i64 a1]] σ (fun u σ'=>u = .bool r∧σ'=σ):=fun a0 a1 r h σ=>EvU.pure1C (hf1 a0 a1 r h) σ
 refine EvU.of_body Try.tb_ok fn39 rfl ?_
 refine WPU.ghost (tm':=fr 25 [(0,.agg (cGChart p1)),(1,.fn (.func 41) [] [.iptr [.int .i64 c2]])]) (Gh.start (Nat.le_of_ble_eq_true rfl)) (Nat.zero_le _) ?_
 refine sr ?_
 refine RS.q (u:=.ptr 0 0 0) (σ':=⟨[(0,.row (cGChart p1) 24)],1⟩) rfl (q2v rfl rfl rfl) ?_
 refine se ?_
 refine se ?_
 refine RS.q (u:=.ptr 0 0 1) rfl (q06 und24 rfl (q00 inf22) rfl rfl rfl) (RS.q (u:=.isl false (List.map cGEdge p1.Edges)) rfl (q05 und22 rfl rfl rfl rfl) (RS.q rfl (q0i rfl rfl rfl (q0d cGEdge und22)) (RS.mv rfl rfl rfl rfl ?_)))
 refine sd ?_
 refine WPU.ghost (tm':=fr 25 [(1,.fn (.func 41) [] [.iptr [.int .i64 c2]]),(5,.vl 1 0 0 (([]:List Int).length)),(9,.isl false (List.map cGEdge p1.Edges)),(10,.int .i64 (p1.Edges.length:Int)),(11,.int .i64 0)]) (σ':=⟨[(1,.vec (List.map (cI .i64) ([]:List Int)).flatten 3 1 0),(0,.row (cGChart p1) 24)],2⟩) (Gh.trans (Gh.nilS 5 3 1 (by decide) (Nat.zero_le _) rfl rfl) (Gh.eqS ⟨rfl,rfl,rfl,rfl,rfl,trivial⟩ rfl)) (Nat.zero_le _) ?_
 refine WPU.ghost (tm':=fr 25 [(1,.fn (.func 41) [] [.iptr [.int .i64 c2]]),(5,.vl 1 0 0 (([]:List Int).length)),(9,.isl false (List.map cGEdge p1.Edges)),(10,.int .i64 (p1.Edges.length:Int)),(11,.int .i64 0)]) (Gh.sub ⟨rfl,rfl,rfl,rfl,rfl,trivial⟩) (Nat.zero_le _) ?_
 refine WPU.loopK (fun m tm σ=>∃ z10:Int,∃ l11:List Int,∃ t12:Nat,q16 p1 c2 f1 m z10 l11=some r∧tm=fr 25 [(1,.fn (.func 41) [] [.iptr [.int .i64 c2]]),(5,.vl 1 t12 0 l11.length),(9,.isl false (List.map cGEdge p1.Edges)),(10,.int .i64 (p1.Edges.length:Int)),(11,.int .i64 z10)]∧σ=⟨[(1,.vec (List.map (cI .i64) l11).flatten 3 1 t12),(0,.row (cGChart p1) 24)],2⟩) (fun tm σ=>∃ l13:List Int,∃ t14:Nat,q3a l13=some r∧tm=fr 25 [(5,.vl 1 t14 0 l13.length)]∧σ=⟨[(1,.vec (List.map (cI .i64) l13).flatten 3 1 t14),(0,.row (cGChart p1) 24)],2⟩) n ⟨0,([]:List Int),0,hF,rfl,rfl⟩ ?_ ?_
 rintro _ _ ⟨l13,t14,hF,rfl,rfl⟩
 unfold q3a at hF
 refine sr ?_
 refine sd ?_
 refine WPU.ret ?_
 refine st ?_
 have hr:=Option.some.inj hF
 subst hr
 exact ⟨.inr rfl,[.vl 1 t14 0 l13.length],q0t rfl (q0q),.isl false (List.map (cI .i64) l13),⟨[],0⟩,Nat.le_refl _,Gh.trans (Gh.fz (tm':=[.isl false (List.map (cI .i64) l13)]) (h':=[(0,.row (cGChart p1) 24)]) 1 (.vec (List.map (cI .i64) l13).flatten 3 1 t14) 1 rfl (by simp) (by simp only [oneU,q11,q0o,q22,q17,q25,q1b,q1a,q19,q18,q12,q23,q24,q21,q26,q3o,junkT,qb8 (q27 .i64),q0m]) (by simp only [fzH,fzB,ug,Nat.beq,cond_true,cond_false,oneU,q11,q0o,q22,q17,q25,q1b,q1a,q19,q18,q12,q23,q24,q21,q26,q3o,junkT,qb8 (q27 .i64),q0m])) (Gh.toR (.isl false (List.map (cI .i64) l13)) rfl),rfl,BU.h⟩
 rintro m1 _ _ ⟨z10,l11,t12,hF,rfl,rfl⟩
 rcases m1 with _ | m1
 cases hF
 unfold q16 at hF
 refine sr ?_
 refine RS.q rfl (q02 rfl rfl (q1i _ _ _) rfl) ?_
 refine sd ?_
 refine WPU.condS (t:=(decide (z10<(p1.Edges.length:Int)))) rfl (fun h15=>?_) (fun h15=>?_)
 replace hF:=q09 h15 hF
 refine st ?_
 refine WPU.skip ?_
 refine st ?_
 refine WPU.block ?_
 refine st ?_
 obtain ⟨x16,h17,hF⟩:=q01 hF
 refine sr ?_
 refine RS.q (u:=.iptr (cGEdge x16)) rfl (q13 rfl rfl (q0n cGEdge und22 (q00 inf42) q0h h17 rfl)) (RS.q (u:=.agg (cGEdge x16)) rfl (q2u und42 rfl (q00 inf42) rfl rfl) (RS.q (u:=.ptr 2 0 0) (σ':=⟨[(2,.row [.int .i64 0,.int .i64 0,.int .i64 0,.int .i64 0,.str [],.nils,.int .i64 0,.str [],.int .i64 0,.int .i64 0,.nils,.nils] 42),(1,.vec (List.map (cI .i64) l11).flatten 3 1 t12),(0,.row (cGChart p1) 24)],3⟩) rfl (q1d inf42 rfl rfl) (RS.as rfl rfl rfl rfl (RS.opn (u:=.junk) (σ':=⟨[(2,.row (cGEdge x16) 42),(1,.vec (List.map (cI .i64) l11).flatten 3 1 t12),(0,.row (cGChart p1) 24)],3⟩) rfl (q0g (q00 inf42) rfl rfl rfl rfl rfl rfl rfl rfl) rfl ?_))))
 refine sd ?_
 obtain ⟨r18,h19,hF⟩:=q01 hF
 refine sr ?_
 refine RS.q (u:=.agg (cGEdge x16)) rfl (q0f und42 rfl (q00 inf42) rfl rfl rfl) (RS.call (u:=.bool r18) (args:=[.agg (cGEdge x16),.iptr [.int .i64 c2]]) rfl (q0b rfl rfl fn41 hb41 rfl rfl) (hf1S x16 c2 r18 h19 _) rfl rfl ?_)
 refine sd ?_
 refine WPU.joinK (fun tm σ=>∃ l21:List Int,∃ t22:Nat,q2d z10 (q16 p1 c2 f1 m1) l21=some r∧tm=fr 25 [(1,.fn (.func 41) [] [.iptr [.int .i64 c2]]),(5,.vl 1 t22 0 l21.length),(9,.isl false (List.map cGEdge p1.Edges)),(10,.int .i64 (p1.Edges.length:Int)),(11,.int .i64 z10)]∧σ=⟨[(2,.row (cGEdge x16) 42),(1,.vec (List.map (cI .i64) l21).flatten 3 1 t22),(0,.row (cGChart p1) 24)],3⟩) ?_ ?_
 rintro _ _ ⟨l21,t22,hF,rfl,rfl⟩
 unfold q2d at hF
 refine sr ?_
 refine RS.q rfl (q02 rfl rfl (q32 _ _ _) rfl) (RS.mv rfl rfl rfl rfl ?_)
 refine sd ?_
 exact ⟨m1,_,_,Nat.lt_succ_self _,⟨(IntKind.i64.wrap (z10+1)),l21,t22,hF,rfl,rfl⟩,(Nat.zero_le _),Gh.toC (n1:=2) ⟨rfl,rfl,rfl,rfl,rfl,trivial⟩ rfl (Nat.zero_le _) (by simp)⟩
 refine WPU.condS (t:=r18) rfl (fun h20=>?_) (fun h20=>?_)
 replace hF:=q09 h20 hF
 refine st ?_
 obtain ⟨h23,hF⟩:=q0y hF
 refine sr ?_
 repeat refine RS.mv rfl rfl rfl rfl ?_
 refine RS.q (u:=.sl 3 0 1 1) (σ':=⟨[(3,.row [.int .i64 z10] 3),(2,.row (cGEdge x16) 42),(1,.vec (List.map (cI .i64) l11).flatten 3 1 t12),(0,.row (cGChart p1) 24)],4⟩) rfl (q77 und34 inf3 rfl rfl rfl rfl rfl rfl rfl) (RS.q (u:=.vl 1 (t12+1) 0 ((l11++[z10]).length)) (σ':=⟨[(3,.row [.int .i64 z10] 3),(2,.row (cGEdge x16) 42),(1,.vec (List.map (cI .i64) (l11++[z10])).flatten 3 1 (t12+1)),(0,.row (cGChart p1) 24)],4⟩) rfl (op_app rfl rfl rfl rfl (app_vl (cI .i64) ([z10]) und34 und34 inf3 rfl (q27 .i64) rfl (qau (cI .i64) [z10] rfl rfl rfl rfl) h23)) ?_)
 refine sd ?_
 exact ⟨_,_,⟨(l11++[z10]),(t12+1),hF,rfl,rfl⟩,(Nat.zero_le _),Gh.toC (n1:=3) ⟨rfl,rfl,rfl,rfl,rfl,trivial⟩ rfl (Nat.zero_le _) (by simp)⟩
 replace hF:=q08 h20 hF
 refine st ?_
 refine WPU.skip ?_
 refine st ?_
 exact ⟨_,_,⟨l11,t12,hF,rfl,rfl⟩,(Nat.zero_le _),Gh.toC (n1:=3) ⟨rfl,rfl,rfl,rfl,rfl,trivial⟩ rfl (Nat.zero_le _) (by simp)⟩
 replace hF:=q08 h15 hF
 refine st ?_
 refine WPU.exit ?_
 refine st ?_
 exact ⟨_,_,⟨l11,t12,hF,rfl,rfl⟩,(Nat.zero_le _),Gh.toC (n1:=2) ⟨rfl,trivial⟩ rfl (Nat.zero_le _) (by simp)⟩
theorem q7b (f1:GEdge→Int→Option (Bool)) (hf1:∀ (a0:GEdge) (a1:Int) (r:Bool),f1 a0 a1=some r→EvU Try.prog 41 [.agg (cGEdge a0),.iptr [.int .i64 a1]] ⟨[],0⟩ (fun u _=>u = .bool r∧Bel 0 u)) (n:Nat) (p1:GChart) (c2:Int) (r:(List Int)) (hF:q34 f1 n p1 c2=some r) (σ:Sg):EvU Try.prog 39 [.agg (cGChart p1),.fn (.func 41) [] [.iptr [.int .i64 c2]]] σ (fun u σ'=>u = .isl false (List.map (cI .i64) r)∧σ'=σ) :=
 EvU.pure1C (q7i f1 hf1 n p1 c2 r hF) σ
def q5r (n:Nat) (p1:GEdge) (c2:Int):Option (Bool) :=
 some (p1.To == c2)
theorem qb6 (n:Nat) (p1:GEdge) (c2:Int) (r:Bool) (hF:q5r n p1 c2=some r):EvU Try.prog 41 [.agg (cGEdge p1),.iptr [.int .i64 c2]] ⟨[],0⟩ (fun u _=>u = .bool r∧Bel 0 u):=by
 unfold q5r at hF
 refine EvU.of_body Try.tb_ok fn41 rfl ?_
 refine WPU.ghost (tm':=fr 8 [(0,.agg (cGEdge p1)),(1,.iptr [.int .i64 c2])]) (Gh.start (Nat.le_of_ble_eq_true rfl)) (Nat.zero_le _) ?_
 refine sr ?_
 refine RS.q (u:=.ptr 0 0 0) (σ':=⟨[(0,.row (cGEdge p1) 42)],1⟩) rfl (q2v rfl rfl rfl) ?_
 refine se ?_
 refine RS.q (u:=.ptr 0 0 1) rfl (q06 und42 rfl (q00 inf3) rfl rfl rfl) (RS.q (u:=.int .i64 p1.To) rfl (q05 und3 rfl rfl rfl rfl) (RS.q (u:=.int .i64 c2) rfl (q1c und3 rfl rfl rfl) (RS.q rfl (q02 rfl rfl (q0e _ _ _) rfl) ?_)))
 refine sd ?_
 refine WPU.ret ?_
 refine st ?_
 have hr:=Option.some.inj hF
 subst hr
 exact ⟨.inr rfl,[.bool (p1.To == c2)],q0t rfl (q0q),.bool (p1.To == c2),⟨[],0⟩,Nat.le_refl _,Gh.toR (.bool (p1.To == c2)) rfl,rfl,BU.h⟩
def q72 (n:Nat) (p1:GChart) (p2:Int):Option ((List Int)) :=
 bindO (q34 (q5r n) n p1 p2) fun r3 =>
 some r3
theorem chart_Ending_0 (n:Nat) (p1:GChart) (p2:Int) (r:(List Int)) (hF:q72 n p1 p2=some r):EvU Try.prog 18 [.agg (cGChart p1),.int .i64 p2] ⟨[],0⟩ (fun u _=>u = .isl false (List.map (cI .i64) r)∧Bel 0 u):=by
 unfold q72 at hF
 refine EvU.of_body Try.tb_ok fn18 rfl ?_
 refine WPU.ghost (tm':=fr 8 [(0,.agg (cGChart p1)),(1,.int .i64 p2)]) (Gh.start (Nat.le_of_ble_eq_true rfl)) (Nat.zero_le _) ?_
 refine sr ?_
 refine RS.q (u:=.ptr 0 0 0) (σ':=⟨[(0,.row (cGChart p1) 24)],1⟩) rfl (q2v rfl rfl rfl) (RS.q (u:=.ptr 1 0 0) (σ':=⟨[(1,.row [.int .i64 p2] 3),(0,.row (cGChart p1) 24)],2⟩) rfl (q2v rfl rfl rfl) ?_)
 refine sd ?_
 refine WPU.ghost (tm':=fr 8 [(2,.ptr 0 0 0),(3,.iptr [.int .i64 p2])]) (σ':=⟨[(0,.row (cGChart p1) 24)],2⟩) (Gh.trans (Gh.sub (l':=[(2,.ptr 0 0 0),(3,.ptr 1 0 0)]) ⟨rfl,rfl,trivial⟩) (Gh.fzS (l':=[(2,.ptr 0 0 0),(3,.iptr [.int .i64 p2])]) (h':=[(0,.row (cGChart p1) 24)]) 1 (.row [.int .i64 p2] 3) 1 rfl (by simp) (by simp only [fzS,oneU,q11,q0o,q22,q17,q25,q1b,q1a,q19,q18,q12,q23,q24,q21,q26,q3o,junkT,q7c,q7k,q68,q0m,q3i (show Nat.beq 0 1=false from rfl),q3h (show Nat.beq 0 1=false from rfl),q3g (show Nat.beq 0 1=false from rfl),Nat.reduceLeDiff,Nat.reduceMul,List.length_cons,List.length_nil,Nat.reduceAdd]<;>simp only [chunks,List.take,List.drop,List.map,cI,cB,cS,cL]) (by simp only [fzH,fzB,ug,Nat.beq,cond_true,cond_false,oneU,q11,q0o,q22,q17,q25,q1b,q1a,q19,q18,q12,q23,q24,q21,q26,q3o,junkT,q7c,q7k,q68,q0m,q3i (show Nat.beq 0 1=false from rfl),q3h (show Nat.beq 0 1=false from rfl),q3g (show Nat.beq 0 1=false from rfl),Nat.reduceLeDiff,Nat.reduceMul,List.length_cons,List.length_nil,Nat.reduceAdd]<;>simp only [chunks,List.take,List.drop,List.map,cI,cB,cS,cL]))) (Nat.zero_le _) ?_
 refine st ?_
 obtain ⟨r3,h4,hF⟩:=q01 hF
 refine sr ?_
 refine RS.q (u:=.agg (cGChart p1)) rfl (q0f und24 rfl (q00 inf24) rfl rfl rfl) (RS.q rfl (op_fun rfl rfl) (RS.call (u:=.isl false (List.map (cI .i64) r3)) (args:=[.agg (cGChart p1),.fn (.func 41) [] [.iptr [.int .i64 p2]]]) rfl (q0b rfl rfl fn39 hb39 rfl rfl) (q7b (q5r n) (qb6 n) n p1 p2 r3 h4 _) rfl rfl ?_))
 refine sd ?_
 refine WPU.ret ?_
 refine st ?_
 have hr:=Option.some.inj hF
 subst hr
 exact ⟨.inr rfl,[.isl false (List.map (cI .i64) r3)],q0t rfl (q0q),.isl false (List.map (cI .i64) r3),⟨[],0⟩,Nat.le_refl _,Gh.toR (.isl false (List.map (cI .i64) r3)) rfl,rfl,BU.h⟩
theorem qbz (n:Nat) (p1:GChart) (p2:Int) (r:(List Int)) (hF:q72 n p1 p2=some r) (σ:Sg):EvU Try.prog 18 [.agg (cGChart p1),.int .i64 p2] σ (fun u σ'=>u = .isl false (List.map (cI .i64) r)∧σ'=σ) :=
 EvU.pure1C (chart_Ending_0 n p1 p2 r hF) σ
def q3m (p2:GEdge) (l34:List GDeriv):Option (GDeriv) :=
 some (GDeriv.mk 2 p2.Name p2.From p2.To l34)
def q29 (p1:GChart) (p2:GEdge) (self:GChart→GEdge→Option (GDeriv)):Nat→Int→(List GDeriv)→Option (GDeriv)
 | 0,_,_=>none
 | m1+1,z31,l32 =>
  cond (decide (z31<(p2.Kids.length:Int)))
   (bindO (idxO p2.Kids z31) fun x37 =>
   bindO (idxO p1.Edges x37) fun x39 =>
   bindO (self p1 x39) fun r41 =>
   needO ((l32.length+1)*64≤140737488355328∧l32.length+1≤140737488355328) (
   (q29 p1 p2 self m1) (IntKind.i64.wrap (z31+1)) (l32++[r41])))
   (q3m p2 l32)
def q54 (n:Nat) (self:GChart→GEdge→Option (GDeriv)) (p1:GChart) (p2:GEdge):Option (GDeriv) :=
 cond (p2.Kind == 1)
  (some p2.Lex)
  (q29 p1 p2 self n 0 ([]:List GDeriv))
def q1l:Nat→GChart→GEdge→Option (GDeriv)
 | 0,_,_=>none
 | n+1,p1,p2=>q54 n (q1l n) p1 p2
theorem q73:∀ (n:Nat) (p1:GChart) (p2:GEdge) (r:GDeriv),q1l n p1 p2=some r→EvU Try.prog 43 [.agg (cGChart p1),.agg (cGEdge p2)] ⟨[],0⟩ (fun u _=>u = .agg (xGDeriv r)∧Bel 0 u)
 | 0,p1,p2,r,hF=>by cases hF
 | n+1,p1,p2,r,hF=>by
  have ih:=q73 n
  have ihS:∀ (p1:GChart) (p2:GEdge) (r:GDeriv),q1l n p1 p2=some r→∀ σ,EvU Try.prog 43 [.agg (cGChart p1),.agg (cGEdge p2)] σ (fun u σ'=>u = .agg (xGDeriv r)∧σ'=σ):=fun p1 p2 r h σ=>EvU.pure1C (ih p1 p2 r h) σ
  unfold q1l q54 at hF
  refine EvU.of_body Try.tb_ok fn43 rfl ?_
  refine WPU.ghost (tm':=fr 41 [(0,.agg (cGChart p1)),(1,.agg (cGEdge p2))]) (Gh.start (Nat.le_of_ble_eq_true rfl)) (Nat.zero_le _) ?_
  refine sr ?_
  refine RS.q (u:=.ptr 0 0 0) (σ':=⟨[(0,.row (cGChart p1) 24)],1⟩) rfl (q2v rfl rfl rfl) (RS.q (u:=.ptr 1 0 0) (σ':=⟨[(1,.row (cGEdge p2) 42),(0,.row (cGChart p1) 24)],2⟩) rfl (q2v rfl rfl rfl) (RS.q (u:=.ptr 2 0 0) (σ':=⟨[(2,.row [.int .i64 0,.str [],.int .i64 0,.int .i64 0,.nils] 37),(1,.row (cGEdge p2) 42),(0,.row (cGChart p1) 24)],3⟩) rfl (q1d inf37 rfl rfl) ?_))
  refine se ?_
  refine RS.q (u:=.ptr 1 0 3) rfl (q06 und42 rfl (q00 inf3) rfl rfl rfl) (RS.q (u:=.int .i64 p2.Kind) rfl (q05 und3 rfl rfl rfl rfl) (RS.q rfl (q02 rfl rfl (q0e _ _ _) rfl) ?_))
  refine sd ?_
  refine WPU.condS (t:=(p2.Kind == 1)) rfl (fun h3=>?_) (fun h3=>?_)
  replace hF:=q09 h3 hF
  refine sr ?_
  refine RS.q (u:=.ptr 1 0 6) rfl (q06 und42 rfl (q00 inf37) rfl rfl rfl) (RS.q (u:=.agg (xGDeriv p2.Lex)) rfl (q0f und37 rfl (q00 inf37) rfl rfl rfl) (RS.opn (u:=.junk) (σ':=⟨[(2,.row (xGDeriv p2.Lex) 37),(1,.row (cGEdge p2) 42),(0,.row (cGChart p1) 24)],3⟩) rfl (q0g (q00 inf37) rfl rfl rfl rfl rfl rfl rfl rfl) rfl ?_))
  refine sd ?_
  refine WPU.ret ?_
  refine st ?_
  have hr:=Option.some.inj hF
  subst hr
  exact ⟨.inr rfl,[.agg (xGDeriv p2.Lex)],q9d (q0f und37 rfl (q00 inf37) rfl rfl rfl) (q0q),.agg (xGDeriv p2.Lex),⟨[],0⟩,Nat.le_refl _,Gh.toR (.agg (xGDeriv p2.Lex)) rfl,rfl,BU.h⟩
  replace hF:=q08 h3 hF
  refine st ?_
  refine WPU.skip ?_
  refine sr ?_
  refine RS.q (u:=.ptr 1 0 4) rfl (q06 und42 rfl (q00 inf9) rfl rfl rfl) (RS.q (u:=.str p2.Name) rfl (q05 und9 rfl rfl rfl rfl) (RS.q (u:=.ptr 1 0 0) rfl (q06 und42 rfl (q00 inf3) rfl rfl rfl) (RS.q (u:=.int .i64 p2.From) rfl (q05 und3 rfl rfl rfl rfl) (RS.q (u:=.ptr 1 0 1) rfl (q06 und42 rfl (q00 inf3) rfl rfl rfl) (RS.q (u:=.int .i64 p2.To) rfl (q05 und3 rfl rfl rfl rfl) (RS.q (u:=.agg [.int .i64 2,.str p2.Name,.int .i64 p2.From,.int .i64 p2.To,.nils]) rfl (q80 bd37 rfl rfl rfl) (RS.q (u:=.ptr 3 0 0) (σ':=⟨[(3,.row [.int .i64 0,.str [],.int .i64 0,.int .i64 0,.nils] 37),(2,.row [.int .i64 0,.str [],.int .i64 0,.int .i64 0,.nils] 37),(1,.row (cGEdge p2) 42),(0,.row (cGChart p1) 24)],4⟩) rfl (q1d inf37 rfl rfl) ?_)))))))
  refine RS.opn (u:=.junk) (σ':=⟨[(3,.row [.int .i64 2,.str p2.Name,.int .i64 p2.From,.int .i64 p2.To,.nils] 37),(2,.row [.int .i64 0,.str [],.int .i64 0,.int .i64 0,.nils] 37),(1,.row (cGEdge p2) 42),(0,.row (cGChart p1) 24)],4⟩) rfl (q0g (q00 inf37) rfl rfl rfl rfl rfl rfl rfl rfl) rfl ?_
  refine se ?_
  refine RS.q (u:=.ptr 1 0 5) rfl (q06 und42 rfl (q00 inf34) rfl rfl rfl) (RS.q (u:=.isl false (List.map (cI .i64) p2.Kids)) rfl (q05 und34 rfl rfl rfl rfl) (RS.q rfl (q0i rfl rfl rfl (q0d (cI .i64) und34)) (RS.mv rfl rfl rfl rfl ?_)))
  refine sd ?_
  refine WPU.ghost (tm':=fr 41 [(2,.ptr 0 0 0),(4,.ptr 2 0 0),(5,.ptr 3 0 0),(21,.isl false (List.map (cI .i64) p2.Kids)),(22,.int .i64 (p2.Kids.length:Int)),(23,.int .i64 0)]) (σ':=⟨[(4,.vec (List.map cGDeriv ([]:List GDeriv)).flatten 37 5 0),(3,.row [.int .i64 2,.str p2.Name,.int .i64 p2.From,.int .i64 p2.To,.vl 4 0 0 (([]:List GDeriv).length)] 37),(2,.row [.int .i64 0,.str [],.int .i64 0,.int .i64 0,.nils] 37),(1,.row (cGEdge p2) 42),(0,.row (cGChart p1) 24)],5⟩) (Gh.trans (Gh.nilC 3 4 37 5 (by decide) (Nat.zero_le _) rfl rfl) (Gh.eqS ⟨rfl,rfl,rfl,rfl,rfl,rfl,trivial⟩ rfl)) (Nat.zero_le _) ?_
  refine WPU.ghost (tm':=fr 41 [(2,.ptr 0 0 0),(4,.ptr 2 0 0),(5,.ptr 3 0 0),(21,.isl false (List.map (cI .i64) p2.Kids)),(22,.int .i64 (p2.Kids.length:Int)),(23,.int .i64 0)]) (Gh.sub ⟨rfl,rfl,rfl,rfl,rfl,rfl,trivial⟩) (Nat.zero_le _) ?_
  refine WPU.loopK (fun m tm σ=>∃ z31:Int,∃ l32:List GDeriv,∃ t33:Nat,q29 p1 p2 (q1l n) m z31 l32=some r∧tm=fr 41 [(2,.ptr 0 0 0),(4,.ptr 2 0 0),(5,.ptr 3 0 0),(21,.isl false (List.map (cI .i64) p2.Kids)),(22,.int .i64 (p2.Kids.length:Int)),(23,.int .i64 z31)]∧σ=⟨[(4,.vec (List.map cGDeriv l32).flatten 37 5 t33),(3,.row [.int .i64 2,.str p2.Name,.int .i64 p2.From,.int .i64 p2.To,.vl 4 t33 0 l32.length] 37),(2,.row [.int .i64 0,.str [],.int .i64 0,.int .i64 0,.nils] 37),(1,.row (cGEdge p2) 42),(0,.row (cGChart p1) 24)],5⟩) (fun tm σ=>∃ l34:List GDeriv,∃ t35:Nat,q3m p2 l34=some r∧tm=fr 41 [(4,.ptr 2 0 0),(5,.ptr 3 0 0)]∧σ=⟨[(4,.vec (List.map cGDeriv l34).flatten 37 5 t35),(3,.row [.int .i64 2,.str p2.Name,.int .i64 p2.From,.int .i64 p2.To,.vl 4 t35 0 l34.length] 37),(2,.row [.int .i64 0,.str [],.int .i64 0,.int .i64 0,.nils] 37),(1,.row (cGEdge p2) 42),(0,.row (cGChart p1) 24)],5⟩) n ⟨0,([]:List GDeriv),0,hF,rfl,rfl⟩ ?_ ?_
  rintro _ _ ⟨l34,t35,hF,rfl,rfl⟩
  unfold q3m at hF
  refine sr ?_
  refine RS.q (u:=.agg [.int .i64 2,.str p2.Name,.int .i64 p2.From,.int .i64 p2.To,.vl 4 t35 0 l34.length]) rfl (q0f und37 rfl (q00 inf37) rfl rfl rfl) (RS.opn (u:=.junk) (σ':=⟨[(4,.vec (List.map cGDeriv l34).flatten 37 5 t35),(3,.row [.int .i64 2,.str p2.Name,.int .i64 p2.From,.int .i64 p2.To,.vl 4 t35 0 l34.length] 37),(2,.row [.int .i64 2,.str p2.Name,.int .i64 p2.From,.int .i64 p2.To,.vl 4 t35 0 l34.length] 37),(1,.row (cGEdge p2) 42),(0,.row (cGChart p1) 24)],5⟩) rfl (q0g (q00 inf37) rfl rfl rfl rfl rfl rfl rfl rfl) rfl ?_)
  refine sd ?_
  refine WPU.ret ?_
  refine st ?_
  have hr:=Option.some.inj hF
  subst hr
  exact ⟨.inr rfl,[.agg [.int .i64 2,.str p2.Name,.int .i64 p2.From,.int .i64 p2.To,.vl 4 t35 0 l34.length]],q9d (q0f und37 rfl (q00 inf37) rfl rfl rfl) (q0q),.agg [.int .i64 2,.str p2.Name,.int .i64 p2.From,.int .i64 p2.To,.isl false (List.map cGDeriv l34)],⟨[],0⟩,Nat.le_refl _,Gh.trans (Gh.fz (tm':=[.agg [.int .i64 2,.str p2.Name,.int .i64 p2.From,.int .i64 p2.To,.isl false (List.map cGDeriv l34)]]) (h':=[(3,.row [.int .i64 2,.str p2.Name,.int .i64 p2.From,.int .i64 p2.To,.isl false (List.map cGDeriv l34)] 37),(2,.row [.int .i64 2,.str p2.Name,.int .i64 p2.From,.int .i64 p2.To,.isl false (List.map cGDeriv l34)] 37),(1,.row (cGEdge p2) 42),(0,.row (cGChart p1) 24)]) 4 (.vec (List.map cGDeriv l34).flatten 37 5 t35) 5 rfl (by simp) (by simp only [oneU,q11,q0o,q22,q17,q25,q1b,q1a,q19,q18,q12,q23,q24,q21,q26,q3o,junkT,qb8 q0x,q0m,q7j]) (by simp only [fzH,fzB,ug,Nat.beq,cond_true,cond_false,oneU,q11,q0o,q22,q17,q25,q1b,q1a,q19,q18,q12,q23,q24,q21,q26,q3o,junkT,qb8 q0x,q0m,q7j])) (Gh.toR (.agg [.int .i64 2,.str p2.Name,.int .i64 p2.From,.int .i64 p2.To,.isl false (List.map cGDeriv l34)]) rfl),rfl,BU.h⟩
  rintro m1 _ _ ⟨z31,l32,t33,hF,rfl,rfl⟩
  rcases m1 with _ | m1
  cases hF
  unfold q29 at hF
  refine sr ?_
  refine RS.q rfl (q02 rfl rfl (q1i _ _ _) rfl) ?_
  refine sd ?_
  refine WPU.condS (t:=(decide (z31<(p2.Kids.length:Int)))) rfl (fun h36=>?_) (fun h36=>?_)
  replace hF:=q09 h36 hF
  refine st ?_
  refine WPU.skip ?_
  refine st ?_
  refine WPU.block ?_
  refine st ?_
  obtain ⟨x37,h38,hF⟩:=q01 hF
  refine sr ?_
  refine RS.q (u:=.iptr [.int .i64 x37]) rfl (q13 rfl rfl (q0n (cI .i64) und34 (q00 inf3) (q27 .i64) h38 rfl)) (RS.q (u:=.int .i64 x37) rfl (q1c und3 rfl rfl rfl) ?_)
  refine sd ?_
  obtain ⟨x39,h40,hF⟩:=q01 hF
  obtain ⟨r41,h42,hF⟩:=q01 hF
  obtain ⟨h43,hF⟩:=q0y hF
  refine WPU.drawE Try.tb_ok [(0,9),(1,9)] (by kernel_rfl) ?_
  refine RD.q (u:=.ptr 3 0 4) rfl (q06 und37 rfl (q00 inf35) rfl rfl rfl) (RD.q (u:=.vl 4 t33 0 l32.length) rfl (q05 und35 rfl rfl rfl rfl) (RD.q (u:=.agg (cGChart p1)) rfl (q0f und24 rfl (q00 inf24) rfl rfl rfl) (RD.q (u:=.ptr 0 0 1) rfl (q06 und24 rfl (q00 inf22) rfl rfl rfl) (RD.q (u:=.isl false (List.map cGEdge p1.Edges)) rfl (q05 und22 rfl rfl rfl rfl) (RD.mv rfl rfl rfl rfl (RD.q (u:=.iptr (cGEdge x39)) rfl (q13 rfl rfl (q0n cGEdge und22 (q00 inf42) q0h h40 rfl)) (RD.q (u:=.agg (cGEdge x39)) rfl (q2u und42 rfl (q00 inf42) rfl rfl) ?_)))))))
  refine RD.free (u:=.agg (xGDeriv r41)) (args:=[.agg (cGChart p1),.agg (cGEdge x39)]) rfl (q0b rfl rfl fn43 hb43 rfl rfl) (fun s=>ihS p1 x39 r41 h42 s) rfl rfl (RD.act (u:=.sl 5 0 1 1) (σ':=⟨[(5,.row (xGDeriv r41) 37),(4,.vec (List.map cGDeriv l32).flatten 37 5 t33),(3,.row [.int .i64 2,.str p2.Name,.int .i64 p2.From,.int .i64 p2.To,.vl 4 t33 0 l32.length] 37),(2,.row [.int .i64 0,.str [],.int .i64 0,.int .i64 0,.nils] 37),(1,.row (cGEdge p2) 42),(0,.row (cGChart p1) 24)],6⟩) rfl (q77 und35 inf37 rfl rfl rfl rfl rfl rfl rfl) rfl rfl ?_)
  refine RD.act (u:=.vl 4 (t33+1) 0 ((l32++[r41]).length)) (σ':=⟨[(5,.row (xGDeriv r41) 37),(4,.vec (List.map cGDeriv (l32++[r41])).flatten 37 5 (t33+1)),(3,.row [.int .i64 2,.str p2.Name,.int .i64 p2.From,.int .i64 p2.To,.vl 4 t33 0 l32.length] 37),(2,.row [.int .i64 0,.str [],.int .i64 0,.int .i64 0,.nils] 37),(1,.row (cGEdge p2) 42),(0,.row (cGChart p1) 24)],6⟩) rfl (op_app rfl rfl rfl rfl (app_vl cGDeriv ([r41]) und35 und35 inf37 rfl q0x rfl (qau cGDeriv [r41] rfl rfl rfl (by simp only [List.map,List.flatten,List.append_nil,q1f,xGDeriv,GDeriv.Kind,GDeriv.Name,GDeriv.From,GDeriv.To,GDeriv.Kids]; rfl)) h43)) rfl rfl ?_
  refine RD.q (u:=.ptr 3 0 4) rfl (q06 und37 rfl (q00 inf35) rfl rfl rfl) (RD.actn (u:=.junk) (σ':=⟨[(5,.row (xGDeriv r41) 37),(4,.vec (List.map cGDeriv (l32++[r41])).flatten 37 5 (t33+1)),(3,.row [.int .i64 2,.str p2.Name,.int .i64 p2.From,.int .i64 p2.To,.vl 4 (t33+1) 0 ((l32++[r41]).length)] 37),(2,.row [.int .i64 0,.str [],.int .i64 0,.int .i64 0,.nils] 37),(1,.row (cGEdge p2) 42),(0,.row (cGChart p1) 24)],6⟩) rfl (q0g (q00 inf35) rfl rfl rfl rfl rfl rfl rfl rfl) rfl ?_)
  refine RD.done ⟨by kernel_rfl,⟨q06 und37 rfl (q00 inf35) rfl rfl rfl,⟨q05 und35 rfl rfl rfl rfl,trivial⟩⟩,?_⟩
  refine sr ?_
  refine RS.q rfl (q02 rfl rfl (q32 _ _ _) rfl) (RS.mv rfl rfl rfl rfl ?_)
  refine sd ?_
  exact ⟨m1,_,_,Nat.lt_succ_self _,⟨(IntKind.i64.wrap (z31+1)),(l32++[r41]),(t33+1),hF,rfl,rfl⟩,(Nat.zero_le _),Gh.toC (n1:=5) ⟨rfl,rfl,rfl,rfl,rfl,rfl,trivial⟩ rfl (Nat.zero_le _) (by simp)⟩
  replace hF:=q08 h36 hF
  refine st ?_
  refine WPU.exit ?_
  refine st ?_
  exact ⟨_,_,⟨l32,t33,hF,rfl,rfl⟩,(Nat.zero_le _),Gh.toC (n1:=5) ⟨rfl,rfl,trivial⟩ rfl (Nat.zero_le _) (by simp)⟩
theorem q94 (n:Nat) (p1:GChart) (p2:GEdge) (r:GDeriv) (hF:q1l n p1 p2=some r) (σ:Sg):EvU Try.prog 43 [.agg (cGChart p1),.agg (cGEdge p2)] σ (fun u σ'=>u = .agg (xGDeriv r)∧σ'=σ) :=
 EvU.pure1C (q73 n p1 p2 r hF) σ
def q4s (n:Nat) (p1:GChart) (p2:Int):Option (GDeriv) :=
 bindO (cond (decide (p2<0))
  (some true)
  (some (decide (p2 ≥ (p1.Edges.length:Int))))) fun b4 =>
 cond b4
  (some (GDeriv.mk 0 [] 0 0 []))
  (bindO (idxO p1.Edges p2) fun x7 =>
  bindO (q1l n p1 x7) fun r9 =>
  some r9)
theorem chart_Deriv_0 (n:Nat) (p1:GChart) (p2:Int) (r:GDeriv) (hF:q4s n p1 p2=some r):EvU Try.prog 22 [.agg (cGChart p1),.int .i64 p2] ⟨[],0⟩ (fun u _=>u = .agg (xGDeriv r)∧Bel 0 u):=by
 unfold q4s at hF
 refine EvU.of_body Try.tb_ok fn22 rfl ?_
 refine WPU.ghost (tm':=fr 22 [(0,.agg (cGChart p1)),(1,.int .i64 p2)]) (Gh.start (Nat.le_of_ble_eq_true rfl)) (Nat.zero_le _) ?_
 refine sr ?_
 refine RS.q (u:=.ptr 0 0 0) (σ':=⟨[(0,.row (cGChart p1) 24)],1⟩) rfl (q2v rfl rfl rfl) (RS.q (u:=.ptr 1 0 0) (σ':=⟨[(1,.row [.int .i64 0,.str [],.int .i64 0,.int .i64 0,.nils] 37),(0,.row (cGChart p1) 24)],2⟩) rfl (q1d inf37 rfl rfl) ?_)
 refine sd ?_
 obtain ⟨b4,h5,hF⟩:=q01 hF
 refine WPU.joinK (fun tm σ=>tm=fr 22 [(1,.int .i64 p2),(2,.ptr 0 0 0),(4,.ptr 1 0 0),(13,.bool b4)]∧σ=⟨[(1,.row [.int .i64 0,.str [],.int .i64 0,.int .i64 0,.nils] 37),(0,.row (cGChart p1) 24)],2⟩) ?_ ?_
 rintro _ _ ⟨rfl,rfl⟩
 refine st ?_
 refine WPU.condS (t:=b4) rfl (fun h6=>?_) (fun h6=>?_)
 replace hF:=q09 h6 hF
 refine sr ?_
 refine RS.q (u:=.agg [.int .i64 0,.str [],.int .i64 0,.int .i64 0,.nils]) rfl (q80 bd37 rfl rfl rfl) (RS.opn (u:=.junk) (σ':=⟨[(1,.row [.int .i64 0,.str [],.int .i64 0,.int .i64 0,.nils] 37),(0,.row (cGChart p1) 24)],2⟩) rfl (q0g (q00 inf37) rfl rfl rfl rfl rfl rfl rfl rfl) rfl ?_)
 refine sd ?_
 refine WPU.ret ?_
 refine st ?_
 have hr:=Option.some.inj hF
 subst hr
 exact ⟨.inr rfl,[.agg [.int .i64 0,.str [],.int .i64 0,.int .i64 0,.nils]],q9d (q0f und37 rfl (q00 inf37) rfl rfl rfl) (q0q),.agg [.int .i64 0,.str [],.int .i64 0,.int .i64 0,.isl false []],⟨[],0⟩,Nat.le_refl _,Gh.trans (Gh.wk (.cons (.agg (.cons (.refl _) (.cons (.refl _) (.cons (.refl _) (.cons (.refl _) (.cons (.nil false) .nil)))))) .nil)) (Gh.toR (.agg [.int .i64 0,.str [],.int .i64 0,.int .i64 0,.isl false []]) rfl),rfl,BU.h⟩
 replace hF:=q08 h6 hF
 refine st ?_
 refine WPU.skip ?_
 refine st ?_
 obtain ⟨x7,h8,hF⟩:=q01 hF
 obtain ⟨r9,h10,hF⟩:=q01 hF
 refine WPU.drawE Try.tb_ok [] (by kernel_rfl) ?_
 refine RD.q (u:=.agg (cGChart p1)) rfl (q0f und24 rfl (q00 inf24) rfl rfl rfl) (RD.q (u:=.ptr 0 0 1) rfl (q06 und24 rfl (q00 inf22) rfl rfl rfl) (RD.q (u:=.isl false (List.map cGEdge p1.Edges)) rfl (q05 und22 rfl rfl rfl rfl) (RD.mv rfl rfl rfl rfl (RD.q (u:=.iptr (cGEdge x7)) rfl (q13 rfl rfl (q0n cGEdge und22 (q00 inf42) q0h h8 rfl)) (RD.q (u:=.agg (cGEdge x7)) rfl (q2u und42 rfl (q00 inf42) rfl rfl) (RD.free (u:=.agg (xGDeriv r9)) (args:=[.agg (cGChart p1),.agg (cGEdge x7)]) rfl (q0b rfl rfl fn43 hb43 rfl rfl) (fun s=>q94 n p1 x7 r9 h10 s) rfl rfl (RD.actn (u:=.junk) (σ':=⟨[(1,.row (xGDeriv r9) 37),(0,.row (cGChart p1) 24)],2⟩) rfl (q0g (q00 inf37) rfl rfl rfl rfl rfl rfl rfl rfl) rfl ?_)))))))
 refine RD.done ⟨by kernel_rfl,trivial,?_⟩
 refine st ?_
 refine WPU.ret ?_
 refine st ?_
 have hr:=Option.some.inj hF
 subst hr
 exact ⟨.inr rfl,[.agg (xGDeriv r9)],q9d (q0f und37 rfl (q00 inf37) rfl rfl rfl) (q0q),.agg (xGDeriv r9),⟨[],0⟩,Nat.le_refl _,Gh.toR (.agg (xGDeriv r9)) rfl,rfl,BU.h⟩
 rcases q0j (decide (p2<0)) with h3 | h3
 replace h5:=q09 h3 h5
 replace h5:=Option.some.inj h5
 subst h5
 refine sr ?_
 refine RS.q rfl (q02 rfl rfl (q1i _ _ _) rfl) (RS.mv rfl rfl rfl rfl ?_)
 repeat refine RS.no (want0 rfl rfl rfl h3) rfl rfl ?_
 refine RS.q (u:=.bool true) rfl (q04 rfl h3 rfl) ?_
 refine sd ?_
 exact ⟨_,_,⟨rfl,rfl⟩,(Nat.zero_le _),Gh.toC (n1:=2) ⟨rfl,rfl,rfl,rfl,trivial⟩ rfl (Nat.zero_le _) (by simp)⟩
 replace h5:=q08 h3 h5
 replace h5:=Option.some.inj h5
 subst h5
 refine sr ?_
 refine RS.q rfl (q02 rfl rfl (q1i _ _ _) rfl) (RS.mv rfl rfl rfl rfl (RS.op (want1 rfl rfl rfl h3) (q07 rfl) rfl rfl (RS.op (u:=.ptr 0 0 1) (want1 rfl rfl rfl h3) (q06 und24 rfl (q00 inf22) rfl rfl rfl) rfl rfl (RS.op (u:=.isl false (List.map cGEdge p1.Edges)) (want1 rfl rfl rfl h3) (q05 und22 rfl rfl rfl rfl) rfl rfl (RS.op (want1 rfl rfl rfl h3) (q0i rfl rfl rfl (q0d cGEdge und22)) rfl rfl (RS.op (want1 rfl rfl rfl h3) (q02 rfl rfl (ix_geq _ _ _) rfl) rfl rfl (RS.q (u:=.bool (decide (p2 ≥ (p1.Edges.length:Int)))) rfl (q03 rfl h3 rfl) ?_)))))))
 refine sd ?_
 exact ⟨_,_,⟨rfl,rfl⟩,(Nat.zero_le _),Gh.toC (n1:=2) ⟨rfl,rfl,rfl,rfl,trivial⟩ rfl (Nat.zero_le _) (by simp)⟩
theorem q7a (n:Nat) (p1:GChart) (p2:Int) (r:GDeriv) (hF:q4s n p1 p2=some r) (σ:Sg):EvU Try.prog 22 [.agg (cGChart p1),.int .i64 p2] σ (fun u σ'=>u = .agg (xGDeriv r)∧σ'=σ) :=
 EvU.pure1C (chart_Deriv_0 n p1 p2 r hF) σ
def q8z (z10:Int) (rc1:Int→Int→(List GEdge)→Option (GChart)) (z21:Int) (l22:List GEdge):Option (GChart) :=
 rc1 (IntKind.i64.wrap (z10+1)) z21 l22
def ref32_Build_K1  (z13:Int) (l14:List GEdge):Option (GChart) :=
 some (GChart.mk z13 l14)
def q90 (p2:List GEdge) (n:Nat):Nat→Int→Int→(List GEdge)→Option (GChart)
 | 0,_,_,_=>none
 | m1+1,z10,z11,l12 =>
  cond (decide (z10<(p2.length:Int)))
   (bindO (idxO p2 z10) fun x16 =>
   bindO (qce n (GChart.mk z11 l12) x16) fun r18 =>
   cond (r18.2.2 == 0)
    (q8z z10 (q90 p2 n m1) r18.1.Words r18.1.Edges)
    (q8z z10 (q90 p2 n m1) z11 l12))
   (ref32_Build_K1 z11 l12)
def q4j (z12:Int) (rc1:Int→Int→(List GEdge)→Option (GChart)) (z23:Int) (l24:List GEdge):Option (GChart) :=
 rc1 (IntKind.i64.wrap (z12+1)) z23 l24
def q5t  (z15:Int) (l16:List GEdge):Option (GChart) :=
 some (GChart.mk z15 l16)
def q2t (p2:List GEdge) (n:Nat):Nat→Int→Int→(List GEdge)→Option (GChart)
 | 0,_,_,_=>none
 | m1+1,z12,z13,l14 =>
  cond (decide (z12<(p2.length:Int)))
   (bindO (idxO p2 z12) fun x18 =>
   bindO (q20 n (GChart.mk z13 l14) x18) fun r20 =>
   cond (r20.2.2 == 0)
    (q4j z12 (q2t p2 n m1) r20.1.Words r20.1.Edges)
    (q4j z12 (q2t p2 n m1) z13 l14))
   (q5t z13 l14)
def q6p (n:Nat) (p1:Int) (p2:List GEdge):Option (GChart) :=
 bindO (q53 n (IntKind.i64.wrap (1+((IntKind.i64.wrap p1).tmod 8)))) fun r4 =>
 q2t p2 n n 0 r4.1.Words r4.1.Edges
theorem law32_built_0 (n:Nat) (p1:Int) (p2:List GEdge) (r:GChart) (hF:q6p n p1 p2=some r):EvU Try.prog 27 [.int .u8 p1,.isl false (List.map cGEdge p2)] ⟨[],0⟩ (fun u _=>u = .agg (cGChart r)∧Bel 0 u):=by
 unfold q6p at hF
 refine EvU.of_body Try.tb_ok fn27 rfl ?_
 refine WPU.ghost (tm':=fr 39 [(0,.int .u8 p1),(1,.isl false (List.map cGEdge p2))]) (Gh.start (Nat.le_of_ble_eq_true rfl)) (Nat.zero_le _) ?_
 refine sr ?_
 refine RS.q (u:=.ptr 0 0 0) (σ':=⟨[(0,.row [.int .i64 0,.nils] 24)],1⟩) rfl (q1d inf24 rfl rfl) ?_
 refine sd ?_
 obtain ⟨r4,h5,hF⟩:=q01 hF
 refine sr ?_
 refine RS.q (u:=.int .i64 (IntKind.i64.wrap p1)) rfl (qca rfl rfl (by simp only [convX,und5,und3]<;>rfl) rfl) ?_
 refine RS.q rfl (q02 rfl rfl (ix_rem _ (by decide)) rfl) ?_
 refine RS.q rfl (q02 rfl rfl (q32 _ _ _) rfl) (RS.call (u:=.tup [.agg (cGChart r4.1),.int .i64 r4.2]) (args:=[.int .i64 (IntKind.i64.wrap (1+((IntKind.i64.wrap p1).tmod 8)))]) rfl (q0b rfl rfl fn9 hb9 rfl rfl) (q62 n (IntKind.i64.wrap (1+((IntKind.i64.wrap p1).tmod 8))) r4 h5 _) rfl rfl (RS.mv rfl rfl rfl rfl (RS.q rfl (q0z rfl rfl) (RS.q rfl (q0z rfl rfl) (RS.q (u:=.ptr 1 0 0) (σ':=⟨[(1,.row [.int .i64 0,.nils] 24),(0,.row [.int .i64 0,.nils] 24)],2⟩) rfl (q1d inf24 rfl rfl) (RS.opn (u:=.junk) (σ':=⟨[(1,.row (cGChart r4.1) 24),(0,.row [.int .i64 0,.nils] 24)],2⟩) rfl (q0g (q00 inf24) rfl rfl rfl rfl rfl rfl rfl rfl) rfl ?_))))))
 refine se ?_
 refine RS.q rfl (q0i rfl rfl rfl (q0d cGEdge und22)) (RS.mv rfl rfl rfl rfl ?_)
 refine sd ?_
 refine WPU.ghost (tm':=fr 39 [(1,.isl false (List.map cGEdge p2)),(4,.ptr 0 0 0),(5,.ptr 1 0 0),(20,.int .i64 (p2.length:Int)),(21,.int .i64 0)]) (Gh.sub ⟨rfl,rfl,rfl,rfl,rfl,trivial⟩) (Nat.zero_le _) ?_
 refine WPU.loopK (fun m tm σ=>∃ z12:Int,∃ z13:Int,∃ l14:List GEdge,q2t p2 n m z12 z13 l14=some r∧tm=fr 39 [(1,.isl false (List.map cGEdge p2)),(4,.ptr 0 0 0),(5,.ptr 1 0 0),(20,.int .i64 (p2.length:Int)),(21,.int .i64 z12)]∧σ=⟨[(1,.row [.int .i64 z13,.isl false (List.map cGEdge l14)] 24),(0,.row [.int .i64 0,.nils] 24)],2⟩) (fun tm σ=>∃ z15:Int,∃ l16:List GEdge,q5t z15 l16=some r∧tm=fr 39 [(4,.ptr 0 0 0),(5,.ptr 1 0 0)]∧σ=⟨[(1,.row [.int .i64 z15,.isl false (List.map cGEdge l16)] 24),(0,.row [.int .i64 0,.nils] 24)],2⟩) n ⟨0,r4.1.Words,r4.1.Edges,hF,rfl,rfl⟩ ?_ ?_
 rintro _ _ ⟨z15,l16,hF,rfl,rfl⟩
 unfold q5t at hF
 refine sr ?_
 refine RS.q (u:=.agg [.int .i64 z15,.isl false (List.map cGEdge l16)]) rfl (q0f und24 rfl (q00 inf24) rfl rfl rfl) (RS.opn (u:=.junk) (σ':=⟨[(1,.row [.int .i64 z15,.isl false (List.map cGEdge l16)] 24),(0,.row [.int .i64 z15,.isl false (List.map cGEdge l16)] 24)],2⟩) rfl (q0g (q00 inf24) rfl rfl rfl rfl rfl rfl rfl rfl) rfl ?_)
 refine sd ?_
 refine WPU.ret ?_
 refine st ?_
 have hr:=Option.some.inj hF
 subst hr
 exact ⟨.inr rfl,[.agg [.int .i64 z15,.isl false (List.map cGEdge l16)]],q9d (q0f und24 rfl (q00 inf24) rfl rfl rfl) (q0q),.agg [.int .i64 z15,.isl false (List.map cGEdge l16)],⟨[],0⟩,Nat.le_refl _,Gh.toR (.agg [.int .i64 z15,.isl false (List.map cGEdge l16)]) rfl,rfl,BU.h⟩
 rintro m1 _ _ ⟨z12,z13,l14,hF,rfl,rfl⟩
 rcases m1 with _ | m1
 cases hF
 unfold q2t at hF
 refine sr ?_
 refine RS.q rfl (q02 rfl rfl (q1i _ _ _) rfl) ?_
 refine sd ?_
 refine WPU.condS (t:=(decide (z12<(p2.length:Int)))) rfl (fun h17=>?_) (fun h17=>?_)
 replace hF:=q09 h17 hF
 refine st ?_
 refine WPU.skip ?_
 refine st ?_
 refine WPU.block ?_
 refine sr ?_
 refine sd ?_
 obtain ⟨x18,h19,hF⟩:=q01 hF
 obtain ⟨r20,h21,hF⟩:=q01 hF
 refine WPU.drawE Try.tb_ok [(0,10),(1,10),(2,10),(3,10),(4,10),(6,10),(7,10),(8,10),(8,11),(9,10),(9,11)] (by kernel_rfl) ?_
 refine RD.q (u:=.agg [.int .i64 z13,.isl false (List.map cGEdge l14)]) rfl (q0f und24 rfl (q00 inf24) rfl rfl rfl) ?_
 repeat refine RD.mv rfl rfl rfl rfl ?_
 refine RD.q (u:=.iptr (cGEdge x18)) rfl (q13 rfl rfl (q0n cGEdge und22 (q00 inf42) q0h h19 rfl)) (RD.q (u:=.agg (cGEdge x18)) rfl (q2u und42 rfl (q00 inf42) rfl rfl) (RD.free (u:=.tup [.agg (cGChart r20.1),.int .i64 r20.2.1,.int .i64 r20.2.2]) (args:=[.agg [.int .i64 z13,.isl false (List.map cGEdge l14)],.agg (cGEdge x18)]) rfl (q0b rfl rfl fn14 hb14 rfl rfl) (fun s=>q37 n (GChart.mk z13 l14) x18 r20 h21 s) rfl rfl (RD.mv rfl rfl rfl rfl (RD.q rfl (q0z rfl rfl) (RD.q rfl (q0z rfl rfl) (RD.q rfl (q0z rfl rfl) (RD.act (u:=.ptr 2 0 0) (σ':=⟨[(2,.row [.int .i64 0,.nils] 24),(1,.row [.int .i64 z13,.isl false (List.map cGEdge l14)] 24),(0,.row [.int .i64 0,.nils] 24)],3⟩) rfl (q1d inf24 rfl rfl) rfl rfl ?_)))))))
 refine RD.actn (u:=.junk) (σ':=⟨[(2,.row (cGChart r20.1) 24),(1,.row [.int .i64 z13,.isl false (List.map cGEdge l14)] 24),(0,.row [.int .i64 0,.nils] 24)],3⟩) rfl (q0g (q00 inf24) rfl rfl rfl rfl rfl rfl rfl rfl) rfl ?_
 repeat refine RD.as rfl rfl rfl rfl ?_
 refine RD.done ⟨by kernel_rfl,⟨q0f und24 rfl (q00 inf24) rfl rfl rfl,⟨q07 rfl,⟨q07 rfl,⟨q13 rfl rfl (q0n cGEdge und22 (q00 inf42) q0h h19 rfl),⟨q2u und42 rfl (q00 inf42) rfl rfl,⟨q07 rfl,⟨q0z rfl rfl,⟨q0z rfl rfl,⟨q0z rfl rfl,⟨q0z rfl rfl,⟨q0z rfl rfl,trivial⟩⟩⟩⟩⟩⟩⟩⟩⟩⟩⟩,?_⟩
 refine sr ?_
 refine RS.q rfl (q02 rfl rfl (q0e _ _ _) rfl) ?_
 refine sd ?_
 refine WPU.joinK (fun tm σ=>∃ z23:Int,∃ l24:List GEdge,q4j z12 (q2t p2 n m1) z23 l24=some r∧tm=fr 39 [(1,.isl false (List.map cGEdge p2)),(4,.ptr 0 0 0),(5,.ptr 1 0 0),(20,.int .i64 (p2.length:Int)),(21,.int .i64 z12)]∧σ=⟨[(2,.row (cGChart r20.1) 24),(1,.row [.int .i64 z23,.isl false (List.map cGEdge l24)] 24),(0,.row [.int .i64 0,.nils] 24)],3⟩) ?_ ?_
 rintro _ _ ⟨z23,l24,hF,rfl,rfl⟩
 unfold q4j at hF
 refine sr ?_
 refine RS.q rfl (q02 rfl rfl (q32 _ _ _) rfl) (RS.mv rfl rfl rfl rfl ?_)
 refine sd ?_
 exact ⟨m1,_,_,Nat.lt_succ_self _,⟨(IntKind.i64.wrap (z12+1)),z23,l24,hF,rfl,rfl⟩,(Nat.zero_le _),Gh.toC (n1:=2) ⟨rfl,rfl,rfl,rfl,rfl,trivial⟩ rfl (Nat.zero_le _) (by simp)⟩
 refine WPU.condS (t:=(r20.2.2 == 0)) rfl (fun h22=>?_) (fun h22=>?_)
 replace hF:=q09 h22 hF
 refine sr ?_
 refine RS.q (u:=.agg (cGChart r20.1)) rfl (q0f und24 rfl (q00 inf24) rfl rfl rfl) (RS.opn (u:=.junk) (σ':=⟨[(2,.row (cGChart r20.1) 24),(1,.row (cGChart r20.1) 24),(0,.row [.int .i64 0,.nils] 24)],3⟩) rfl (q0g (q00 inf24) rfl rfl rfl rfl rfl rfl rfl rfl) rfl ?_)
 refine sd ?_
 exact ⟨_,_,⟨r20.1.Words,r20.1.Edges,hF,rfl,rfl⟩,(Nat.zero_le _),Gh.toC (n1:=3) ⟨rfl,rfl,rfl,rfl,rfl,trivial⟩ rfl (Nat.zero_le _) (by simp)⟩
 replace hF:=q08 h22 hF
 refine st ?_
 refine WPU.skip ?_
 refine st ?_
 exact ⟨_,_,⟨z13,l14,hF,rfl,rfl⟩,(Nat.zero_le _),Gh.toC (n1:=3) ⟨rfl,rfl,rfl,rfl,rfl,trivial⟩ rfl (Nat.zero_le _) (by simp)⟩
 replace hF:=q08 h17 hF
 refine st ?_
 refine WPU.exit ?_
 refine st ?_
 exact ⟨_,_,⟨z13,l14,hF,rfl,rfl⟩,(Nat.zero_le _),Gh.toC (n1:=2) ⟨rfl,rfl,trivial⟩ rfl (Nat.zero_le _) (by simp)⟩
theorem law32_built_ok (n:Nat) (p1:Int) (p2:List GEdge) (r:GChart) (hF:q6p n p1 p2=some r) (σ:Sg):EvU Try.prog 27 [.int .u8 p1,.isl false (List.map cGEdge p2)] σ (fun u σ'=>u = .agg (cGChart r)∧σ'=σ) :=
 EvU.pure1C (law32_built_0 n p1 p2 r hF) σ
def q3j (n:Nat) (x4:GEdge) (l33:List Int) (z35:Int) (l36:List GEdge):Option (GChart×Int) :=
 bindO (q20 n (GChart.mk z35 l36) (GEdge.mk x4.From x4.To x4.Unary x4.Kind x4.Name l33 x4.Lex x4.FS)) fun r37 =>
 some ((GChart.mk r37.1.Words r37.1.Edges),r37.2.1)
def q2x (p1:GChart) (n:Nat) (x4:GEdge) (self:GChart→GChart→Int→Option (GChart×Int)):Nat→Int→(List Int)→Int→(List GEdge)→Option (GChart×Int)
 | 0,_,_,_,_=>none
 | m1+1,z28,l29,z31,l32 =>
  cond (decide (z28<(x4.Kids.length:Int)))
   (bindO (idxO x4.Kids z28) fun x40 =>
   bindO (self p1 (GChart.mk z31 l32) x40) fun r42 =>
   needO ((l29.length+1)*8≤140737488355328∧l29.length+1≤140737488355328) (
   (q2x p1 n x4 self m1) (IntKind.i64.wrap (z28+1)) (l29++[r42.2]) r42.1.Words r42.1.Edges))
   (q3j n x4 l29 z31 l32)
def q69 (n:Nat) (self:GChart→GChart→Int→Option (GChart×Int)) (p1:GChart) (p2:GChart) (p3:Int):Option (GChart×Int) :=
 bindO (idxO p1.Edges p3) fun x4 =>
 q2x p1 n x4 self n 0 ([]:List Int) p2.Words p2.Edges
def q1p:Nat→GChart→GChart→Int→Option (GChart×Int)
 | 0,_,_,_=>none
 | n+1,p1,p2,p3=>q69 n (q1p n) p1 p2 p3
theorem q7z:∀ (n:Nat) (p1:GChart) (p2:GChart) (p3:Int) (r:GChart×Int),q1p n p1 p2 p3=some r→EvU Try.prog 29 [.agg (cGChart p1),.agg (cGChart p2),.int .i64 p3] ⟨[],0⟩ (fun u _=>u = .tup [.agg (cGChart r.1),.int .i64 r.2]∧Bel 0 u)
 | 0,p1,p2,p3,r,hF=>by cases hF
 | n+1,p1,p2,p3,r,hF=>by
  have ih:=q7z n
  have ihS:∀ (p1:GChart) (p2:GChart) (p3:Int) (r:GChart×Int),q1p n p1 p2 p3=some r→∀ σ,EvU Try.prog 29 [.agg (cGChart p1),.agg (cGChart p2),.int .i64 p3] σ (fun u σ'=>u = .tup [.agg (cGChart r.1),.int .i64 r.2]∧σ'=σ):=fun p1 p2 p3 r h σ=>EvU.pure1C (ih p1 p2 p3 r h) σ
  unfold q1p q69 at hF
  refine EvU.of_body Try.tb_ok fn29 rfl ?_
  refine WPU.ghost (tm':=fr 51 [(0,.agg (cGChart p1)),(1,.agg (cGChart p2)),(2,.int .i64 p3)]) (Gh.start (Nat.le_of_ble_eq_true rfl)) (Nat.zero_le _) ?_
  refine sr ?_
  refine RS.q (u:=.ptr 0 0 0) (σ':=⟨[(0,.row (cGChart p1) 24)],1⟩) rfl (q2v rfl rfl rfl) (RS.q (u:=.ptr 1 0 0) (σ':=⟨[(1,.row (cGChart p2) 24),(0,.row (cGChart p1) 24)],2⟩) rfl (q2v rfl rfl rfl) (RS.q (u:=.ptr 2 0 0) (σ':=⟨[(2,.row [.int .i64 0,.nils] 24),(1,.row (cGChart p2) 24),(0,.row (cGChart p1) 24)],3⟩) rfl (q1d inf24 rfl rfl) ?_))
  refine sd ?_
  obtain ⟨x4,h5,hF⟩:=q01 hF
  refine sr ?_
  refine RS.q (u:=.ptr 0 0 1) rfl (q06 und24 rfl (q00 inf22) rfl rfl rfl) (RS.q (u:=.isl false (List.map cGEdge p1.Edges)) rfl (q05 und22 rfl rfl rfl rfl) (RS.mv rfl rfl rfl rfl (RS.q (u:=.iptr (cGEdge x4)) rfl (q13 rfl rfl (q0n cGEdge und22 (q00 inf42) q0h h5 rfl)) (RS.q (u:=.agg (cGEdge x4)) rfl (q2u und42 rfl (q00 inf42) rfl rfl) (RS.q (u:=.ptr 3 0 0) (σ':=⟨[(3,.row [.int .i64 0,.int .i64 0,.int .i64 0,.int .i64 0,.str [],.nils,.int .i64 0,.str [],.int .i64 0,.int .i64 0,.nils,.nils] 42),(2,.row [.int .i64 0,.nils] 24),(1,.row (cGChart p2) 24),(0,.row (cGChart p1) 24)],4⟩) rfl (q1d inf42 rfl rfl) (RS.opn (u:=.junk) (σ':=⟨[(3,.row (cGEdge x4) 42),(2,.row [.int .i64 0,.nils] 24),(1,.row (cGChart p2) 24),(0,.row (cGChart p1) 24)],4⟩) rfl (q0g (q00 inf42) rfl rfl rfl rfl rfl rfl rfl rfl) rfl ?_))))))
  refine se ?_
  refine RS.q (u:=.sl 4 0 0 0) (σ':=⟨[(4,.row [] 3),(3,.row (cGEdge x4) 42),(2,.row [.int .i64 0,.nils] 24),(1,.row (cGChart p2) 24),(0,.row (cGChart p1) 24)],5⟩) rfl (q77 und34 inf3 rfl rfl rfl rfl rfl rfl rfl) ?_
  refine se ?_
  refine RS.q (u:=.ptr 3 0 5) rfl (q06 und42 rfl (q00 inf34) rfl rfl rfl) (RS.q (u:=.isl false (List.map (cI .i64) x4.Kids)) rfl (q05 und34 rfl rfl rfl rfl) (RS.q rfl (q0i rfl rfl rfl (q0d (cI .i64) und34)) (RS.mv rfl rfl rfl rfl ?_)))
  refine sd ?_
  refine WPU.ghost (tm':=fr 51 [(3,.ptr 0 0 0),(4,.ptr 1 0 0),(6,.ptr 2 0 0),(8,.ptr 3 0 0),(9,.vl 5 0 0 (([]:List Int).length)),(22,.isl false (List.map (cI .i64) x4.Kids)),(23,.int .i64 (x4.Kids.length:Int)),(24,.int .i64 0)]) (σ':=⟨[(5,.vec (List.map (cI .i64) ([]:List Int)).flatten 3 1 0),(4,.row [] 3),(3,.row (cGEdge x4) 42),(2,.row [.int .i64 0,.nils] 24),(1,.row (cGChart p2) 24),(0,.row (cGChart p1) 24)],6⟩) (Gh.trans (Gh.empS 9 3 1 (by decide) (Nat.zero_le _) rfl rfl rfl) (Gh.eqS ⟨rfl,rfl,rfl,rfl,rfl,rfl,rfl,rfl,trivial⟩ rfl)) (Nat.zero_le _) ?_
  refine WPU.ghost (tm':=fr 51 [(3,.ptr 0 0 0),(4,.ptr 1 0 0),(6,.ptr 2 0 0),(8,.ptr 3 0 0),(9,.vl 5 0 0 (([]:List Int).length)),(22,.isl false (List.map (cI .i64) x4.Kids)),(23,.int .i64 (x4.Kids.length:Int)),(24,.int .i64 0)]) (Gh.sub ⟨rfl,rfl,rfl,rfl,rfl,rfl,rfl,rfl,trivial⟩) (Nat.zero_le _) ?_
  refine WPU.loopK (fun m tm σ=>∃ z28:Int,∃ l29:List Int,∃ t30:Nat,∃ z31:Int,∃ l32:List GEdge,q2x p1 n x4 (q1p n) m z28 l29 z31 l32=some r∧tm=fr 51 [(3,.ptr 0 0 0),(4,.ptr 1 0 0),(6,.ptr 2 0 0),(8,.ptr 3 0 0),(9,.vl 5 t30 0 l29.length),(22,.isl false (List.map (cI .i64) x4.Kids)),(23,.int .i64 (x4.Kids.length:Int)),(24,.int .i64 z28)]∧σ=⟨[(5,.vec (List.map (cI .i64) l29).flatten 3 1 t30),(4,.row [] 3),(3,.row (cGEdge x4) 42),(2,.row [.int .i64 0,.nils] 24),(1,.row [.int .i64 z31,.isl false (List.map cGEdge l32)] 24),(0,.row (cGChart p1) 24)],6⟩) (fun tm σ=>∃ l33:List Int,∃ t34:Nat,∃ z35:Int,∃ l36:List GEdge,q3j n x4 l33 z35 l36=some r∧tm=fr 51 [(4,.ptr 1 0 0),(6,.ptr 2 0 0),(8,.ptr 3 0 0),(9,.vl 5 t34 0 l33.length)]∧σ=⟨[(5,.vec (List.map (cI .i64) l33).flatten 3 1 t34),(4,.row [] 3),(3,.row (cGEdge x4) 42),(2,.row [.int .i64 0,.nils] 24),(1,.row [.int .i64 z35,.isl false (List.map cGEdge l36)] 24),(0,.row (cGChart p1) 24)],6⟩) n ⟨0,([]:List Int),0,p2.Words,p2.Edges,hF,rfl,rfl⟩ ?_ ?_
  rintro _ _ ⟨l33,t34,z35,l36,hF,rfl,rfl⟩
  unfold q3j at hF
  refine sr ?_
  refine RS.q (u:=.ptr 3 0 5) rfl (q06 und42 rfl (q00 inf34) rfl rfl rfl) (RS.opn (u:=.junk) (σ':=⟨[(5,.vec (List.map (cI .i64) l33).flatten 3 1 t34),(4,.row [] 3),(3,.row [.int .i64 x4.From,.int .i64 x4.To,.int .i64 x4.Unary,.int .i64 x4.Kind,.str x4.Name,.vl 5 t34 0 l33.length,.int .i64 x4.Lex.Kind,.str x4.Lex.Name,.int .i64 x4.Lex.From,.int .i64 x4.Lex.To,.isl false (List.map cGDeriv x4.Lex.Kids),.isl false (List.map cGNode x4.FS.Nodes)] 42),(2,.row [.int .i64 0,.nils] 24),(1,.row [.int .i64 z35,.isl false (List.map cGEdge l36)] 24),(0,.row (cGChart p1) 24)],6⟩) rfl (q0g (q00 inf34) rfl rfl rfl rfl rfl rfl rfl rfl) rfl ?_)
  refine sd ?_
  refine WPU.ghost (tm':=fr 51 [(4,.ptr 1 0 0),(6,.ptr 2 0 0),(8,.ptr 3 0 0)]) (σ':=⟨[(4,.row [] 3),(3,.row [.int .i64 x4.From,.int .i64 x4.To,.int .i64 x4.Unary,.int .i64 x4.Kind,.str x4.Name,.isl false (List.map (cI .i64) l33),.int .i64 x4.Lex.Kind,.str x4.Lex.Name,.int .i64 x4.Lex.From,.int .i64 x4.Lex.To,.isl false (List.map cGDeriv x4.Lex.Kids),.isl false (List.map cGNode x4.FS.Nodes)] 42),(2,.row [.int .i64 0,.nils] 24),(1,.row [.int .i64 z35,.isl false (List.map cGEdge l36)] 24),(0,.row (cGChart p1) 24)],6⟩) (Gh.trans (Gh.sub (l':=[(4,.ptr 1 0 0),(6,.ptr 2 0 0),(8,.ptr 3 0 0)]) ⟨rfl,rfl,rfl,trivial⟩) (Gh.fzS (l':=[(4,.ptr 1 0 0),(6,.ptr 2 0 0),(8,.ptr 3 0 0)]) (h':=[(4,.row [] 3),(3,.row [.int .i64 x4.From,.int .i64 x4.To,.int .i64 x4.Unary,.int .i64 x4.Kind,.str x4.Name,.isl false (List.map (cI .i64) l33),.int .i64 x4.Lex.Kind,.str x4.Lex.Name,.int .i64 x4.Lex.From,.int .i64 x4.Lex.To,.isl false (List.map cGDeriv x4.Lex.Kids),.isl false (List.map cGNode x4.FS.Nodes)] 42),(2,.row [.int .i64 0,.nils] 24),(1,.row [.int .i64 z35,.isl false (List.map cGEdge l36)] 24),(0,.row (cGChart p1) 24)]) 5 (.vec (List.map (cI .i64) l33).flatten 3 1 t34) 1 rfl (by simp) (by simp only [fzS,oneU,q11,q0o,q22,q17,q25,q1b,q1a,q19,q18,q12,q23,q24,q21,q26,q3o,junkT,qb8 (q27 .i64),q0m,q3i (show Nat.beq 1 5=false from rfl),q3h (show Nat.beq 1 5=false from rfl),q3g (show Nat.beq 1 5=false from rfl),q3i (show Nat.beq 2 5=false from rfl),q3h (show Nat.beq 2 5=false from rfl),q3g (show Nat.beq 2 5=false from rfl),q3i (show Nat.beq 3 5=false from rfl),q3h (show Nat.beq 3 5=false from rfl),q3g (show Nat.beq 3 5=false from rfl)]) (by simp only [fzH,fzB,ug,Nat.beq,cond_true,cond_false,oneU,q11,q0o,q22,q17,q25,q1b,q1a,q19,q18,q12,q23,q24,q21,q26,q3o,junkT,qb8 (q27 .i64),q0m,q3i (show Nat.beq 1 5=false from rfl),q3h (show Nat.beq 1 5=false from rfl),q3g (show Nat.beq 1 5=false from rfl),q3i (show Nat.beq 2 5=false from rfl),q3h (show Nat.beq 2 5=false from rfl),q3g (show Nat.beq 2 5=false from rfl),q3i (show Nat.beq 3 5=false from rfl),q3h (show Nat.beq 3 5=false from rfl),q3g (show Nat.beq 3 5=false from rfl)]))) (Nat.zero_le _) ?_
  refine st ?_
  obtain ⟨r37,h38,hF⟩:=q01 hF
  refine sr ?_
  refine RS.q (u:=.agg [.int .i64 z35,.isl false (List.map cGEdge l36)]) rfl (q0f und24 rfl (q00 inf24) rfl rfl rfl) (RS.q (u:=.agg [.int .i64 x4.From,.int .i64 x4.To,.int .i64 x4.Unary,.int .i64 x4.Kind,.str x4.Name,.isl false (List.map (cI .i64) l33),.int .i64 x4.Lex.Kind,.str x4.Lex.Name,.int .i64 x4.Lex.From,.int .i64 x4.Lex.To,.isl false (List.map cGDeriv x4.Lex.Kids),.isl false (List.map cGNode x4.FS.Nodes)]) rfl (q0f und42 rfl (q00 inf42) rfl rfl rfl) (RS.call (u:=.tup [.agg (cGChart r37.1),.int .i64 r37.2.1,.int .i64 r37.2.2]) (args:=[.agg [.int .i64 z35,.isl false (List.map cGEdge l36)],.agg [.int .i64 x4.From,.int .i64 x4.To,.int .i64 x4.Unary,.int .i64 x4.Kind,.str x4.Name,.isl false (List.map (cI .i64) l33),.int .i64 x4.Lex.Kind,.str x4.Lex.Name,.int .i64 x4.Lex.From,.int .i64 x4.Lex.To,.isl false (List.map cGDeriv x4.Lex.Kids),.isl false (List.map cGNode x4.FS.Nodes)]]) rfl (q0b rfl rfl fn14 hb14 rfl rfl) (q37 n (GChart.mk z35 l36) (GEdge.mk x4.From x4.To x4.Unary x4.Kind x4.Name l33 x4.Lex x4.FS) r37 h38 _) rfl rfl (RS.mv rfl rfl rfl rfl (RS.q rfl (q0z rfl rfl) (RS.q rfl (q0z rfl rfl) (RS.q rfl (q0z rfl rfl) (RS.opn (u:=.junk) (σ':=⟨[(4,.row [] 3),(3,.row [.int .i64 x4.From,.int .i64 x4.To,.int .i64 x4.Unary,.int .i64 x4.Kind,.str x4.Name,.isl false (List.map (cI .i64) l33),.int .i64 x4.Lex.Kind,.str x4.Lex.Name,.int .i64 x4.Lex.From,.int .i64 x4.Lex.To,.isl false (List.map cGDeriv x4.Lex.Kids),.isl false (List.map cGNode x4.FS.Nodes)] 42),(2,.row [.int .i64 0,.nils] 24),(1,.row (cGChart r37.1) 24),(0,.row (cGChart p1) 24)],6⟩) rfl (q0g (q00 inf24) rfl rfl rfl rfl rfl rfl rfl rfl) rfl ?_)))))))
  repeat refine RS.as rfl rfl rfl rfl ?_
  refine se ?_
  refine RS.q (u:=.agg (cGChart r37.1)) rfl (q0f und24 rfl (q00 inf24) rfl rfl rfl) (RS.mv rfl rfl rfl rfl (RS.opn (u:=.junk) (σ':=⟨[(4,.row [] 3),(3,.row [.int .i64 x4.From,.int .i64 x4.To,.int .i64 x4.Unary,.int .i64 x4.Kind,.str x4.Name,.isl false (List.map (cI .i64) l33),.int .i64 x4.Lex.Kind,.str x4.Lex.Name,.int .i64 x4.Lex.From,.int .i64 x4.Lex.To,.isl false (List.map cGDeriv x4.Lex.Kids),.isl false (List.map cGNode x4.FS.Nodes)] 42),(2,.row (cGChart r37.1) 24),(1,.row (cGChart r37.1) 24),(0,.row (cGChart p1) 24)],6⟩) rfl (q0g (q00 inf24) rfl rfl rfl rfl rfl rfl rfl rfl) rfl ?_))
  refine sd ?_
  refine WPU.ret ?_
  refine st ?_
  have hr:=Option.some.inj hF
  subst hr
  exact ⟨.inr rfl,[.agg (cGChart r37.1),.int .i64 r37.2.1],q9d (q0f und24 rfl (q00 inf24) rfl rfl rfl) (q0t rfl (q0q)),.tup [.agg (cGChart r37.1),.int .i64 r37.2.1],⟨[],0⟩,Nat.le_refl _,Gh.toR (.tup [.agg (cGChart r37.1),.int .i64 r37.2.1]) rfl,rfl,BU.h⟩
  rintro m1 _ _ ⟨z28,l29,t30,z31,l32,hF,rfl,rfl⟩
  rcases m1 with _ | m1
  cases hF
  unfold q2x at hF
  refine sr ?_
  refine RS.q rfl (q02 rfl rfl (q1i _ _ _) rfl) ?_
  refine sd ?_
  refine WPU.condS (t:=(decide (z28<(x4.Kids.length:Int)))) rfl (fun h39=>?_) (fun h39=>?_)
  replace hF:=q09 h39 hF
  refine st ?_
  refine WPU.skip ?_
  refine st ?_
  refine WPU.block ?_
  refine st ?_
  obtain ⟨x40,h41,hF⟩:=q01 hF
  refine sr ?_
  refine RS.q (u:=.iptr [.int .i64 x40]) rfl (q13 rfl rfl (q0n (cI .i64) und34 (q00 inf3) (q27 .i64) h41 rfl)) (RS.q (u:=.int .i64 x40) rfl (q1c und3 rfl rfl rfl) ?_)
  refine se ?_
  refine sd ?_
  obtain ⟨r42,h43,hF⟩:=q01 hF
  refine sr ?_
  refine RS.q (u:=.agg (cGChart p1)) rfl (q0f und24 rfl (q00 inf24) rfl rfl rfl) (RS.q (u:=.agg [.int .i64 z31,.isl false (List.map cGEdge l32)]) rfl (q0f und24 rfl (q00 inf24) rfl rfl rfl) (RS.mv rfl rfl rfl rfl (RS.call (u:=.tup [.agg (cGChart r42.1),.int .i64 r42.2]) (args:=[.agg (cGChart p1),.agg [.int .i64 z31,.isl false (List.map cGEdge l32)],.int .i64 x40]) rfl (q0b rfl rfl fn29 hb29 rfl rfl) (ihS p1 (GChart.mk z31 l32) x40 r42 h43 _) rfl rfl (RS.mv rfl rfl rfl rfl (RS.q rfl (q0z rfl rfl) (RS.q rfl (q0z rfl rfl) (RS.opn (u:=.junk) (σ':=⟨[(5,.vec (List.map (cI .i64) l29).flatten 3 1 t30),(4,.row [] 3),(3,.row (cGEdge x4) 42),(2,.row [.int .i64 0,.nils] 24),(1,.row (cGChart r42.1) 24),(0,.row (cGChart p1) 24)],6⟩) rfl (q0g (q00 inf24) rfl rfl rfl rfl rfl rfl rfl rfl) rfl ?_)))))))
  refine sd ?_
  obtain ⟨h44,hF⟩:=q0y hF
  refine sr ?_
  repeat refine RS.mv rfl rfl rfl rfl ?_
  refine RS.q (u:=.sl 6 0 1 1) (σ':=⟨[(6,.row [.int .i64 r42.2] 3),(5,.vec (List.map (cI .i64) l29).flatten 3 1 t30),(4,.row [] 3),(3,.row (cGEdge x4) 42),(2,.row [.int .i64 0,.nils] 24),(1,.row (cGChart r42.1) 24),(0,.row (cGChart p1) 24)],7⟩) rfl (q77 und34 inf3 rfl rfl rfl rfl rfl rfl rfl) (RS.q (u:=.vl 5 (t30+1) 0 ((l29++[r42.2]).length)) (σ':=⟨[(6,.row [.int .i64 r42.2] 3),(5,.vec (List.map (cI .i64) (l29++[r42.2])).flatten 3 1 (t30+1)),(4,.row [] 3),(3,.row (cGEdge x4) 42),(2,.row [.int .i64 0,.nils] 24),(1,.row (cGChart r42.1) 24),(0,.row (cGChart p1) 24)],7⟩) rfl (op_app rfl rfl rfl rfl (app_vl (cI .i64) ([r42.2]) und34 und34 inf3 rfl (q27 .i64) rfl (qau (cI .i64) [r42.2] rfl rfl rfl rfl) h44)) ?_)
  refine se ?_
  refine RS.q rfl (q02 rfl rfl (q32 _ _ _) rfl) (RS.mv rfl rfl rfl rfl ?_)
  refine sd ?_
  exact ⟨m1,_,_,Nat.lt_succ_self _,⟨(IntKind.i64.wrap (z28+1)),(l29++[r42.2]),(t30+1),r42.1.Words,r42.1.Edges,hF,rfl,rfl⟩,(Nat.zero_le _),Gh.toC (n1:=6) ⟨rfl,rfl,rfl,rfl,rfl,rfl,rfl,rfl,trivial⟩ rfl (Nat.zero_le _) (by simp)⟩
  replace hF:=q08 h39 hF
  refine st ?_
  refine WPU.exit ?_
  refine st ?_
  exact ⟨_,_,⟨l29,t30,z31,l32,hF,rfl,rfl⟩,(Nat.zero_le _),Gh.toC (n1:=6) ⟨rfl,rfl,rfl,rfl,trivial⟩ rfl (Nat.zero_le _) (by simp)⟩
theorem qai (n:Nat) (p1:GChart) (p2:GChart) (p3:Int) (r:GChart×Int) (hF:q1p n p1 p2 p3=some r) (σ:Sg):EvU Try.prog 29 [.agg (cGChart p1),.agg (cGChart p2),.int .i64 p3] σ (fun u σ'=>u = .tup [.agg (cGChart r.1),.int .i64 r.2]∧σ'=σ) :=
 EvU.pure1C (q7z n p1 p2 p3 r hF) σ
def q6k (n:Nat) (p1:List UInt8) (p2:Int) (p3:Int):Option (GEdge) :=
 some (GEdge.mk p2 p3 0 1 p1 [] (GDeriv.mk 0 p1 p2 p3 []) (GFS.mk []))
theorem law32_item_0 (n:Nat) (p1:List UInt8) (p2:Int) (p3:Int) (r:GEdge) (hF:q6k n p1 p2 p3=some r):EvU Try.prog 31 [.str p1,.int .i64 p2,.int .i64 p3] ⟨[],0⟩ (fun u _=>u = .agg (cGEdge r)∧Bel 0 u):=by
 unfold q6k at hF
 refine EvU.of_body Try.tb_ok fn31 rfl ?_
 refine WPU.ghost (tm':=fr 15 [(0,.str p1),(1,.int .i64 p2),(2,.int .i64 p3)]) (Gh.start (Nat.le_of_ble_eq_true rfl)) (Nat.zero_le _) ?_
 refine sr ?_
 refine RS.q (u:=.ptr 0 0 0) (σ':=⟨[(0,.row [.int .i64 0,.int .i64 0,.int .i64 0,.int .i64 0,.str [],.nils,.int .i64 0,.str [],.int .i64 0,.int .i64 0,.nils,.nils] 42)],1⟩) rfl (q1d inf42 rfl rfl) ?_
 refine se ?_
 repeat refine RS.mv rfl rfl rfl rfl ?_
 refine RS.q (u:=.agg [.int .i64 0,.str p1,.int .i64 p2,.int .i64 p3,.nils]) rfl (q80 bd37 rfl rfl rfl) (RS.q (u:=.agg [.int .i64 p2,.int .i64 p3,.int .i64 0,.int .i64 1,.str p1,.nils,.int .i64 0,.str p1,.int .i64 p2,.int .i64 p3,.nils,.nils]) rfl (q80 bd42 rfl rfl rfl) (RS.opn (u:=.junk) (σ':=⟨[(0,.row [.int .i64 p2,.int .i64 p3,.int .i64 0,.int .i64 1,.str p1,.nils,.int .i64 0,.str p1,.int .i64 p2,.int .i64 p3,.nils,.nils] 42)],1⟩) rfl (q0g (q00 inf42) rfl rfl rfl rfl rfl rfl rfl rfl) rfl ?_))
 refine sd ?_
 refine WPU.ret ?_
 refine st ?_
 have hr:=Option.some.inj hF
 subst hr
 exact ⟨.inr rfl,[.agg [.int .i64 p2,.int .i64 p3,.int .i64 0,.int .i64 1,.str p1,.nils,.int .i64 0,.str p1,.int .i64 p2,.int .i64 p3,.nils,.nils]],q9d (q0f und42 rfl (q00 inf42) rfl rfl rfl) (q0q),.agg [.int .i64 p2,.int .i64 p3,.int .i64 0,.int .i64 1,.str p1,.isl false [],.int .i64 0,.str p1,.int .i64 p2,.int .i64 p3,.isl false [],.isl false []],⟨[],0⟩,Nat.le_refl _,Gh.trans (Gh.wk (.cons (.agg (.cons (.refl _) (.cons (.refl _) (.cons (.refl _) (.cons (.refl _) (.cons (.refl _) (.cons (.nil false) (.cons (.refl _) (.cons (.refl _) (.cons (.refl _) (.cons (.refl _) (.cons (.nil false) (.cons (.nil false) .nil))))))))))))) .nil)) (Gh.toR (.agg [.int .i64 p2,.int .i64 p3,.int .i64 0,.int .i64 1,.str p1,.isl false [],.int .i64 0,.str p1,.int .i64 p2,.int .i64 p3,.isl false [],.isl false []]) rfl),rfl,BU.h⟩
theorem q7r (n:Nat) (p1:List UInt8) (p2:Int) (p3:Int) (r:GEdge) (hF:q6k n p1 p2 p3=some r) (σ:Sg):EvU Try.prog 31 [.str p1,.int .i64 p2,.int .i64 p3] σ (fun u σ'=>u = .agg (cGEdge r)∧σ'=σ) :=
 EvU.pure1C (law32_item_0 n p1 p2 p3 r hF) σ
def q6a (p1:Int) (s10:List UInt8):Option ((List UInt8)) :=
 cond (decide (p1<0))
  (needO (([45]).length+s10.length≤9223372036854775807) (
  some ([45]++s10)))
  (some s10)
def q4r (p1:Int):Nat→Int→(List UInt8)→Option ((List UInt8))
 | 0,_,_=>none
 | m2+1,z8,s9 =>
  cond (decide (z8 > 0))
   (needO (([UInt8.ofNat ((IntKind.u8.wrap (IntKind.u64.wrap (48+(z8.tmod 10))))).toNat]).length+s9.length≤9223372036854775807) (
   (q4r p1 m2) (IntKind.u64.wrap (z8.tdiv 10)) ([UInt8.ofNat ((IntKind.u8.wrap (IntKind.u64.wrap (48+(z8.tmod 10))))).toNat]++s9)))
   (q6a p1 s9)
def q4q (p1:Int) (n:Nat) (z4:Int):Option ((List UInt8)) :=
 q4r p1 n z4 []
def q5a (n:Nat) (p1:Int):Option ((List UInt8)) :=
 cond (p1 == 0)
  (some ([48]))
  (cond (decide (p1<0))
   (q4q p1 n (IntKind.u64.wrap (0 - (IntKind.u64.wrap p1))))
   (q4q p1 n (IntKind.u64.wrap p1)))
theorem qcd (n:Nat) (p1:Int) (r:(List UInt8)) (hF:q5a n p1=some r):EvU Try.prog 49 [.int .i64 p1] ⟨[],0⟩ (fun u _=>u = .str r∧Bel 0 u):=by
 unfold q5a at hF
 refine EvU.of_body Try.tb_ok fn49 rfl ?_
 refine WPU.ghost (tm':=fr 30 [(0,.int .i64 p1)]) (Gh.start (Nat.le_of_ble_eq_true rfl)) (Nat.zero_le _) ?_
 refine sr ?_
 refine se ?_
 refine RS.q rfl (q02 rfl rfl (q0e _ _ _) rfl) ?_
 refine sd ?_
 refine WPU.condS (t:=(p1 == 0)) rfl (fun h2=>?_) (fun h2=>?_)
 replace hF:=q09 h2 hF
 refine sr ?_
 refine sd ?_
 refine WPU.ret ?_
 refine st ?_
 have hr:=Option.some.inj hF
 subst hr
 exact ⟨.inr rfl,[.str ([48])],q0t rfl (q0q),.str ([48]),⟨[],0⟩,Nat.le_refl _,Gh.toR (.str ([48])) rfl,rfl,BU.h⟩
 replace hF:=q08 h2 hF
 refine st ?_
 refine WPU.skip ?_
 refine sr ?_
 refine RS.q (u:=.int .u64 (IntKind.u64.wrap p1)) rfl (qca rfl rfl (by simp only [convX,und3,und80]<;>rfl) rfl) ?_
 refine se ?_
 refine RS.q rfl (q02 rfl rfl (q1i _ _ _) rfl) ?_
 refine sd ?_
 refine WPU.joinK (fun tm σ=>∃ z4:Int,q4q p1 n z4=some r∧tm=fr 30 [(0,.int .i64 p1),(3,.int .u64 z4)]∧σ=⟨[],0⟩) ?_ ?_
 rintro _ _ ⟨z4,hF,rfl,rfl⟩
 unfold q4q at hF
 refine sr ?_
 refine sd ?_
 refine WPU.ghost (tm':=fr 30 [(0,.int .i64 p1),(3,.int .u64 z4),(4,.str [])]) (Gh.sub ⟨rfl,rfl,rfl,trivial⟩) (Nat.zero_le _) ?_
 refine WPU.loopK (fun m tm σ=>∃ z8:Int,∃ s9:List UInt8,q4r p1 m z8 s9=some r∧tm=fr 30 [(0,.int .i64 p1),(3,.int .u64 z8),(4,.str s9)]∧σ=⟨[],0⟩) (fun tm σ=>∃ s10:List UInt8,q6a p1 s10=some r∧tm=fr 30 [(0,.int .i64 p1),(4,.str s10)]∧σ=⟨[],0⟩) n ⟨z4,[],hF,rfl,rfl⟩ ?_ ?_
 rintro _ _ ⟨s10,hF,rfl,rfl⟩
 unfold q6a at hF
 refine sr ?_
 refine RS.q rfl (q02 rfl rfl (q1i _ _ _) rfl) ?_
 refine sd ?_
 refine WPU.condS (t:=(decide (p1<0))) rfl (fun h11=>?_) (fun h11=>?_)
 replace hF:=q09 h11 hF
 refine st ?_
 obtain ⟨h12,hF⟩:=q0y hF
 refine sr ?_
 refine RS.q (u:=.str ([45]++s10)) rfl (q2w rfl rfl (q91 h12) rfl) ?_
 refine sd ?_
 refine WPU.ret ?_
 refine st ?_
 have hr:=Option.some.inj hF
 subst hr
 exact ⟨.inr rfl,[.str ([45]++s10)],q0t rfl (q0q),.str ([45]++s10),⟨[],0⟩,Nat.le_refl _,Gh.toR (.str ([45]++s10)) rfl,rfl,BU.h⟩
 replace hF:=q08 h11 hF
 refine st ?_
 refine WPU.skip ?_
 refine sr ?_
 refine sd ?_
 refine WPU.ret ?_
 refine st ?_
 have hr:=Option.some.inj hF
 subst hr
 exact ⟨.inr rfl,[.str s10],q0t rfl (q0q),.str s10,⟨[],0⟩,Nat.le_refl _,Gh.toR (.str s10) rfl,rfl,BU.h⟩
 rintro m2 _ _ ⟨z8,s9,hF,rfl,rfl⟩
 rcases m2 with _ | m2
 cases hF
 unfold q4r at hF
 refine sr ?_
 refine RS.q rfl (q02 rfl rfl (q74 _ _ _) rfl) ?_
 refine sd ?_
 refine WPU.condS (t:=(decide (z8 > 0))) rfl (fun h13=>?_) (fun h13=>?_)
 replace hF:=q09 h13 hF
 refine st ?_
 refine WPU.skip ?_
 refine st ?_
 refine WPU.block ?_
 refine st ?_
 obtain ⟨h15,hF⟩:=q0y hF
 refine sr ?_
 refine RS.q rfl (q02 rfl rfl (ix_rem _ (by decide)) rfl) ?_
 refine RS.q rfl (q02 rfl rfl (q32 _ _ _) rfl) ?_
 refine RS.q (u:=.int .u8 (IntKind.u8.wrap (IntKind.u64.wrap (48+(z8.tmod 10))))) rfl (qca rfl rfl (by simp only [convX,und80,und5]<;>rfl) rfl) ?_
 refine RS.q (u:=.sl 0 0 1 1) (σ':=⟨[(0,.row [.int .u8 (IntKind.u8.wrap (IntKind.u64.wrap (48+(z8.tmod 10))))] 5)],1⟩) rfl (q77 und81 inf5 rfl rfl rfl rfl rfl rfl rfl) (RS.step (u:=.str ([UInt8.ofNat ((IntKind.u8.wrap (IntKind.u64.wrap (48+(z8.tmod 10))))).toNat])) rfl (StepU.bstr (ns:=[(IntKind.u8.wrap (IntKind.u64.wrap (48+(z8.tmod 10))))]) Try.tb_ok rfl und81 und5 und9 (q38 rfl) rfl rfl rfl) rfl rfl (RS.mv rfl rfl rfl rfl (RS.q (u:=.str ([UInt8.ofNat ((IntKind.u8.wrap (IntKind.u64.wrap (48+(z8.tmod 10))))).toNat]++s9)) rfl (q2w rfl rfl (q91 h15) rfl) ?_)))
 refine se ?_
 refine RS.q rfl (q02 rfl rfl (ix_quo _ (by decide)) rfl) ?_
 refine sd ?_
 exact ⟨m2,_,_,Nat.lt_succ_self _,⟨(IntKind.u64.wrap (z8.tdiv 10)),([UInt8.ofNat ((IntKind.u8.wrap (IntKind.u64.wrap (48+(z8.tmod 10))))).toNat]++s9),hF,rfl,rfl⟩,(Nat.zero_le _),Gh.toC (n1:=0) ⟨rfl,rfl,rfl,trivial⟩ rfl (Nat.zero_le _) (by simp)⟩
 replace hF:=q08 h13 hF
 refine st ?_
 refine WPU.exit ?_
 refine st ?_
 exact ⟨_,_,⟨s9,hF,rfl,rfl⟩,(Nat.zero_le _),Gh.toC (n1:=0) ⟨rfl,rfl,trivial⟩ rfl (Nat.zero_le _) (by simp)⟩
 refine WPU.condS (t:=(decide (p1<0))) rfl (fun h3=>?_) (fun h3=>?_)
 replace hF:=q09 h3 hF
 refine sr ?_
 refine RS.q (u:=.int .u64 (IntKind.u64.wrap (0 - (IntKind.u64.wrap p1)))) rfl (op_un rfl rfl rfl rfl) ?_
 refine sd ?_
 exact ⟨_,_,⟨(IntKind.u64.wrap (0 - (IntKind.u64.wrap p1))),hF,rfl,rfl⟩,(Nat.zero_le _),Gh.toC (n1:=0) ⟨rfl,rfl,trivial⟩ rfl (Nat.zero_le _) (by simp)⟩
 replace hF:=q08 h3 hF
 refine st ?_
 refine WPU.skip ?_
 refine st ?_
 exact ⟨_,_,⟨(IntKind.u64.wrap p1),hF,rfl,rfl⟩,(Nat.zero_le _),Gh.toC (n1:=0) ⟨rfl,rfl,trivial⟩ rfl (Nat.zero_le _) (by simp)⟩
theorem q81 (n:Nat) (p1:Int) (r:(List UInt8)) (hF:q5a n p1=some r) (σ:Sg):EvU Try.prog 49 [.int .i64 p1] σ (fun u σ'=>u = .str r∧σ'=σ) :=
 EvU.pure1C (qcd n p1 r hF) σ
def q7f  (s22:List UInt8):Option ((List UInt8)) :=
 needO (s22.length+([41]).length≤9223372036854775807) (
 some (s22++[41]))
def q5v (p1:GDeriv) (self:GDeriv→Option ((List UInt8))):Nat→(List UInt8)→Int→Option ((List UInt8))
 | 0,_,_=>none
 | m2+1,s20,z21 =>
  cond (decide (z21<(p1.Kids.length:Int)))
   (needO (s20.length+([32]).length≤9223372036854775807) (
   bindO (idxO p1.Kids z21) fun x26 =>
   bindO (self x26) fun r28 =>
   needO ((s20++[32]).length+r28.length≤9223372036854775807) (
   (q5v p1 self m2) ((s20++[32])++r28) (IntKind.i64.wrap (z21+1)))))
   (q7f s20)
def q5u (p1:GDeriv) (n:Nat) (self:GDeriv→Option ((List UInt8))) (s3:List UInt8):Option ((List UInt8)) :=
 needO (s3.length+p1.Name.length≤9223372036854775807) (
 needO ((s3++p1.Name).length+([32]).length≤9223372036854775807) (
 bindO (q5a n p1.From) fun r6 =>
 needO (((s3++p1.Name)++[32]).length+r6.length≤9223372036854775807) (
 needO ((((s3++p1.Name)++[32])++r6).length+([32]).length≤9223372036854775807) (
 bindO (q5a n p1.To) fun r10 =>
 needO (((((s3++p1.Name)++[32])++r6)++[32]).length+r10.length≤9223372036854775807) (
 q5v p1 self n (((((s3++p1.Name)++[32])++r6)++[32])++r10) 0)))))
def q9w (n:Nat) (self:GDeriv→Option ((List UInt8))) (p1:GDeriv):Option ((List UInt8)) :=
 cond (p1.Kind == 1)
  (q5u p1 n self ([40,43]))
  (q5u p1 n self ([40]))
def q42:Nat→GDeriv→Option ((List UInt8))
 | 0,_=>none
 | n+1,p1=>q9w n (q42 n) p1
theorem q9v:∀ (n:Nat) (p1:GDeriv) (r:(List UInt8)),q42 n p1=some r→EvU Try.prog 32 [.agg (xGDeriv p1)] ⟨[],0⟩ (fun u _=>u = .str r∧Bel 0 u)
 | 0,p1,r,hF=>by cases hF
 | n+1,p1,r,hF=>by
  have ih:=q9v n
  have ihS:∀ (p1:GDeriv) (r:(List UInt8)),q42 n p1=some r→∀ σ,EvU Try.prog 32 [.agg (xGDeriv p1)] σ (fun u σ'=>u = .str r∧σ'=σ):=fun p1 r h σ=>EvU.pure1C (ih p1 r h) σ
  unfold q42 q9w at hF
  refine EvU.of_body Try.tb_ok fn32 rfl ?_
  refine WPU.ghost (tm':=fr 40 [(0,.agg (xGDeriv p1))]) (Gh.start (Nat.le_of_ble_eq_true rfl)) (Nat.zero_le _) ?_
  refine sr ?_
  refine RS.q (u:=.ptr 0 0 0) (σ':=⟨[(0,.row (xGDeriv p1) 37)],1⟩) rfl (q2v rfl rfl rfl) ?_
  refine se ?_
  refine se ?_
  refine RS.q (u:=.ptr 0 0 0) rfl (q06 und37 rfl (q00 inf3) rfl rfl rfl) (RS.q (u:=.int .i64 p1.Kind) rfl (q05 und3 rfl rfl rfl rfl) (RS.q rfl (q02 rfl rfl (q0e _ _ _) rfl) ?_))
  refine sd ?_
  refine WPU.joinK (fun tm σ=>∃ s3:List UInt8,q5u p1 n (q42 n) s3=some r∧tm=fr 40 [(1,.ptr 0 0 0),(3,.str s3)]∧σ=⟨[(0,.row (xGDeriv p1) 37)],1⟩) ?_ ?_
  rintro _ _ ⟨s3,hF,rfl,rfl⟩
  unfold q5u at hF
  refine st ?_
  obtain ⟨h4,hF⟩:=q0y hF
  obtain ⟨h5,hF⟩:=q0y hF
  obtain ⟨r6,h7,hF⟩:=q01 hF
  obtain ⟨h8,hF⟩:=q0y hF
  obtain ⟨h9,hF⟩:=q0y hF
  obtain ⟨r10,h11,hF⟩:=q01 hF
  obtain ⟨h12,hF⟩:=q0y hF
  refine WPU.drawE Try.tb_ok [] (by kernel_rfl) ?_
  refine RD.mv rfl rfl rfl rfl (RD.q (u:=.ptr 0 0 1) rfl (q06 und37 rfl (q00 inf9) rfl rfl rfl) (RD.q (u:=.str p1.Name) rfl (q05 und9 rfl rfl rfl rfl) (RD.q (u:=.str (s3++p1.Name)) rfl (q2w rfl rfl (q91 h4) rfl) (RD.q (u:=.str ((s3++p1.Name)++[32])) rfl (q2w rfl rfl (q91 h5) rfl) (RD.q (u:=.ptr 0 0 2) rfl (q06 und37 rfl (q00 inf3) rfl rfl rfl) (RD.q (u:=.int .i64 p1.From) rfl (q05 und3 rfl rfl rfl rfl) (RD.free (u:=.str r6) (args:=[.int .i64 p1.From]) rfl (q0b rfl rfl fn49 hb49 rfl rfl) (fun s=>q81 n p1.From r6 h7 s) rfl rfl ?_)))))))
  refine RD.q (u:=.str (((s3++p1.Name)++[32])++r6)) rfl (q2w rfl rfl (q91 h8) rfl) (RD.q (u:=.str ((((s3++p1.Name)++[32])++r6)++[32])) rfl (q2w rfl rfl (q91 h9) rfl) (RD.q (u:=.ptr 0 0 3) rfl (q06 und37 rfl (q00 inf3) rfl rfl rfl) (RD.q (u:=.int .i64 p1.To) rfl (q05 und3 rfl rfl rfl rfl) (RD.free (u:=.str r10) (args:=[.int .i64 p1.To]) rfl (q0b rfl rfl fn49 hb49 rfl rfl) (fun s=>q81 n p1.To r10 h11 s) rfl rfl (RD.q (u:=.str (((((s3++p1.Name)++[32])++r6)++[32])++r10)) rfl (q2w rfl rfl (q91 h12) rfl) (RD.as rfl rfl rfl rfl ?_))))))
  refine RD.done ⟨by kernel_rfl,trivial,?_⟩
  refine sr ?_
  refine sd ?_
  refine WPU.ghost (tm':=fr 40 [(1,.ptr 0 0 0),(3,.str (((((s3++p1.Name)++[32])++r6)++[32])++r10)),(4,.int .i64 0)]) (Gh.sub ⟨rfl,rfl,rfl,trivial⟩) (Nat.zero_le _) ?_
  refine WPU.loopK (fun m tm σ=>∃ s20:List UInt8,∃ z21:Int,q5v p1 (q42 n) m s20 z21=some r∧tm=fr 40 [(1,.ptr 0 0 0),(3,.str s20),(4,.int .i64 z21)]∧σ=⟨[(0,.row (xGDeriv p1) 37)],1⟩) (fun tm σ=>∃ s22:List UInt8,q7f s22=some r∧tm=fr 40 [(3,.str s22)]∧σ=⟨[(0,.row (xGDeriv p1) 37)],1⟩) n ⟨(((((s3++p1.Name)++[32])++r6)++[32])++r10),0,hF,rfl,rfl⟩ ?_ ?_
  rintro _ _ ⟨s22,hF,rfl,rfl⟩
  unfold q7f at hF
  refine st ?_
  obtain ⟨h23,hF⟩:=q0y hF
  refine sr ?_
  refine RS.q (u:=.str (s22++[41])) rfl (q2w rfl rfl (q91 h23) rfl) ?_
  refine sd ?_
  refine WPU.ret ?_
  refine st ?_
  have hr:=Option.some.inj hF
  subst hr
  exact ⟨.inr rfl,[.str (s22++[41])],q0t rfl (q0q),.str (s22++[41]),⟨[],0⟩,Nat.le_refl _,Gh.toR (.str (s22++[41])) rfl,rfl,BU.h⟩
  rintro m2 _ _ ⟨s20,z21,hF,rfl,rfl⟩
  rcases m2 with _ | m2
  cases hF
  unfold q5v at hF
  refine sr ?_
  refine RS.q (u:=.ptr 0 0 4) rfl (q06 und37 rfl (q00 inf35) rfl rfl rfl) (RS.q (u:=.isl false (List.map cGDeriv p1.Kids)) rfl (q05 und35 rfl rfl rfl rfl) (RS.q rfl (q0i rfl rfl rfl (q0d cGDeriv und35)) (RS.q rfl (q02 rfl rfl (q1i _ _ _) rfl) ?_)))
  refine sd ?_
  refine WPU.condS (t:=(decide (z21<(p1.Kids.length:Int)))) rfl (fun h24=>?_) (fun h24=>?_)
  replace hF:=q09 h24 hF
  refine st ?_
  refine WPU.skip ?_
  refine st ?_
  refine WPU.block ?_
  refine st ?_
  obtain ⟨h25,hF⟩:=q0y hF
  obtain ⟨x26,h27,hF⟩:=q01 hF
  obtain ⟨r28,h29,hF⟩:=q01 hF
  obtain ⟨h30,hF⟩:=q0y hF
  refine sr ?_
  refine RS.q (u:=.str (s20++[32])) rfl (q2w rfl rfl (q91 h25) rfl) (RS.q (u:=.ptr 0 0 4) rfl (q06 und37 rfl (q00 inf35) rfl rfl rfl) (RS.q (u:=.isl false (List.map cGDeriv p1.Kids)) rfl (q05 und35 rfl rfl rfl rfl) (RS.mv rfl rfl rfl rfl (RS.q (u:=.iptr (xGDeriv x26)) rfl (q13 rfl rfl (q0n cGDeriv und35 (q00 inf37) q0x h27 (q1f x26))) (RS.q (u:=.agg (xGDeriv x26)) rfl (q2u und37 rfl (q00 inf37) rfl rfl) (RS.call (u:=.str r28) (args:=[.agg (xGDeriv x26)]) rfl (q0b rfl rfl fn32 hb32 rfl rfl) (ihS x26 r28 h29 _) rfl rfl (RS.q (u:=.str ((s20++[32])++r28)) rfl (q2w rfl rfl (q91 h30) rfl) ?_)))))))
  refine se ?_
  refine RS.q rfl (q02 rfl rfl (q32 _ _ _) rfl) ?_
  refine sd ?_
  exact ⟨m2,_,_,Nat.lt_succ_self _,⟨((s20++[32])++r28),(IntKind.i64.wrap (z21+1)),hF,rfl,rfl⟩,(Nat.zero_le _),Gh.toC (n1:=1) ⟨rfl,rfl,rfl,trivial⟩ rfl (Nat.zero_le _) (by simp)⟩
  replace hF:=q08 h24 hF
  refine st ?_
  refine WPU.exit ?_
  refine st ?_
  exact ⟨_,_,⟨s20,hF,rfl,rfl⟩,(Nat.zero_le _),Gh.toC (n1:=1) ⟨rfl,trivial⟩ rfl (Nat.zero_le _) (by simp)⟩
  refine WPU.condS (t:=(p1.Kind == 1)) rfl (fun h2=>?_) (fun h2=>?_)
  replace hF:=q09 h2 hF
  refine sr ?_
  refine sd ?_
  exact ⟨_,_,⟨[40,43],hF,rfl,rfl⟩,(Nat.zero_le _),Gh.toC (n1:=1) ⟨rfl,rfl,trivial⟩ rfl (Nat.zero_le _) (by simp)⟩
  replace hF:=q08 h2 hF
  refine st ?_
  refine WPU.skip ?_
  refine st ?_
  exact ⟨_,_,⟨[40],hF,rfl,rfl⟩,(Nat.zero_le _),Gh.toC (n1:=1) ⟨rfl,rfl,trivial⟩ rfl (Nat.zero_le _) (by simp)⟩
theorem q8y (n:Nat) (p1:GDeriv) (r:(List UInt8)) (hF:q42 n p1=some r) (σ:Sg):EvU Try.prog 32 [.agg (xGDeriv p1)] σ (fun u σ'=>u = .str r∧σ'=σ) :=
 EvU.pure1C (q9v n p1 r hF) σ
end Go.Proofs
end
