/-
  Texts of the walk: C1.
-/
import Derived.Test.YtafbldphahfemaaP11
section
namespace Go.Proofs
open Go Go.Rx Go.Vx Try
set_option maxRecDepth 10000
set_option linter.unusedSimpArgs false
set_option linter.unusedVariables false
theorem q78 (n:Nat) (p1:List Int) (p2:List Int) (r:Bool) (hF:q2n n p1 p2=some r) (σ:Sg):EvU Try.prog 36 [.isl false (List.map (cI .i64) p1),.isl false (List.map (cI .i64) p2)] σ (fun u σ'=>u = .bool r∧σ'=σ) :=
 EvU.pure1C (qal n p1 p2 r hF) σ
def q7f (p1:GChart) (p2:GEdge)  : Option (GChart×Int×Int) :=
 bindO (cutF p1.Edges (p1.Edges.length:Int)) fun l34 =>
 needO ((l34.length+1)*160≤140737488355328∧l34.length+1≤140737488355328) (
 some ((GChart.mk p1.Words (l34++[p2])),(p1.Edges.length:Int),0))
def q41 (p1:GChart) (p2:GEdge) (n:Nat):Nat→Int→Option (GChart×Int×Int)
 | 0,_=>none
 | m1+1,z33 =>
  cond (decide (z33<(p1.Edges.length:Int)))
   (bindO (idxO p1.Edges z33) fun x38 =>
   bindO (cond (x38.Kind != p2.Kind)
    (some true)
    (cond (!bytesEq x38.Name p2.Name)
     (some true)
     (cond (x38.From != p2.From)
      (some true)
      (some (x38.To != p2.To))))) fun b43 =>
   cond b43
    ((q41 p1 p2 n m1) (IntKind.i64.wrap (z33+1)))
    (bindO (cond (p2.Kind == 1)
     (bindO (q28 n x38.Lex p2.Lex) fun r47 =>
     cond (r47 == 0)
      (some true)
      (cond (p2.Kind == 2)
       (bindO (q2n n x38.Kids p2.Kids) fun r51 =>
       some r51)
       (some false)))
     (cond (p2.Kind == 2)
      (bindO (q2n n x38.Kids p2.Kids) fun r54 =>
      some r54)
      (some false))) fun b56 =>
    cond b56
     (some (p1,z33,4))
     ((q41 p1 p2 n m1) (IntKind.i64.wrap (z33+1)))))
   (q7f p1 p2)
def q3f (n:Nat) (p1:GChart) (p2:GEdge):Option (GChart×Int×Int) :=
 bindO (cond (decide (p2.From<0))
  (some true)
  (cond (decide (p2.From ≥ p2.To))
   (some true)
   (some (decide (p2.To > p1.Words))))) fun b5 =>
 cond b5
  (some (p1,0,2))
  (bindO (cond (p2.Kind != 1)
   (some (p2.Kind != 2))
   (some false)) fun b9 =>
  cond b9
   (some (p1,0,14))
   (bindO (q54 n p1 p2) fun r12 =>
   cond (!r12)
    (some (p1,0,13))
    (q41 p1 p2 n n 0)))
theorem chart_Add_0 (n:Nat) (p1:GChart) (p2:GEdge) (r:GChart×Int×Int) (hF:q3f n p1 p2=some r):EvU Try.prog 14 [.agg (cGChart p1),.agg (cGEdge p2)] ⟨[],0⟩ (fun u _=>u = .tup [.agg (cGChart r.1),.int .i64 r.2.1,.int .i64 r.2.2]∧Bel 0 u):=by
 unfold q3f at hF
 refine EvU.of_body Try.tb_ok fn14 rfl ?_
 refine WPU.ghost (tm':=fr 117 [(0,.agg (cGChart p1)),(1,.agg (cGEdge p2))]) (Gh.start (Nat.le_of_ble_eq_true rfl)) (Nat.zero_le _) ?_
 refine sr ?_
 refine RS.q (u:=.ptr 0 0 0) (σ':=⟨[(0,.row (cGChart p1) 24)],1⟩) rfl (q20 rfl rfl rfl) (RS.q (u:=.ptr 1 0 0) (σ':=⟨[(1,.row (cGEdge p2) 42),(0,.row (cGChart p1) 24)],2⟩) rfl (q20 rfl rfl rfl) (RS.q (u:=.ptr 2 0 0) (σ':=⟨[(2,.row [.int .i64 0,.nils] 24),(1,.row (cGEdge p2) 42),(0,.row (cGChart p1) 24)],3⟩) rfl (q0w inf24 rfl rfl) ?_))
 repeat refine RS.as rfl rfl rfl rfl ?_
 refine sd ?_
 obtain ⟨b5,h6,hF⟩:=q01 hF
 refine WPU.joinK (fun tm σ=>tm=fr 117 [(2,.ptr 0 0 0),(3,.ptr 1 0 0),(4,.ptr 2 0 0),(26,.bool b5)]∧σ=⟨[(2,.row [.int .i64 0,.nils] 24),(1,.row (cGEdge p2) 42),(0,.row (cGChart p1) 24)],3⟩) ?_ ?_
 rintro _ _ ⟨rfl,rfl⟩
 refine st ?_
 refine WPU.condS (t:=b5) rfl (fun h7=>?_) (fun h7=>?_)
 replace hF:=q08 h7 hF
 refine sr ?_
 refine RS.q (u:=.agg (cGChart p1)) rfl (q0i und24 rfl (q00 inf24) rfl rfl rfl) (RS.opn (u:=.junk) (σ':=⟨[(2,.row (cGChart p1) 24),(1,.row (cGEdge p2) 42),(0,.row (cGChart p1) 24)],3⟩) rfl (q0g (q00 inf24) rfl rfl rfl rfl rfl rfl rfl rfl) rfl ?_)
 repeat refine RS.as rfl rfl rfl rfl ?_
 refine sd ?_
 refine WPU.ret ?_
 refine st ?_
 have hr:=Option.some.inj hF
 subst hr
 exact ⟨.inr rfl,[.agg (cGChart p1),.int .i64 0,.int .i64 2],q6i (q0i und24 rfl (q00 inf24) rfl rfl rfl) (q0r rfl (q0r rfl (q0o))),.tup [.agg (cGChart p1),.int .i64 0,.int .i64 2],⟨[],0⟩,Nat.le_refl _,Gh.toR (.tup [.agg (cGChart p1),.int .i64 0,.int .i64 2]) rfl,rfl,BU.h⟩
 replace hF:=q07 h7 hF
 refine st ?_
 refine WPU.skip ?_
 refine st ?_
 obtain ⟨b9,h10,hF⟩:=q01 hF
 refine WPU.joinK (fun tm σ=>tm=fr 117 [(2,.ptr 0 0 0),(3,.ptr 1 0 0),(4,.ptr 2 0 0),(35,.bool b9)]∧σ=⟨[(2,.row [.int .i64 0,.nils] 24),(1,.row (cGEdge p2) 42),(0,.row (cGChart p1) 24)],3⟩) ?_ ?_
 rintro _ _ ⟨rfl,rfl⟩
 refine st ?_
 refine WPU.condS (t:=b9) rfl (fun h11=>?_) (fun h11=>?_)
 replace hF:=q08 h11 hF
 refine sr ?_
 refine RS.q (u:=.agg (cGChart p1)) rfl (q0i und24 rfl (q00 inf24) rfl rfl rfl) (RS.opn (u:=.junk) (σ':=⟨[(2,.row (cGChart p1) 24),(1,.row (cGEdge p2) 42),(0,.row (cGChart p1) 24)],3⟩) rfl (q0g (q00 inf24) rfl rfl rfl rfl rfl rfl rfl rfl) rfl ?_)
 repeat refine RS.as rfl rfl rfl rfl ?_
 refine sd ?_
 refine WPU.ret ?_
 refine st ?_
 have hr:=Option.some.inj hF
 subst hr
 exact ⟨.inr rfl,[.agg (cGChart p1),.int .i64 0,.int .i64 14],q6i (q0i und24 rfl (q00 inf24) rfl rfl rfl) (q0r rfl (q0r rfl (q0o))),.tup [.agg (cGChart p1),.int .i64 0,.int .i64 14],⟨[],0⟩,Nat.le_refl _,Gh.toR (.tup [.agg (cGChart p1),.int .i64 0,.int .i64 14]) rfl,rfl,BU.h⟩
 replace hF:=q07 h11 hF
 refine st ?_
 refine WPU.skip ?_
 refine st ?_
 obtain ⟨r12,h13,hF⟩:=q01 hF
 refine sr ?_
 refine RS.q (u:=.agg (cGChart p1)) rfl (q0i und24 rfl (q00 inf24) rfl rfl rfl) (RS.q (u:=.agg (cGEdge p2)) rfl (q0i und42 rfl (q00 inf42) rfl rfl rfl) (RS.call (u:=.bool r12) (args:=[.agg (cGChart p1),.agg (cGEdge p2)]) rfl (q0b rfl rfl fn34 hb34 rfl rfl) (qcd n p1 p2 r12 h13 _) rfl rfl (RS.q (u:=.bool (!r12)) rfl (qcn rfl rfl rfl rfl) ?_)))
 refine sd ?_
 refine WPU.condS (t:=(!r12)) rfl (fun h14=>?_) (fun h14=>?_)
 replace hF:=q08 h14 hF
 refine sr ?_
 refine RS.q (u:=.agg (cGChart p1)) rfl (q0i und24 rfl (q00 inf24) rfl rfl rfl) (RS.opn (u:=.junk) (σ':=⟨[(2,.row (cGChart p1) 24),(1,.row (cGEdge p2) 42),(0,.row (cGChart p1) 24)],3⟩) rfl (q0g (q00 inf24) rfl rfl rfl rfl rfl rfl rfl rfl) rfl ?_)
 repeat refine RS.as rfl rfl rfl rfl ?_
 refine sd ?_
 refine WPU.ret ?_
 refine st ?_
 have hr:=Option.some.inj hF
 subst hr
 exact ⟨.inr rfl,[.agg (cGChart p1),.int .i64 0,.int .i64 13],q6i (q0i und24 rfl (q00 inf24) rfl rfl rfl) (q0r rfl (q0r rfl (q0o))),.tup [.agg (cGChart p1),.int .i64 0,.int .i64 13],⟨[],0⟩,Nat.le_refl _,Gh.toR (.tup [.agg (cGChart p1),.int .i64 0,.int .i64 13]) rfl,rfl,BU.h⟩
 replace hF:=q07 h14 hF
 refine st ?_
 refine WPU.skip ?_
 refine sr ?_
 refine RS.q (u:=.ptr 0 0 1) rfl (q06 und24 rfl (q00 inf22) rfl rfl rfl) (RS.q (u:=.isl false (List.map cGEdge p1.Edges)) rfl (q03 und22 rfl rfl rfl rfl) (RS.q rfl (q0j rfl rfl rfl (q0a cGEdge und22)) (RS.mv rfl rfl rfl rfl ?_)))
 refine sd ?_
 refine WPU.ghost (tm':=fr 117 [(2,.ptr 0 0 0),(3,.ptr 1 0 0),(4,.ptr 2 0 0),(43,.isl false (List.map cGEdge p1.Edges)),(44,.int .i64 (p1.Edges.length:Int)),(45,.int .i64 0)]) (Gh.sub ⟨rfl,rfl,rfl,rfl,rfl,rfl,trivial⟩) (Nat.zero_le _) ?_
 refine WPU.loopK (fun m tm σ=>∃ z33:Int,q41 p1 p2 n m z33=some r∧tm=fr 117 [(2,.ptr 0 0 0),(3,.ptr 1 0 0),(4,.ptr 2 0 0),(43,.isl false (List.map cGEdge p1.Edges)),(44,.int .i64 (p1.Edges.length:Int)),(45,.int .i64 z33)]∧σ=⟨[(2,.row [.int .i64 0,.nils] 24),(1,.row (cGEdge p2) 42),(0,.row (cGChart p1) 24)],3⟩) (fun tm σ=>q7f p1 p2=some r∧tm=fr 117 [(2,.ptr 0 0 0),(3,.ptr 1 0 0),(4,.ptr 2 0 0)]∧σ=⟨[(2,.row [.int .i64 0,.nils] 24),(1,.row (cGEdge p2) 42),(0,.row (cGChart p1) 24)],3⟩) n ⟨0,hF,rfl,rfl⟩ ?_ ?_
 rintro _ _ ⟨hF,rfl,rfl⟩
 unfold q7f at hF
 refine sr ?_
 refine RS.q (u:=.ptr 0 0 1) rfl (q06 und24 rfl (q00 inf22) rfl rfl rfl) (RS.q (u:=.isl false (List.map cGEdge p1.Edges)) rfl (q03 und22 rfl rfl rfl rfl) (RS.q rfl (q0j rfl rfl rfl (q0a cGEdge und22)) ?_))
 refine sd ?_
 obtain ⟨l34,h35,hF⟩:=q01 hF
 obtain ⟨h36,hF⟩:=q0u hF
 refine WPU.drawE Try.tb_ok [(0,8),(0,9),(1,8),(1,9),(2,8),(3,8),(4,8),(5,8),(6,8),(11,8),(11,9),(11,12)] (by kernel_rfl) ?_
 refine RD.q (u:=.ptr 0 0 0) rfl (q06 und24 rfl (q00 inf3) rfl rfl rfl) (RD.q (u:=.int .i64 p1.Words) rfl (q03 und3 rfl rfl rfl rfl) (RD.q (u:=.ptr 0 0 1) rfl (q06 und24 rfl (q00 inf22) rfl rfl rfl) (RD.q (u:=.isl false (List.map cGEdge p1.Edges)) rfl (q03 und22 rfl rfl rfl rfl) ?_)))
 repeat refine RD.mv rfl rfl rfl rfl ?_
 refine RD.q (u:=.isl true (List.map cGEdge l34)) rfl (op_slice rfl em_n (em_s rfl) (em_s rfl) (sl_full cGEdge und22 (q00 inf42) q0f h35)) (RD.q (u:=.agg (cGEdge p2)) rfl (q0i und42 rfl (q00 inf42) rfl rfl rfl) (RD.act (u:=.sl 3 0 1 1) (σ':=⟨[(3,.row (cGEdge p2) 42),(2,.row [.int .i64 0,.nils] 24),(1,.row (cGEdge p2) 42),(0,.row (cGChart p1) 24)],4⟩) rfl (q55 und22 inf42 rfl rfl rfl rfl rfl rfl rfl) rfl rfl (RD.act (u:=.vl 4 0 0 ((l34++[p2]).length)) (σ':=⟨[(4,.vec (List.map cGEdge (l34++[p2])).flatten 42 12 0),(3,.row (cGEdge p2) 42),(2,.row [.int .i64 0,.nils] 24),(1,.row (cGEdge p2) 42),(0,.row (cGChart p1) 24)],5⟩) rfl (q8v rfl rfl rfl rfl (app_full cGEdge ([p2]) und22 und22 inf42 rfl q0f (q79 cGEdge [p2] rfl rfl rfl rfl) (Nat.le_of_ble_eq_true rfl) h36)) rfl rfl (RD.q (u:=.agg [.int .i64 p1.Words,.vl 4 0 0 ((l34++[p2]).length)]) rfl (q5p bd24 rfl rfl rfl) (RD.mv rfl rfl rfl rfl (RD.actn (u:=.junk) (σ':=⟨[(4,.vec (List.map cGEdge (l34++[p2])).flatten 42 12 0),(3,.row (cGEdge p2) 42),(2,.row [.int .i64 p1.Words,.vl 4 0 0 ((l34++[p2]).length)] 24),(1,.row (cGEdge p2) 42),(0,.row (cGChart p1) 24)],5⟩) rfl (q0g (q00 inf24) rfl rfl rfl rfl rfl rfl rfl rfl) rfl ?_))))))
 repeat refine RD.as rfl rfl rfl rfl ?_
 refine RD.done ⟨by kernel_rfl,⟨q06 und24 rfl (q00 inf3) rfl rfl rfl,⟨q06 und24 rfl (q00 inf3) rfl rfl rfl,⟨q03 und3 rfl rfl rfl rfl,⟨q03 und3 rfl rfl rfl rfl,⟨q06 und24 rfl (q00 inf22) rfl rfl rfl,⟨q03 und22 rfl rfl rfl rfl,⟨q09 rfl,⟨q09 rfl,⟨op_slice rfl em_n (em_s rfl) (em_s rfl) (sl_full cGEdge und22 (q00 inf42) q0f h35),⟨q09 rfl,⟨q09 rfl,⟨q09 rfl,trivial⟩⟩⟩⟩⟩⟩⟩⟩⟩⟩⟩⟩,?_⟩
 refine st ?_
 refine WPU.ret ?_
 refine st ?_
 have hr:=Option.some.inj hF
 subst hr
 exact ⟨.inr rfl,[.agg [.int .i64 p1.Words,.vl 4 0 0 ((l34++[p2]).length)],.int .i64 (p1.Edges.length:Int),.int .i64 0],q6i (q0i und24 rfl (q00 inf24) rfl rfl rfl) (q0r rfl (q0r rfl (q0o))),.tup [.agg [.int .i64 p1.Words,.isl false (List.map cGEdge (l34++[p2]))],.int .i64 (p1.Edges.length:Int),.int .i64 0],⟨[],0⟩,Nat.le_refl _,Gh.trans (Gh.fz (tm':=[.tup [.agg [.int .i64 p1.Words,.isl false (List.map cGEdge (l34++[p2]))],.int .i64 (p1.Edges.length:Int),.int .i64 0]]) (h':=[(3,.row (cGEdge p2) 42),(2,.row [.int .i64 p1.Words,.isl false (List.map cGEdge (l34++[p2]))] 24),(1,.row (cGEdge p2) 42),(0,.row (cGChart p1) 24)]) 4 (.vec (List.map cGEdge (l34++[p2])).flatten 42 12 0) 12 rfl (by simp) (by simp only [oneU,q11,q0n,q1o,q14,q1r,q18,q17,q16,q15,q12,q1p,q1q,q1n,q1s,q36,junkT,q8k q0f,q0l,q4i]) (by simp only [fzH,fzB,ug,Nat.beq,cond_true,cond_false,oneU,q11,q0n,q1o,q14,q1r,q18,q17,q16,q15,q12,q1p,q1q,q1n,q1s,q36,junkT,q8k q0f,q0l,q4i])) (Gh.toR (.tup [.agg [.int .i64 p1.Words,.isl false (List.map cGEdge (l34++[p2]))],.int .i64 (p1.Edges.length:Int),.int .i64 0]) rfl),rfl,BU.h⟩
 rintro m1 _ _ ⟨z33,hF,rfl,rfl⟩
 rcases m1 with _ | m1
 cases hF
 unfold q41 at hF
 refine sr ?_
 refine RS.q rfl (q02 rfl rfl (q0s _ _ _) rfl) ?_
 refine sd ?_
 refine WPU.condS (t:=(decide (z33<(p1.Edges.length:Int)))) rfl (fun h37=>?_) (fun h37=>?_)
 replace hF:=q08 h37 hF
 refine st ?_
 refine WPU.skip ?_
 refine st ?_
 refine WPU.block ?_
 refine st ?_
 obtain ⟨x38,h39,hF⟩:=q01 hF
 refine sr ?_
 refine RS.q (u:=.iptr (cGEdge x38)) rfl (q0x rfl rfl (q0k cGEdge und22 (q00 inf42) q0f h39 rfl)) (RS.q (u:=.agg (cGEdge x38)) rfl (q2c und42 rfl (q00 inf42) rfl rfl) (RS.q (u:=.ptr 3 0 0) (σ':=⟨[(3,.row [.int .i64 0,.int .i64 0,.int .i64 0,.int .i64 0,.str [],.nils,.int .i64 0,.str [],.int .i64 0,.int .i64 0,.nils,.nils] 42),(2,.row [.int .i64 0,.nils] 24),(1,.row (cGEdge p2) 42),(0,.row (cGChart p1) 24)],4⟩) rfl (q0w inf42 rfl rfl) (RS.as rfl rfl rfl rfl (RS.opn (u:=.junk) (σ':=⟨[(3,.row (cGEdge x38) 42),(2,.row [.int .i64 0,.nils] 24),(1,.row (cGEdge p2) 42),(0,.row (cGChart p1) 24)],4⟩) rfl (q0g (q00 inf42) rfl rfl rfl rfl rfl rfl rfl rfl) rfl ?_))))
 refine sd ?_
 obtain ⟨b43,h44,hF⟩:=q01 hF
 refine WPU.joinK (fun tm σ=>tm=fr 117 [(2,.ptr 0 0 0),(3,.ptr 1 0 0),(4,.ptr 2 0 0),(7,.int .i64 z33),(8,.ptr 3 0 0),(43,.isl false (List.map cGEdge p1.Edges)),(44,.int .i64 (p1.Edges.length:Int)),(45,.int .i64 z33),(75,.bool b43)]∧σ=⟨[(3,.row (cGEdge x38) 42),(2,.row [.int .i64 0,.nils] 24),(1,.row (cGEdge p2) 42),(0,.row (cGChart p1) 24)],4⟩) ?_ ?_
 rintro _ _ ⟨rfl,rfl⟩
 refine st ?_
 refine WPU.condS (t:=b43) rfl (fun h45=>?_) (fun h45=>?_)
 replace hF:=q08 h45 hF
 refine st ?_
 refine WPU.exit ?_
 refine sr ?_
 refine RS.q rfl (q02 rfl rfl (q23 _ _ _) rfl) (RS.mv rfl rfl rfl rfl ?_)
 refine sd ?_
 exact ⟨m1,_,_,Nat.lt_succ_self _,⟨(IntKind.i64.wrap (z33+1)),hF,rfl,rfl⟩,(Nat.zero_le _),Gh.toC (n1:=3) ⟨rfl,rfl,rfl,rfl,rfl,rfl,trivial⟩ rfl (Nat.zero_le _) (by simp)⟩
 replace hF:=q07 h45 hF
 refine st ?_
 refine WPU.skip ?_
 refine st ?_
 obtain ⟨b56,h57,hF⟩:=q01 hF
 refine WPU.joinK (fun tm σ=>tm=fr 117 [(2,.ptr 0 0 0),(3,.ptr 1 0 0),(4,.ptr 2 0 0),(7,.int .i64 z33),(43,.isl false (List.map cGEdge p1.Edges)),(44,.int .i64 (p1.Edges.length:Int)),(45,.int .i64 z33),(98,.bool b56)]∧σ=⟨[(3,.row (cGEdge x38) 42),(2,.row [.int .i64 0,.nils] 24),(1,.row (cGEdge p2) 42),(0,.row (cGChart p1) 24)],4⟩) ?_ ?_
 rintro _ _ ⟨rfl,rfl⟩
 refine st ?_
 refine WPU.condS (t:=b56) rfl (fun h58=>?_) (fun h58=>?_)
 replace hF:=q08 h58 hF
 refine sr ?_
 refine RS.q (u:=.agg (cGChart p1)) rfl (q0i und24 rfl (q00 inf24) rfl rfl rfl) (RS.mv rfl rfl rfl rfl (RS.opn (u:=.junk) (σ':=⟨[(3,.row (cGEdge x38) 42),(2,.row (cGChart p1) 24),(1,.row (cGEdge p2) 42),(0,.row (cGChart p1) 24)],4⟩) rfl (q0g (q00 inf24) rfl rfl rfl rfl rfl rfl rfl rfl) rfl ?_))
 repeat refine RS.as rfl rfl rfl rfl ?_
 refine sd ?_
 refine WPU.ret ?_
 refine st ?_
 have hr:=Option.some.inj hF
 subst hr
 exact ⟨.inr rfl,[.agg (cGChart p1),.int .i64 z33,.int .i64 4],q6i (q0i und24 rfl (q00 inf24) rfl rfl rfl) (q0r rfl (q0r rfl (q0o))),.tup [.agg (cGChart p1),.int .i64 z33,.int .i64 4],⟨[],0⟩,Nat.le_refl _,Gh.toR (.tup [.agg (cGChart p1),.int .i64 z33,.int .i64 4]) rfl,rfl,BU.h⟩
 replace hF:=q07 h58 hF
 refine st ?_
 refine WPU.skip ?_
 refine sr ?_
 refine RS.q rfl (q02 rfl rfl (q23 _ _ _) rfl) (RS.mv rfl rfl rfl rfl ?_)
 refine sd ?_
 exact ⟨m1,_,_,Nat.lt_succ_self _,⟨(IntKind.i64.wrap (z33+1)),hF,rfl,rfl⟩,(Nat.zero_le _),Gh.toC (n1:=3) ⟨rfl,rfl,rfl,rfl,rfl,rfl,trivial⟩ rfl (Nat.zero_le _) (by simp)⟩
 rcases q0h (p2.Kind == 1) with h46 | h46
 replace h57:=q08 h46 h57
 obtain ⟨r47,h48,h57⟩:=q01 h57
 rcases q0h (r47 == 0) with h49 | h49
 replace h57:=q08 h49 h57
 replace h57:=Option.some.inj h57
 subst h57
 refine sr ?_
 refine RS.q (u:=.ptr 1 0 3) rfl (q06 und42 rfl (q00 inf3) rfl rfl rfl) (RS.q (u:=.int .i64 p2.Kind) rfl (q03 und3 rfl rfl rfl rfl) (RS.q rfl (q02 rfl rfl (q0c _ _ _) rfl) (RS.mv rfl rfl rfl rfl (RS.op (u:=.ptr 3 0 6) (want1 rfl rfl rfl h46) (q06 und42 rfl (q00 inf37) rfl rfl rfl) rfl rfl (RS.op (u:=.agg (xGDeriv x38.Lex)) (want1 rfl rfl rfl h46) (q0i und37 rfl (q00 inf37) rfl rfl rfl) rfl rfl (RS.op (u:=.ptr 1 0 6) (want1 rfl rfl rfl h46) (q06 und42 rfl (q00 inf37) rfl rfl rfl) rfl rfl (RS.op (u:=.agg (xGDeriv p2.Lex)) (want1 rfl rfl rfl h46) (q0i und37 rfl (q00 inf37) rfl rfl rfl) rfl rfl ?_)))))))
 refine RS.call (u:=.int .i64 r47) (args:=[.agg (xGDeriv x38.Lex),.agg (xGDeriv p2.Lex)]) (want1 rfl rfl rfl h46) (q0b rfl rfl fn35 hb35 rfl rfl) (q4r n x38.Lex p2.Lex r47 h48 _) rfl rfl (RS.op (want1 rfl rfl rfl h46) (q02 rfl rfl (q0c _ _ _) rfl) rfl rfl (RS.q (u:=.bool (r47 == 0)) rfl (q05 rfl h46 rfl) (RS.mv rfl rfl rfl rfl ?_)))
 repeat refine RS.no (want0 rfl rfl rfl h49) rfl rfl ?_
 repeat refine RS.no (wantT rfl rfl rfl) rfl rfl ?_
 refine RS.no (want0 rfl rfl rfl h49) rfl rfl (RS.q (u:=.bool true) rfl (q05 rfl h49 rfl) ?_)
 refine sd ?_
 exact ⟨_,_,⟨rfl,rfl⟩,(Nat.zero_le _),Gh.toC (n1:=4) ⟨rfl,rfl,rfl,rfl,rfl,rfl,rfl,rfl,trivial⟩ rfl (Nat.zero_le _) (by simp)⟩
 replace h57:=q07 h49 h57
 rcases q0h (p2.Kind == 2) with h50 | h50
 replace h57:=q08 h50 h57
 obtain ⟨r51,h52,h57⟩:=q01 h57
 replace h57:=Option.some.inj h57
 subst h57
 refine sr ?_
 refine RS.q (u:=.ptr 1 0 3) rfl (q06 und42 rfl (q00 inf3) rfl rfl rfl) (RS.q (u:=.int .i64 p2.Kind) rfl (q03 und3 rfl rfl rfl rfl) (RS.q rfl (q02 rfl rfl (q0c _ _ _) rfl) (RS.mv rfl rfl rfl rfl (RS.op (u:=.ptr 3 0 6) (want1 rfl rfl rfl h46) (q06 und42 rfl (q00 inf37) rfl rfl rfl) rfl rfl (RS.op (u:=.agg (xGDeriv x38.Lex)) (want1 rfl rfl rfl h46) (q0i und37 rfl (q00 inf37) rfl rfl rfl) rfl rfl (RS.op (u:=.ptr 1 0 6) (want1 rfl rfl rfl h46) (q06 und42 rfl (q00 inf37) rfl rfl rfl) rfl rfl (RS.op (u:=.agg (xGDeriv p2.Lex)) (want1 rfl rfl rfl h46) (q0i und37 rfl (q00 inf37) rfl rfl rfl) rfl rfl ?_)))))))
 refine RS.call (u:=.int .i64 r47) (args:=[.agg (xGDeriv x38.Lex),.agg (xGDeriv p2.Lex)]) (want1 rfl rfl rfl h46) (q0b rfl rfl fn35 hb35 rfl rfl) (q4r n x38.Lex p2.Lex r47 h48 _) rfl rfl (RS.op (want1 rfl rfl rfl h46) (q02 rfl rfl (q0c _ _ _) rfl) rfl rfl (RS.q (u:=.bool (r47 == 0)) rfl (q05 rfl h46 rfl) (RS.mv rfl rfl rfl rfl (RS.op (u:=.ptr 1 0 3) (want1 rfl rfl rfl h49) (q06 und42 rfl (q00 inf3) rfl rfl rfl) rfl rfl (RS.op (u:=.int .i64 p2.Kind) (want1 rfl rfl rfl h49) (q03 und3 rfl rfl rfl rfl) rfl rfl (RS.op (want1 rfl rfl rfl h49) (q02 rfl rfl (q0c _ _ _) rfl) rfl rfl (RS.op (want1 rfl rfl rfl h49) (q09 rfl) rfl rfl ?_)))))))
 refine RS.op (u:=.ptr 3 0 5) (want1 rfl rfl rfl h50) (q06 und42 rfl (q00 inf34) rfl rfl rfl) rfl rfl (RS.op (u:=.isl false (List.map (cI .i64) x38.Kids)) (want1 rfl rfl rfl h50) (q03 und34 rfl rfl rfl rfl) rfl rfl (RS.op (u:=.ptr 1 0 5) (want1 rfl rfl rfl h50) (q06 und42 rfl (q00 inf34) rfl rfl rfl) rfl rfl (RS.op (u:=.isl false (List.map (cI .i64) p2.Kids)) (want1 rfl rfl rfl h50) (q03 und34 rfl rfl rfl rfl) rfl rfl (RS.call (u:=.bool r51) (args:=[.isl false (List.map (cI .i64) x38.Kids),.isl false (List.map (cI .i64) p2.Kids)]) (want1 rfl rfl rfl h50) (q0b rfl rfl fn36 hb36 rfl rfl) (q78 n x38.Kids p2.Kids r51 h52 _) rfl rfl (RS.op (u:=.bool r51) (want1 rfl rfl rfl h49) (q05 rfl h50 rfl) rfl rfl (RS.q (u:=.bool r51) rfl (q04 rfl h49 rfl) ?_))))))
 refine sd ?_
 exact ⟨_,_,⟨rfl,rfl⟩,(Nat.zero_le _),Gh.toC (n1:=4) ⟨rfl,rfl,rfl,rfl,rfl,rfl,rfl,rfl,trivial⟩ rfl (Nat.zero_le _) (by simp)⟩
 replace h57:=q07 h50 h57
 replace h57:=Option.some.inj h57
 subst h57
 refine sr ?_
 refine RS.q (u:=.ptr 1 0 3) rfl (q06 und42 rfl (q00 inf3) rfl rfl rfl) (RS.q (u:=.int .i64 p2.Kind) rfl (q03 und3 rfl rfl rfl rfl) (RS.q rfl (q02 rfl rfl (q0c _ _ _) rfl) (RS.mv rfl rfl rfl rfl (RS.op (u:=.ptr 3 0 6) (want1 rfl rfl rfl h46) (q06 und42 rfl (q00 inf37) rfl rfl rfl) rfl rfl (RS.op (u:=.agg (xGDeriv x38.Lex)) (want1 rfl rfl rfl h46) (q0i und37 rfl (q00 inf37) rfl rfl rfl) rfl rfl (RS.op (u:=.ptr 1 0 6) (want1 rfl rfl rfl h46) (q06 und42 rfl (q00 inf37) rfl rfl rfl) rfl rfl (RS.op (u:=.agg (xGDeriv p2.Lex)) (want1 rfl rfl rfl h46) (q0i und37 rfl (q00 inf37) rfl rfl rfl) rfl rfl ?_)))))))
 refine RS.call (u:=.int .i64 r47) (args:=[.agg (xGDeriv x38.Lex),.agg (xGDeriv p2.Lex)]) (want1 rfl rfl rfl h46) (q0b rfl rfl fn35 hb35 rfl rfl) (q4r n x38.Lex p2.Lex r47 h48 _) rfl rfl (RS.op (want1 rfl rfl rfl h46) (q02 rfl rfl (q0c _ _ _) rfl) rfl rfl (RS.q (u:=.bool (r47 == 0)) rfl (q05 rfl h46 rfl) (RS.mv rfl rfl rfl rfl (RS.op (u:=.ptr 1 0 3) (want1 rfl rfl rfl h49) (q06 und42 rfl (q00 inf3) rfl rfl rfl) rfl rfl (RS.op (u:=.int .i64 p2.Kind) (want1 rfl rfl rfl h49) (q03 und3 rfl rfl rfl rfl) rfl rfl (RS.op (want1 rfl rfl rfl h49) (q02 rfl rfl (q0c _ _ _) rfl) rfl rfl (RS.op (want1 rfl rfl rfl h49) (q09 rfl) rfl rfl ?_)))))))
 repeat refine RS.no (want0 rfl rfl rfl h50) rfl rfl ?_
 refine RS.op (u:=.bool false) (want1 rfl rfl rfl h49) (q04 rfl h50 rfl) rfl rfl (RS.q (u:=.bool false) rfl (q04 rfl h49 rfl) ?_)
 refine sd ?_
 exact ⟨_,_,⟨rfl,rfl⟩,(Nat.zero_le _),Gh.toC (n1:=4) ⟨rfl,rfl,rfl,rfl,rfl,rfl,rfl,rfl,trivial⟩ rfl (Nat.zero_le _) (by simp)⟩
 replace h57:=q07 h46 h57
 rcases q0h (p2.Kind == 2) with h53 | h53
 replace h57:=q08 h53 h57
 obtain ⟨r54,h55,h57⟩:=q01 h57
 replace h57:=Option.some.inj h57
 subst h57
 refine sr ?_
 refine RS.q (u:=.ptr 1 0 3) rfl (q06 und42 rfl (q00 inf3) rfl rfl rfl) (RS.q (u:=.int .i64 p2.Kind) rfl (q03 und3 rfl rfl rfl rfl) (RS.q rfl (q02 rfl rfl (q0c _ _ _) rfl) (RS.mv rfl rfl rfl rfl ?_)))
 repeat refine RS.no (want0 rfl rfl rfl h46) rfl rfl ?_
 refine RS.q (u:=.bool false) rfl (q04 rfl h46 rfl) (RS.mv rfl rfl rfl rfl (RS.op (u:=.ptr 1 0 3) (want1 rfl rfl rfl rfl) (q06 und42 rfl (q00 inf3) rfl rfl rfl) rfl rfl (RS.op (u:=.int .i64 p2.Kind) (want1 rfl rfl rfl rfl) (q03 und3 rfl rfl rfl rfl) rfl rfl (RS.op (want1 rfl rfl rfl rfl) (q02 rfl rfl (q0c _ _ _) rfl) rfl rfl (RS.op (want1 rfl rfl rfl rfl) (q09 rfl) rfl rfl (RS.op (u:=.ptr 3 0 5) (want1 rfl rfl rfl h53) (q06 und42 rfl (q00 inf34) rfl rfl rfl) rfl rfl (RS.op (u:=.isl false (List.map (cI .i64) x38.Kids)) (want1 rfl rfl rfl h53) (q03 und34 rfl rfl rfl rfl) rfl rfl ?_)))))))
 refine RS.op (u:=.ptr 1 0 5) (want1 rfl rfl rfl h53) (q06 und42 rfl (q00 inf34) rfl rfl rfl) rfl rfl (RS.op (u:=.isl false (List.map (cI .i64) p2.Kids)) (want1 rfl rfl rfl h53) (q03 und34 rfl rfl rfl rfl) rfl rfl (RS.call (u:=.bool r54) (args:=[.isl false (List.map (cI .i64) x38.Kids),.isl false (List.map (cI .i64) p2.Kids)]) (want1 rfl rfl rfl h53) (q0b rfl rfl fn36 hb36 rfl rfl) (q78 n x38.Kids p2.Kids r54 h55 _) rfl rfl (RS.op (u:=.bool r54) (want1 rfl rfl rfl rfl) (q05 rfl h53 rfl) rfl rfl (RS.q (u:=.bool r54) rfl (q04 rfl rfl rfl) ?_))))
 refine sd ?_
 exact ⟨_,_,⟨rfl,rfl⟩,(Nat.zero_le _),Gh.toC (n1:=4) ⟨rfl,rfl,rfl,rfl,rfl,rfl,rfl,rfl,trivial⟩ rfl (Nat.zero_le _) (by simp)⟩
 replace h57:=q07 h53 h57
 replace h57:=Option.some.inj h57
 subst h57
 refine sr ?_
 refine RS.q (u:=.ptr 1 0 3) rfl (q06 und42 rfl (q00 inf3) rfl rfl rfl) (RS.q (u:=.int .i64 p2.Kind) rfl (q03 und3 rfl rfl rfl rfl) (RS.q rfl (q02 rfl rfl (q0c _ _ _) rfl) (RS.mv rfl rfl rfl rfl ?_)))
 repeat refine RS.no (want0 rfl rfl rfl h46) rfl rfl ?_
 refine RS.q (u:=.bool false) rfl (q04 rfl h46 rfl) (RS.mv rfl rfl rfl rfl (RS.op (u:=.ptr 1 0 3) (want1 rfl rfl rfl rfl) (q06 und42 rfl (q00 inf3) rfl rfl rfl) rfl rfl (RS.op (u:=.int .i64 p2.Kind) (want1 rfl rfl rfl rfl) (q03 und3 rfl rfl rfl rfl) rfl rfl (RS.op (want1 rfl rfl rfl rfl) (q02 rfl rfl (q0c _ _ _) rfl) rfl rfl (RS.op (want1 rfl rfl rfl rfl) (q09 rfl) rfl rfl ?_)))))
 repeat refine RS.no (want0 rfl rfl rfl h53) rfl rfl ?_
 refine RS.op (u:=.bool false) (want1 rfl rfl rfl rfl) (q04 rfl h53 rfl) rfl rfl (RS.q (u:=.bool false) rfl (q04 rfl rfl rfl) ?_)
 refine sd ?_
 exact ⟨_,_,⟨rfl,rfl⟩,(Nat.zero_le _),Gh.toC (n1:=4) ⟨rfl,rfl,rfl,rfl,rfl,rfl,rfl,rfl,trivial⟩ rfl (Nat.zero_le _) (by simp)⟩
 rcases q0h (x38.Kind != p2.Kind) with h40 | h40
 replace h44:=q08 h40 h44
 replace h44:=Option.some.inj h44
 subst h44
 refine sr ?_
 refine RS.q (u:=.ptr 3 0 3) rfl (q06 und42 rfl (q00 inf3) rfl rfl rfl) (RS.q (u:=.int .i64 x38.Kind) rfl (q03 und3 rfl rfl rfl rfl) (RS.q (u:=.ptr 1 0 3) rfl (q06 und42 rfl (q00 inf3) rfl rfl rfl) (RS.q (u:=.int .i64 p2.Kind) rfl (q03 und3 rfl rfl rfl rfl) (RS.q rfl (q02 rfl rfl (q0e _ _ _) rfl) (RS.mv rfl rfl rfl rfl ?_)))))
 repeat refine RS.no (want0 rfl rfl rfl h40) rfl rfl ?_
 refine RS.q (u:=.bool true) rfl (q05 rfl h40 rfl) (RS.mv rfl rfl rfl rfl ?_)
 repeat refine RS.no (want0 rfl rfl rfl rfl) rfl rfl ?_
 refine RS.q (u:=.bool true) rfl (q05 rfl rfl rfl) (RS.mv rfl rfl rfl rfl ?_)
 repeat refine RS.no (want0 rfl rfl rfl rfl) rfl rfl ?_
 refine RS.q (u:=.bool true) rfl (q05 rfl rfl rfl) ?_
 refine sd ?_
 exact ⟨_,_,⟨rfl,rfl⟩,(Nat.zero_le _),Gh.toC (n1:=4) ⟨rfl,rfl,rfl,rfl,rfl,rfl,rfl,rfl,rfl,trivial⟩ rfl (Nat.zero_le _) (by simp)⟩
 replace h44:=q07 h40 h44
 rcases q0h (!bytesEq x38.Name p2.Name) with h41 | h41
 replace h44:=q08 h41 h44
 replace h44:=Option.some.inj h44
 subst h44
 refine sr ?_
 refine RS.q (u:=.ptr 3 0 3) rfl (q06 und42 rfl (q00 inf3) rfl rfl rfl) (RS.q (u:=.int .i64 x38.Kind) rfl (q03 und3 rfl rfl rfl rfl) (RS.q (u:=.ptr 1 0 3) rfl (q06 und42 rfl (q00 inf3) rfl rfl rfl) (RS.q (u:=.int .i64 p2.Kind) rfl (q03 und3 rfl rfl rfl rfl) (RS.q rfl (q02 rfl rfl (q0e _ _ _) rfl) (RS.mv rfl rfl rfl rfl (RS.op (u:=.ptr 3 0 4) (want1 rfl rfl rfl h40) (q06 und42 rfl (q00 inf9) rfl rfl rfl) rfl rfl (RS.op (u:=.str x38.Name) (want1 rfl rfl rfl h40) (q03 und9 rfl rfl rfl rfl) rfl rfl ?_)))))))
 refine RS.op (u:=.ptr 1 0 4) (want1 rfl rfl rfl h40) (q06 und42 rfl (q00 inf9) rfl rfl rfl) rfl rfl (RS.op (u:=.str p2.Name) (want1 rfl rfl rfl h40) (q03 und9 rfl rfl rfl rfl) rfl rfl (RS.op (u:=.bool (!bytesEq x38.Name p2.Name)) (want1 rfl rfl rfl h40) (q1l rfl rfl rfl rfl) rfl rfl (RS.q (u:=.bool (!bytesEq x38.Name p2.Name)) rfl (q04 rfl h40 rfl) (RS.mv rfl rfl rfl rfl ?_))))
 repeat refine RS.no (want0 rfl rfl rfl h41) rfl rfl ?_
 refine RS.q (u:=.bool true) rfl (q05 rfl h41 rfl) (RS.mv rfl rfl rfl rfl ?_)
 repeat refine RS.no (want0 rfl rfl rfl rfl) rfl rfl ?_
 refine RS.q (u:=.bool true) rfl (q05 rfl rfl rfl) ?_
 refine sd ?_
 exact ⟨_,_,⟨rfl,rfl⟩,(Nat.zero_le _),Gh.toC (n1:=4) ⟨rfl,rfl,rfl,rfl,rfl,rfl,rfl,rfl,rfl,trivial⟩ rfl (Nat.zero_le _) (by simp)⟩
 replace h44:=q07 h41 h44
 rcases q0h (x38.From != p2.From) with h42 | h42
 replace h44:=q08 h42 h44
 replace h44:=Option.some.inj h44
 subst h44
 refine sr ?_
 refine RS.q (u:=.ptr 3 0 3) rfl (q06 und42 rfl (q00 inf3) rfl rfl rfl) (RS.q (u:=.int .i64 x38.Kind) rfl (q03 und3 rfl rfl rfl rfl) (RS.q (u:=.ptr 1 0 3) rfl (q06 und42 rfl (q00 inf3) rfl rfl rfl) (RS.q (u:=.int .i64 p2.Kind) rfl (q03 und3 rfl rfl rfl rfl) (RS.q rfl (q02 rfl rfl (q0e _ _ _) rfl) (RS.mv rfl rfl rfl rfl (RS.op (u:=.ptr 3 0 4) (want1 rfl rfl rfl h40) (q06 und42 rfl (q00 inf9) rfl rfl rfl) rfl rfl (RS.op (u:=.str x38.Name) (want1 rfl rfl rfl h40) (q03 und9 rfl rfl rfl rfl) rfl rfl ?_)))))))
 refine RS.op (u:=.ptr 1 0 4) (want1 rfl rfl rfl h40) (q06 und42 rfl (q00 inf9) rfl rfl rfl) rfl rfl (RS.op (u:=.str p2.Name) (want1 rfl rfl rfl h40) (q03 und9 rfl rfl rfl rfl) rfl rfl (RS.op (u:=.bool (!bytesEq x38.Name p2.Name)) (want1 rfl rfl rfl h40) (q1l rfl rfl rfl rfl) rfl rfl (RS.q (u:=.bool (!bytesEq x38.Name p2.Name)) rfl (q04 rfl h40 rfl) (RS.mv rfl rfl rfl rfl (RS.op (u:=.ptr 3 0 0) (want1 rfl rfl rfl h41) (q06 und42 rfl (q00 inf3) rfl rfl rfl) rfl rfl (RS.op (u:=.int .i64 x38.From) (want1 rfl rfl rfl h41) (q03 und3 rfl rfl rfl rfl) rfl rfl (RS.op (u:=.ptr 1 0 0) (want1 rfl rfl rfl h41) (q06 und42 rfl (q00 inf3) rfl rfl rfl) rfl rfl ?_)))))))
 refine RS.op (u:=.int .i64 p2.From) (want1 rfl rfl rfl h41) (q03 und3 rfl rfl rfl rfl) rfl rfl (RS.op (want1 rfl rfl rfl h41) (q02 rfl rfl (q0e _ _ _) rfl) rfl rfl (RS.q (u:=.bool (x38.From != p2.From)) rfl (q04 rfl h41 rfl) (RS.mv rfl rfl rfl rfl ?_)))
 repeat refine RS.no (want0 rfl rfl rfl h42) rfl rfl ?_
 refine RS.q (u:=.bool true) rfl (q05 rfl h42 rfl) ?_
 refine sd ?_
 exact ⟨_,_,⟨rfl,rfl⟩,(Nat.zero_le _),Gh.toC (n1:=4) ⟨rfl,rfl,rfl,rfl,rfl,rfl,rfl,rfl,rfl,trivial⟩ rfl (Nat.zero_le _) (by simp)⟩
 replace h44:=q07 h42 h44
 replace h44:=Option.some.inj h44
 subst h44
 refine sr ?_
 refine RS.q (u:=.ptr 3 0 3) rfl (q06 und42 rfl (q00 inf3) rfl rfl rfl) (RS.q (u:=.int .i64 x38.Kind) rfl (q03 und3 rfl rfl rfl rfl) (RS.q (u:=.ptr 1 0 3) rfl (q06 und42 rfl (q00 inf3) rfl rfl rfl) (RS.q (u:=.int .i64 p2.Kind) rfl (q03 und3 rfl rfl rfl rfl) (RS.q rfl (q02 rfl rfl (q0e _ _ _) rfl) (RS.mv rfl rfl rfl rfl (RS.op (u:=.ptr 3 0 4) (want1 rfl rfl rfl h40) (q06 und42 rfl (q00 inf9) rfl rfl rfl) rfl rfl (RS.op (u:=.str x38.Name) (want1 rfl rfl rfl h40) (q03 und9 rfl rfl rfl rfl) rfl rfl ?_)))))))
 refine RS.op (u:=.ptr 1 0 4) (want1 rfl rfl rfl h40) (q06 und42 rfl (q00 inf9) rfl rfl rfl) rfl rfl (RS.op (u:=.str p2.Name) (want1 rfl rfl rfl h40) (q03 und9 rfl rfl rfl rfl) rfl rfl (RS.op (u:=.bool (!bytesEq x38.Name p2.Name)) (want1 rfl rfl rfl h40) (q1l rfl rfl rfl rfl) rfl rfl (RS.q (u:=.bool (!bytesEq x38.Name p2.Name)) rfl (q04 rfl h40 rfl) (RS.mv rfl rfl rfl rfl (RS.op (u:=.ptr 3 0 0) (want1 rfl rfl rfl h41) (q06 und42 rfl (q00 inf3) rfl rfl rfl) rfl rfl (RS.op (u:=.int .i64 x38.From) (want1 rfl rfl rfl h41) (q03 und3 rfl rfl rfl rfl) rfl rfl (RS.op (u:=.ptr 1 0 0) (want1 rfl rfl rfl h41) (q06 und42 rfl (q00 inf3) rfl rfl rfl) rfl rfl ?_)))))))
 refine RS.op (u:=.int .i64 p2.From) (want1 rfl rfl rfl h41) (q03 und3 rfl rfl rfl rfl) rfl rfl (RS.op (want1 rfl rfl rfl h41) (q02 rfl rfl (q0e _ _ _) rfl) rfl rfl (RS.q (u:=.bool (x38.From != p2.From)) rfl (q04 rfl h41 rfl) (RS.mv rfl rfl rfl rfl (RS.op (u:=.ptr 3 0 1) (want1 rfl rfl rfl h42) (q06 und42 rfl (q00 inf3) rfl rfl rfl) rfl rfl (RS.op (u:=.int .i64 x38.To) (want1 rfl rfl rfl h42) (q03 und3 rfl rfl rfl rfl) rfl rfl (RS.op (u:=.ptr 1 0 1) (want1 rfl rfl rfl h42) (q06 und42 rfl (q00 inf3) rfl rfl rfl) rfl rfl (RS.op (u:=.int .i64 p2.To) (want1 rfl rfl rfl h42) (q03 und3 rfl rfl rfl rfl) rfl rfl ?_)))))))
 refine RS.op (want1 rfl rfl rfl h42) (q02 rfl rfl (q0e _ _ _) rfl) rfl rfl (RS.q (u:=.bool (x38.To != p2.To)) rfl (q04 rfl h42 rfl) ?_)
 refine sd ?_
 exact ⟨_,_,⟨rfl,rfl⟩,(Nat.zero_le _),Gh.toC (n1:=4) ⟨rfl,rfl,rfl,rfl,rfl,rfl,rfl,rfl,rfl,trivial⟩ rfl (Nat.zero_le _) (by simp)⟩
 replace hF:=q07 h37 hF
 refine st ?_
 refine WPU.exit ?_
 refine st ?_
 exact ⟨_,_,⟨hF,rfl,rfl⟩,(Nat.zero_le _),Gh.toC (n1:=3) ⟨rfl,rfl,rfl,trivial⟩ rfl (Nat.zero_le _) (by simp)⟩
 rcases q0h (p2.Kind != 1) with h8 | h8
 replace h10:=q08 h8 h10
 replace h10:=Option.some.inj h10
 subst h10
 refine sr ?_
 refine RS.q (u:=.ptr 1 0 3) rfl (q06 und42 rfl (q00 inf3) rfl rfl rfl) (RS.q (u:=.int .i64 p2.Kind) rfl (q03 und3 rfl rfl rfl rfl) (RS.q rfl (q02 rfl rfl (q0e _ _ _) rfl) (RS.mv rfl rfl rfl rfl (RS.op (u:=.ptr 1 0 3) (want1 rfl rfl rfl h8) (q06 und42 rfl (q00 inf3) rfl rfl rfl) rfl rfl (RS.op (u:=.int .i64 p2.Kind) (want1 rfl rfl rfl h8) (q03 und3 rfl rfl rfl rfl) rfl rfl (RS.op (want1 rfl rfl rfl h8) (q02 rfl rfl (q0e _ _ _) rfl) rfl rfl (RS.q (u:=.bool (p2.Kind != 2)) rfl (q05 rfl h8 rfl) ?_)))))))
 refine sd ?_
 exact ⟨_,_,⟨rfl,rfl⟩,(Nat.zero_le _),Gh.toC (n1:=3) ⟨rfl,rfl,rfl,rfl,trivial⟩ rfl (Nat.zero_le _) (by simp)⟩
 replace h10:=q07 h8 h10
 replace h10:=Option.some.inj h10
 subst h10
 refine sr ?_
 refine RS.q (u:=.ptr 1 0 3) rfl (q06 und42 rfl (q00 inf3) rfl rfl rfl) (RS.q (u:=.int .i64 p2.Kind) rfl (q03 und3 rfl rfl rfl rfl) (RS.q rfl (q02 rfl rfl (q0e _ _ _) rfl) (RS.mv rfl rfl rfl rfl ?_)))
 repeat refine RS.no (want0 rfl rfl rfl h8) rfl rfl ?_
 refine RS.q (u:=.bool false) rfl (q04 rfl h8 rfl) ?_
 refine sd ?_
 exact ⟨_,_,⟨rfl,rfl⟩,(Nat.zero_le _),Gh.toC (n1:=3) ⟨rfl,rfl,rfl,rfl,trivial⟩ rfl (Nat.zero_le _) (by simp)⟩
 rcases q0h (decide (p2.From<0)) with h3 | h3
 replace h6:=q08 h3 h6
 replace h6:=Option.some.inj h6
 subst h6
 refine sr ?_
 refine RS.q (u:=.ptr 1 0 0) rfl (q06 und42 rfl (q00 inf3) rfl rfl rfl) (RS.q (u:=.int .i64 p2.From) rfl (q03 und3 rfl rfl rfl rfl) (RS.q rfl (q02 rfl rfl (q0s _ _ _) rfl) (RS.mv rfl rfl rfl rfl ?_)))
 repeat refine RS.no (want0 rfl rfl rfl h3) rfl rfl ?_
 refine RS.q (u:=.bool true) rfl (q05 rfl h3 rfl) (RS.mv rfl rfl rfl rfl ?_)
 repeat refine RS.no (want0 rfl rfl rfl rfl) rfl rfl ?_
 refine RS.q (u:=.bool true) rfl (q05 rfl rfl rfl) ?_
 refine sd ?_
 exact ⟨_,_,⟨rfl,rfl⟩,(Nat.zero_le _),Gh.toC (n1:=3) ⟨rfl,rfl,rfl,rfl,trivial⟩ rfl (Nat.zero_le _) (by simp)⟩
 replace h6:=q07 h3 h6
 rcases q0h (decide (p2.From ≥ p2.To)) with h4 | h4
 replace h6:=q08 h4 h6
 replace h6:=Option.some.inj h6
 subst h6
 refine sr ?_
 refine RS.q (u:=.ptr 1 0 0) rfl (q06 und42 rfl (q00 inf3) rfl rfl rfl) (RS.q (u:=.int .i64 p2.From) rfl (q03 und3 rfl rfl rfl rfl) (RS.q rfl (q02 rfl rfl (q0s _ _ _) rfl) (RS.mv rfl rfl rfl rfl (RS.op (u:=.ptr 1 0 0) (want1 rfl rfl rfl h3) (q06 und42 rfl (q00 inf3) rfl rfl rfl) rfl rfl (RS.op (u:=.int .i64 p2.From) (want1 rfl rfl rfl h3) (q03 und3 rfl rfl rfl rfl) rfl rfl (RS.op (u:=.ptr 1 0 1) (want1 rfl rfl rfl h3) (q06 und42 rfl (q00 inf3) rfl rfl rfl) rfl rfl (RS.op (u:=.int .i64 p2.To) (want1 rfl rfl rfl h3) (q03 und3 rfl rfl rfl rfl) rfl rfl ?_)))))))
 refine RS.op (want1 rfl rfl rfl h3) (q02 rfl rfl (q8r _ _ _) rfl) rfl rfl (RS.q (u:=.bool (decide (p2.From ≥ p2.To))) rfl (q04 rfl h3 rfl) (RS.mv rfl rfl rfl rfl ?_))
 repeat refine RS.no (want0 rfl rfl rfl h4) rfl rfl ?_
 refine RS.q (u:=.bool true) rfl (q05 rfl h4 rfl) ?_
 refine sd ?_
 exact ⟨_,_,⟨rfl,rfl⟩,(Nat.zero_le _),Gh.toC (n1:=3) ⟨rfl,rfl,rfl,rfl,trivial⟩ rfl (Nat.zero_le _) (by simp)⟩
 replace h6:=q07 h4 h6
 replace h6:=Option.some.inj h6
 subst h6
 refine sr ?_
 refine RS.q (u:=.ptr 1 0 0) rfl (q06 und42 rfl (q00 inf3) rfl rfl rfl) (RS.q (u:=.int .i64 p2.From) rfl (q03 und3 rfl rfl rfl rfl) (RS.q rfl (q02 rfl rfl (q0s _ _ _) rfl) (RS.mv rfl rfl rfl rfl (RS.op (u:=.ptr 1 0 0) (want1 rfl rfl rfl h3) (q06 und42 rfl (q00 inf3) rfl rfl rfl) rfl rfl (RS.op (u:=.int .i64 p2.From) (want1 rfl rfl rfl h3) (q03 und3 rfl rfl rfl rfl) rfl rfl (RS.op (u:=.ptr 1 0 1) (want1 rfl rfl rfl h3) (q06 und42 rfl (q00 inf3) rfl rfl rfl) rfl rfl (RS.op (u:=.int .i64 p2.To) (want1 rfl rfl rfl h3) (q03 und3 rfl rfl rfl rfl) rfl rfl ?_)))))))
 refine RS.op (want1 rfl rfl rfl h3) (q02 rfl rfl (q8r _ _ _) rfl) rfl rfl (RS.q (u:=.bool (decide (p2.From ≥ p2.To))) rfl (q04 rfl h3 rfl) (RS.mv rfl rfl rfl rfl (RS.op (u:=.ptr 1 0 1) (want1 rfl rfl rfl h4) (q06 und42 rfl (q00 inf3) rfl rfl rfl) rfl rfl (RS.op (u:=.int .i64 p2.To) (want1 rfl rfl rfl h4) (q03 und3 rfl rfl rfl rfl) rfl rfl (RS.op (u:=.ptr 0 0 0) (want1 rfl rfl rfl h4) (q06 und24 rfl (q00 inf3) rfl rfl rfl) rfl rfl (RS.op (u:=.int .i64 p1.Words) (want1 rfl rfl rfl h4) (q03 und3 rfl rfl rfl rfl) rfl rfl (RS.op (want1 rfl rfl rfl h4) (q02 rfl rfl (q6e _ _ _) rfl) rfl rfl ?_)))))))
 refine RS.q (u:=.bool (decide (p2.To > p1.Words))) rfl (q04 rfl h4 rfl) ?_
 refine sd ?_
 exact ⟨_,_,⟨rfl,rfl⟩,(Nat.zero_le _),Gh.toC (n1:=3) ⟨rfl,rfl,rfl,rfl,trivial⟩ rfl (Nat.zero_le _) (by simp)⟩
theorem q42 (n:Nat) (p1:GChart) (p2:GEdge) (r:GChart×Int×Int) (hF:q3f n p1 p2=some r) (σ:Sg):EvU Try.prog 14 [.agg (cGChart p1),.agg (cGEdge p2)] σ (fun u σ'=>u = .tup [.agg (cGChart r.1),.int .i64 r.2.1,.int .i64 r.2.2]∧σ'=σ) :=
 EvU.pure1C (chart_Add_0 n p1 p2 r hF) σ
def q2z (p2:GEdge) (l32:List GDeriv):Option (GDeriv) :=
 some (GDeriv.mk 2 p2.Name p2.From p2.To l32)
def q1j (p1:GChart) (p2:GEdge) (self:GChart→GEdge→Option (GDeriv)):Nat→Int→(List GDeriv)→Option (GDeriv)
 | 0,_,_=>none
 | m1+1,z29,l30 =>
  cond (decide (z29<(p2.Kids.length:Int)))
   (bindO (idxO p2.Kids z29) fun x35 =>
   bindO (idxO p1.Edges x35) fun x37 =>
   bindO (self p1 x37) fun r39 =>
   needO ((l30.length+1)*64≤140737488355328∧l30.length+1≤140737488355328) (
   (q1j p1 p2 self m1) (IntKind.i64.wrap (z29+1)) (l30++[r39])))
   (q2z p2 l30)
def q40 (n:Nat) (self:GChart→GEdge→Option (GDeriv)) (p1:GChart) (p2:GEdge):Option (GDeriv) :=
 cond (p2.Kind == 1)
  (some p2.Lex)
  (q1j p1 p2 self n 0 ([]:List GDeriv))
def q10:Nat→GChart→GEdge→Option (GDeriv)
 | 0,_,_=>none
 | n+1,p1,p2=>q40 n (q10 n) p1 p2
theorem q7m:∀ (n:Nat) (p1:GChart) (p2:GEdge) (r:GDeriv),q10 n p1 p2=some r→EvU Try.prog 38 [.agg (cGChart p1),.agg (cGEdge p2)] ⟨[],0⟩ (fun u _=>u = .agg (xGDeriv r)∧Bel 0 u)
 | 0,p1,p2,r,hF=>by cases hF
 | n+1,p1,p2,r,hF=>by
  have ih:=q7m n
  have ihS:∀ (p1:GChart) (p2:GEdge) (r:GDeriv),q10 n p1 p2=some r→∀ σ,EvU Try.prog 38 [.agg (cGChart p1),.agg (cGEdge p2)] σ (fun u σ'=>u = .agg (xGDeriv r)∧σ'=σ):=fun p1 p2 r h σ=>EvU.pure1C (ih p1 p2 r h) σ
  unfold q10 q40 at hF
  refine EvU.of_body Try.tb_ok fn38 rfl ?_
  refine WPU.ghost (tm':=fr 43 [(0,.agg (cGChart p1)),(1,.agg (cGEdge p2))]) (Gh.start (Nat.le_of_ble_eq_true rfl)) (Nat.zero_le _) ?_
  refine sr ?_
  refine RS.q (u:=.ptr 0 0 0) (σ':=⟨[(0,.row (cGChart p1) 24)],1⟩) rfl (q20 rfl rfl rfl) (RS.q (u:=.ptr 1 0 0) (σ':=⟨[(1,.row (cGEdge p2) 42),(0,.row (cGChart p1) 24)],2⟩) rfl (q20 rfl rfl rfl) (RS.q (u:=.ptr 2 0 0) (σ':=⟨[(2,.row [.int .i64 0,.str [],.int .i64 0,.int .i64 0,.nils] 37),(1,.row (cGEdge p2) 42),(0,.row (cGChart p1) 24)],3⟩) rfl (q0w inf37 rfl rfl) ?_))
  refine se ?_
  refine RS.q (u:=.ptr 1 0 3) rfl (q06 und42 rfl (q00 inf3) rfl rfl rfl) (RS.q (u:=.int .i64 p2.Kind) rfl (q03 und3 rfl rfl rfl rfl) (RS.q rfl (q02 rfl rfl (q0c _ _ _) rfl) ?_))
  refine sd ?_
  refine WPU.condS (t:=(p2.Kind == 1)) rfl (fun h3=>?_) (fun h3=>?_)
  replace hF:=q08 h3 hF
  refine sr ?_
  refine RS.q (u:=.ptr 1 0 6) rfl (q06 und42 rfl (q00 inf37) rfl rfl rfl) (RS.q (u:=.agg (xGDeriv p2.Lex)) rfl (q0i und37 rfl (q00 inf37) rfl rfl rfl) (RS.opn (u:=.junk) (σ':=⟨[(2,.row (xGDeriv p2.Lex) 37),(1,.row (cGEdge p2) 42),(0,.row (cGChart p1) 24)],3⟩) rfl (q0g (q00 inf37) rfl rfl rfl rfl rfl rfl rfl rfl) rfl ?_))
  refine sd ?_
  refine WPU.ret ?_
  refine st ?_
  have hr:=Option.some.inj hF
  subst hr
  exact ⟨.inr rfl,[.agg (xGDeriv p2.Lex)],q6i (q0i und37 rfl (q00 inf37) rfl rfl rfl) (q0o),.agg (xGDeriv p2.Lex),⟨[],0⟩,Nat.le_refl _,Gh.toR (.agg (xGDeriv p2.Lex)) rfl,rfl,BU.h⟩
  replace hF:=q07 h3 hF
  refine st ?_
  refine WPU.skip ?_
  refine sr ?_
  refine RS.q (u:=.ptr 1 0 4) rfl (q06 und42 rfl (q00 inf9) rfl rfl rfl) (RS.q (u:=.str p2.Name) rfl (q03 und9 rfl rfl rfl rfl) (RS.q (u:=.ptr 1 0 0) rfl (q06 und42 rfl (q00 inf3) rfl rfl rfl) (RS.q (u:=.int .i64 p2.From) rfl (q03 und3 rfl rfl rfl rfl) (RS.q (u:=.ptr 1 0 1) rfl (q06 und42 rfl (q00 inf3) rfl rfl rfl) (RS.q (u:=.int .i64 p2.To) rfl (q03 und3 rfl rfl rfl rfl) (RS.q (u:=.agg [.int .i64 2,.str p2.Name,.int .i64 p2.From,.int .i64 p2.To,.nils]) rfl (q5p bd37 rfl rfl rfl) (RS.q (u:=.ptr 3 0 0) (σ':=⟨[(3,.row [.int .i64 0,.str [],.int .i64 0,.int .i64 0,.nils] 37),(2,.row [.int .i64 0,.str [],.int .i64 0,.int .i64 0,.nils] 37),(1,.row (cGEdge p2) 42),(0,.row (cGChart p1) 24)],4⟩) rfl (q0w inf37 rfl rfl) ?_)))))))
  refine RS.opn (u:=.junk) (σ':=⟨[(3,.row [.int .i64 2,.str p2.Name,.int .i64 p2.From,.int .i64 p2.To,.nils] 37),(2,.row [.int .i64 0,.str [],.int .i64 0,.int .i64 0,.nils] 37),(1,.row (cGEdge p2) 42),(0,.row (cGChart p1) 24)],4⟩) rfl (q0g (q00 inf37) rfl rfl rfl rfl rfl rfl rfl rfl) rfl ?_
  refine se ?_
  refine sd ?_
  refine WPU.ghost (tm':=fr 43 [(2,.ptr 0 0 0),(3,.ptr 1 0 0),(4,.ptr 2 0 0),(5,.ptr 3 0 0),(6,.int .i64 0)]) (σ':=⟨[(4,.vec (List.map cGDeriv ([]:List GDeriv)).flatten 37 5 0),(3,.row [.int .i64 2,.str p2.Name,.int .i64 p2.From,.int .i64 p2.To,.vl 4 0 0 (([]:List GDeriv).length)] 37),(2,.row [.int .i64 0,.str [],.int .i64 0,.int .i64 0,.nils] 37),(1,.row (cGEdge p2) 42),(0,.row (cGChart p1) 24)],5⟩) (Gh.trans (Gh.nilC 3 4 37 5 (by decide) (Nat.zero_le _) rfl rfl) (Gh.eqS ⟨rfl,rfl,rfl,rfl,rfl,trivial⟩ rfl)) (Nat.zero_le _) ?_
  refine WPU.ghost (tm':=fr 43 [(2,.ptr 0 0 0),(3,.ptr 1 0 0),(4,.ptr 2 0 0),(5,.ptr 3 0 0),(6,.int .i64 0)]) (Gh.sub ⟨rfl,rfl,rfl,rfl,rfl,trivial⟩) (Nat.zero_le _) ?_
  refine WPU.loopK (fun m tm σ=>∃ z29:Int,∃ l30:List GDeriv,∃ t31:Nat,q1j p1 p2 (q10 n) m z29 l30=some r∧tm=fr 43 [(2,.ptr 0 0 0),(3,.ptr 1 0 0),(4,.ptr 2 0 0),(5,.ptr 3 0 0),(6,.int .i64 z29)]∧σ=⟨[(4,.vec (List.map cGDeriv l30).flatten 37 5 t31),(3,.row [.int .i64 2,.str p2.Name,.int .i64 p2.From,.int .i64 p2.To,.vl 4 t31 0 l30.length] 37),(2,.row [.int .i64 0,.str [],.int .i64 0,.int .i64 0,.nils] 37),(1,.row (cGEdge p2) 42),(0,.row (cGChart p1) 24)],5⟩) (fun tm σ=>∃ l32:List GDeriv,∃ t33:Nat,q2z p2 l32=some r∧tm=fr 43 [(4,.ptr 2 0 0),(5,.ptr 3 0 0)]∧σ=⟨[(4,.vec (List.map cGDeriv l32).flatten 37 5 t33),(3,.row [.int .i64 2,.str p2.Name,.int .i64 p2.From,.int .i64 p2.To,.vl 4 t33 0 l32.length] 37),(2,.row [.int .i64 0,.str [],.int .i64 0,.int .i64 0,.nils] 37),(1,.row (cGEdge p2) 42),(0,.row (cGChart p1) 24)],5⟩) n ⟨0,([]:List GDeriv),0,hF,rfl,rfl⟩ ?_ ?_
  rintro _ _ ⟨l32,t33,hF,rfl,rfl⟩
  unfold q2z at hF
  refine sr ?_
  refine RS.q (u:=.agg [.int .i64 2,.str p2.Name,.int .i64 p2.From,.int .i64 p2.To,.vl 4 t33 0 l32.length]) rfl (q0i und37 rfl (q00 inf37) rfl rfl rfl) (RS.opn (u:=.junk) (σ':=⟨[(4,.vec (List.map cGDeriv l32).flatten 37 5 t33),(3,.row [.int .i64 2,.str p2.Name,.int .i64 p2.From,.int .i64 p2.To,.vl 4 t33 0 l32.length] 37),(2,.row [.int .i64 2,.str p2.Name,.int .i64 p2.From,.int .i64 p2.To,.vl 4 t33 0 l32.length] 37),(1,.row (cGEdge p2) 42),(0,.row (cGChart p1) 24)],5⟩) rfl (q0g (q00 inf37) rfl rfl rfl rfl rfl rfl rfl rfl) rfl ?_)
  refine sd ?_
  refine WPU.ret ?_
  refine st ?_
  have hr:=Option.some.inj hF
  subst hr
  exact ⟨.inr rfl,[.agg [.int .i64 2,.str p2.Name,.int .i64 p2.From,.int .i64 p2.To,.vl 4 t33 0 l32.length]],q6i (q0i und37 rfl (q00 inf37) rfl rfl rfl) (q0o),.agg [.int .i64 2,.str p2.Name,.int .i64 p2.From,.int .i64 p2.To,.isl false (List.map cGDeriv l32)],⟨[],0⟩,Nat.le_refl _,Gh.trans (Gh.fz (tm':=[.agg [.int .i64 2,.str p2.Name,.int .i64 p2.From,.int .i64 p2.To,.isl false (List.map cGDeriv l32)]]) (h':=[(3,.row [.int .i64 2,.str p2.Name,.int .i64 p2.From,.int .i64 p2.To,.isl false (List.map cGDeriv l32)] 37),(2,.row [.int .i64 2,.str p2.Name,.int .i64 p2.From,.int .i64 p2.To,.isl false (List.map cGDeriv l32)] 37),(1,.row (cGEdge p2) 42),(0,.row (cGChart p1) 24)]) 4 (.vec (List.map cGDeriv l32).flatten 37 5 t33) 5 rfl (by simp) (by simp only [oneU,q11,q0n,q1o,q14,q1r,q18,q17,q16,q15,q12,q1p,q1q,q1n,q1s,q36,junkT,q8k q0m,q0l,q4i]) (by simp only [fzH,fzB,ug,Nat.beq,cond_true,cond_false,oneU,q11,q0n,q1o,q14,q1r,q18,q17,q16,q15,q12,q1p,q1q,q1n,q1s,q36,junkT,q8k q0m,q0l,q4i])) (Gh.toR (.agg [.int .i64 2,.str p2.Name,.int .i64 p2.From,.int .i64 p2.To,.isl false (List.map cGDeriv l32)]) rfl),rfl,BU.h⟩
  rintro m1 _ _ ⟨z29,l30,t31,hF,rfl,rfl⟩
  rcases m1 with _ | m1
  cases hF
  unfold q1j at hF
  refine sr ?_
  refine RS.q (u:=.ptr 1 0 5) rfl (q06 und42 rfl (q00 inf34) rfl rfl rfl) (RS.q (u:=.isl false (List.map (cI .i64) p2.Kids)) rfl (q03 und34 rfl rfl rfl rfl) (RS.q rfl (q0j rfl rfl rfl (q0a (cI .i64) und34)) (RS.q rfl (q02 rfl rfl (q0s _ _ _) rfl) ?_)))
  refine sd ?_
  refine WPU.condS (t:=(decide (z29<(p2.Kids.length:Int)))) rfl (fun h34=>?_) (fun h34=>?_)
  replace hF:=q08 h34 hF
  refine st ?_
  refine WPU.skip ?_
  refine st ?_
  refine WPU.block ?_
  refine st ?_
  obtain ⟨x35,h36,hF⟩:=q01 hF
  obtain ⟨x37,h38,hF⟩:=q01 hF
  obtain ⟨r39,h40,hF⟩:=q01 hF
  obtain ⟨h41,hF⟩:=q0u hF
  refine WPU.drawE Try.tb_ok [(0,13),(1,13)] (by kernel_rfl) ?_
  refine RD.q (u:=.ptr 3 0 4) rfl (q06 und37 rfl (q00 inf35) rfl rfl rfl) (RD.q (u:=.vl 4 t31 0 l30.length) rfl (q03 und35 rfl rfl rfl rfl) (RD.q (u:=.agg (cGChart p1)) rfl (q0i und24 rfl (q00 inf24) rfl rfl rfl) (RD.q (u:=.ptr 0 0 1) rfl (q06 und24 rfl (q00 inf22) rfl rfl rfl) (RD.q (u:=.isl false (List.map cGEdge p1.Edges)) rfl (q03 und22 rfl rfl rfl rfl) (RD.q (u:=.ptr 1 0 5) rfl (q06 und42 rfl (q00 inf34) rfl rfl rfl) (RD.q (u:=.isl false (List.map (cI .i64) p2.Kids)) rfl (q03 und34 rfl rfl rfl rfl) (RD.mv rfl rfl rfl rfl ?_)))))))
  refine RD.q (u:=.iptr [.int .i64 x35]) rfl (q0x rfl rfl (q0k (cI .i64) und34 (q00 inf3) (q1t .i64) h36 rfl)) (RD.q (u:=.int .i64 x35) rfl (q0z und3 rfl rfl rfl) (RD.q (u:=.iptr (cGEdge x37)) rfl (q0x rfl rfl (q0k cGEdge und22 (q00 inf42) q0f h38 rfl)) (RD.q (u:=.agg (cGEdge x37)) rfl (q2c und42 rfl (q00 inf42) rfl rfl) (RD.free (u:=.agg (xGDeriv r39)) (args:=[.agg (cGChart p1),.agg (cGEdge x37)]) rfl (q0b rfl rfl fn38 hb38 rfl rfl) (fun s=>ihS p1 x37 r39 h40 s) rfl rfl (RD.act (u:=.sl 5 0 1 1) (σ':=⟨[(5,.row (xGDeriv r39) 37),(4,.vec (List.map cGDeriv l30).flatten 37 5 t31),(3,.row [.int .i64 2,.str p2.Name,.int .i64 p2.From,.int .i64 p2.To,.vl 4 t31 0 l30.length] 37),(2,.row [.int .i64 0,.str [],.int .i64 0,.int .i64 0,.nils] 37),(1,.row (cGEdge p2) 42),(0,.row (cGChart p1) 24)],6⟩) rfl (q55 und35 inf37 rfl rfl rfl rfl rfl rfl rfl) rfl rfl ?_)))))
  refine RD.act (u:=.vl 4 (t31+1) 0 ((l30++[r39]).length)) (σ':=⟨[(5,.row (xGDeriv r39) 37),(4,.vec (List.map cGDeriv (l30++[r39])).flatten 37 5 (t31+1)),(3,.row [.int .i64 2,.str p2.Name,.int .i64 p2.From,.int .i64 p2.To,.vl 4 t31 0 l30.length] 37),(2,.row [.int .i64 0,.str [],.int .i64 0,.int .i64 0,.nils] 37),(1,.row (cGEdge p2) 42),(0,.row (cGChart p1) 24)],6⟩) rfl (q8v rfl rfl rfl rfl (q9f cGDeriv ([r39]) und35 und35 inf37 rfl q0m rfl (q79 cGDeriv [r39] rfl rfl rfl (by simp only [List.map,List.flatten,List.append_nil,q0v,xGDeriv,GDeriv.Kind,GDeriv.Name,GDeriv.From,GDeriv.To,GDeriv.Kids]; rfl)) h41)) rfl rfl ?_
  refine RD.q (u:=.ptr 3 0 4) rfl (q06 und37 rfl (q00 inf35) rfl rfl rfl) (RD.actn (u:=.junk) (σ':=⟨[(5,.row (xGDeriv r39) 37),(4,.vec (List.map cGDeriv (l30++[r39])).flatten 37 5 (t31+1)),(3,.row [.int .i64 2,.str p2.Name,.int .i64 p2.From,.int .i64 p2.To,.vl 4 (t31+1) 0 ((l30++[r39]).length)] 37),(2,.row [.int .i64 0,.str [],.int .i64 0,.int .i64 0,.nils] 37),(1,.row (cGEdge p2) 42),(0,.row (cGChart p1) 24)],6⟩) rfl (q0g (q00 inf35) rfl rfl rfl rfl rfl rfl rfl rfl) rfl ?_)
  refine RD.done ⟨by kernel_rfl,⟨q06 und37 rfl (q00 inf35) rfl rfl rfl,⟨q03 und35 rfl rfl rfl rfl,trivial⟩⟩,?_⟩
  refine sr ?_
  refine RS.q rfl (q02 rfl rfl (q23 _ _ _) rfl) ?_
  refine sd ?_
  exact ⟨m1,_,_,Nat.lt_succ_self _,⟨(IntKind.i64.wrap (z29+1)),(l30++[r39]),(t31+1),hF,rfl,rfl⟩,(Nat.zero_le _),Gh.toC (n1:=5) ⟨rfl,rfl,rfl,rfl,rfl,trivial⟩ rfl (Nat.zero_le _) (by simp)⟩
  replace hF:=q07 h34 hF
  refine st ?_
  refine WPU.exit ?_
  refine st ?_
  exact ⟨_,_,⟨l30,t31,hF,rfl,rfl⟩,(Nat.zero_le _),Gh.toC (n1:=5) ⟨rfl,rfl,trivial⟩ rfl (Nat.zero_le _) (by simp)⟩
theorem q77 (n:Nat) (p1:GChart) (p2:GEdge) (r:GDeriv) (hF:q10 n p1 p2=some r) (σ:Sg):EvU Try.prog 38 [.agg (cGChart p1),.agg (cGEdge p2)] σ (fun u σ'=>u = .agg (xGDeriv r)∧σ'=σ) :=
 EvU.pure1C (q7m n p1 p2 r hF) σ
def q3a (n:Nat) (p1:GChart) (p2:Int):Option (GDeriv) :=
 bindO (cond (decide (p2<0))
  (some true)
  (some (decide (p2 ≥ (p1.Edges.length:Int))))) fun b4 =>
 cond b4
  (some (GDeriv.mk 0 [] 0 0 []))
  (bindO (idxO p1.Edges p2) fun x7 =>
  bindO (q10 n p1 x7) fun r9 =>
  some r9)
theorem ref32_Deriv_0 (n:Nat) (p1:GChart) (p2:Int) (r:GDeriv) (hF:q3a n p1 p2=some r):EvU Try.prog 23 [.agg (cGChart p1),.int .i64 p2] ⟨[],0⟩ (fun u _=>u = .agg (xGDeriv r)∧Bel 0 u):=by
 unfold q3a at hF
 refine EvU.of_body Try.tb_ok fn23 rfl ?_
 refine WPU.ghost (tm':=fr 22 [(0,.agg (cGChart p1)),(1,.int .i64 p2)]) (Gh.start (Nat.le_of_ble_eq_true rfl)) (Nat.zero_le _) ?_
 refine sr ?_
 refine RS.q (u:=.ptr 0 0 0) (σ':=⟨[(0,.row (cGChart p1) 24)],1⟩) rfl (q20 rfl rfl rfl) (RS.q (u:=.ptr 1 0 0) (σ':=⟨[(1,.row [.int .i64 0,.str [],.int .i64 0,.int .i64 0,.nils] 37),(0,.row (cGChart p1) 24)],2⟩) rfl (q0w inf37 rfl rfl) ?_)
 refine sd ?_
 obtain ⟨b4,h5,hF⟩:=q01 hF
 refine WPU.joinK (fun tm σ=>tm=fr 22 [(1,.int .i64 p2),(2,.ptr 0 0 0),(4,.ptr 1 0 0),(13,.bool b4)]∧σ=⟨[(1,.row [.int .i64 0,.str [],.int .i64 0,.int .i64 0,.nils] 37),(0,.row (cGChart p1) 24)],2⟩) ?_ ?_
 rintro _ _ ⟨rfl,rfl⟩
 refine st ?_
 refine WPU.condS (t:=b4) rfl (fun h6=>?_) (fun h6=>?_)
 replace hF:=q08 h6 hF
 refine sr ?_
 refine RS.q (u:=.agg [.int .i64 0,.str [],.int .i64 0,.int .i64 0,.nils]) rfl (q5p bd37 rfl rfl rfl) (RS.opn (u:=.junk) (σ':=⟨[(1,.row [.int .i64 0,.str [],.int .i64 0,.int .i64 0,.nils] 37),(0,.row (cGChart p1) 24)],2⟩) rfl (q0g (q00 inf37) rfl rfl rfl rfl rfl rfl rfl rfl) rfl ?_)
 refine sd ?_
 refine WPU.ret ?_
 refine st ?_
 have hr:=Option.some.inj hF
 subst hr
 exact ⟨.inr rfl,[.agg [.int .i64 0,.str [],.int .i64 0,.int .i64 0,.nils]],q6i (q0i und37 rfl (q00 inf37) rfl rfl rfl) (q0o),.agg [.int .i64 0,.str [],.int .i64 0,.int .i64 0,.isl false []],⟨[],0⟩,Nat.le_refl _,Gh.trans (Gh.wk (.cons (.agg (.cons (.refl _) (.cons (.refl _) (.cons (.refl _) (.cons (.refl _) (.cons (.nil false) .nil)))))) .nil)) (Gh.toR (.agg [.int .i64 0,.str [],.int .i64 0,.int .i64 0,.isl false []]) rfl),rfl,BU.h⟩
 replace hF:=q07 h6 hF
 refine st ?_
 refine WPU.skip ?_
 refine st ?_
 obtain ⟨x7,h8,hF⟩:=q01 hF
 obtain ⟨r9,h10,hF⟩:=q01 hF
 refine WPU.drawE Try.tb_ok [] (by kernel_rfl) ?_
 refine RD.q (u:=.agg (cGChart p1)) rfl (q0i und24 rfl (q00 inf24) rfl rfl rfl) (RD.q (u:=.ptr 0 0 1) rfl (q06 und24 rfl (q00 inf22) rfl rfl rfl) (RD.q (u:=.isl false (List.map cGEdge p1.Edges)) rfl (q03 und22 rfl rfl rfl rfl) (RD.mv rfl rfl rfl rfl (RD.q (u:=.iptr (cGEdge x7)) rfl (q0x rfl rfl (q0k cGEdge und22 (q00 inf42) q0f h8 rfl)) (RD.q (u:=.agg (cGEdge x7)) rfl (q2c und42 rfl (q00 inf42) rfl rfl) (RD.free (u:=.agg (xGDeriv r9)) (args:=[.agg (cGChart p1),.agg (cGEdge x7)]) rfl (q0b rfl rfl fn38 hb38 rfl rfl) (fun s=>q77 n p1 x7 r9 h10 s) rfl rfl (RD.actn (u:=.junk) (σ':=⟨[(1,.row (xGDeriv r9) 37),(0,.row (cGChart p1) 24)],2⟩) rfl (q0g (q00 inf37) rfl rfl rfl rfl rfl rfl rfl rfl) rfl ?_)))))))
 refine RD.done ⟨by kernel_rfl,trivial,?_⟩
 refine st ?_
 refine WPU.ret ?_
 refine st ?_
 have hr:=Option.some.inj hF
 subst hr
 exact ⟨.inr rfl,[.agg (xGDeriv r9)],q6i (q0i und37 rfl (q00 inf37) rfl rfl rfl) (q0o),.agg (xGDeriv r9),⟨[],0⟩,Nat.le_refl _,Gh.toR (.agg (xGDeriv r9)) rfl,rfl,BU.h⟩
 rcases q0h (decide (p2<0)) with h3 | h3
 replace h5:=q08 h3 h5
 replace h5:=Option.some.inj h5
 subst h5
 refine sr ?_
 refine RS.q rfl (q02 rfl rfl (q0s _ _ _) rfl) (RS.mv rfl rfl rfl rfl ?_)
 repeat refine RS.no (want0 rfl rfl rfl h3) rfl rfl ?_
 refine RS.q (u:=.bool true) rfl (q05 rfl h3 rfl) ?_
 refine sd ?_
 exact ⟨_,_,⟨rfl,rfl⟩,(Nat.zero_le _),Gh.toC (n1:=2) ⟨rfl,rfl,rfl,rfl,trivial⟩ rfl (Nat.zero_le _) (by simp)⟩
 replace h5:=q07 h3 h5
 replace h5:=Option.some.inj h5
 subst h5
 refine sr ?_
 refine RS.q rfl (q02 rfl rfl (q0s _ _ _) rfl) (RS.mv rfl rfl rfl rfl (RS.op (want1 rfl rfl rfl h3) (q09 rfl) rfl rfl (RS.op (u:=.ptr 0 0 1) (want1 rfl rfl rfl h3) (q06 und24 rfl (q00 inf22) rfl rfl rfl) rfl rfl (RS.op (u:=.isl false (List.map cGEdge p1.Edges)) (want1 rfl rfl rfl h3) (q03 und22 rfl rfl rfl rfl) rfl rfl (RS.op (want1 rfl rfl rfl h3) (q0j rfl rfl rfl (q0a cGEdge und22)) rfl rfl (RS.op (want1 rfl rfl rfl h3) (q02 rfl rfl (q8r _ _ _) rfl) rfl rfl (RS.q (u:=.bool (decide (p2 ≥ (p1.Edges.length:Int)))) rfl (q04 rfl h3 rfl) ?_)))))))
 refine sd ?_
 exact ⟨_,_,⟨rfl,rfl⟩,(Nat.zero_le _),Gh.toC (n1:=2) ⟨rfl,rfl,rfl,rfl,trivial⟩ rfl (Nat.zero_le _) (by simp)⟩
theorem q7w (n:Nat) (p1:GChart) (p2:Int) (r:GDeriv) (hF:q3a n p1 p2=some r) (σ:Sg):EvU Try.prog 23 [.agg (cGChart p1),.int .i64 p2] σ (fun u σ'=>u = .agg (xGDeriv r)∧σ'=σ) :=
 EvU.pure1C (ref32_Deriv_0 n p1 p2 r hF) σ
def q76 (n:Nat) (self:GDeriv→Option (Bool)) (p1:GDeriv):Option (Bool) :=
 cond (p1.Kind == 0)
  (some ((p1.Kids.length:Int) == 0))
  (bindO (cond (p1.Kind == 1)
   (cond ((p1.Kids.length:Int) == 1)
    (bindO (idxO p1.Kids 0) fun x5 =>
    cond (x5.From == p1.From)
     (bindO (idxO p1.Kids 0) fun x8 =>
     cond (x8.To == p1.To)
      (bindO (idxO p1.Kids 0) fun x11 =>
      bindO (self x11) fun r13 =>
      some r13)
      (some false))
     (some false))
    (some false))
   (some false)) fun b15 =>
  some b15)
def q37:Nat→GDeriv→Option (Bool)
 | 0,_=>none
 | n+1,p1=>q76 n (q37 n) p1
theorem q8y:∀ (n:Nat) (p1:GDeriv) (r:Bool),q37 n p1=some r→EvU Try.prog 54 [.agg (xGDeriv p1)] ⟨[],0⟩ (fun u _=>u = .bool r∧Bel 0 u)
 | 0,p1,r,hF=>by cases hF
 | n+1,p1,r,hF=>by
  have ih:=q8y n
  have ihS:∀ (p1:GDeriv) (r:Bool),q37 n p1=some r→∀ σ,EvU Try.prog 54 [.agg (xGDeriv p1)] σ (fun u σ'=>u = .bool r∧σ'=σ):=fun p1 r h σ=>EvU.pure1C (ih p1 r h) σ
  unfold q37 q76 at hF
  refine EvU.of_body Try.tb_ok fn54 rfl ?_
  refine WPU.ghost (tm':=fr 46 [(0,.agg (xGDeriv p1))]) (Gh.start (Nat.le_of_ble_eq_true rfl)) (Nat.zero_le _) ?_
  refine sr ?_
  refine RS.q (u:=.ptr 0 0 0) (σ':=⟨[(0,.row (xGDeriv p1) 37)],1⟩) rfl (q20 rfl rfl rfl) ?_
  refine se ?_
  refine RS.q (u:=.ptr 0 0 0) rfl (q06 und37 rfl (q00 inf3) rfl rfl rfl) (RS.q (u:=.int .i64 p1.Kind) rfl (q03 und3 rfl rfl rfl rfl) (RS.q rfl (q02 rfl rfl (q0c _ _ _) rfl) ?_))
  refine sd ?_
  refine WPU.condS (t:=(p1.Kind == 0)) rfl (fun h2=>?_) (fun h2=>?_)
  replace hF:=q08 h2 hF
  refine sr ?_
  refine RS.q (u:=.ptr 0 0 4) rfl (q06 und37 rfl (q00 inf35) rfl rfl rfl) (RS.q (u:=.isl false (List.map cGDeriv p1.Kids)) rfl (q03 und35 rfl rfl rfl rfl) (RS.q rfl (q0j rfl rfl rfl (q0a cGDeriv und35)) (RS.q rfl (q02 rfl rfl (q0c _ _ _) rfl) ?_)))
  refine sd ?_
  refine WPU.ret ?_
  refine st ?_
  have hr:=Option.some.inj hF
  subst hr
  exact ⟨.inr rfl,[.bool ((p1.Kids.length:Int) == 0)],q0r rfl (q0o),.bool ((p1.Kids.length:Int) == 0),⟨[],0⟩,Nat.le_refl _,Gh.toR (.bool ((p1.Kids.length:Int) == 0)) rfl,rfl,BU.h⟩
  replace hF:=q07 h2 hF
  refine st ?_
  refine WPU.skip ?_
  refine st ?_
  obtain ⟨b15,h16,hF⟩:=q01 hF
  refine WPU.joinK (fun tm σ=>tm=fr 46 [(2,.bool b15)]∧σ=⟨[(0,.row (xGDeriv p1) 37)],1⟩) ?_ ?_
  rintro _ _ ⟨rfl,rfl⟩
  refine st ?_
  refine WPU.ret ?_
  refine st ?_
  have hr:=Option.some.inj hF
  subst hr
  exact ⟨.inr rfl,[.bool b15],q0r rfl (q0o),.bool b15,⟨[],0⟩,Nat.le_refl _,Gh.toR (.bool b15) rfl,rfl,BU.h⟩
  rcases q0h (p1.Kind == 1) with h3 | h3
  replace h16:=q08 h3 h16
  rcases q0h ((p1.Kids.length:Int) == 1) with h4 | h4
  replace h16:=q08 h4 h16
  obtain ⟨x5,h6,h16⟩:=q01 h16
  rcases q0h (x5.From == p1.From) with h7 | h7
  replace h16:=q08 h7 h16
  obtain ⟨x8,h9,h16⟩:=q01 h16
  rcases q0h (x8.To == p1.To) with h10 | h10
  replace h16:=q08 h10 h16
  obtain ⟨x11,h12,h16⟩:=q01 h16
  obtain ⟨r13,h14,h16⟩:=q01 h16
  replace h16:=Option.some.inj h16
  subst h16
  refine WPU.drawE Try.tb_ok [] (by kernel_rfl) ?_
  refine RD.q (u:=.ptr 0 0 0) rfl (q06 und37 rfl (q00 inf3) rfl rfl rfl) (RD.q (u:=.int .i64 p1.Kind) rfl (q03 und3 rfl rfl rfl rfl) (RD.q rfl (q02 rfl rfl (q0c _ _ _) rfl) (RD.mv rfl rfl rfl rfl (RD.look (u:=.ptr 0 0 4) (want1 rfl rfl rfl h3) (q06 und37 rfl (q00 inf35) rfl rfl rfl) rfl rfl (RD.look (u:=.isl false (List.map cGDeriv p1.Kids)) (want1 rfl rfl rfl h3) (q03 und35 rfl rfl rfl rfl) rfl rfl (RD.look (want1 rfl rfl rfl h3) (q0j rfl rfl rfl (q0a cGDeriv und35)) rfl rfl (RD.look (want1 rfl rfl rfl h3) (q02 rfl rfl (q0c _ _ _) rfl) rfl rfl ?_)))))))
  refine RD.q (u:=.bool ((p1.Kids.length:Int) == 1)) rfl (q05 rfl h3 rfl) (RD.mv rfl rfl rfl rfl (RD.look (u:=.ptr 0 0 4) (want1 rfl rfl rfl h4) (q06 und37 rfl (q00 inf35) rfl rfl rfl) rfl rfl (RD.look (u:=.isl false (List.map cGDeriv p1.Kids)) (want1 rfl rfl rfl h4) (q03 und35 rfl rfl rfl rfl) rfl rfl (RD.look (u:=.iptr (xGDeriv x5)) (want1 rfl rfl rfl h4) (q0x rfl rfl (q0k cGDeriv und35 (q00 inf37) q0m h6 (q0v x5))) rfl rfl (RD.look (u:=.iptr [.int .i64 x5.From,.int .i64 x5.To,.isl false (List.map cGDeriv x5.Kids)]) (want1 rfl rfl rfl h4) (q3y und37 rfl (q00 inf3) rfl rfl) rfl rfl (RD.look (u:=.int .i64 x5.From) (want1 rfl rfl rfl h4) (q0z und3 rfl rfl rfl) rfl rfl (RD.look (u:=.ptr 0 0 2) (want1 rfl rfl rfl h4) (q06 und37 rfl (q00 inf3) rfl rfl rfl) rfl rfl ?_)))))))
  refine RD.look (u:=.int .i64 p1.From) (want1 rfl rfl rfl h4) (q03 und3 rfl rfl rfl rfl) rfl rfl (RD.look (want1 rfl rfl rfl h4) (q02 rfl rfl (q0c _ _ _) rfl) rfl rfl (RD.q (u:=.bool (x5.From == p1.From)) rfl (q05 rfl h4 rfl) (RD.mv rfl rfl rfl rfl (RD.look (u:=.ptr 0 0 4) (want1 rfl rfl rfl h7) (q06 und37 rfl (q00 inf35) rfl rfl rfl) rfl rfl (RD.look (u:=.isl false (List.map cGDeriv p1.Kids)) (want1 rfl rfl rfl h7) (q03 und35 rfl rfl rfl rfl) rfl rfl (RD.look (u:=.iptr (xGDeriv x8)) (want1 rfl rfl rfl h7) (q0x rfl rfl (q0k cGDeriv und35 (q00 inf37) q0m h9 (q0v x8))) rfl rfl (RD.look (u:=.iptr [.int .i64 x8.To,.isl false (List.map cGDeriv x8.Kids)]) (want1 rfl rfl rfl h7) (q3y und37 rfl (q00 inf3) rfl rfl) rfl rfl ?_)))))))
  refine RD.look (u:=.int .i64 x8.To) (want1 rfl rfl rfl h7) (q0z und3 rfl rfl rfl) rfl rfl (RD.look (u:=.ptr 0 0 3) (want1 rfl rfl rfl h7) (q06 und37 rfl (q00 inf3) rfl rfl rfl) rfl rfl (RD.look (u:=.int .i64 p1.To) (want1 rfl rfl rfl h7) (q03 und3 rfl rfl rfl rfl) rfl rfl (RD.look (want1 rfl rfl rfl h7) (q02 rfl rfl (q0c _ _ _) rfl) rfl rfl (RD.q (u:=.bool (x8.To == p1.To)) rfl (q05 rfl h7 rfl) (RD.mv rfl rfl rfl rfl (RD.look (u:=.ptr 0 0 4) (want1 rfl rfl rfl h10) (q06 und37 rfl (q00 inf35) rfl rfl rfl) rfl rfl (RD.look (u:=.isl false (List.map cGDeriv p1.Kids)) (want1 rfl rfl rfl h10) (q03 und35 rfl rfl rfl rfl) rfl rfl ?_)))))))
  refine RD.look (u:=.iptr (xGDeriv x11)) (want1 rfl rfl rfl h10) (q0x rfl rfl (q0k cGDeriv und35 (q00 inf37) q0m h12 (q0v x11))) rfl rfl (RD.look (u:=.agg (xGDeriv x11)) (want1 rfl rfl rfl h10) (q2c und37 rfl (q00 inf37) rfl rfl) rfl rfl (RD.free (u:=.bool r13) (args:=[.agg (xGDeriv x11)]) (want1 rfl rfl rfl h10) (q0b rfl rfl fn54 hb54 rfl rfl) (fun s=>ihS x11 r13 h14 s) rfl rfl (RD.q (u:=.bool r13) rfl (q05 rfl h10 rfl) (RD.as rfl rfl rfl rfl ?_))))
  refine RD.done ⟨by kernel_rfl,trivial,?_⟩
  refine st ?_
  exact ⟨_,_,⟨rfl,rfl⟩,(Nat.zero_le _),Gh.toC (n1:=1) ⟨rfl,trivial⟩ rfl (Nat.zero_le _) (by simp)⟩
  replace h16:=q07 h10 h16
  replace h16:=Option.some.inj h16
  subst h16
  refine WPU.drawE Try.tb_ok [] (by kernel_rfl) ?_
  refine RD.q (u:=.ptr 0 0 0) rfl (q06 und37 rfl (q00 inf3) rfl rfl rfl) (RD.q (u:=.int .i64 p1.Kind) rfl (q03 und3 rfl rfl rfl rfl) (RD.q rfl (q02 rfl rfl (q0c _ _ _) rfl) (RD.mv rfl rfl rfl rfl (RD.look (u:=.ptr 0 0 4) (want1 rfl rfl rfl h3) (q06 und37 rfl (q00 inf35) rfl rfl rfl) rfl rfl (RD.look (u:=.isl false (List.map cGDeriv p1.Kids)) (want1 rfl rfl rfl h3) (q03 und35 rfl rfl rfl rfl) rfl rfl (RD.look (want1 rfl rfl rfl h3) (q0j rfl rfl rfl (q0a cGDeriv und35)) rfl rfl (RD.look (want1 rfl rfl rfl h3) (q02 rfl rfl (q0c _ _ _) rfl) rfl rfl ?_)))))))
  refine RD.q (u:=.bool ((p1.Kids.length:Int) == 1)) rfl (q05 rfl h3 rfl) (RD.mv rfl rfl rfl rfl (RD.look (u:=.ptr 0 0 4) (want1 rfl rfl rfl h4) (q06 und37 rfl (q00 inf35) rfl rfl rfl) rfl rfl (RD.look (u:=.isl false (List.map cGDeriv p1.Kids)) (want1 rfl rfl rfl h4) (q03 und35 rfl rfl rfl rfl) rfl rfl (RD.look (u:=.iptr (xGDeriv x5)) (want1 rfl rfl rfl h4) (q0x rfl rfl (q0k cGDeriv und35 (q00 inf37) q0m h6 (q0v x5))) rfl rfl (RD.look (u:=.iptr [.int .i64 x5.From,.int .i64 x5.To,.isl false (List.map cGDeriv x5.Kids)]) (want1 rfl rfl rfl h4) (q3y und37 rfl (q00 inf3) rfl rfl) rfl rfl (RD.look (u:=.int .i64 x5.From) (want1 rfl rfl rfl h4) (q0z und3 rfl rfl rfl) rfl rfl (RD.look (u:=.ptr 0 0 2) (want1 rfl rfl rfl h4) (q06 und37 rfl (q00 inf3) rfl rfl rfl) rfl rfl ?_)))))))
  refine RD.look (u:=.int .i64 p1.From) (want1 rfl rfl rfl h4) (q03 und3 rfl rfl rfl rfl) rfl rfl (RD.look (want1 rfl rfl rfl h4) (q02 rfl rfl (q0c _ _ _) rfl) rfl rfl (RD.q (u:=.bool (x5.From == p1.From)) rfl (q05 rfl h4 rfl) (RD.mv rfl rfl rfl rfl (RD.look (u:=.ptr 0 0 4) (want1 rfl rfl rfl h7) (q06 und37 rfl (q00 inf35) rfl rfl rfl) rfl rfl (RD.look (u:=.isl false (List.map cGDeriv p1.Kids)) (want1 rfl rfl rfl h7) (q03 und35 rfl rfl rfl rfl) rfl rfl (RD.look (u:=.iptr (xGDeriv x8)) (want1 rfl rfl rfl h7) (q0x rfl rfl (q0k cGDeriv und35 (q00 inf37) q0m h9 (q0v x8))) rfl rfl (RD.look (u:=.iptr [.int .i64 x8.To,.isl false (List.map cGDeriv x8.Kids)]) (want1 rfl rfl rfl h7) (q3y und37 rfl (q00 inf3) rfl rfl) rfl rfl ?_)))))))
  refine RD.look (u:=.int .i64 x8.To) (want1 rfl rfl rfl h7) (q0z und3 rfl rfl rfl) rfl rfl (RD.look (u:=.ptr 0 0 3) (want1 rfl rfl rfl h7) (q06 und37 rfl (q00 inf3) rfl rfl rfl) rfl rfl (RD.look (u:=.int .i64 p1.To) (want1 rfl rfl rfl h7) (q03 und3 rfl rfl rfl rfl) rfl rfl (RD.look (want1 rfl rfl rfl h7) (q02 rfl rfl (q0c _ _ _) rfl) rfl rfl (RD.q (u:=.bool (x8.To == p1.To)) rfl (q05 rfl h7 rfl) (RD.mv rfl rfl rfl rfl ?_)))))
  repeat refine RD.no (want0 rfl rfl rfl h10) rfl rfl ?_
  refine RD.q (u:=.bool false) rfl (q04 rfl h10 rfl) (RD.as rfl rfl rfl rfl ?_)
  refine RD.done ⟨by kernel_rfl,trivial,?_⟩
  refine st ?_
  exact ⟨_,_,⟨rfl,rfl⟩,(Nat.zero_le _),Gh.toC (n1:=1) ⟨rfl,trivial⟩ rfl (Nat.zero_le _) (by simp)⟩
  replace h16:=q07 h7 h16
  replace h16:=Option.some.inj h16
  subst h16
  refine WPU.drawE Try.tb_ok [] (by kernel_rfl) ?_
  refine RD.q (u:=.ptr 0 0 0) rfl (q06 und37 rfl (q00 inf3) rfl rfl rfl) (RD.q (u:=.int .i64 p1.Kind) rfl (q03 und3 rfl rfl rfl rfl) (RD.q rfl (q02 rfl rfl (q0c _ _ _) rfl) (RD.mv rfl rfl rfl rfl (RD.look (u:=.ptr 0 0 4) (want1 rfl rfl rfl h3) (q06 und37 rfl (q00 inf35) rfl rfl rfl) rfl rfl (RD.look (u:=.isl false (List.map cGDeriv p1.Kids)) (want1 rfl rfl rfl h3) (q03 und35 rfl rfl rfl rfl) rfl rfl (RD.look (want1 rfl rfl rfl h3) (q0j rfl rfl rfl (q0a cGDeriv und35)) rfl rfl (RD.look (want1 rfl rfl rfl h3) (q02 rfl rfl (q0c _ _ _) rfl) rfl rfl ?_)))))))
  refine RD.q (u:=.bool ((p1.Kids.length:Int) == 1)) rfl (q05 rfl h3 rfl) (RD.mv rfl rfl rfl rfl (RD.look (u:=.ptr 0 0 4) (want1 rfl rfl rfl h4) (q06 und37 rfl (q00 inf35) rfl rfl rfl) rfl rfl (RD.look (u:=.isl false (List.map cGDeriv p1.Kids)) (want1 rfl rfl rfl h4) (q03 und35 rfl rfl rfl rfl) rfl rfl (RD.look (u:=.iptr (xGDeriv x5)) (want1 rfl rfl rfl h4) (q0x rfl rfl (q0k cGDeriv und35 (q00 inf37) q0m h6 (q0v x5))) rfl rfl (RD.look (u:=.iptr [.int .i64 x5.From,.int .i64 x5.To,.isl false (List.map cGDeriv x5.Kids)]) (want1 rfl rfl rfl h4) (q3y und37 rfl (q00 inf3) rfl rfl) rfl rfl (RD.look (u:=.int .i64 x5.From) (want1 rfl rfl rfl h4) (q0z und3 rfl rfl rfl) rfl rfl (RD.look (u:=.ptr 0 0 2) (want1 rfl rfl rfl h4) (q06 und37 rfl (q00 inf3) rfl rfl rfl) rfl rfl ?_)))))))
  refine RD.look (u:=.int .i64 p1.From) (want1 rfl rfl rfl h4) (q03 und3 rfl rfl rfl rfl) rfl rfl (RD.look (want1 rfl rfl rfl h4) (q02 rfl rfl (q0c _ _ _) rfl) rfl rfl (RD.q (u:=.bool (x5.From == p1.From)) rfl (q05 rfl h4 rfl) (RD.mv rfl rfl rfl rfl ?_)))
  repeat refine RD.no (want0 rfl rfl rfl h7) rfl rfl ?_
  refine RD.q (u:=.bool false) rfl (q04 rfl h7 rfl) (RD.mv rfl rfl rfl rfl ?_)
  repeat refine RD.no (want0 rfl rfl rfl rfl) rfl rfl ?_
  refine RD.q (u:=.bool false) rfl (q04 rfl rfl rfl) (RD.as rfl rfl rfl rfl ?_)
  refine RD.done ⟨by kernel_rfl,trivial,?_⟩
  refine st ?_
  exact ⟨_,_,⟨rfl,rfl⟩,(Nat.zero_le _),Gh.toC (n1:=1) ⟨rfl,trivial⟩ rfl (Nat.zero_le _) (by simp)⟩
  replace h16:=q07 h4 h16
  replace h16:=Option.some.inj h16
  subst h16
  refine WPU.drawE Try.tb_ok [] (by kernel_rfl) ?_
  refine RD.q (u:=.ptr 0 0 0) rfl (q06 und37 rfl (q00 inf3) rfl rfl rfl) (RD.q (u:=.int .i64 p1.Kind) rfl (q03 und3 rfl rfl rfl rfl) (RD.q rfl (q02 rfl rfl (q0c _ _ _) rfl) (RD.mv rfl rfl rfl rfl (RD.look (u:=.ptr 0 0 4) (want1 rfl rfl rfl h3) (q06 und37 rfl (q00 inf35) rfl rfl rfl) rfl rfl (RD.look (u:=.isl false (List.map cGDeriv p1.Kids)) (want1 rfl rfl rfl h3) (q03 und35 rfl rfl rfl rfl) rfl rfl (RD.look (want1 rfl rfl rfl h3) (q0j rfl rfl rfl (q0a cGDeriv und35)) rfl rfl (RD.look (want1 rfl rfl rfl h3) (q02 rfl rfl (q0c _ _ _) rfl) rfl rfl ?_)))))))
  refine RD.q (u:=.bool ((p1.Kids.length:Int) == 1)) rfl (q05 rfl h3 rfl) (RD.mv rfl rfl rfl rfl ?_)
  repeat refine RD.no (want0 rfl rfl rfl h4) rfl rfl ?_
  refine RD.q (u:=.bool false) rfl (q04 rfl h4 rfl) (RD.mv rfl rfl rfl rfl ?_)
  repeat refine RD.no (want0 rfl rfl rfl rfl) rfl rfl ?_
  refine RD.q (u:=.bool false) rfl (q04 rfl rfl rfl) (RD.mv rfl rfl rfl rfl ?_)
  repeat refine RD.no (want0 rfl rfl rfl rfl) rfl rfl ?_
  refine RD.q (u:=.bool false) rfl (q04 rfl rfl rfl) (RD.as rfl rfl rfl rfl ?_)
  refine RD.done ⟨by kernel_rfl,trivial,?_⟩
  refine st ?_
  exact ⟨_,_,⟨rfl,rfl⟩,(Nat.zero_le _),Gh.toC (n1:=1) ⟨rfl,trivial⟩ rfl (Nat.zero_le _) (by simp)⟩
  replace h16:=q07 h3 h16
  replace h16:=Option.some.inj h16
  subst h16
  refine WPU.drawE Try.tb_ok [] (by kernel_rfl) ?_
  refine RD.q (u:=.ptr 0 0 0) rfl (q06 und37 rfl (q00 inf3) rfl rfl rfl) (RD.q (u:=.int .i64 p1.Kind) rfl (q03 und3 rfl rfl rfl rfl) (RD.q rfl (q02 rfl rfl (q0c _ _ _) rfl) (RD.mv rfl rfl rfl rfl ?_)))
  repeat refine RD.no (want0 rfl rfl rfl h3) rfl rfl ?_
  refine RD.q (u:=.bool false) rfl (q04 rfl h3 rfl) (RD.mv rfl rfl rfl rfl ?_)
  repeat refine RD.no (want0 rfl rfl rfl rfl) rfl rfl ?_
  refine RD.q (u:=.bool false) rfl (q04 rfl rfl rfl) (RD.mv rfl rfl rfl rfl ?_)
  repeat refine RD.no (want0 rfl rfl rfl rfl) rfl rfl ?_
  refine RD.q (u:=.bool false) rfl (q04 rfl rfl rfl) (RD.mv rfl rfl rfl rfl ?_)
  repeat refine RD.no (want0 rfl rfl rfl rfl) rfl rfl ?_
  refine RD.q (u:=.bool false) rfl (q04 rfl rfl rfl) (RD.as rfl rfl rfl rfl ?_)
  refine RD.done ⟨by kernel_rfl,trivial,?_⟩
  refine st ?_
  exact ⟨_,_,⟨rfl,rfl⟩,(Nat.zero_le _),Gh.toC (n1:=1) ⟨rfl,trivial⟩ rfl (Nat.zero_le _) (by simp)⟩
theorem q6o (n:Nat) (p1:GDeriv) (r:Bool) (hF:q37 n p1=some r) (σ:Sg):EvU Try.prog 54 [.agg (xGDeriv p1)] σ (fun u σ'=>u = .bool r∧σ'=σ) :=
 EvU.pure1C (q8y n p1 r hF) σ
def q6y (n:Nat) (p1:GDeriv):Option (Bool) :=
 bindO (cond (p1.Kind == 0)
  (cond (bytesEq p1.Name [])
   (cond (p1.From == 0)
    (cond (p1.To == 0)
     (some ((p1.Kids.length:Int) == 0))
     (some false))
    (some false))
   (some false))
  (some false)) fun b6 =>
 some b6
theorem ref32_zero_0 (n:Nat) (p1:GDeriv) (r:Bool) (hF:q6y n p1=some r):EvU Try.prog 55 [.agg (xGDeriv p1)] ⟨[],0⟩ (fun u _=>u = .bool r∧Bel 0 u):=by
 unfold q6y at hF
 refine EvU.of_body Try.tb_ok fn55 rfl ?_
 refine WPU.ghost (tm':=fr 27 [(0,.agg (xGDeriv p1))]) (Gh.start (Nat.le_of_ble_eq_true rfl)) (Nat.zero_le _) ?_
 refine sr ?_
 refine RS.q (u:=.ptr 0 0 0) (σ':=⟨[(0,.row (xGDeriv p1) 37)],1⟩) rfl (q20 rfl rfl rfl) ?_
 refine sd ?_
 obtain ⟨b6,h7,hF⟩:=q01 hF
 refine WPU.joinK (fun tm σ=>tm=fr 27 [(2,.bool b6)]∧σ=⟨[(0,.row (xGDeriv p1) 37)],1⟩) ?_ ?_
 rintro _ _ ⟨rfl,rfl⟩
 refine st ?_
 refine WPU.ret ?_
 refine st ?_
 have hr:=Option.some.inj hF
 subst hr
 exact ⟨.inr rfl,[.bool b6],q0r rfl (q0o),.bool b6,⟨[],0⟩,Nat.le_refl _,Gh.toR (.bool b6) rfl,rfl,BU.h⟩
 rcases q0h (p1.Kind == 0) with h2 | h2
 replace h7:=q08 h2 h7
 rcases q0h (bytesEq p1.Name []) with h3 | h3
 replace h7:=q08 h3 h7
 rcases q0h (p1.From == 0) with h4 | h4
 replace h7:=q08 h4 h7
 rcases q0h (p1.To == 0) with h5 | h5
 replace h7:=q08 h5 h7
 replace h7:=Option.some.inj h7
 subst h7
 refine sr ?_
 refine RS.q (u:=.ptr 0 0 0) rfl (q06 und37 rfl (q00 inf3) rfl rfl rfl) (RS.q (u:=.int .i64 p1.Kind) rfl (q03 und3 rfl rfl rfl rfl) (RS.q rfl (q02 rfl rfl (q0c _ _ _) rfl) (RS.mv rfl rfl rfl rfl (RS.op (u:=.ptr 0 0 1) (want1 rfl rfl rfl h2) (q06 und37 rfl (q00 inf9) rfl rfl rfl) rfl rfl (RS.op (u:=.str p1.Name) (want1 rfl rfl rfl h2) (q03 und9 rfl rfl rfl rfl) rfl rfl (RS.op (u:=.bool (bytesEq p1.Name [])) (want1 rfl rfl rfl h2) (q1l rfl rfl rfl rfl) rfl rfl (RS.q (u:=.bool (bytesEq p1.Name [])) rfl (q05 rfl h2 rfl) ?_)))))))
 refine RS.mv rfl rfl rfl rfl (RS.op (u:=.ptr 0 0 2) (want1 rfl rfl rfl h3) (q06 und37 rfl (q00 inf3) rfl rfl rfl) rfl rfl (RS.op (u:=.int .i64 p1.From) (want1 rfl rfl rfl h3) (q03 und3 rfl rfl rfl rfl) rfl rfl (RS.op (want1 rfl rfl rfl h3) (q02 rfl rfl (q0c _ _ _) rfl) rfl rfl (RS.q (u:=.bool (p1.From == 0)) rfl (q05 rfl h3 rfl) (RS.mv rfl rfl rfl rfl (RS.op (u:=.ptr 0 0 3) (want1 rfl rfl rfl h4) (q06 und37 rfl (q00 inf3) rfl rfl rfl) rfl rfl (RS.op (u:=.int .i64 p1.To) (want1 rfl rfl rfl h4) (q03 und3 rfl rfl rfl rfl) rfl rfl ?_)))))))
 refine RS.op (want1 rfl rfl rfl h4) (q02 rfl rfl (q0c _ _ _) rfl) rfl rfl (RS.q (u:=.bool (p1.To == 0)) rfl (q05 rfl h4 rfl) (RS.mv rfl rfl rfl rfl (RS.op (u:=.ptr 0 0 4) (want1 rfl rfl rfl h5) (q06 und37 rfl (q00 inf35) rfl rfl rfl) rfl rfl (RS.op (u:=.isl false (List.map cGDeriv p1.Kids)) (want1 rfl rfl rfl h5) (q03 und35 rfl rfl rfl rfl) rfl rfl (RS.op (want1 rfl rfl rfl h5) (q0j rfl rfl rfl (q0a cGDeriv und35)) rfl rfl (RS.op (want1 rfl rfl rfl h5) (q02 rfl rfl (q0c _ _ _) rfl) rfl rfl (RS.q (u:=.bool ((p1.Kids.length:Int) == 0)) rfl (q05 rfl h5 rfl) ?_)))))))
 refine sd ?_
 exact ⟨_,_,⟨rfl,rfl⟩,(Nat.zero_le _),Gh.toC (n1:=1) ⟨rfl,trivial⟩ rfl (Nat.zero_le _) (by simp)⟩
 replace h7:=q07 h5 h7
 replace h7:=Option.some.inj h7
 subst h7
 refine sr ?_
 refine RS.q (u:=.ptr 0 0 0) rfl (q06 und37 rfl (q00 inf3) rfl rfl rfl) (RS.q (u:=.int .i64 p1.Kind) rfl (q03 und3 rfl rfl rfl rfl) (RS.q rfl (q02 rfl rfl (q0c _ _ _) rfl) (RS.mv rfl rfl rfl rfl (RS.op (u:=.ptr 0 0 1) (want1 rfl rfl rfl h2) (q06 und37 rfl (q00 inf9) rfl rfl rfl) rfl rfl (RS.op (u:=.str p1.Name) (want1 rfl rfl rfl h2) (q03 und9 rfl rfl rfl rfl) rfl rfl (RS.op (u:=.bool (bytesEq p1.Name [])) (want1 rfl rfl rfl h2) (q1l rfl rfl rfl rfl) rfl rfl (RS.q (u:=.bool (bytesEq p1.Name [])) rfl (q05 rfl h2 rfl) ?_)))))))
 refine RS.mv rfl rfl rfl rfl (RS.op (u:=.ptr 0 0 2) (want1 rfl rfl rfl h3) (q06 und37 rfl (q00 inf3) rfl rfl rfl) rfl rfl (RS.op (u:=.int .i64 p1.From) (want1 rfl rfl rfl h3) (q03 und3 rfl rfl rfl rfl) rfl rfl (RS.op (want1 rfl rfl rfl h3) (q02 rfl rfl (q0c _ _ _) rfl) rfl rfl (RS.q (u:=.bool (p1.From == 0)) rfl (q05 rfl h3 rfl) (RS.mv rfl rfl rfl rfl (RS.op (u:=.ptr 0 0 3) (want1 rfl rfl rfl h4) (q06 und37 rfl (q00 inf3) rfl rfl rfl) rfl rfl (RS.op (u:=.int .i64 p1.To) (want1 rfl rfl rfl h4) (q03 und3 rfl rfl rfl rfl) rfl rfl ?_)))))))
 refine RS.op (want1 rfl rfl rfl h4) (q02 rfl rfl (q0c _ _ _) rfl) rfl rfl (RS.q (u:=.bool (p1.To == 0)) rfl (q05 rfl h4 rfl) (RS.mv rfl rfl rfl rfl ?_))
 repeat refine RS.no (want0 rfl rfl rfl h5) rfl rfl ?_
 refine RS.q (u:=.bool false) rfl (q04 rfl h5 rfl) ?_
 refine sd ?_
 exact ⟨_,_,⟨rfl,rfl⟩,(Nat.zero_le _),Gh.toC (n1:=1) ⟨rfl,trivial⟩ rfl (Nat.zero_le _) (by simp)⟩
 replace h7:=q07 h4 h7
 replace h7:=Option.some.inj h7
 subst h7
 refine sr ?_
 refine RS.q (u:=.ptr 0 0 0) rfl (q06 und37 rfl (q00 inf3) rfl rfl rfl) (RS.q (u:=.int .i64 p1.Kind) rfl (q03 und3 rfl rfl rfl rfl) (RS.q rfl (q02 rfl rfl (q0c _ _ _) rfl) (RS.mv rfl rfl rfl rfl (RS.op (u:=.ptr 0 0 1) (want1 rfl rfl rfl h2) (q06 und37 rfl (q00 inf9) rfl rfl rfl) rfl rfl (RS.op (u:=.str p1.Name) (want1 rfl rfl rfl h2) (q03 und9 rfl rfl rfl rfl) rfl rfl (RS.op (u:=.bool (bytesEq p1.Name [])) (want1 rfl rfl rfl h2) (q1l rfl rfl rfl rfl) rfl rfl (RS.q (u:=.bool (bytesEq p1.Name [])) rfl (q05 rfl h2 rfl) ?_)))))))
 refine RS.mv rfl rfl rfl rfl (RS.op (u:=.ptr 0 0 2) (want1 rfl rfl rfl h3) (q06 und37 rfl (q00 inf3) rfl rfl rfl) rfl rfl (RS.op (u:=.int .i64 p1.From) (want1 rfl rfl rfl h3) (q03 und3 rfl rfl rfl rfl) rfl rfl (RS.op (want1 rfl rfl rfl h3) (q02 rfl rfl (q0c _ _ _) rfl) rfl rfl (RS.q (u:=.bool (p1.From == 0)) rfl (q05 rfl h3 rfl) (RS.mv rfl rfl rfl rfl ?_)))))
 repeat refine RS.no (want0 rfl rfl rfl h4) rfl rfl ?_
 refine RS.q (u:=.bool false) rfl (q04 rfl h4 rfl) (RS.mv rfl rfl rfl rfl ?_)
 repeat refine RS.no (want0 rfl rfl rfl rfl) rfl rfl ?_
 refine RS.q (u:=.bool false) rfl (q04 rfl rfl rfl) ?_
 refine sd ?_
 exact ⟨_,_,⟨rfl,rfl⟩,(Nat.zero_le _),Gh.toC (n1:=1) ⟨rfl,trivial⟩ rfl (Nat.zero_le _) (by simp)⟩
 replace h7:=q07 h3 h7
 replace h7:=Option.some.inj h7
 subst h7
 refine sr ?_
 refine RS.q (u:=.ptr 0 0 0) rfl (q06 und37 rfl (q00 inf3) rfl rfl rfl) (RS.q (u:=.int .i64 p1.Kind) rfl (q03 und3 rfl rfl rfl rfl) (RS.q rfl (q02 rfl rfl (q0c _ _ _) rfl) (RS.mv rfl rfl rfl rfl (RS.op (u:=.ptr 0 0 1) (want1 rfl rfl rfl h2) (q06 und37 rfl (q00 inf9) rfl rfl rfl) rfl rfl (RS.op (u:=.str p1.Name) (want1 rfl rfl rfl h2) (q03 und9 rfl rfl rfl rfl) rfl rfl (RS.op (u:=.bool (bytesEq p1.Name [])) (want1 rfl rfl rfl h2) (q1l rfl rfl rfl rfl) rfl rfl (RS.q (u:=.bool (bytesEq p1.Name [])) rfl (q05 rfl h2 rfl) ?_)))))))
 refine RS.mv rfl rfl rfl rfl ?_
 repeat refine RS.no (want0 rfl rfl rfl h3) rfl rfl ?_
 refine RS.q (u:=.bool false) rfl (q04 rfl h3 rfl) (RS.mv rfl rfl rfl rfl ?_)
 repeat refine RS.no (want0 rfl rfl rfl rfl) rfl rfl ?_
 refine RS.q (u:=.bool false) rfl (q04 rfl rfl rfl) (RS.mv rfl rfl rfl rfl ?_)
 repeat refine RS.no (want0 rfl rfl rfl rfl) rfl rfl ?_
 refine RS.q (u:=.bool false) rfl (q04 rfl rfl rfl) ?_
 refine sd ?_
 exact ⟨_,_,⟨rfl,rfl⟩,(Nat.zero_le _),Gh.toC (n1:=1) ⟨rfl,trivial⟩ rfl (Nat.zero_le _) (by simp)⟩
 replace h7:=q07 h2 h7
 replace h7:=Option.some.inj h7
 subst h7
 refine sr ?_
 refine RS.q (u:=.ptr 0 0 0) rfl (q06 und37 rfl (q00 inf3) rfl rfl rfl) (RS.q (u:=.int .i64 p1.Kind) rfl (q03 und3 rfl rfl rfl rfl) (RS.q rfl (q02 rfl rfl (q0c _ _ _) rfl) (RS.mv rfl rfl rfl rfl ?_)))
 repeat refine RS.no (want0 rfl rfl rfl h2) rfl rfl ?_
 refine RS.q (u:=.bool false) rfl (q04 rfl h2 rfl) (RS.mv rfl rfl rfl rfl ?_)
 repeat refine RS.no (want0 rfl rfl rfl rfl) rfl rfl ?_
 refine RS.q (u:=.bool false) rfl (q04 rfl rfl rfl) (RS.mv rfl rfl rfl rfl ?_)
 repeat refine RS.no (want0 rfl rfl rfl rfl) rfl rfl ?_
 refine RS.q (u:=.bool false) rfl (q04 rfl rfl rfl) (RS.mv rfl rfl rfl rfl ?_)
 repeat refine RS.no (want0 rfl rfl rfl rfl) rfl rfl ?_
 refine RS.q (u:=.bool false) rfl (q04 rfl rfl rfl) ?_
 refine sd ?_
 exact ⟨_,_,⟨rfl,rfl⟩,(Nat.zero_le _),Gh.toC (n1:=1) ⟨rfl,trivial⟩ rfl (Nat.zero_le _) (by simp)⟩
theorem q8g (n:Nat) (p1:GDeriv) (r:Bool) (hF:q6y n p1=some r) (σ:Sg):EvU Try.prog 55 [.agg (xGDeriv p1)] σ (fun u σ'=>u = .bool r∧σ'=σ) :=
 EvU.pure1C (ref32_zero_0 n p1 r hF) σ
def q3j (p2:GEdge) (z42:Int):Option (Bool) :=
 bindO (cond (p2.Unary == z42)
  (some (decide (z42≤2)))
  (some false)) fun b44 =>
 some b44
def q5n (p1:GChart) (p2:GEdge) (z39:Int):Option (Bool) :=
 cond (z39 != p2.To)
  (some false)
  (cond ((p2.Kids.length:Int) == 1)
   (bindO (idxO p2.Kids 0) fun x46 =>
   bindO (idxO p1.Edges x46) fun x48 =>
   q3j p2 (IntKind.i64.wrap (x48.Unary+1)))
   (q3j p2 0))
def q3k (p1:GChart) (p2:GEdge):Nat→Int→Int→Option (Bool)
 | 0,_,_=>none
 | m1+1,z37,z38 =>
  cond (decide (z38<(p2.Kids.length:Int)))
   (bindO (idxO p2.Kids z38) fun x51 =>
   bindO (cond (decide (x51<0))
    (some true)
    (cond (decide (x51 ≥ (p1.Edges.length:Int)))
     (some true)
     (bindO (idxO p1.Edges x51) fun x55 =>
     some (x55.From != z37)))) fun b57 =>
   cond b57
    (some false)
    (bindO (idxO p1.Edges x51) fun x60 =>
    (q3k p1 p2 m1) x60.To (IntKind.i64.wrap (z38+1))))
   (q5n p1 p2 z37)
def q5a (n:Nat) (p1:GChart) (p2:GEdge):Option (Bool) :=
 cond (p2.Kind == 1)
  (bindO (cond (bytesEq p2.Name p2.Lex.Name)
   (cond ((p2.Kids.length:Int) == 0)
    (cond (p2.Unary == 0)
     (bindO (q37 n p2.Lex) fun r7 =>
     cond r7
      (cond (p2.Lex.From == p2.From)
       (some (p2.Lex.To == p2.To))
       (some false))
      (some false))
     (some false))
    (some false))
   (some false)) fun b11 =>
  some b11)
  (bindO (cond (bytesEq p2.Name [])
   (some true)
   (bindO (q6y n p2.Lex) fun r14 =>
   cond (!r14)
    (some true)
    (cond (decide ((p2.Kids.length:Int)<1))
     (some true)
     (some (decide ((p2.Kids.length:Int) > 2)))))) fun b18 =>
  cond b18
   (some false)
   (q3k p1 p2 n p2.From 0))
theorem ref32_formed_0 (n:Nat) (p1:GChart) (p2:GEdge) (r:Bool) (hF:q5a n p1 p2=some r):EvU Try.prog 37 [.agg (cGChart p1),.agg (cGEdge p2)] ⟨[],0⟩ (fun u _=>u = .bool r∧Bel 0 u):=by
 unfold q5a at hF
 refine EvU.of_body Try.tb_ok fn37 rfl ?_
 refine WPU.ghost (tm':=fr 136 [(0,.agg (cGChart p1)),(1,.agg (cGEdge p2))]) (Gh.start (Nat.le_of_ble_eq_true rfl)) (Nat.zero_le _) ?_
 refine sr ?_
 refine RS.q (u:=.ptr 0 0 0) (σ':=⟨[(0,.row (cGChart p1) 24)],1⟩) rfl (q20 rfl rfl rfl) (RS.q (u:=.ptr 1 0 0) (σ':=⟨[(1,.row (cGEdge p2) 42),(0,.row (cGChart p1) 24)],2⟩) rfl (q20 rfl rfl rfl) ?_)
 refine se ?_
 refine RS.q (u:=.ptr 1 0 3) rfl (q06 und42 rfl (q00 inf3) rfl rfl rfl) (RS.q (u:=.int .i64 p2.Kind) rfl (q03 und3 rfl rfl rfl rfl) (RS.q rfl (q02 rfl rfl (q0c _ _ _) rfl) ?_))
 refine sd ?_
 refine WPU.condS (t:=(p2.Kind == 1)) rfl (fun h3=>?_) (fun h3=>?_)
 replace hF:=q08 h3 hF
 refine st ?_
 obtain ⟨b11,h12,hF⟩:=q01 hF
 refine WPU.joinK (fun tm σ=>tm=fr 136 [(4,.bool b11)]∧σ=⟨[(1,.row (cGEdge p2) 42),(0,.row (cGChart p1) 24)],2⟩) ?_ ?_
 rintro _ _ ⟨rfl,rfl⟩
 refine st ?_
 refine WPU.ret ?_
 refine st ?_
 have hr:=Option.some.inj hF
 subst hr
 exact ⟨.inr rfl,[.bool b11],q0r rfl (q0o),.bool b11,⟨[],0⟩,Nat.le_refl _,Gh.toR (.bool b11) rfl,rfl,BU.h⟩
 rcases q0h (bytesEq p2.Name p2.Lex.Name) with h4 | h4
 replace h12:=q08 h4 h12
 rcases q0h ((p2.Kids.length:Int) == 0) with h5 | h5
 replace h12:=q08 h5 h12
 rcases q0h (p2.Unary == 0) with h6 | h6
 replace h12:=q08 h6 h12
 obtain ⟨r7,h8,h12⟩:=q01 h12
 rcases q0h r7 with h9 | h9
 replace h12:=q08 h9 h12
 rcases q0h (p2.Lex.From == p2.From) with h10 | h10
 replace h12:=q08 h10 h12
 replace h12:=Option.some.inj h12
 subst h12
 refine sr ?_
 refine RS.q (u:=.ptr 1 0 4) rfl (q06 und42 rfl (q00 inf9) rfl rfl rfl) (RS.q (u:=.str p2.Name) rfl (q03 und9 rfl rfl rfl rfl) (RS.q (u:=.ptr 1 0 6) rfl (q06 und42 rfl (q00 inf37) rfl rfl rfl) (RS.q (u:=.ptr 1 0 7) rfl (q06 und37 rfl (q00 inf9) rfl rfl rfl) (RS.q (u:=.str p2.Lex.Name) rfl (q03 und9 rfl rfl rfl rfl) (RS.q (u:=.bool (bytesEq p2.Name p2.Lex.Name)) rfl (q1l rfl rfl rfl rfl) (RS.mv rfl rfl rfl rfl (RS.op (u:=.ptr 1 0 5) (want1 rfl rfl rfl h4) (q06 und42 rfl (q00 inf34) rfl rfl rfl) rfl rfl ?_)))))))
 refine RS.op (u:=.isl false (List.map (cI .i64) p2.Kids)) (want1 rfl rfl rfl h4) (q03 und34 rfl rfl rfl rfl) rfl rfl (RS.op (want1 rfl rfl rfl h4) (q0j rfl rfl rfl (q0a (cI .i64) und34)) rfl rfl (RS.op (want1 rfl rfl rfl h4) (q02 rfl rfl (q0c _ _ _) rfl) rfl rfl (RS.q (u:=.bool ((p2.Kids.length:Int) == 0)) rfl (q05 rfl h4 rfl) (RS.mv rfl rfl rfl rfl (RS.op (u:=.ptr 1 0 2) (want1 rfl rfl rfl h5) (q06 und42 rfl (q00 inf3) rfl rfl rfl) rfl rfl (RS.op (u:=.int .i64 p2.Unary) (want1 rfl rfl rfl h5) (q03 und3 rfl rfl rfl rfl) rfl rfl (RS.op (want1 rfl rfl rfl h5) (q02 rfl rfl (q0c _ _ _) rfl) rfl rfl ?_)))))))
 refine RS.q (u:=.bool (p2.Unary == 0)) rfl (q05 rfl h5 rfl) (RS.mv rfl rfl rfl rfl (RS.op (u:=.ptr 1 0 6) (want1 rfl rfl rfl h6) (q06 und42 rfl (q00 inf37) rfl rfl rfl) rfl rfl (RS.op (u:=.agg (xGDeriv p2.Lex)) (want1 rfl rfl rfl h6) (q0i und37 rfl (q00 inf37) rfl rfl rfl) rfl rfl (RS.call (u:=.bool r7) (args:=[.agg (xGDeriv p2.Lex)]) (want1 rfl rfl rfl h6) (q0b rfl rfl fn54 hb54 rfl rfl) (q6o n p2.Lex r7 h8 _) rfl rfl (RS.q (u:=.bool r7) rfl (q05 rfl h6 rfl) (RS.mv rfl rfl rfl rfl (RS.op (u:=.ptr 1 0 6) (want1 rfl rfl rfl h9) (q06 und42 rfl (q00 inf37) rfl rfl rfl) rfl rfl ?_)))))))
 refine RS.op (u:=.ptr 1 0 8) (want1 rfl rfl rfl h9) (q06 und37 rfl (q00 inf3) rfl rfl rfl) rfl rfl (RS.op (u:=.int .i64 p2.Lex.From) (want1 rfl rfl rfl h9) (q03 und3 rfl rfl rfl rfl) rfl rfl (RS.op (u:=.ptr 1 0 0) (want1 rfl rfl rfl h9) (q06 und42 rfl (q00 inf3) rfl rfl rfl) rfl rfl (RS.op (u:=.int .i64 p2.From) (want1 rfl rfl rfl h9) (q03 und3 rfl rfl rfl rfl) rfl rfl (RS.op (want1 rfl rfl rfl h9) (q02 rfl rfl (q0c _ _ _) rfl) rfl rfl (RS.q (u:=.bool (p2.Lex.From == p2.From)) rfl (q05 rfl h9 rfl) (RS.mv rfl rfl rfl rfl (RS.op (u:=.ptr 1 0 6) (want1 rfl rfl rfl h10) (q06 und42 rfl (q00 inf37) rfl rfl rfl) rfl rfl ?_)))))))
 refine RS.op (u:=.ptr 1 0 9) (want1 rfl rfl rfl h10) (q06 und37 rfl (q00 inf3) rfl rfl rfl) rfl rfl (RS.op (u:=.int .i64 p2.Lex.To) (want1 rfl rfl rfl h10) (q03 und3 rfl rfl rfl rfl) rfl rfl (RS.op (u:=.ptr 1 0 1) (want1 rfl rfl rfl h10) (q06 und42 rfl (q00 inf3) rfl rfl rfl) rfl rfl (RS.op (u:=.int .i64 p2.To) (want1 rfl rfl rfl h10) (q03 und3 rfl rfl rfl rfl) rfl rfl (RS.op (want1 rfl rfl rfl h10) (q02 rfl rfl (q0c _ _ _) rfl) rfl rfl (RS.q (u:=.bool (p2.Lex.To == p2.To)) rfl (q05 rfl h10 rfl) ?_)))))
 refine sd ?_
 exact ⟨_,_,⟨rfl,rfl⟩,(Nat.zero_le _),Gh.toC (n1:=2) ⟨rfl,trivial⟩ rfl (Nat.zero_le _) (by simp)⟩
 replace h12:=q07 h10 h12
 replace h12:=Option.some.inj h12
 subst h12
 refine sr ?_
 refine RS.q (u:=.ptr 1 0 4) rfl (q06 und42 rfl (q00 inf9) rfl rfl rfl) (RS.q (u:=.str p2.Name) rfl (q03 und9 rfl rfl rfl rfl) (RS.q (u:=.ptr 1 0 6) rfl (q06 und42 rfl (q00 inf37) rfl rfl rfl) (RS.q (u:=.ptr 1 0 7) rfl (q06 und37 rfl (q00 inf9) rfl rfl rfl) (RS.q (u:=.str p2.Lex.Name) rfl (q03 und9 rfl rfl rfl rfl) (RS.q (u:=.bool (bytesEq p2.Name p2.Lex.Name)) rfl (q1l rfl rfl rfl rfl) (RS.mv rfl rfl rfl rfl (RS.op (u:=.ptr 1 0 5) (want1 rfl rfl rfl h4) (q06 und42 rfl (q00 inf34) rfl rfl rfl) rfl rfl ?_)))))))
 refine RS.op (u:=.isl false (List.map (cI .i64) p2.Kids)) (want1 rfl rfl rfl h4) (q03 und34 rfl rfl rfl rfl) rfl rfl (RS.op (want1 rfl rfl rfl h4) (q0j rfl rfl rfl (q0a (cI .i64) und34)) rfl rfl (RS.op (want1 rfl rfl rfl h4) (q02 rfl rfl (q0c _ _ _) rfl) rfl rfl (RS.q (u:=.bool ((p2.Kids.length:Int) == 0)) rfl (q05 rfl h4 rfl) (RS.mv rfl rfl rfl rfl (RS.op (u:=.ptr 1 0 2) (want1 rfl rfl rfl h5) (q06 und42 rfl (q00 inf3) rfl rfl rfl) rfl rfl (RS.op (u:=.int .i64 p2.Unary) (want1 rfl rfl rfl h5) (q03 und3 rfl rfl rfl rfl) rfl rfl (RS.op (want1 rfl rfl rfl h5) (q02 rfl rfl (q0c _ _ _) rfl) rfl rfl ?_)))))))
 refine RS.q (u:=.bool (p2.Unary == 0)) rfl (q05 rfl h5 rfl) (RS.mv rfl rfl rfl rfl (RS.op (u:=.ptr 1 0 6) (want1 rfl rfl rfl h6) (q06 und42 rfl (q00 inf37) rfl rfl rfl) rfl rfl (RS.op (u:=.agg (xGDeriv p2.Lex)) (want1 rfl rfl rfl h6) (q0i und37 rfl (q00 inf37) rfl rfl rfl) rfl rfl (RS.call (u:=.bool r7) (args:=[.agg (xGDeriv p2.Lex)]) (want1 rfl rfl rfl h6) (q0b rfl rfl fn54 hb54 rfl rfl) (q6o n p2.Lex r7 h8 _) rfl rfl (RS.q (u:=.bool r7) rfl (q05 rfl h6 rfl) (RS.mv rfl rfl rfl rfl (RS.op (u:=.ptr 1 0 6) (want1 rfl rfl rfl h9) (q06 und42 rfl (q00 inf37) rfl rfl rfl) rfl rfl ?_)))))))
 refine RS.op (u:=.ptr 1 0 8) (want1 rfl rfl rfl h9) (q06 und37 rfl (q00 inf3) rfl rfl rfl) rfl rfl (RS.op (u:=.int .i64 p2.Lex.From) (want1 rfl rfl rfl h9) (q03 und3 rfl rfl rfl rfl) rfl rfl (RS.op (u:=.ptr 1 0 0) (want1 rfl rfl rfl h9) (q06 und42 rfl (q00 inf3) rfl rfl rfl) rfl rfl (RS.op (u:=.int .i64 p2.From) (want1 rfl rfl rfl h9) (q03 und3 rfl rfl rfl rfl) rfl rfl (RS.op (want1 rfl rfl rfl h9) (q02 rfl rfl (q0c _ _ _) rfl) rfl rfl (RS.q (u:=.bool (p2.Lex.From == p2.From)) rfl (q05 rfl h9 rfl) (RS.mv rfl rfl rfl rfl ?_))))))
 repeat refine RS.no (want0 rfl rfl rfl h10) rfl rfl ?_
 refine RS.q (u:=.bool false) rfl (q04 rfl h10 rfl) ?_
 refine sd ?_
 exact ⟨_,_,⟨rfl,rfl⟩,(Nat.zero_le _),Gh.toC (n1:=2) ⟨rfl,trivial⟩ rfl (Nat.zero_le _) (by simp)⟩
 replace h12:=q07 h9 h12
 replace h12:=Option.some.inj h12
 subst h12
 refine sr ?_
 refine RS.q (u:=.ptr 1 0 4) rfl (q06 und42 rfl (q00 inf9) rfl rfl rfl) (RS.q (u:=.str p2.Name) rfl (q03 und9 rfl rfl rfl rfl) (RS.q (u:=.ptr 1 0 6) rfl (q06 und42 rfl (q00 inf37) rfl rfl rfl) (RS.q (u:=.ptr 1 0 7) rfl (q06 und37 rfl (q00 inf9) rfl rfl rfl) (RS.q (u:=.str p2.Lex.Name) rfl (q03 und9 rfl rfl rfl rfl) (RS.q (u:=.bool (bytesEq p2.Name p2.Lex.Name)) rfl (q1l rfl rfl rfl rfl) (RS.mv rfl rfl rfl rfl (RS.op (u:=.ptr 1 0 5) (want1 rfl rfl rfl h4) (q06 und42 rfl (q00 inf34) rfl rfl rfl) rfl rfl ?_)))))))
 refine RS.op (u:=.isl false (List.map (cI .i64) p2.Kids)) (want1 rfl rfl rfl h4) (q03 und34 rfl rfl rfl rfl) rfl rfl (RS.op (want1 rfl rfl rfl h4) (q0j rfl rfl rfl (q0a (cI .i64) und34)) rfl rfl (RS.op (want1 rfl rfl rfl h4) (q02 rfl rfl (q0c _ _ _) rfl) rfl rfl (RS.q (u:=.bool ((p2.Kids.length:Int) == 0)) rfl (q05 rfl h4 rfl) (RS.mv rfl rfl rfl rfl (RS.op (u:=.ptr 1 0 2) (want1 rfl rfl rfl h5) (q06 und42 rfl (q00 inf3) rfl rfl rfl) rfl rfl (RS.op (u:=.int .i64 p2.Unary) (want1 rfl rfl rfl h5) (q03 und3 rfl rfl rfl rfl) rfl rfl (RS.op (want1 rfl rfl rfl h5) (q02 rfl rfl (q0c _ _ _) rfl) rfl rfl ?_)))))))
 refine RS.q (u:=.bool (p2.Unary == 0)) rfl (q05 rfl h5 rfl) (RS.mv rfl rfl rfl rfl (RS.op (u:=.ptr 1 0 6) (want1 rfl rfl rfl h6) (q06 und42 rfl (q00 inf37) rfl rfl rfl) rfl rfl (RS.op (u:=.agg (xGDeriv p2.Lex)) (want1 rfl rfl rfl h6) (q0i und37 rfl (q00 inf37) rfl rfl rfl) rfl rfl (RS.call (u:=.bool r7) (args:=[.agg (xGDeriv p2.Lex)]) (want1 rfl rfl rfl h6) (q0b rfl rfl fn54 hb54 rfl rfl) (q6o n p2.Lex r7 h8 _) rfl rfl (RS.q (u:=.bool r7) rfl (q05 rfl h6 rfl) (RS.mv rfl rfl rfl rfl ?_))))))
 repeat refine RS.no (want0 rfl rfl rfl h9) rfl rfl ?_
 refine RS.q (u:=.bool false) rfl (q04 rfl h9 rfl) (RS.mv rfl rfl rfl rfl ?_)
 repeat refine RS.no (want0 rfl rfl rfl rfl) rfl rfl ?_
 refine RS.q (u:=.bool false) rfl (q04 rfl rfl rfl) ?_
 refine sd ?_
 exact ⟨_,_,⟨rfl,rfl⟩,(Nat.zero_le _),Gh.toC (n1:=2) ⟨rfl,trivial⟩ rfl (Nat.zero_le _) (by simp)⟩
 replace h12:=q07 h6 h12
 replace h12:=Option.some.inj h12
 subst h12
 refine sr ?_
 refine RS.q (u:=.ptr 1 0 4) rfl (q06 und42 rfl (q00 inf9) rfl rfl rfl) (RS.q (u:=.str p2.Name) rfl (q03 und9 rfl rfl rfl rfl) (RS.q (u:=.ptr 1 0 6) rfl (q06 und42 rfl (q00 inf37) rfl rfl rfl) (RS.q (u:=.ptr 1 0 7) rfl (q06 und37 rfl (q00 inf9) rfl rfl rfl) (RS.q (u:=.str p2.Lex.Name) rfl (q03 und9 rfl rfl rfl rfl) (RS.q (u:=.bool (bytesEq p2.Name p2.Lex.Name)) rfl (q1l rfl rfl rfl rfl) (RS.mv rfl rfl rfl rfl (RS.op (u:=.ptr 1 0 5) (want1 rfl rfl rfl h4) (q06 und42 rfl (q00 inf34) rfl rfl rfl) rfl rfl ?_)))))))
 refine RS.op (u:=.isl false (List.map (cI .i64) p2.Kids)) (want1 rfl rfl rfl h4) (q03 und34 rfl rfl rfl rfl) rfl rfl (RS.op (want1 rfl rfl rfl h4) (q0j rfl rfl rfl (q0a (cI .i64) und34)) rfl rfl (RS.op (want1 rfl rfl rfl h4) (q02 rfl rfl (q0c _ _ _) rfl) rfl rfl (RS.q (u:=.bool ((p2.Kids.length:Int) == 0)) rfl (q05 rfl h4 rfl) (RS.mv rfl rfl rfl rfl (RS.op (u:=.ptr 1 0 2) (want1 rfl rfl rfl h5) (q06 und42 rfl (q00 inf3) rfl rfl rfl) rfl rfl (RS.op (u:=.int .i64 p2.Unary) (want1 rfl rfl rfl h5) (q03 und3 rfl rfl rfl rfl) rfl rfl (RS.op (want1 rfl rfl rfl h5) (q02 rfl rfl (q0c _ _ _) rfl) rfl rfl ?_)))))))
 refine RS.q (u:=.bool (p2.Unary == 0)) rfl (q05 rfl h5 rfl) (RS.mv rfl rfl rfl rfl ?_)
 repeat refine RS.no (want0 rfl rfl rfl h6) rfl rfl ?_
 refine RS.q (u:=.bool false) rfl (q04 rfl h6 rfl) (RS.mv rfl rfl rfl rfl ?_)
 repeat refine RS.no (want0 rfl rfl rfl rfl) rfl rfl ?_
 refine RS.q (u:=.bool false) rfl (q04 rfl rfl rfl) (RS.mv rfl rfl rfl rfl ?_)
 repeat refine RS.no (want0 rfl rfl rfl rfl) rfl rfl ?_
 refine RS.q (u:=.bool false) rfl (q04 rfl rfl rfl) ?_
 refine sd ?_
 exact ⟨_,_,⟨rfl,rfl⟩,(Nat.zero_le _),Gh.toC (n1:=2) ⟨rfl,trivial⟩ rfl (Nat.zero_le _) (by simp)⟩
 replace h12:=q07 h5 h12
 replace h12:=Option.some.inj h12
 subst h12
 refine sr ?_
 refine RS.q (u:=.ptr 1 0 4) rfl (q06 und42 rfl (q00 inf9) rfl rfl rfl) (RS.q (u:=.str p2.Name) rfl (q03 und9 rfl rfl rfl rfl) (RS.q (u:=.ptr 1 0 6) rfl (q06 und42 rfl (q00 inf37) rfl rfl rfl) (RS.q (u:=.ptr 1 0 7) rfl (q06 und37 rfl (q00 inf9) rfl rfl rfl) (RS.q (u:=.str p2.Lex.Name) rfl (q03 und9 rfl rfl rfl rfl) (RS.q (u:=.bool (bytesEq p2.Name p2.Lex.Name)) rfl (q1l rfl rfl rfl rfl) (RS.mv rfl rfl rfl rfl (RS.op (u:=.ptr 1 0 5) (want1 rfl rfl rfl h4) (q06 und42 rfl (q00 inf34) rfl rfl rfl) rfl rfl ?_)))))))
 refine RS.op (u:=.isl false (List.map (cI .i64) p2.Kids)) (want1 rfl rfl rfl h4) (q03 und34 rfl rfl rfl rfl) rfl rfl (RS.op (want1 rfl rfl rfl h4) (q0j rfl rfl rfl (q0a (cI .i64) und34)) rfl rfl (RS.op (want1 rfl rfl rfl h4) (q02 rfl rfl (q0c _ _ _) rfl) rfl rfl (RS.q (u:=.bool ((p2.Kids.length:Int) == 0)) rfl (q05 rfl h4 rfl) (RS.mv rfl rfl rfl rfl ?_))))
 repeat refine RS.no (want0 rfl rfl rfl h5) rfl rfl ?_
 refine RS.q (u:=.bool false) rfl (q04 rfl h5 rfl) (RS.mv rfl rfl rfl rfl ?_)
 repeat refine RS.no (want0 rfl rfl rfl rfl) rfl rfl ?_
 refine RS.q (u:=.bool false) rfl (q04 rfl rfl rfl) (RS.mv rfl rfl rfl rfl ?_)
 repeat refine RS.no (want0 rfl rfl rfl rfl) rfl rfl ?_
 refine RS.q (u:=.bool false) rfl (q04 rfl rfl rfl) (RS.mv rfl rfl rfl rfl ?_)
 repeat refine RS.no (want0 rfl rfl rfl rfl) rfl rfl ?_
 refine RS.q (u:=.bool false) rfl (q04 rfl rfl rfl) ?_
 refine sd ?_
 exact ⟨_,_,⟨rfl,rfl⟩,(Nat.zero_le _),Gh.toC (n1:=2) ⟨rfl,trivial⟩ rfl (Nat.zero_le _) (by simp)⟩
 replace h12:=q07 h4 h12
 replace h12:=Option.some.inj h12
 subst h12
 refine sr ?_
 refine RS.q (u:=.ptr 1 0 4) rfl (q06 und42 rfl (q00 inf9) rfl rfl rfl) (RS.q (u:=.str p2.Name) rfl (q03 und9 rfl rfl rfl rfl) (RS.q (u:=.ptr 1 0 6) rfl (q06 und42 rfl (q00 inf37) rfl rfl rfl) (RS.q (u:=.ptr 1 0 7) rfl (q06 und37 rfl (q00 inf9) rfl rfl rfl) (RS.q (u:=.str p2.Lex.Name) rfl (q03 und9 rfl rfl rfl rfl) (RS.q (u:=.bool (bytesEq p2.Name p2.Lex.Name)) rfl (q1l rfl rfl rfl rfl) (RS.mv rfl rfl rfl rfl ?_))))))
 repeat refine RS.no (want0 rfl rfl rfl h4) rfl rfl ?_
 refine RS.q (u:=.bool false) rfl (q04 rfl h4 rfl) (RS.mv rfl rfl rfl rfl ?_)
 repeat refine RS.no (want0 rfl rfl rfl rfl) rfl rfl ?_
 refine RS.q (u:=.bool false) rfl (q04 rfl rfl rfl) (RS.mv rfl rfl rfl rfl ?_)
 repeat refine RS.no (want0 rfl rfl rfl rfl) rfl rfl ?_
 refine RS.q (u:=.bool false) rfl (q04 rfl rfl rfl) (RS.mv rfl rfl rfl rfl ?_)
 repeat refine RS.no (want0 rfl rfl rfl rfl) rfl rfl ?_
 refine RS.q (u:=.bool false) rfl (q04 rfl rfl rfl) (RS.mv rfl rfl rfl rfl ?_)
 repeat refine RS.no (want0 rfl rfl rfl rfl) rfl rfl ?_
 refine RS.q (u:=.bool false) rfl (q04 rfl rfl rfl) ?_
 refine sd ?_
 exact ⟨_,_,⟨rfl,rfl⟩,(Nat.zero_le _),Gh.toC (n1:=2) ⟨rfl,trivial⟩ rfl (Nat.zero_le _) (by simp)⟩
 replace hF:=q07 h3 hF
 refine st ?_
 refine WPU.skip ?_
 refine st ?_
 obtain ⟨b18,h19,hF⟩:=q01 hF
 refine WPU.joinK (fun tm σ=>tm=fr 136 [(2,.ptr 0 0 0),(3,.ptr 1 0 0),(70,.bool b18)]∧σ=⟨[(1,.row (cGEdge p2) 42),(0,.row (cGChart p1) 24)],2⟩) ?_ ?_
 rintro _ _ ⟨rfl,rfl⟩
 refine st ?_
 refine WPU.condS (t:=b18) rfl (fun h20=>?_) (fun h20=>?_)
 replace hF:=q08 h20 hF
 refine sr ?_
 refine sd ?_
 refine WPU.ret ?_
 refine st ?_
 have hr:=Option.some.inj hF
 subst hr
 exact ⟨.inr rfl,[.bool false],q0r rfl (q0o),.bool false,⟨[],0⟩,Nat.le_refl _,Gh.toR (.bool false) rfl,rfl,BU.h⟩
 replace hF:=q07 h20 hF
 refine st ?_
 refine WPU.skip ?_
 refine sr ?_
 refine RS.q (u:=.ptr 1 0 0) rfl (q06 und42 rfl (q00 inf3) rfl rfl rfl) (RS.q (u:=.int .i64 p2.From) rfl (q03 und3 rfl rfl rfl rfl) ?_)
 refine se ?_
 refine sd ?_
 refine WPU.ghost (tm':=fr 136 [(2,.ptr 0 0 0),(3,.ptr 1 0 0),(5,.int .i64 p2.From),(6,.int .i64 0)]) (Gh.sub ⟨rfl,rfl,rfl,rfl,trivial⟩) (Nat.zero_le _) ?_
 refine WPU.loopK (fun m tm σ=>∃ z37:Int,∃ z38:Int,q3k p1 p2 m z37 z38=some r∧tm=fr 136 [(2,.ptr 0 0 0),(3,.ptr 1 0 0),(5,.int .i64 z37),(6,.int .i64 z38)]∧σ=⟨[(1,.row (cGEdge p2) 42),(0,.row (cGChart p1) 24)],2⟩) (fun tm σ=>∃ z39:Int,q5n p1 p2 z39=some r∧tm=fr 136 [(2,.ptr 0 0 0),(3,.ptr 1 0 0),(5,.int .i64 z39)]∧σ=⟨[(1,.row (cGEdge p2) 42),(0,.row (cGChart p1) 24)],2⟩) n ⟨p2.From,0,hF,rfl,rfl⟩ ?_ ?_
 rintro _ _ ⟨z39,hF,rfl,rfl⟩
 unfold q5n at hF
 refine sr ?_
 refine RS.q (u:=.ptr 1 0 1) rfl (q06 und42 rfl (q00 inf3) rfl rfl rfl) (RS.q (u:=.int .i64 p2.To) rfl (q03 und3 rfl rfl rfl rfl) (RS.q rfl (q02 rfl rfl (q0e _ _ _) rfl) ?_))
 refine sd ?_
 refine WPU.condS (t:=(z39 != p2.To)) rfl (fun h40=>?_) (fun h40=>?_)
 replace hF:=q08 h40 hF
 refine sr ?_
 refine sd ?_
 refine WPU.ret ?_
 refine st ?_
 have hr:=Option.some.inj hF
 subst hr
 exact ⟨.inr rfl,[.bool false],q0r rfl (q0o),.bool false,⟨[],0⟩,Nat.le_refl _,Gh.toR (.bool false) rfl,rfl,BU.h⟩
 replace hF:=q07 h40 hF
 refine st ?_
 refine WPU.skip ?_
 refine sr ?_
 refine se ?_
 refine RS.q (u:=.ptr 1 0 5) rfl (q06 und42 rfl (q00 inf34) rfl rfl rfl) (RS.q (u:=.isl false (List.map (cI .i64) p2.Kids)) rfl (q03 und34 rfl rfl rfl rfl) (RS.q rfl (q0j rfl rfl rfl (q0a (cI .i64) und34)) (RS.q rfl (q02 rfl rfl (q0c _ _ _) rfl) ?_)))
 refine sd ?_
 refine WPU.joinK (fun tm σ=>∃ z42:Int,q3j p2 z42=some r∧tm=fr 136 [(3,.ptr 1 0 0),(8,.int .i64 z42)]∧σ=⟨[(1,.row (cGEdge p2) 42),(0,.row (cGChart p1) 24)],2⟩) ?_ ?_
 rintro _ _ ⟨z42,hF,rfl,rfl⟩
 unfold q3j at hF
 refine st ?_
 obtain ⟨b44,h45,hF⟩:=q01 hF
 refine WPU.joinK (fun tm σ=>tm=fr 136 [(4,.bool b44)]∧σ=⟨[(1,.row (cGEdge p2) 42),(0,.row (cGChart p1) 24)],2⟩) ?_ ?_
 rintro _ _ ⟨rfl,rfl⟩
 refine st ?_
 refine WPU.ret ?_
 refine st ?_
 have hr:=Option.some.inj hF
 subst hr
 exact ⟨.inr rfl,[.bool b44],q0r rfl (q0o),.bool b44,⟨[],0⟩,Nat.le_refl _,Gh.toR (.bool b44) rfl,rfl,BU.h⟩
 rcases q0h (p2.Unary == z42) with h43 | h43
 replace h45:=q08 h43 h45
 replace h45:=Option.some.inj h45
 subst h45
 refine sr ?_
 refine RS.q (u:=.ptr 1 0 2) rfl (q06 und42 rfl (q00 inf3) rfl rfl rfl) (RS.q (u:=.int .i64 p2.Unary) rfl (q03 und3 rfl rfl rfl rfl) (RS.mv rfl rfl rfl rfl (RS.q rfl (q02 rfl rfl (q0c _ _ _) rfl) (RS.mv rfl rfl rfl rfl (RS.op (want1 rfl rfl rfl h43) (q09 rfl) rfl rfl (RS.op (want1 rfl rfl rfl h43) (q02 rfl rfl (ix_leq _ _ _) rfl) rfl rfl (RS.q (u:=.bool (decide (z42≤2))) rfl (q05 rfl h43 rfl) ?_)))))))
 refine sd ?_
 exact ⟨_,_,⟨rfl,rfl⟩,(Nat.zero_le _),Gh.toC (n1:=2) ⟨rfl,trivial⟩ rfl (Nat.zero_le _) (by simp)⟩
 replace h45:=q07 h43 h45
 replace h45:=Option.some.inj h45
 subst h45
 refine sr ?_
 refine RS.q (u:=.ptr 1 0 2) rfl (q06 und42 rfl (q00 inf3) rfl rfl rfl) (RS.q (u:=.int .i64 p2.Unary) rfl (q03 und3 rfl rfl rfl rfl) (RS.mv rfl rfl rfl rfl (RS.q rfl (q02 rfl rfl (q0c _ _ _) rfl) (RS.mv rfl rfl rfl rfl ?_))))
 repeat refine RS.no (want0 rfl rfl rfl h43) rfl rfl ?_
 refine RS.q (u:=.bool false) rfl (q04 rfl h43 rfl) ?_
 refine sd ?_
 exact ⟨_,_,⟨rfl,rfl⟩,(Nat.zero_le _),Gh.toC (n1:=2) ⟨rfl,trivial⟩ rfl (Nat.zero_le _) (by simp)⟩
 refine WPU.condS (t:=((p2.Kids.length:Int) == 1)) rfl (fun h41=>?_) (fun h41=>?_)
 replace hF:=q08 h41 hF
 refine st ?_
 obtain ⟨x46,h47,hF⟩:=q01 hF
 obtain ⟨x48,h49,hF⟩:=q01 hF
 refine WPU.drawE Try.tb_ok [] (by kernel_rfl) ?_
 refine RD.q (u:=.ptr 0 0 1) rfl (q06 und24 rfl (q00 inf22) rfl rfl rfl) (RD.q (u:=.isl false (List.map cGEdge p1.Edges)) rfl (q03 und22 rfl rfl rfl rfl) (RD.q (u:=.ptr 1 0 5) rfl (q06 und42 rfl (q00 inf34) rfl rfl rfl) (RD.q (u:=.isl false (List.map (cI .i64) p2.Kids)) rfl (q03 und34 rfl rfl rfl rfl) (RD.q (u:=.iptr [.int .i64 x46]) rfl (q0x rfl rfl (q0k (cI .i64) und34 (q00 inf3) (q1t .i64) h47 rfl)) (RD.q (u:=.int .i64 x46) rfl (q0z und3 rfl rfl rfl) (RD.q (u:=.iptr (cGEdge x48)) rfl (q0x rfl rfl (q0k cGEdge und22 (q00 inf42) q0f h49 rfl)) (RD.q (u:=.iptr [.int .i64 x48.Unary,.int .i64 x48.Kind,.str x48.Name,.isl false (List.map (cI .i64) x48.Kids),.int .i64 x48.Lex.Kind,.str x48.Lex.Name,.int .i64 x48.Lex.From,.int .i64 x48.Lex.To,.isl false (List.map cGDeriv x48.Lex.Kids),.isl false (List.map cGNode x48.FS.Nodes)]) rfl (q3y und42 rfl (q00 inf3) rfl rfl) ?_)))))))
 refine RD.q (u:=.int .i64 x48.Unary) rfl (q0z und3 rfl rfl rfl) (RD.q rfl (q02 rfl rfl (q23 _ _ _) rfl) (RD.as rfl rfl rfl rfl ?_))
 refine RD.done ⟨by kernel_rfl,trivial,?_⟩
 refine st ?_
 exact ⟨_,_,⟨(IntKind.i64.wrap (x48.Unary+1)),hF,rfl,rfl⟩,(Nat.zero_le _),Gh.toC (n1:=2) ⟨rfl,rfl,trivial⟩ rfl (Nat.zero_le _) (by simp)⟩
 replace hF:=q07 h41 hF
 refine st ?_
 refine WPU.skip ?_
 refine st ?_
 exact ⟨_,_,⟨0,hF,rfl,rfl⟩,(Nat.zero_le _),Gh.toC (n1:=2) ⟨rfl,rfl,trivial⟩ rfl (Nat.zero_le _) (by simp)⟩
 rintro m1 _ _ ⟨z37,z38,hF,rfl,rfl⟩
 rcases m1 with _ | m1
 cases hF
 unfold q3k at hF
 refine sr ?_
 refine RS.q (u:=.ptr 1 0 5) rfl (q06 und42 rfl (q00 inf34) rfl rfl rfl) (RS.q (u:=.isl false (List.map (cI .i64) p2.Kids)) rfl (q03 und34 rfl rfl rfl rfl) (RS.q rfl (q0j rfl rfl rfl (q0a (cI .i64) und34)) (RS.q rfl (q02 rfl rfl (q0s _ _ _) rfl) ?_)))
 refine sd ?_
 refine WPU.condS (t:=(decide (z38<(p2.Kids.length:Int)))) rfl (fun h50=>?_) (fun h50=>?_)
 replace hF:=q08 h50 hF
 refine st ?_
 refine WPU.skip ?_
 refine st ?_
 refine WPU.block ?_
 refine st ?_
 obtain ⟨x51,h52,hF⟩:=q01 hF
 refine sr ?_
 refine RS.q (u:=.ptr 1 0 5) rfl (q06 und42 rfl (q00 inf34) rfl rfl rfl) (RS.q (u:=.isl false (List.map (cI .i64) p2.Kids)) rfl (q03 und34 rfl rfl rfl rfl) (RS.mv rfl rfl rfl rfl (RS.q (u:=.iptr [.int .i64 x51]) rfl (q0x rfl rfl (q0k (cI .i64) und34 (q00 inf3) (q1t .i64) h52 rfl)) (RS.q (u:=.int .i64 x51) rfl (q0z und3 rfl rfl rfl) ?_))))
 refine sd ?_
 obtain ⟨b57,h58,hF⟩:=q01 hF
 refine WPU.joinK (fun tm σ=>tm=fr 136 [(2,.ptr 0 0 0),(3,.ptr 1 0 0),(6,.int .i64 z38),(7,.int .i64 x51),(103,.bool b57)]∧σ=⟨[(1,.row (cGEdge p2) 42),(0,.row (cGChart p1) 24)],2⟩) ?_ ?_
 rintro _ _ ⟨rfl,rfl⟩
 refine st ?_
 refine WPU.condS (t:=b57) rfl (fun h59=>?_) (fun h59=>?_)
 replace hF:=q08 h59 hF
 refine sr ?_
 refine sd ?_
 refine WPU.ret ?_
 refine st ?_
 have hr:=Option.some.inj hF
 subst hr
 exact ⟨.inr rfl,[.bool false],q0r rfl (q0o),.bool false,⟨[],0⟩,Nat.le_refl _,Gh.toR (.bool false) rfl,rfl,BU.h⟩
 replace hF:=q07 h59 hF
 refine st ?_
 refine WPU.skip ?_
 refine st ?_
 obtain ⟨x60,h61,hF⟩:=q01 hF
 refine sr ?_
 refine RS.q (u:=.ptr 0 0 1) rfl (q06 und24 rfl (q00 inf22) rfl rfl rfl) (RS.q (u:=.isl false (List.map cGEdge p1.Edges)) rfl (q03 und22 rfl rfl rfl rfl) (RS.mv rfl rfl rfl rfl (RS.q (u:=.iptr (cGEdge x60)) rfl (q0x rfl rfl (q0k cGEdge und22 (q00 inf42) q0f h61 rfl)) (RS.q (u:=.iptr [.int .i64 x60.To,.int .i64 x60.Unary,.int .i64 x60.Kind,.str x60.Name,.isl false (List.map (cI .i64) x60.Kids),.int .i64 x60.Lex.Kind,.str x60.Lex.Name,.int .i64 x60.Lex.From,.int .i64 x60.Lex.To,.isl false (List.map cGDeriv x60.Lex.Kids),.isl false (List.map cGNode x60.FS.Nodes)]) rfl (q3y und42 rfl (q00 inf3) rfl rfl) (RS.q (u:=.int .i64 x60.To) rfl (q0z und3 rfl rfl rfl) ?_)))))
 refine se ?_
 refine RS.q rfl (q02 rfl rfl (q23 _ _ _) rfl) ?_
 refine sd ?_
 exact ⟨m1,_,_,Nat.lt_succ_self _,⟨x60.To,(IntKind.i64.wrap (z38+1)),hF,rfl,rfl⟩,(Nat.zero_le _),Gh.toC (n1:=2) ⟨rfl,rfl,rfl,rfl,trivial⟩ rfl (Nat.zero_le _) (by simp)⟩
 rcases q0h (decide (x51<0)) with h53 | h53
 replace h58:=q08 h53 h58
 replace h58:=Option.some.inj h58
 subst h58
 refine sr ?_
 refine RS.q rfl (q02 rfl rfl (q0s _ _ _) rfl) (RS.mv rfl rfl rfl rfl ?_)
 repeat refine RS.no (want0 rfl rfl rfl h53) rfl rfl ?_
 refine RS.q (u:=.bool true) rfl (q05 rfl h53 rfl) (RS.mv rfl rfl rfl rfl ?_)
 repeat refine RS.no (want0 rfl rfl rfl rfl) rfl rfl ?_
 refine RS.q (u:=.bool true) rfl (q05 rfl rfl rfl) ?_
 refine sd ?_
 exact ⟨_,_,⟨rfl,rfl⟩,(Nat.zero_le _),Gh.toC (n1:=2) ⟨rfl,rfl,rfl,rfl,rfl,trivial⟩ rfl (Nat.zero_le _) (by simp)⟩
 replace h58:=q07 h53 h58
 rcases q0h (decide (x51 ≥ (p1.Edges.length:Int))) with h54 | h54
 replace h58:=q08 h54 h58
 replace h58:=Option.some.inj h58
 subst h58
 refine sr ?_
 refine RS.q rfl (q02 rfl rfl (q0s _ _ _) rfl) (RS.mv rfl rfl rfl rfl (RS.op (want1 rfl rfl rfl h53) (q09 rfl) rfl rfl (RS.op (u:=.ptr 0 0 1) (want1 rfl rfl rfl h53) (q06 und24 rfl (q00 inf22) rfl rfl rfl) rfl rfl (RS.op (u:=.isl false (List.map cGEdge p1.Edges)) (want1 rfl rfl rfl h53) (q03 und22 rfl rfl rfl rfl) rfl rfl (RS.op (want1 rfl rfl rfl h53) (q0j rfl rfl rfl (q0a cGEdge und22)) rfl rfl (RS.op (want1 rfl rfl rfl h53) (q02 rfl rfl (q8r _ _ _) rfl) rfl rfl (RS.q (u:=.bool (decide (x51 ≥ (p1.Edges.length:Int)))) rfl (q04 rfl h53 rfl) ?_)))))))
 refine RS.mv rfl rfl rfl rfl ?_
 repeat refine RS.no (want0 rfl rfl rfl h54) rfl rfl ?_
 refine RS.q (u:=.bool true) rfl (q05 rfl h54 rfl) ?_
 refine sd ?_
 exact ⟨_,_,⟨rfl,rfl⟩,(Nat.zero_le _),Gh.toC (n1:=2) ⟨rfl,rfl,rfl,rfl,rfl,trivial⟩ rfl (Nat.zero_le _) (by simp)⟩
 replace h58:=q07 h54 h58
 obtain ⟨x55,h56,h58⟩:=q01 h58
 replace h58:=Option.some.inj h58
 subst h58
 refine sr ?_
 refine RS.q rfl (q02 rfl rfl (q0s _ _ _) rfl) (RS.mv rfl rfl rfl rfl (RS.op (want1 rfl rfl rfl h53) (q09 rfl) rfl rfl (RS.op (u:=.ptr 0 0 1) (want1 rfl rfl rfl h53) (q06 und24 rfl (q00 inf22) rfl rfl rfl) rfl rfl (RS.op (u:=.isl false (List.map cGEdge p1.Edges)) (want1 rfl rfl rfl h53) (q03 und22 rfl rfl rfl rfl) rfl rfl (RS.op (want1 rfl rfl rfl h53) (q0j rfl rfl rfl (q0a cGEdge und22)) rfl rfl (RS.op (want1 rfl rfl rfl h53) (q02 rfl rfl (q8r _ _ _) rfl) rfl rfl (RS.q (u:=.bool (decide (x51 ≥ (p1.Edges.length:Int)))) rfl (q04 rfl h53 rfl) ?_)))))))
 refine RS.mv rfl rfl rfl rfl (RS.op (u:=.ptr 0 0 1) (want1 rfl rfl rfl h54) (q06 und24 rfl (q00 inf22) rfl rfl rfl) rfl rfl (RS.op (u:=.isl false (List.map cGEdge p1.Edges)) (want1 rfl rfl rfl h54) (q03 und22 rfl rfl rfl rfl) rfl rfl (RS.op (want1 rfl rfl rfl h54) (q09 rfl) rfl rfl (RS.op (u:=.iptr (cGEdge x55)) (want1 rfl rfl rfl h54) (q0x rfl rfl (q0k cGEdge und22 (q00 inf42) q0f h56 rfl)) rfl rfl (RS.op (u:=.iptr (cGEdge x55)) (want1 rfl rfl rfl h54) (q3y und42 rfl (q00 inf3) rfl rfl) rfl rfl (RS.op (u:=.int .i64 x55.From) (want1 rfl rfl rfl h54) (q0z und3 rfl rfl rfl) rfl rfl (RS.op (want1 rfl rfl rfl h54) (q09 rfl) rfl rfl ?_)))))))
 refine RS.op (want1 rfl rfl rfl h54) (q02 rfl rfl (q0e _ _ _) rfl) rfl rfl (RS.q (u:=.bool (x55.From != z37)) rfl (q04 rfl h54 rfl) ?_)
 refine sd ?_
 exact ⟨_,_,⟨rfl,rfl⟩,(Nat.zero_le _),Gh.toC (n1:=2) ⟨rfl,rfl,rfl,rfl,rfl,trivial⟩ rfl (Nat.zero_le _) (by simp)⟩
 replace hF:=q07 h50 hF
 refine st ?_
 refine WPU.exit ?_
 refine st ?_
 exact ⟨_,_,⟨z37,hF,rfl,rfl⟩,(Nat.zero_le _),Gh.toC (n1:=2) ⟨rfl,rfl,rfl,trivial⟩ rfl (Nat.zero_le _) (by simp)⟩
 rcases q0h (bytesEq p2.Name []) with h13 | h13
 replace h19:=q08 h13 h19
 replace h19:=Option.some.inj h19
 subst h19
 refine sr ?_
 refine RS.q (u:=.ptr 1 0 4) rfl (q06 und42 rfl (q00 inf9) rfl rfl rfl) (RS.q (u:=.str p2.Name) rfl (q03 und9 rfl rfl rfl rfl) (RS.q (u:=.bool (bytesEq p2.Name [])) rfl (q1l rfl rfl rfl rfl) (RS.mv rfl rfl rfl rfl ?_)))
 repeat refine RS.no (want0 rfl rfl rfl h13) rfl rfl ?_
 refine RS.q (u:=.bool true) rfl (q05 rfl h13 rfl) (RS.mv rfl rfl rfl rfl ?_)
 repeat refine RS.no (want0 rfl rfl rfl rfl) rfl rfl ?_
 refine RS.q (u:=.bool true) rfl (q05 rfl rfl rfl) (RS.mv rfl rfl rfl rfl ?_)
 repeat refine RS.no (want0 rfl rfl rfl rfl) rfl rfl ?_
 refine RS.q (u:=.bool true) rfl (q05 rfl rfl rfl) ?_
 refine sd ?_
 exact ⟨_,_,⟨rfl,rfl⟩,(Nat.zero_le _),Gh.toC (n1:=2) ⟨rfl,rfl,rfl,trivial⟩ rfl (Nat.zero_le _) (by simp)⟩
 replace h19:=q07 h13 h19
 obtain ⟨r14,h15,h19⟩:=q01 h19
 rcases q0h (!r14) with h16 | h16
 replace h19:=q08 h16 h19
 replace h19:=Option.some.inj h19
 subst h19
 refine sr ?_
 refine RS.q (u:=.ptr 1 0 4) rfl (q06 und42 rfl (q00 inf9) rfl rfl rfl) (RS.q (u:=.str p2.Name) rfl (q03 und9 rfl rfl rfl rfl) (RS.q (u:=.bool (bytesEq p2.Name [])) rfl (q1l rfl rfl rfl rfl) (RS.mv rfl rfl rfl rfl (RS.op (u:=.ptr 1 0 6) (want1 rfl rfl rfl h13) (q06 und42 rfl (q00 inf37) rfl rfl rfl) rfl rfl (RS.op (u:=.agg (xGDeriv p2.Lex)) (want1 rfl rfl rfl h13) (q0i und37 rfl (q00 inf37) rfl rfl rfl) rfl rfl (RS.call (u:=.bool r14) (args:=[.agg (xGDeriv p2.Lex)]) (want1 rfl rfl rfl h13) (q0b rfl rfl fn55 hb55 rfl rfl) (q8g n p2.Lex r14 h15 _) rfl rfl (RS.op (u:=.bool (!r14)) (want1 rfl rfl rfl h13) (qcn rfl rfl rfl rfl) rfl rfl ?_)))))))
 refine RS.q (u:=.bool (!r14)) rfl (q04 rfl h13 rfl) (RS.mv rfl rfl rfl rfl ?_)
 repeat refine RS.no (want0 rfl rfl rfl h16) rfl rfl ?_
 refine RS.q (u:=.bool true) rfl (q05 rfl h16 rfl) (RS.mv rfl rfl rfl rfl ?_)
 repeat refine RS.no (want0 rfl rfl rfl rfl) rfl rfl ?_
 refine RS.q (u:=.bool true) rfl (q05 rfl rfl rfl) ?_
 refine sd ?_
 exact ⟨_,_,⟨rfl,rfl⟩,(Nat.zero_le _),Gh.toC (n1:=2) ⟨rfl,rfl,rfl,trivial⟩ rfl (Nat.zero_le _) (by simp)⟩
 replace h19:=q07 h16 h19
 rcases q0h (decide ((p2.Kids.length:Int)<1)) with h17 | h17
 replace h19:=q08 h17 h19
 replace h19:=Option.some.inj h19
 subst h19
 refine sr ?_
 refine RS.q (u:=.ptr 1 0 4) rfl (q06 und42 rfl (q00 inf9) rfl rfl rfl) (RS.q (u:=.str p2.Name) rfl (q03 und9 rfl rfl rfl rfl) (RS.q (u:=.bool (bytesEq p2.Name [])) rfl (q1l rfl rfl rfl rfl) (RS.mv rfl rfl rfl rfl (RS.op (u:=.ptr 1 0 6) (want1 rfl rfl rfl h13) (q06 und42 rfl (q00 inf37) rfl rfl rfl) rfl rfl (RS.op (u:=.agg (xGDeriv p2.Lex)) (want1 rfl rfl rfl h13) (q0i und37 rfl (q00 inf37) rfl rfl rfl) rfl rfl (RS.call (u:=.bool r14) (args:=[.agg (xGDeriv p2.Lex)]) (want1 rfl rfl rfl h13) (q0b rfl rfl fn55 hb55 rfl rfl) (q8g n p2.Lex r14 h15 _) rfl rfl (RS.op (u:=.bool (!r14)) (want1 rfl rfl rfl h13) (qcn rfl rfl rfl rfl) rfl rfl ?_)))))))
 refine RS.q (u:=.bool (!r14)) rfl (q04 rfl h13 rfl) (RS.mv rfl rfl rfl rfl (RS.op (u:=.ptr 1 0 5) (want1 rfl rfl rfl h16) (q06 und42 rfl (q00 inf34) rfl rfl rfl) rfl rfl (RS.op (u:=.isl false (List.map (cI .i64) p2.Kids)) (want1 rfl rfl rfl h16) (q03 und34 rfl rfl rfl rfl) rfl rfl (RS.op (want1 rfl rfl rfl h16) (q0j rfl rfl rfl (q0a (cI .i64) und34)) rfl rfl (RS.op (want1 rfl rfl rfl h16) (q02 rfl rfl (q0s _ _ _) rfl) rfl rfl (RS.q (u:=.bool (decide ((p2.Kids.length:Int)<1))) rfl (q04 rfl h16 rfl) (RS.mv rfl rfl rfl rfl ?_)))))))
 repeat refine RS.no (want0 rfl rfl rfl h17) rfl rfl ?_
 refine RS.q (u:=.bool true) rfl (q05 rfl h17 rfl) ?_
 refine sd ?_
 exact ⟨_,_,⟨rfl,rfl⟩,(Nat.zero_le _),Gh.toC (n1:=2) ⟨rfl,rfl,rfl,trivial⟩ rfl (Nat.zero_le _) (by simp)⟩
 replace h19:=q07 h17 h19
 replace h19:=Option.some.inj h19
 subst h19
 refine sr ?_
 refine RS.q (u:=.ptr 1 0 4) rfl (q06 und42 rfl (q00 inf9) rfl rfl rfl) (RS.q (u:=.str p2.Name) rfl (q03 und9 rfl rfl rfl rfl) (RS.q (u:=.bool (bytesEq p2.Name [])) rfl (q1l rfl rfl rfl rfl) (RS.mv rfl rfl rfl rfl (RS.op (u:=.ptr 1 0 6) (want1 rfl rfl rfl h13) (q06 und42 rfl (q00 inf37) rfl rfl rfl) rfl rfl (RS.op (u:=.agg (xGDeriv p2.Lex)) (want1 rfl rfl rfl h13) (q0i und37 rfl (q00 inf37) rfl rfl rfl) rfl rfl (RS.call (u:=.bool r14) (args:=[.agg (xGDeriv p2.Lex)]) (want1 rfl rfl rfl h13) (q0b rfl rfl fn55 hb55 rfl rfl) (q8g n p2.Lex r14 h15 _) rfl rfl (RS.op (u:=.bool (!r14)) (want1 rfl rfl rfl h13) (qcn rfl rfl rfl rfl) rfl rfl ?_)))))))
 refine RS.q (u:=.bool (!r14)) rfl (q04 rfl h13 rfl) (RS.mv rfl rfl rfl rfl (RS.op (u:=.ptr 1 0 5) (want1 rfl rfl rfl h16) (q06 und42 rfl (q00 inf34) rfl rfl rfl) rfl rfl (RS.op (u:=.isl false (List.map (cI .i64) p2.Kids)) (want1 rfl rfl rfl h16) (q03 und34 rfl rfl rfl rfl) rfl rfl (RS.op (want1 rfl rfl rfl h16) (q0j rfl rfl rfl (q0a (cI .i64) und34)) rfl rfl (RS.op (want1 rfl rfl rfl h16) (q02 rfl rfl (q0s _ _ _) rfl) rfl rfl (RS.q (u:=.bool (decide ((p2.Kids.length:Int)<1))) rfl (q04 rfl h16 rfl) (RS.mv rfl rfl rfl rfl ?_)))))))
 refine RS.op (u:=.ptr 1 0 5) (want1 rfl rfl rfl h17) (q06 und42 rfl (q00 inf34) rfl rfl rfl) rfl rfl (RS.op (u:=.isl false (List.map (cI .i64) p2.Kids)) (want1 rfl rfl rfl h17) (q03 und34 rfl rfl rfl rfl) rfl rfl (RS.op (want1 rfl rfl rfl h17) (q0j rfl rfl rfl (q0a (cI .i64) und34)) rfl rfl (RS.op (want1 rfl rfl rfl h17) (q02 rfl rfl (q6e _ _ _) rfl) rfl rfl (RS.q (u:=.bool (decide ((p2.Kids.length:Int) > 2))) rfl (q04 rfl h17 rfl) ?_))))
 refine sd ?_
 exact ⟨_,_,⟨rfl,rfl⟩,(Nat.zero_le _),Gh.toC (n1:=2) ⟨rfl,rfl,rfl,trivial⟩ rfl (Nat.zero_le _) (by simp)⟩
theorem qcv (n:Nat) (p1:GChart) (p2:GEdge) (r:Bool) (hF:q5a n p1 p2=some r) (σ:Sg):EvU Try.prog 37 [.agg (cGChart p1),.agg (cGEdge p2)] σ (fun u σ'=>u = .bool r∧σ'=σ) :=
 EvU.pure1C (ref32_formed_0 n p1 p2 r hF) σ
def q7l (p1:GChart) (p2:GEdge) (l66:List GEdge):Option (GChart×Int×Int) :=
 needO ((l66.length+1)*160≤140737488355328∧l66.length+1≤140737488355328) (
 some ((GChart.mk p1.Words (l66++[p2])),(p1.Edges.length:Int),0))
def q57 (p1:GChart) (p2:GEdge):Nat→Int→(List GEdge)→Option (GChart×Int×Int)
 | 0,_,_=>none
 | m2+1,z63,l64 =>
  cond (decide (z63<(p1.Edges.length:Int)))
   (bindO (idxO p1.Edges z63) fun x70 =>
   needO ((l64.length+1)*160≤140737488355328∧l64.length+1≤140737488355328) (
   (q57 p1 p2 m2) (IntKind.i64.wrap (z63+1)) (l64++[x70])))
   (q7l p1 p2 l64)
def q7k (p1:GChart) (p2:GEdge) (n:Nat)  : Option (GChart×Int×Int) :=
 q57 p1 p2 n 0 ([]:List GEdge)
def q56 (p1:GChart) (p2:GEdge) (n:Nat) (r15:GDeriv):Nat→Int→Option (GChart×Int×Int)
 | 0,_=>none
 | m1+1,z38 =>
  cond (decide (z38<(p1.Edges.length:Int)))
   (bindO (q3a n p1 z38) fun r74 =>
   bindO (q1z n r74 r15) fun r76 =>
   cond (r76 == 0)
    (some (p1,z38,4))
    ((q56 p1 p2 n r15 m1) (IntKind.i64.wrap (z38+1))))
   (q7k p1 p2 n)
def q81 (n:Nat) (p1:GChart) (p2:GEdge):Option (GChart×Int×Int) :=
 bindO (cond (decide (p2.From<0))
  (some true)
  (cond (decide (p2.From ≥ p2.To))
   (some true)
   (some (decide (p2.To > p1.Words))))) fun b5 =>
 cond b5
  (some (p1,0,2))
  (bindO (cond (p2.Kind != 1)
   (some (p2.Kind != 2))
   (some false)) fun b9 =>
  cond b9
   (some (p1,0,14))
   (bindO (q5a n p1 p2) fun r12 =>
   cond (!r12)
    (some (p1,0,13))
    (bindO (q10 n p1 p2) fun r15 =>
    q56 p1 p2 n r15 n 0)))
theorem ref32_Add_0 (n:Nat) (p1:GChart) (p2:GEdge) (r:GChart×Int×Int) (hF:q81 n p1 p2=some r):EvU Try.prog 15 [.agg (cGChart p1),.agg (cGEdge p2)] ⟨[],0⟩ (fun u _=>u = .tup [.agg (cGChart r.1),.int .i64 r.2.1,.int .i64 r.2.2]∧Bel 0 u):=by
 unfold q81 at hF
 refine EvU.of_body Try.tb_ok fn15 rfl ?_
 refine WPU.ghost (tm':=fr 91 [(0,.agg (cGChart p1)),(1,.agg (cGEdge p2))]) (Gh.start (Nat.le_of_ble_eq_true rfl)) (Nat.zero_le _) ?_
 refine sr ?_
 refine RS.q (u:=.ptr 0 0 0) (σ':=⟨[(0,.row (cGChart p1) 24)],1⟩) rfl (q20 rfl rfl rfl) (RS.q (u:=.ptr 1 0 0) (σ':=⟨[(1,.row (cGEdge p2) 42),(0,.row (cGChart p1) 24)],2⟩) rfl (q20 rfl rfl rfl) (RS.q (u:=.ptr 2 0 0) (σ':=⟨[(2,.row [.int .i64 0,.nils] 24),(1,.row (cGEdge p2) 42),(0,.row (cGChart p1) 24)],3⟩) rfl (q0w inf24 rfl rfl) ?_))
 repeat refine RS.as rfl rfl rfl rfl ?_
 refine sd ?_
 obtain ⟨b5,h6,hF⟩:=q01 hF
 refine WPU.joinK (fun tm σ=>tm=fr 91 [(2,.ptr 0 0 0),(3,.ptr 1 0 0),(4,.ptr 2 0 0),(27,.bool b5)]∧σ=⟨[(2,.row [.int .i64 0,.nils] 24),(1,.row (cGEdge p2) 42),(0,.row (cGChart p1) 24)],3⟩) ?_ ?_
 rintro _ _ ⟨rfl,rfl⟩
 refine st ?_
 refine WPU.condS (t:=b5) rfl (fun h7=>?_) (fun h7=>?_)
 replace hF:=q08 h7 hF
 refine sr ?_
 refine RS.q (u:=.agg (cGChart p1)) rfl (q0i und24 rfl (q00 inf24) rfl rfl rfl) (RS.opn (u:=.junk) (σ':=⟨[(2,.row (cGChart p1) 24),(1,.row (cGEdge p2) 42),(0,.row (cGChart p1) 24)],3⟩) rfl (q0g (q00 inf24) rfl rfl rfl rfl rfl rfl rfl rfl) rfl ?_)
 repeat refine RS.as rfl rfl rfl rfl ?_
 refine sd ?_
 refine WPU.ret ?_
 refine st ?_
 have hr:=Option.some.inj hF
 subst hr
 exact ⟨.inr rfl,[.agg (cGChart p1),.int .i64 0,.int .i64 2],q6i (q0i und24 rfl (q00 inf24) rfl rfl rfl) (q0r rfl (q0r rfl (q0o))),.tup [.agg (cGChart p1),.int .i64 0,.int .i64 2],⟨[],0⟩,Nat.le_refl _,Gh.toR (.tup [.agg (cGChart p1),.int .i64 0,.int .i64 2]) rfl,rfl,BU.h⟩
 replace hF:=q07 h7 hF
 refine st ?_
 refine WPU.skip ?_
 refine st ?_
 obtain ⟨b9,h10,hF⟩:=q01 hF
 refine WPU.joinK (fun tm σ=>tm=fr 91 [(2,.ptr 0 0 0),(3,.ptr 1 0 0),(4,.ptr 2 0 0),(36,.bool b9)]∧σ=⟨[(2,.row [.int .i64 0,.nils] 24),(1,.row (cGEdge p2) 42),(0,.row (cGChart p1) 24)],3⟩) ?_ ?_
 rintro _ _ ⟨rfl,rfl⟩
 refine st ?_
 refine WPU.condS (t:=b9) rfl (fun h11=>?_) (fun h11=>?_)
 replace hF:=q08 h11 hF
 refine sr ?_
 refine RS.q (u:=.agg (cGChart p1)) rfl (q0i und24 rfl (q00 inf24) rfl rfl rfl) (RS.opn (u:=.junk) (σ':=⟨[(2,.row (cGChart p1) 24),(1,.row (cGEdge p2) 42),(0,.row (cGChart p1) 24)],3⟩) rfl (q0g (q00 inf24) rfl rfl rfl rfl rfl rfl rfl rfl) rfl ?_)
 repeat refine RS.as rfl rfl rfl rfl ?_
 refine sd ?_
 refine WPU.ret ?_
 refine st ?_
 have hr:=Option.some.inj hF
 subst hr
 exact ⟨.inr rfl,[.agg (cGChart p1),.int .i64 0,.int .i64 14],q6i (q0i und24 rfl (q00 inf24) rfl rfl rfl) (q0r rfl (q0r rfl (q0o))),.tup [.agg (cGChart p1),.int .i64 0,.int .i64 14],⟨[],0⟩,Nat.le_refl _,Gh.toR (.tup [.agg (cGChart p1),.int .i64 0,.int .i64 14]) rfl,rfl,BU.h⟩
 replace hF:=q07 h11 hF
 refine st ?_
 refine WPU.skip ?_
 refine st ?_
 obtain ⟨r12,h13,hF⟩:=q01 hF
 refine sr ?_
 refine RS.q (u:=.agg (cGChart p1)) rfl (q0i und24 rfl (q00 inf24) rfl rfl rfl) (RS.q (u:=.agg (cGEdge p2)) rfl (q0i und42 rfl (q00 inf42) rfl rfl rfl) (RS.call (u:=.bool r12) (args:=[.agg (cGChart p1),.agg (cGEdge p2)]) rfl (q0b rfl rfl fn37 hb37 rfl rfl) (qcv n p1 p2 r12 h13 _) rfl rfl (RS.q (u:=.bool (!r12)) rfl (qcn rfl rfl rfl rfl) ?_)))
 refine sd ?_
 refine WPU.condS (t:=(!r12)) rfl (fun h14=>?_) (fun h14=>?_)
 replace hF:=q08 h14 hF
 refine sr ?_
 refine RS.q (u:=.agg (cGChart p1)) rfl (q0i und24 rfl (q00 inf24) rfl rfl rfl) (RS.opn (u:=.junk) (σ':=⟨[(2,.row (cGChart p1) 24),(1,.row (cGEdge p2) 42),(0,.row (cGChart p1) 24)],3⟩) rfl (q0g (q00 inf24) rfl rfl rfl rfl rfl rfl rfl rfl) rfl ?_)
 repeat refine RS.as rfl rfl rfl rfl ?_
 refine sd ?_
 refine WPU.ret ?_
 refine st ?_
 have hr:=Option.some.inj hF
 subst hr
 exact ⟨.inr rfl,[.agg (cGChart p1),.int .i64 0,.int .i64 13],q6i (q0i und24 rfl (q00 inf24) rfl rfl rfl) (q0r rfl (q0r rfl (q0o))),.tup [.agg (cGChart p1),.int .i64 0,.int .i64 13],⟨[],0⟩,Nat.le_refl _,Gh.toR (.tup [.agg (cGChart p1),.int .i64 0,.int .i64 13]) rfl,rfl,BU.h⟩
 replace hF:=q07 h14 hF
 refine st ?_
 refine WPU.skip ?_
 refine st ?_
 obtain ⟨r15,h16,hF⟩:=q01 hF
 refine sr ?_
 refine RS.q (u:=.agg (cGChart p1)) rfl (q0i und24 rfl (q00 inf24) rfl rfl rfl) (RS.q (u:=.agg (cGEdge p2)) rfl (q0i und42 rfl (q00 inf42) rfl rfl rfl) (RS.call (u:=.agg (xGDeriv r15)) (args:=[.agg (cGChart p1),.agg (cGEdge p2)]) rfl (q0b rfl rfl fn38 hb38 rfl rfl) (q77 n p1 p2 r15 h16 _) rfl rfl (RS.q (u:=.ptr 3 0 0) (σ':=⟨[(3,.row [.int .i64 0,.str [],.int .i64 0,.int .i64 0,.nils] 37),(2,.row [.int .i64 0,.nils] 24),(1,.row (cGEdge p2) 42),(0,.row (cGChart p1) 24)],4⟩) rfl (q0w inf37 rfl rfl) (RS.opn (u:=.junk) (σ':=⟨[(3,.row (xGDeriv r15) 37),(2,.row [.int .i64 0,.nils] 24),(1,.row (cGEdge p2) 42),(0,.row (cGChart p1) 24)],4⟩) rfl (q0g (q00 inf37) rfl rfl rfl rfl rfl rfl rfl rfl) rfl ?_))))
 refine se ?_
 refine sd ?_
 refine WPU.ghost (tm':=fr 91 [(2,.ptr 0 0 0),(3,.ptr 1 0 0),(4,.ptr 2 0 0),(7,.ptr 3 0 0),(8,.int .i64 0)]) (Gh.sub ⟨rfl,rfl,rfl,rfl,rfl,trivial⟩) (Nat.zero_le _) ?_
 refine WPU.loopK (fun m tm σ=>∃ z38:Int,q56 p1 p2 n r15 m z38=some r∧tm=fr 91 [(2,.ptr 0 0 0),(3,.ptr 1 0 0),(4,.ptr 2 0 0),(7,.ptr 3 0 0),(8,.int .i64 z38)]∧σ=⟨[(3,.row (xGDeriv r15) 37),(2,.row [.int .i64 0,.nils] 24),(1,.row (cGEdge p2) 42),(0,.row (cGChart p1) 24)],4⟩) (fun tm σ=>q7k p1 p2 n=some r∧tm=fr 91 [(2,.ptr 0 0 0),(3,.ptr 1 0 0),(4,.ptr 2 0 0)]∧σ=⟨[(3,.row (xGDeriv r15) 37),(2,.row [.int .i64 0,.nils] 24),(1,.row (cGEdge p2) 42),(0,.row (cGChart p1) 24)],4⟩) n ⟨0,hF,rfl,rfl⟩ ?_ ?_
 rintro _ _ ⟨hF,rfl,rfl⟩
 unfold q7k at hF
 refine sr ?_
 refine RS.q (u:=.ptr 0 0 0) rfl (q06 und24 rfl (q00 inf3) rfl rfl rfl) (RS.q (u:=.int .i64 p1.Words) rfl (q03 und3 rfl rfl rfl rfl) (RS.q (u:=.agg [.int .i64 p1.Words,.nils]) rfl (q5p bd24 rfl rfl rfl) (RS.q (u:=.ptr 4 0 0) (σ':=⟨[(4,.row [.int .i64 0,.nils] 24),(3,.row (xGDeriv r15) 37),(2,.row [.int .i64 0,.nils] 24),(1,.row (cGEdge p2) 42),(0,.row (cGChart p1) 24)],5⟩) rfl (q0w inf24 rfl rfl) (RS.opn (u:=.junk) (σ':=⟨[(4,.row [.int .i64 p1.Words,.nils] 24),(3,.row (xGDeriv r15) 37),(2,.row [.int .i64 0,.nils] 24),(1,.row (cGEdge p2) 42),(0,.row (cGChart p1) 24)],5⟩) rfl (q0g (q00 inf24) rfl rfl rfl rfl rfl rfl rfl rfl) rfl ?_))))
 refine se ?_
 refine sd ?_
 refine WPU.ghost (tm':=fr 91 [(2,.ptr 0 0 0),(3,.ptr 1 0 0),(4,.ptr 2 0 0),(9,.ptr 4 0 0),(10,.int .i64 0)]) (σ':=⟨[(5,.vec (List.map cGEdge ([]:List GEdge)).flatten 42 12 0),(4,.row [.int .i64 p1.Words,.vl 5 0 0 (([]:List GEdge).length)] 24),(3,.row (xGDeriv r15) 37),(2,.row [.int .i64 0,.nils] 24),(1,.row (cGEdge p2) 42),(0,.row (cGChart p1) 24)],6⟩) (Gh.trans (Gh.nilC 4 1 42 12 (by decide) (Nat.zero_le _) rfl rfl) (Gh.eqS ⟨rfl,rfl,rfl,rfl,rfl,trivial⟩ rfl)) (Nat.zero_le _) ?_
 refine WPU.ghost (tm':=fr 91 [(2,.ptr 0 0 0),(3,.ptr 1 0 0),(4,.ptr 2 0 0),(9,.ptr 4 0 0),(10,.int .i64 0)]) (Gh.sub ⟨rfl,rfl,rfl,rfl,rfl,trivial⟩) (Nat.zero_le _) ?_
 refine WPU.loopK (fun m tm σ=>∃ z63:Int,∃ l64:List GEdge,∃ t65:Nat,q57 p1 p2 m z63 l64=some r∧tm=fr 91 [(2,.ptr 0 0 0),(3,.ptr 1 0 0),(4,.ptr 2 0 0),(9,.ptr 4 0 0),(10,.int .i64 z63)]∧σ=⟨[(5,.vec (List.map cGEdge l64).flatten 42 12 t65),(4,.row [.int .i64 p1.Words,.vl 5 t65 0 l64.length] 24),(3,.row (xGDeriv r15) 37),(2,.row [.int .i64 0,.nils] 24),(1,.row (cGEdge p2) 42),(0,.row (cGChart p1) 24)],6⟩) (fun tm σ=>∃ l66:List GEdge,∃ t67:Nat,q7l p1 p2 l66=some r∧tm=fr 91 [(2,.ptr 0 0 0),(3,.ptr 1 0 0),(4,.ptr 2 0 0),(9,.ptr 4 0 0)]∧σ=⟨[(5,.vec (List.map cGEdge l66).flatten 42 12 t67),(4,.row [.int .i64 p1.Words,.vl 5 t67 0 l66.length] 24),(3,.row (xGDeriv r15) 37),(2,.row [.int .i64 0,.nils] 24),(1,.row (cGEdge p2) 42),(0,.row (cGChart p1) 24)],6⟩) n ⟨0,([]:List GEdge),0,hF,rfl,rfl⟩ ?_ ?_
 rintro _ _ ⟨l66,t67,hF,rfl,rfl⟩
 unfold q7l at hF
 refine st ?_
 obtain ⟨h68,hF⟩:=q0u hF
 refine sr ?_
 refine RS.q (u:=.ptr 4 0 1) rfl (q06 und24 rfl (q00 inf22) rfl rfl rfl) (RS.q (u:=.vl 5 t67 0 l66.length) rfl (q03 und22 rfl rfl rfl rfl) (RS.q (u:=.agg (cGEdge p2)) rfl (q0i und42 rfl (q00 inf42) rfl rfl rfl) (RS.q (u:=.sl 6 0 1 1) (σ':=⟨[(6,.row (cGEdge p2) 42),(5,.vec (List.map cGEdge l66).flatten 42 12 t67),(4,.row [.int .i64 p1.Words,.vl 5 t67 0 l66.length] 24),(3,.row (xGDeriv r15) 37),(2,.row [.int .i64 0,.nils] 24),(1,.row (cGEdge p2) 42),(0,.row (cGChart p1) 24)],7⟩) rfl (q55 und22 inf42 rfl rfl rfl rfl rfl rfl rfl) (RS.q (u:=.vl 5 (t67+1) 0 ((l66++[p2]).length)) (σ':=⟨[(6,.row (cGEdge p2) 42),(5,.vec (List.map cGEdge (l66++[p2])).flatten 42 12 (t67+1)),(4,.row [.int .i64 p1.Words,.vl 5 t67 0 l66.length] 24),(3,.row (xGDeriv r15) 37),(2,.row [.int .i64 0,.nils] 24),(1,.row (cGEdge p2) 42),(0,.row (cGChart p1) 24)],7⟩) rfl (q8v rfl rfl rfl rfl (q9f cGEdge ([p2]) und22 und22 inf42 rfl q0f rfl (q79 cGEdge [p2] rfl rfl rfl rfl) h68)) (RS.q (u:=.ptr 4 0 1) rfl (q06 und24 rfl (q00 inf22) rfl rfl rfl) (RS.opn (u:=.junk) (σ':=⟨[(6,.row (cGEdge p2) 42),(5,.vec (List.map cGEdge (l66++[p2])).flatten 42 12 (t67+1)),(4,.row [.int .i64 p1.Words,.vl 5 (t67+1) 0 ((l66++[p2]).length)] 24),(3,.row (xGDeriv r15) 37),(2,.row [.int .i64 0,.nils] 24),(1,.row (cGEdge p2) 42),(0,.row (cGChart p1) 24)],7⟩) rfl (q0g (q00 inf22) rfl rfl rfl rfl rfl rfl rfl rfl) rfl ?_))))))
 refine sd ?_
 refine WPU.drawE Try.tb_ok [(1,4),(2,4),(3,4)] (by kernel_rfl) ?_
 refine RD.q (u:=.agg [.int .i64 p1.Words,.vl 5 (t67+1) 0 ((l66++[p2]).length)]) rfl (q0i und24 rfl (q00 inf24) rfl rfl rfl) (RD.q (u:=.ptr 0 0 1) rfl (q06 und24 rfl (q00 inf22) rfl rfl rfl) (RD.q (u:=.isl false (List.map cGEdge p1.Edges)) rfl (q03 und22 rfl rfl rfl rfl) (RD.q rfl (q0j rfl rfl rfl (q0a cGEdge und22)) (RD.actn (u:=.junk) (σ':=⟨[(6,.row (cGEdge p2) 42),(5,.vec (List.map cGEdge (l66++[p2])).flatten 42 12 (t67+1)),(4,.row [.int .i64 p1.Words,.vl 5 (t67+1) 0 ((l66++[p2]).length)] 24),(3,.row (xGDeriv r15) 37),(2,.row [.int .i64 p1.Words,.vl 5 (t67+1) 0 ((l66++[p2]).length)] 24),(1,.row (cGEdge p2) 42),(0,.row (cGChart p1) 24)],7⟩) rfl (q0g (q00 inf24) rfl rfl rfl rfl rfl rfl rfl rfl) rfl ?_))))
 repeat refine RD.as rfl rfl rfl rfl ?_
 refine RD.done ⟨by kernel_rfl,⟨q06 und24 rfl (q00 inf22) rfl rfl rfl,⟨q03 und22 rfl rfl rfl rfl,⟨q0j rfl rfl rfl (q0a cGEdge und22),trivial⟩⟩⟩,?_⟩
 refine st ?_
 refine WPU.ret ?_
 refine st ?_
 have hr:=Option.some.inj hF
 subst hr
 exact ⟨.inr rfl,[.agg [.int .i64 p1.Words,.vl 5 (t67+1) 0 ((l66++[p2]).length)],.int .i64 (p1.Edges.length:Int),.int .i64 0],q6i (q0i und24 rfl (q00 inf24) rfl rfl rfl) (q0r rfl (q0r rfl (q0o))),.tup [.agg [.int .i64 p1.Words,.isl false (List.map cGEdge (l66++[p2]))],.int .i64 (p1.Edges.length:Int),.int .i64 0],⟨[],0⟩,Nat.le_refl _,Gh.trans (Gh.fz (tm':=[.tup [.agg [.int .i64 p1.Words,.isl false (List.map cGEdge (l66++[p2]))],.int .i64 (p1.Edges.length:Int),.int .i64 0]]) (h':=[(6,.row (cGEdge p2) 42),(4,.row [.int .i64 p1.Words,.isl false (List.map cGEdge (l66++[p2]))] 24),(3,.row (xGDeriv r15) 37),(2,.row [.int .i64 p1.Words,.isl false (List.map cGEdge (l66++[p2]))] 24),(1,.row (cGEdge p2) 42),(0,.row (cGChart p1) 24)]) 5 (.vec (List.map cGEdge (l66++[p2])).flatten 42 12 (t67+1)) 12 rfl (by simp) (by simp only [oneU,q11,q0n,q1o,q14,q1r,q18,q17,q16,q15,q12,q1p,q1q,q1n,q1s,q36,junkT,q8k q0f,q0l,q4i,q95]) (by simp only [fzH,fzB,ug,Nat.beq,cond_true,cond_false,oneU,q11,q0n,q1o,q14,q1r,q18,q17,q16,q15,q12,q1p,q1q,q1n,q1s,q36,junkT,q8k q0f,q0l,q4i,q95])) (Gh.toR (.tup [.agg [.int .i64 p1.Words,.isl false (List.map cGEdge (l66++[p2]))],.int .i64 (p1.Edges.length:Int),.int .i64 0]) rfl),rfl,BU.h⟩
 rintro m2 _ _ ⟨z63,l64,t65,hF,rfl,rfl⟩
 rcases m2 with _ | m2
 cases hF
 unfold q57 at hF
 refine sr ?_
 refine RS.q (u:=.ptr 0 0 1) rfl (q06 und24 rfl (q00 inf22) rfl rfl rfl) (RS.q (u:=.isl false (List.map cGEdge p1.Edges)) rfl (q03 und22 rfl rfl rfl rfl) (RS.q rfl (q0j rfl rfl rfl (q0a cGEdge und22)) (RS.q rfl (q02 rfl rfl (q0s _ _ _) rfl) ?_)))
 refine sd ?_
 refine WPU.condS (t:=(decide (z63<(p1.Edges.length:Int)))) rfl (fun h69=>?_) (fun h69=>?_)
 replace hF:=q08 h69 hF
 refine st ?_
 refine WPU.skip ?_
 refine st ?_
 refine WPU.block ?_
 refine st ?_
 obtain ⟨x70,h71,hF⟩:=q01 hF
 obtain ⟨h72,hF⟩:=q0u hF
 refine WPU.drawE Try.tb_ok [(0,7),(1,7)] (by kernel_rfl) ?_
 refine RD.q (u:=.ptr 4 0 1) rfl (q06 und24 rfl (q00 inf22) rfl rfl rfl) (RD.q (u:=.vl 5 t65 0 l64.length) rfl (q03 und22 rfl rfl rfl rfl) (RD.q (u:=.ptr 0 0 1) rfl (q06 und24 rfl (q00 inf22) rfl rfl rfl) (RD.q (u:=.isl false (List.map cGEdge p1.Edges)) rfl (q03 und22 rfl rfl rfl rfl) (RD.mv rfl rfl rfl rfl (RD.q (u:=.iptr (cGEdge x70)) rfl (q0x rfl rfl (q0k cGEdge und22 (q00 inf42) q0f h71 rfl)) (RD.q (u:=.agg (cGEdge x70)) rfl (q2c und42 rfl (q00 inf42) rfl rfl) (RD.act (u:=.sl 6 0 1 1) (σ':=⟨[(6,.row (cGEdge x70) 42),(5,.vec (List.map cGEdge l64).flatten 42 12 t65),(4,.row [.int .i64 p1.Words,.vl 5 t65 0 l64.length] 24),(3,.row (xGDeriv r15) 37),(2,.row [.int .i64 0,.nils] 24),(1,.row (cGEdge p2) 42),(0,.row (cGChart p1) 24)],7⟩) rfl (q55 und22 inf42 rfl rfl rfl rfl rfl rfl rfl) rfl rfl ?_)))))))
 refine RD.act (u:=.vl 5 (t65+1) 0 ((l64++[x70]).length)) (σ':=⟨[(6,.row (cGEdge x70) 42),(5,.vec (List.map cGEdge (l64++[x70])).flatten 42 12 (t65+1)),(4,.row [.int .i64 p1.Words,.vl 5 t65 0 l64.length] 24),(3,.row (xGDeriv r15) 37),(2,.row [.int .i64 0,.nils] 24),(1,.row (cGEdge p2) 42),(0,.row (cGChart p1) 24)],7⟩) rfl (q8v rfl rfl rfl rfl (q9f cGEdge ([x70]) und22 und22 inf42 rfl q0f rfl (q79 cGEdge [x70] rfl rfl rfl rfl) h72)) rfl rfl (RD.q (u:=.ptr 4 0 1) rfl (q06 und24 rfl (q00 inf22) rfl rfl rfl) (RD.actn (u:=.junk) (σ':=⟨[(6,.row (cGEdge x70) 42),(5,.vec (List.map cGEdge (l64++[x70])).flatten 42 12 (t65+1)),(4,.row [.int .i64 p1.Words,.vl 5 (t65+1) 0 ((l64++[x70]).length)] 24),(3,.row (xGDeriv r15) 37),(2,.row [.int .i64 0,.nils] 24),(1,.row (cGEdge p2) 42),(0,.row (cGChart p1) 24)],7⟩) rfl (q0g (q00 inf22) rfl rfl rfl rfl rfl rfl rfl rfl) rfl ?_))
 refine RD.done ⟨by kernel_rfl,⟨q06 und24 rfl (q00 inf22) rfl rfl rfl,⟨q03 und22 rfl rfl rfl rfl,trivial⟩⟩,?_⟩
 refine sr ?_
 refine RS.q rfl (q02 rfl rfl (q23 _ _ _) rfl) ?_
 refine sd ?_
 exact ⟨m2,_,_,Nat.lt_succ_self _,⟨(IntKind.i64.wrap (z63+1)),(l64++[x70]),(t65+1),hF,rfl,rfl⟩,(Nat.zero_le _),Gh.toC (n1:=6) ⟨rfl,rfl,rfl,rfl,rfl,trivial⟩ rfl (Nat.zero_le _) (by simp)⟩
 replace hF:=q07 h69 hF
 refine st ?_
 refine WPU.exit ?_
 refine st ?_
 exact ⟨_,_,⟨l64,t65,hF,rfl,rfl⟩,(Nat.zero_le _),Gh.toC (n1:=6) ⟨rfl,rfl,rfl,rfl,trivial⟩ rfl (Nat.zero_le _) (by simp)⟩
 rintro m1 _ _ ⟨z38,hF,rfl,rfl⟩
 rcases m1 with _ | m1
 cases hF
 unfold q56 at hF
 refine sr ?_
 refine RS.q (u:=.ptr 0 0 1) rfl (q06 und24 rfl (q00 inf22) rfl rfl rfl) (RS.q (u:=.isl false (List.map cGEdge p1.Edges)) rfl (q03 und22 rfl rfl rfl rfl) (RS.q rfl (q0j rfl rfl rfl (q0a cGEdge und22)) (RS.q rfl (q02 rfl rfl (q0s _ _ _) rfl) ?_)))
 refine sd ?_
 refine WPU.condS (t:=(decide (z38<(p1.Edges.length:Int)))) rfl (fun h73=>?_) (fun h73=>?_)
 replace hF:=q08 h73 hF
 refine st ?_
 refine WPU.skip ?_
 refine st ?_
 refine WPU.block ?_
 refine st ?_
 obtain ⟨r74,h75,hF⟩:=q01 hF
 obtain ⟨r76,h77,hF⟩:=q01 hF
 refine WPU.drawE Try.tb_ok [] (by kernel_rfl) ?_
 refine RD.q (u:=.agg (cGChart p1)) rfl (q0i und24 rfl (q00 inf24) rfl rfl rfl) (RD.mv rfl rfl rfl rfl (RD.free (u:=.agg (xGDeriv r74)) (args:=[.agg (cGChart p1),.int .i64 z38]) rfl (q0b rfl rfl fn23 hb23 rfl rfl) (fun s=>q7w n p1 z38 r74 h75 s) rfl rfl (RD.q (u:=.agg (xGDeriv r15)) rfl (q0i und37 rfl (q00 inf37) rfl rfl rfl) (RD.free (u:=.int .i64 r76) (args:=[.agg (xGDeriv r74),.agg (xGDeriv r15)]) rfl (q0b rfl rfl fn21 hb21 rfl rfl) (fun s=>q4v n r74 r15 r76 h77 s) rfl rfl (RD.q rfl (q02 rfl rfl (q0c _ _ _) rfl) ?_)))))
 refine RD.done ⟨by kernel_rfl,trivial,?_⟩
 refine st ?_
 refine WPU.condS (t:=(r76 == 0)) rfl (fun h78=>?_) (fun h78=>?_)
 replace hF:=q08 h78 hF
 refine sr ?_
 refine RS.q (u:=.agg (cGChart p1)) rfl (q0i und24 rfl (q00 inf24) rfl rfl rfl) (RS.mv rfl rfl rfl rfl (RS.opn (u:=.junk) (σ':=⟨[(3,.row (xGDeriv r15) 37),(2,.row (cGChart p1) 24),(1,.row (cGEdge p2) 42),(0,.row (cGChart p1) 24)],4⟩) rfl (q0g (q00 inf24) rfl rfl rfl rfl rfl rfl rfl rfl) rfl ?_))
 repeat refine RS.as rfl rfl rfl rfl ?_
 refine sd ?_
 refine WPU.ret ?_
 refine st ?_
 have hr:=Option.some.inj hF
 subst hr
 exact ⟨.inr rfl,[.agg (cGChart p1),.int .i64 z38,.int .i64 4],q6i (q0i und24 rfl (q00 inf24) rfl rfl rfl) (q0r rfl (q0r rfl (q0o))),.tup [.agg (cGChart p1),.int .i64 z38,.int .i64 4],⟨[],0⟩,Nat.le_refl _,Gh.toR (.tup [.agg (cGChart p1),.int .i64 z38,.int .i64 4]) rfl,rfl,BU.h⟩
 replace hF:=q07 h78 hF
 refine st ?_
 refine WPU.skip ?_
 refine sr ?_
 refine RS.q rfl (q02 rfl rfl (q23 _ _ _) rfl) ?_
 refine sd ?_
 exact ⟨m1,_,_,Nat.lt_succ_self _,⟨(IntKind.i64.wrap (z38+1)),hF,rfl,rfl⟩,(Nat.zero_le _),Gh.toC (n1:=4) ⟨rfl,rfl,rfl,rfl,rfl,trivial⟩ rfl (Nat.zero_le _) (by simp)⟩
 replace hF:=q07 h73 hF
 refine st ?_
 refine WPU.exit ?_
 refine st ?_
 exact ⟨_,_,⟨hF,rfl,rfl⟩,(Nat.zero_le _),Gh.toC (n1:=4) ⟨rfl,rfl,rfl,trivial⟩ rfl (Nat.zero_le _) (by simp)⟩
 rcases q0h (p2.Kind != 1) with h8 | h8
 replace h10:=q08 h8 h10
 replace h10:=Option.some.inj h10
 subst h10
 refine sr ?_
 refine RS.q (u:=.ptr 1 0 3) rfl (q06 und42 rfl (q00 inf3) rfl rfl rfl) (RS.q (u:=.int .i64 p2.Kind) rfl (q03 und3 rfl rfl rfl rfl) (RS.q rfl (q02 rfl rfl (q0e _ _ _) rfl) (RS.mv rfl rfl rfl rfl (RS.op (u:=.ptr 1 0 3) (want1 rfl rfl rfl h8) (q06 und42 rfl (q00 inf3) rfl rfl rfl) rfl rfl (RS.op (u:=.int .i64 p2.Kind) (want1 rfl rfl rfl h8) (q03 und3 rfl rfl rfl rfl) rfl rfl (RS.op (want1 rfl rfl rfl h8) (q02 rfl rfl (q0e _ _ _) rfl) rfl rfl (RS.q (u:=.bool (p2.Kind != 2)) rfl (q05 rfl h8 rfl) ?_)))))))
 refine sd ?_
 exact ⟨_,_,⟨rfl,rfl⟩,(Nat.zero_le _),Gh.toC (n1:=3) ⟨rfl,rfl,rfl,rfl,trivial⟩ rfl (Nat.zero_le _) (by simp)⟩
 replace h10:=q07 h8 h10
 replace h10:=Option.some.inj h10
 subst h10
 refine sr ?_
 refine RS.q (u:=.ptr 1 0 3) rfl (q06 und42 rfl (q00 inf3) rfl rfl rfl) (RS.q (u:=.int .i64 p2.Kind) rfl (q03 und3 rfl rfl rfl rfl) (RS.q rfl (q02 rfl rfl (q0e _ _ _) rfl) (RS.mv rfl rfl rfl rfl ?_)))
 repeat refine RS.no (want0 rfl rfl rfl h8) rfl rfl ?_
 refine RS.q (u:=.bool false) rfl (q04 rfl h8 rfl) ?_
 refine sd ?_
 exact ⟨_,_,⟨rfl,rfl⟩,(Nat.zero_le _),Gh.toC (n1:=3) ⟨rfl,rfl,rfl,rfl,trivial⟩ rfl (Nat.zero_le _) (by simp)⟩
 rcases q0h (decide (p2.From<0)) with h3 | h3
 replace h6:=q08 h3 h6
 replace h6:=Option.some.inj h6
 subst h6
 refine sr ?_
 refine RS.q (u:=.ptr 1 0 0) rfl (q06 und42 rfl (q00 inf3) rfl rfl rfl) (RS.q (u:=.int .i64 p2.From) rfl (q03 und3 rfl rfl rfl rfl) (RS.q rfl (q02 rfl rfl (q0s _ _ _) rfl) (RS.mv rfl rfl rfl rfl ?_)))
 repeat refine RS.no (want0 rfl rfl rfl h3) rfl rfl ?_
 refine RS.q (u:=.bool true) rfl (q05 rfl h3 rfl) (RS.mv rfl rfl rfl rfl ?_)
 repeat refine RS.no (want0 rfl rfl rfl rfl) rfl rfl ?_
 refine RS.q (u:=.bool true) rfl (q05 rfl rfl rfl) ?_
 refine sd ?_
 exact ⟨_,_,⟨rfl,rfl⟩,(Nat.zero_le _),Gh.toC (n1:=3) ⟨rfl,rfl,rfl,rfl,trivial⟩ rfl (Nat.zero_le _) (by simp)⟩
 replace h6:=q07 h3 h6
 rcases q0h (decide (p2.From ≥ p2.To)) with h4 | h4
 replace h6:=q08 h4 h6
 replace h6:=Option.some.inj h6
 subst h6
 refine sr ?_
 refine RS.q (u:=.ptr 1 0 0) rfl (q06 und42 rfl (q00 inf3) rfl rfl rfl) (RS.q (u:=.int .i64 p2.From) rfl (q03 und3 rfl rfl rfl rfl) (RS.q rfl (q02 rfl rfl (q0s _ _ _) rfl) (RS.mv rfl rfl rfl rfl (RS.op (u:=.ptr 1 0 0) (want1 rfl rfl rfl h3) (q06 und42 rfl (q00 inf3) rfl rfl rfl) rfl rfl (RS.op (u:=.int .i64 p2.From) (want1 rfl rfl rfl h3) (q03 und3 rfl rfl rfl rfl) rfl rfl (RS.op (u:=.ptr 1 0 1) (want1 rfl rfl rfl h3) (q06 und42 rfl (q00 inf3) rfl rfl rfl) rfl rfl (RS.op (u:=.int .i64 p2.To) (want1 rfl rfl rfl h3) (q03 und3 rfl rfl rfl rfl) rfl rfl ?_)))))))
 refine RS.op (want1 rfl rfl rfl h3) (q02 rfl rfl (q8r _ _ _) rfl) rfl rfl (RS.q (u:=.bool (decide (p2.From ≥ p2.To))) rfl (q04 rfl h3 rfl) (RS.mv rfl rfl rfl rfl ?_))
 repeat refine RS.no (want0 rfl rfl rfl h4) rfl rfl ?_
 refine RS.q (u:=.bool true) rfl (q05 rfl h4 rfl) ?_
 refine sd ?_
 exact ⟨_,_,⟨rfl,rfl⟩,(Nat.zero_le _),Gh.toC (n1:=3) ⟨rfl,rfl,rfl,rfl,trivial⟩ rfl (Nat.zero_le _) (by simp)⟩
 replace h6:=q07 h4 h6
 replace h6:=Option.some.inj h6
 subst h6
 refine sr ?_
 refine RS.q (u:=.ptr 1 0 0) rfl (q06 und42 rfl (q00 inf3) rfl rfl rfl) (RS.q (u:=.int .i64 p2.From) rfl (q03 und3 rfl rfl rfl rfl) (RS.q rfl (q02 rfl rfl (q0s _ _ _) rfl) (RS.mv rfl rfl rfl rfl (RS.op (u:=.ptr 1 0 0) (want1 rfl rfl rfl h3) (q06 und42 rfl (q00 inf3) rfl rfl rfl) rfl rfl (RS.op (u:=.int .i64 p2.From) (want1 rfl rfl rfl h3) (q03 und3 rfl rfl rfl rfl) rfl rfl (RS.op (u:=.ptr 1 0 1) (want1 rfl rfl rfl h3) (q06 und42 rfl (q00 inf3) rfl rfl rfl) rfl rfl (RS.op (u:=.int .i64 p2.To) (want1 rfl rfl rfl h3) (q03 und3 rfl rfl rfl rfl) rfl rfl ?_)))))))
 refine RS.op (want1 rfl rfl rfl h3) (q02 rfl rfl (q8r _ _ _) rfl) rfl rfl (RS.q (u:=.bool (decide (p2.From ≥ p2.To))) rfl (q04 rfl h3 rfl) (RS.mv rfl rfl rfl rfl (RS.op (u:=.ptr 1 0 1) (want1 rfl rfl rfl h4) (q06 und42 rfl (q00 inf3) rfl rfl rfl) rfl rfl (RS.op (u:=.int .i64 p2.To) (want1 rfl rfl rfl h4) (q03 und3 rfl rfl rfl rfl) rfl rfl (RS.op (u:=.ptr 0 0 0) (want1 rfl rfl rfl h4) (q06 und24 rfl (q00 inf3) rfl rfl rfl) rfl rfl (RS.op (u:=.int .i64 p1.Words) (want1 rfl rfl rfl h4) (q03 und3 rfl rfl rfl rfl) rfl rfl (RS.op (want1 rfl rfl rfl h4) (q02 rfl rfl (q6e _ _ _) rfl) rfl rfl ?_)))))))
 refine RS.q (u:=.bool (decide (p2.To > p1.Words))) rfl (q04 rfl h4 rfl) ?_
 refine sd ?_
 exact ⟨_,_,⟨rfl,rfl⟩,(Nat.zero_le _),Gh.toC (n1:=3) ⟨rfl,rfl,rfl,rfl,trivial⟩ rfl (Nat.zero_le _) (by simp)⟩
theorem ref32_Add_ok (n:Nat) (p1:GChart) (p2:GEdge) (r:GChart×Int×Int) (hF:q81 n p1 p2=some r) (σ:Sg):EvU Try.prog 15 [.agg (cGChart p1),.agg (cGEdge p2)] σ (fun u σ'=>u = .tup [.agg (cGChart r.1),.int .i64 r.2.1,.int .i64 r.2.2]∧σ'=σ) :=
 EvU.pure1C (ref32_Add_0 n p1 p2 r hF) σ
def q27 (z10:Int) (rc1:Int→(List Int)→Option ((List Int))) (l21:List Int):Option ((List Int)) :=
 rc1 (IntKind.i64.wrap (z10+1)) l21
def q2u  (l13:List Int):Option ((List Int)) :=
 some l13
def q1a (p1:GChart) (c2:Int) (f1:GEdge→Int→Option (Bool)):Nat→Int→(List Int)→Option ((List Int))
 | 0,_,_=>none
 | m1+1,z10,l11 =>
  cond (decide (z10<(p1.Edges.length:Int)))
   (bindO (idxO p1.Edges z10) fun x16 =>
   bindO (f1 x16 c2) fun r18 =>
   cond r18
    (needO ((l11.length+1)*8≤140737488355328∧l11.length+1≤140737488355328) (
    q27 z10 (q1a p1 c2 f1 m1) (l11++[z10])))
    (q27 z10 (q1a p1 c2 f1 m1) l11))
   (q2u l11)
def q2j (f1:GEdge→Int→Option (Bool)) (n:Nat) (p1:GChart) (c2:Int):Option ((List Int)) :=
 q1a p1 c2 f1 n 0 ([]:List Int)
theorem q7a (f1:GEdge→Int→Option (Bool)) (hf1:∀ (a0:GEdge) (a1:Int) (r:Bool),f1 a0 a1=some r→EvU Try.prog 40 [.agg (cGEdge a0),.iptr [.int .i64 a1]] ⟨[],0⟩ (fun u _=>u = .bool r∧Bel 0 u)) (n:Nat) (p1:GChart) (c2:Int) (r:(List Int)) (hF:q2j f1 n p1 c2=some r):EvU Try.prog 39 [.agg (cGChart p1),.fn (.func 40) [] [.iptr [.int .i64 c2]]] ⟨[],0⟩ (fun u _=>u = .isl false (List.map (cI .i64) r)∧Bel 0 u):=by
 unfold q2j at hF
 have hf1S:∀ (a0:GEdge) (a1:Int) (r:Bool),f1 a0 a1=some r→∀ σ,EvU Try.prog 40 [.agg (cGEdge a0),.iptr [.int .i64 a1]] σ (fun u σ'=>u = .bool r∧σ'=σ):=fun a0 a1 r h σ=>EvU.pure1C (hf1 a0 a1 r h) σ
 refine EvU.of_body Try.tb_ok fn39 rfl ?_
 refine WPU.ghost (tm':=fr 25 [(0,.agg (cGChart p1)),(1,.fn (.func 40) [] [.iptr [.int .i64 c2]])]) (Gh.start (Nat.le_of_ble_eq_true rfl)) (Nat.zero_le _) ?_
 refine sr ?_
 refine RS.q (u:=.ptr 0 0 0) (σ':=⟨[(0,.row (cGChart p1) 24)],1⟩) rfl (q20 rfl rfl rfl) ?_
 refine se ?_
 refine se ?_
 refine RS.q (u:=.ptr 0 0 1) rfl (q06 und24 rfl (q00 inf22) rfl rfl rfl) (RS.q (u:=.isl false (List.map cGEdge p1.Edges)) rfl (q03 und22 rfl rfl rfl rfl) (RS.q rfl (q0j rfl rfl rfl (q0a cGEdge und22)) (RS.mv rfl rfl rfl rfl ?_)))
 refine sd ?_
 refine WPU.ghost (tm':=fr 25 [(1,.fn (.func 40) [] [.iptr [.int .i64 c2]]),(5,.vl 1 0 0 (([]:List Int).length)),(9,.isl false (List.map cGEdge p1.Edges)),(10,.int .i64 (p1.Edges.length:Int)),(11,.int .i64 0)]) (σ':=⟨[(1,.vec (List.map (cI .i64) ([]:List Int)).flatten 3 1 0),(0,.row (cGChart p1) 24)],2⟩) (Gh.trans (Gh.nilS 5 3 1 (by decide) (Nat.zero_le _) rfl rfl) (Gh.eqS ⟨rfl,rfl,rfl,rfl,rfl,trivial⟩ rfl)) (Nat.zero_le _) ?_
 refine WPU.ghost (tm':=fr 25 [(1,.fn (.func 40) [] [.iptr [.int .i64 c2]]),(5,.vl 1 0 0 (([]:List Int).length)),(9,.isl false (List.map cGEdge p1.Edges)),(10,.int .i64 (p1.Edges.length:Int)),(11,.int .i64 0)]) (Gh.sub ⟨rfl,rfl,rfl,rfl,rfl,trivial⟩) (Nat.zero_le _) ?_
 refine WPU.loopK (fun m tm σ=>∃ z10:Int,∃ l11:List Int,∃ t12:Nat,q1a p1 c2 f1 m z10 l11=some r∧tm=fr 25 [(1,.fn (.func 40) [] [.iptr [.int .i64 c2]]),(5,.vl 1 t12 0 l11.length),(9,.isl false (List.map cGEdge p1.Edges)),(10,.int .i64 (p1.Edges.length:Int)),(11,.int .i64 z10)]∧σ=⟨[(1,.vec (List.map (cI .i64) l11).flatten 3 1 t12),(0,.row (cGChart p1) 24)],2⟩) (fun tm σ=>∃ l13:List Int,∃ t14:Nat,q2u l13=some r∧tm=fr 25 [(5,.vl 1 t14 0 l13.length)]∧σ=⟨[(1,.vec (List.map (cI .i64) l13).flatten 3 1 t14),(0,.row (cGChart p1) 24)],2⟩) n ⟨0,([]:List Int),0,hF,rfl,rfl⟩ ?_ ?_
 rintro _ _ ⟨l13,t14,hF,rfl,rfl⟩
 unfold q2u at hF
 refine sr ?_
 refine sd ?_
 refine WPU.ret ?_
 refine st ?_
 have hr:=Option.some.inj hF
 subst hr
 exact ⟨.inr rfl,[.vl 1 t14 0 l13.length],q0r rfl (q0o),.isl false (List.map (cI .i64) l13),⟨[],0⟩,Nat.le_refl _,Gh.trans (Gh.fz (tm':=[.isl false (List.map (cI .i64) l13)]) (h':=[(0,.row (cGChart p1) 24)]) 1 (.vec (List.map (cI .i64) l13).flatten 3 1 t14) 1 rfl (by simp) (by simp only [oneU,q11,q0n,q1o,q14,q1r,q18,q17,q16,q15,q12,q1p,q1q,q1n,q1s,q36,junkT,q8k (q1t .i64),q0l]) (by simp only [fzH,fzB,ug,Nat.beq,cond_true,cond_false,oneU,q11,q0n,q1o,q14,q1r,q18,q17,q16,q15,q12,q1p,q1q,q1n,q1s,q36,junkT,q8k (q1t .i64),q0l])) (Gh.toR (.isl false (List.map (cI .i64) l13)) rfl),rfl,BU.h⟩
 rintro m1 _ _ ⟨z10,l11,t12,hF,rfl,rfl⟩
 rcases m1 with _ | m1
 cases hF
 unfold q1a at hF
 refine sr ?_
 refine RS.q rfl (q02 rfl rfl (q0s _ _ _) rfl) ?_
 refine sd ?_
 refine WPU.condS (t:=(decide (z10<(p1.Edges.length:Int)))) rfl (fun h15=>?_) (fun h15=>?_)
 replace hF:=q08 h15 hF
 refine st ?_
 refine WPU.skip ?_
 refine st ?_
 refine WPU.block ?_
 refine st ?_
 obtain ⟨x16,h17,hF⟩:=q01 hF
 refine sr ?_
 refine RS.q (u:=.iptr (cGEdge x16)) rfl (q0x rfl rfl (q0k cGEdge und22 (q00 inf42) q0f h17 rfl)) (RS.q (u:=.agg (cGEdge x16)) rfl (q2c und42 rfl (q00 inf42) rfl rfl) (RS.q (u:=.ptr 2 0 0) (σ':=⟨[(2,.row [.int .i64 0,.int .i64 0,.int .i64 0,.int .i64 0,.str [],.nils,.int .i64 0,.str [],.int .i64 0,.int .i64 0,.nils,.nils] 42),(1,.vec (List.map (cI .i64) l11).flatten 3 1 t12),(0,.row (cGChart p1) 24)],3⟩) rfl (q0w inf42 rfl rfl) (RS.as rfl rfl rfl rfl (RS.opn (u:=.junk) (σ':=⟨[(2,.row (cGEdge x16) 42),(1,.vec (List.map (cI .i64) l11).flatten 3 1 t12),(0,.row (cGChart p1) 24)],3⟩) rfl (q0g (q00 inf42) rfl rfl rfl rfl rfl rfl rfl rfl) rfl ?_))))
 refine sd ?_
 obtain ⟨r18,h19,hF⟩:=q01 hF
 refine sr ?_
 refine RS.q (u:=.agg (cGEdge x16)) rfl (q0i und42 rfl (q00 inf42) rfl rfl rfl) (RS.call (u:=.bool r18) (args:=[.agg (cGEdge x16),.iptr [.int .i64 c2]]) rfl (q0b rfl rfl fn40 hb40 rfl rfl) (hf1S x16 c2 r18 h19 _) rfl rfl ?_)
 refine sd ?_
 refine WPU.joinK (fun tm σ=>∃ l21:List Int,∃ t22:Nat,q27 z10 (q1a p1 c2 f1 m1) l21=some r∧tm=fr 25 [(1,.fn (.func 40) [] [.iptr [.int .i64 c2]]),(5,.vl 1 t22 0 l21.length),(9,.isl false (List.map cGEdge p1.Edges)),(10,.int .i64 (p1.Edges.length:Int)),(11,.int .i64 z10)]∧σ=⟨[(2,.row (cGEdge x16) 42),(1,.vec (List.map (cI .i64) l21).flatten 3 1 t22),(0,.row (cGChart p1) 24)],3⟩) ?_ ?_
 rintro _ _ ⟨l21,t22,hF,rfl,rfl⟩
 unfold q27 at hF
 refine sr ?_
 refine RS.q rfl (q02 rfl rfl (q23 _ _ _) rfl) (RS.mv rfl rfl rfl rfl ?_)
 refine sd ?_
 exact ⟨m1,_,_,Nat.lt_succ_self _,⟨(IntKind.i64.wrap (z10+1)),l21,t22,hF,rfl,rfl⟩,(Nat.zero_le _),Gh.toC (n1:=2) ⟨rfl,rfl,rfl,rfl,rfl,trivial⟩ rfl (Nat.zero_le _) (by simp)⟩
 refine WPU.condS (t:=r18) rfl (fun h20=>?_) (fun h20=>?_)
 replace hF:=q08 h20 hF
 refine st ?_
 obtain ⟨h23,hF⟩:=q0u hF
 refine sr ?_
 repeat refine RS.mv rfl rfl rfl rfl ?_
 refine RS.q (u:=.sl 3 0 1 1) (σ':=⟨[(3,.row [.int .i64 z10] 3),(2,.row (cGEdge x16) 42),(1,.vec (List.map (cI .i64) l11).flatten 3 1 t12),(0,.row (cGChart p1) 24)],4⟩) rfl (q55 und34 inf3 rfl rfl rfl rfl rfl rfl rfl) (RS.q (u:=.vl 1 (t12+1) 0 ((l11++[z10]).length)) (σ':=⟨[(3,.row [.int .i64 z10] 3),(2,.row (cGEdge x16) 42),(1,.vec (List.map (cI .i64) (l11++[z10])).flatten 3 1 (t12+1)),(0,.row (cGChart p1) 24)],4⟩) rfl (q8v rfl rfl rfl rfl (q9f (cI .i64) ([z10]) und34 und34 inf3 rfl (q1t .i64) rfl (q79 (cI .i64) [z10] rfl rfl rfl rfl) h23)) ?_)
 refine sd ?_
 exact ⟨_,_,⟨(l11++[z10]),(t12+1),hF,rfl,rfl⟩,(Nat.zero_le _),Gh.toC (n1:=3) ⟨rfl,rfl,rfl,rfl,rfl,trivial⟩ rfl (Nat.zero_le _) (by simp)⟩
 replace hF:=q07 h20 hF
 refine st ?_
 refine WPU.skip ?_
 refine st ?_
 exact ⟨_,_,⟨l11,t12,hF,rfl,rfl⟩,(Nat.zero_le _),Gh.toC (n1:=3) ⟨rfl,rfl,rfl,rfl,rfl,trivial⟩ rfl (Nat.zero_le _) (by simp)⟩
 replace hF:=q07 h15 hF
 refine st ?_
 refine WPU.exit ?_
 refine st ?_
 exact ⟨_,_,⟨l11,t12,hF,rfl,rfl⟩,(Nat.zero_le _),Gh.toC (n1:=2) ⟨rfl,trivial⟩ rfl (Nat.zero_le _) (by simp)⟩
theorem q70 (f1:GEdge→Int→Option (Bool)) (hf1:∀ (a0:GEdge) (a1:Int) (r:Bool),f1 a0 a1=some r→EvU Try.prog 40 [.agg (cGEdge a0),.iptr [.int .i64 a1]] ⟨[],0⟩ (fun u _=>u = .bool r∧Bel 0 u)) (n:Nat) (p1:GChart) (c2:Int) (r:(List Int)) (hF:q2j f1 n p1 c2=some r) (σ:Sg):EvU Try.prog 39 [.agg (cGChart p1),.fn (.func 40) [] [.iptr [.int .i64 c2]]] σ (fun u σ'=>u = .isl false (List.map (cI .i64) r)∧σ'=σ) :=
 EvU.pure1C (q7a f1 hf1 n p1 c2 r hF) σ
def q4p (n:Nat) (p1:GEdge) (c2:Int):Option (Bool) :=
 some (p1.From == c2)
theorem qa1 (n:Nat) (p1:GEdge) (c2:Int) (r:Bool) (hF:q4p n p1 c2=some r):EvU Try.prog 40 [.agg (cGEdge p1),.iptr [.int .i64 c2]] ⟨[],0⟩ (fun u _=>u = .bool r∧Bel 0 u):=by
 unfold q4p at hF
 refine EvU.of_body Try.tb_ok fn40 rfl ?_
 refine WPU.ghost (tm':=fr 8 [(0,.agg (cGEdge p1)),(1,.iptr [.int .i64 c2])]) (Gh.start (Nat.le_of_ble_eq_true rfl)) (Nat.zero_le _) ?_
 refine sr ?_
 refine RS.q (u:=.ptr 0 0 0) (σ':=⟨[(0,.row (cGEdge p1) 42)],1⟩) rfl (q20 rfl rfl rfl) ?_
 refine se ?_
 refine RS.q (u:=.ptr 0 0 0) rfl (q06 und42 rfl (q00 inf3) rfl rfl rfl) (RS.q (u:=.int .i64 p1.From) rfl (q03 und3 rfl rfl rfl rfl) (RS.q (u:=.int .i64 c2) rfl (q0z und3 rfl rfl rfl) (RS.q rfl (q02 rfl rfl (q0c _ _ _) rfl) ?_)))
 refine sd ?_
 refine WPU.ret ?_
 refine st ?_
 have hr:=Option.some.inj hF
 subst hr
 exact ⟨.inr rfl,[.bool (p1.From == c2)],q0r rfl (q0o),.bool (p1.From == c2),⟨[],0⟩,Nat.le_refl _,Gh.toR (.bool (p1.From == c2)) rfl,rfl,BU.h⟩
def q5y (n:Nat) (p1:GChart) (p2:Int):Option ((List Int)) :=
 bindO (q2j (q4p n) n p1 p2) fun r3 =>
 some r3
theorem qbl (n:Nat) (p1:GChart) (p2:Int) (r:(List Int)) (hF:q5y n p1 p2=some r):EvU Try.prog 16 [.agg (cGChart p1),.int .i64 p2] ⟨[],0⟩ (fun u _=>u = .isl false (List.map (cI .i64) r)∧Bel 0 u):=by
 unfold q5y at hF
 refine EvU.of_body Try.tb_ok fn16 rfl ?_
 refine WPU.ghost (tm':=fr 8 [(0,.agg (cGChart p1)),(1,.int .i64 p2)]) (Gh.start (Nat.le_of_ble_eq_true rfl)) (Nat.zero_le _) ?_
 refine sr ?_
 refine RS.q (u:=.ptr 0 0 0) (σ':=⟨[(0,.row (cGChart p1) 24)],1⟩) rfl (q20 rfl rfl rfl) (RS.q (u:=.ptr 1 0 0) (σ':=⟨[(1,.row [.int .i64 p2] 3),(0,.row (cGChart p1) 24)],2⟩) rfl (q20 rfl rfl rfl) ?_)
 refine sd ?_
 refine WPU.ghost (tm':=fr 8 [(2,.ptr 0 0 0),(3,.iptr [.int .i64 p2])]) (σ':=⟨[(0,.row (cGChart p1) 24)],2⟩) (Gh.trans (Gh.sub (l':=[(2,.ptr 0 0 0),(3,.ptr 1 0 0)]) ⟨rfl,rfl,trivial⟩) (Gh.fzS (l':=[(2,.ptr 0 0 0),(3,.iptr [.int .i64 p2])]) (h':=[(0,.row (cGChart p1) 24)]) 1 (.row [.int .i64 p2] 3) 1 rfl (by simp) (by simp only [fzS,oneU,q11,q0n,q1o,q14,q1r,q18,q17,q16,q15,q12,q1p,q1q,q1n,q1s,q36,junkT,q7r,q80,q6m,q0l,q2x (show Nat.beq 0 1=false from rfl),q2w (show Nat.beq 0 1=false from rfl),q2v (show Nat.beq 0 1=false from rfl),Nat.reduceLeDiff,Nat.reduceMul,List.length_cons,List.length_nil,Nat.reduceAdd]<;>simp only [chunks,List.take,List.drop,List.map,cI,cB,cS,cL]) (by simp only [fzH,fzB,ug,Nat.beq,cond_true,cond_false,oneU,q11,q0n,q1o,q14,q1r,q18,q17,q16,q15,q12,q1p,q1q,q1n,q1s,q36,junkT,q7r,q80,q6m,q0l,q2x (show Nat.beq 0 1=false from rfl),q2w (show Nat.beq 0 1=false from rfl),q2v (show Nat.beq 0 1=false from rfl),Nat.reduceLeDiff,Nat.reduceMul,List.length_cons,List.length_nil,Nat.reduceAdd]<;>simp only [chunks,List.take,List.drop,List.map,cI,cB,cS,cL]))) (Nat.zero_le _) ?_
 refine st ?_
 obtain ⟨r3,h4,hF⟩:=q01 hF
 refine sr ?_
 refine RS.q (u:=.agg (cGChart p1)) rfl (q0i und24 rfl (q00 inf24) rfl rfl rfl) (RS.q rfl (op_fun rfl rfl) (RS.call (u:=.isl false (List.map (cI .i64) r3)) (args:=[.agg (cGChart p1),.fn (.func 40) [] [.iptr [.int .i64 p2]]]) rfl (q0b rfl rfl fn39 hb39 rfl rfl) (q70 (q4p n) (qa1 n) n p1 p2 r3 h4 _) rfl rfl ?_))
 refine sd ?_
 refine WPU.ret ?_
 refine st ?_
 have hr:=Option.some.inj hF
 subst hr
 exact ⟨.inr rfl,[.isl false (List.map (cI .i64) r3)],q0r rfl (q0o),.isl false (List.map (cI .i64) r3),⟨[],0⟩,Nat.le_refl _,Gh.toR (.isl false (List.map (cI .i64) r3)) rfl,rfl,BU.h⟩
theorem qav (n:Nat) (p1:GChart) (p2:Int) (r:(List Int)) (hF:q5y n p1 p2=some r) (σ:Sg):EvU Try.prog 16 [.agg (cGChart p1),.int .i64 p2] σ (fun u σ'=>u = .isl false (List.map (cI .i64) r)∧σ'=σ) :=
 EvU.pure1C (qbl n p1 p2 r hF) σ
def q2h (z10:Int) (rc1:Int→(List Int)→Option ((List Int))) (l21:List Int):Option ((List Int)) :=
 rc1 (IntKind.i64.wrap (z10+1)) l21
def q39  (l13:List Int):Option ((List Int)) :=
 some l13
def q1e (p1:GChart) (c2:Int) (f1:GEdge→Int→Option (Bool)):Nat→Int→(List Int)→Option ((List Int))
 | 0,_,_=>none
 | m1+1,z10,l11 =>
  cond (decide (z10<(p1.Edges.length:Int)))
   (bindO (idxO p1.Edges z10) fun x16 =>
   bindO (f1 x16 c2) fun r18 =>
   cond r18
    (needO ((l11.length+1)*8≤140737488355328∧l11.length+1≤140737488355328) (
    q2h z10 (q1e p1 c2 f1 m1) (l11++[z10])))
    (q2h z10 (q1e p1 c2 f1 m1) l11))
   (q39 l11)
def q31 (f1:GEdge→Int→Option (Bool)) (n:Nat) (p1:GChart) (c2:Int):Option ((List Int)) :=
 q1e p1 c2 f1 n 0 ([]:List Int)
theorem q7z (f1:GEdge→Int→Option (Bool)) (hf1:∀ (a0:GEdge) (a1:Int) (r:Bool),f1 a0 a1=some r→EvU Try.prog 41 [.agg (cGEdge a0),.iptr [.int .i64 a1]] ⟨[],0⟩ (fun u _=>u = .bool r∧Bel 0 u)) (n:Nat) (p1:GChart) (c2:Int) (r:(List Int)) (hF:q31 f1 n p1 c2=some r):EvU Try.prog 39 [.agg (cGChart p1),.fn (.func 41) [] [.iptr [.int .i64 c2]]] ⟨[],0⟩ (fun u _=>u = .isl false (List.map (cI .i64) r)∧Bel 0 u):=by
 unfold q31 at hF
 have hf1S:∀ (a0:GEdge) (a1:Int) (r:Bool),f1 a0 a1=some r→∀ σ,EvU Try.prog 41 [.agg (cGEdge a0),.iptr [.int .i64 a1]] σ (fun u σ'=>u = .bool r∧σ'=σ):=fun a0 a1 r h σ=>EvU.pure1C (hf1 a0 a1 r h) σ
 refine EvU.of_body Try.tb_ok fn39 rfl ?_
 refine WPU.ghost (tm':=fr 25 [(0,.agg (cGChart p1)),(1,.fn (.func 41) [] [.iptr [.int .i64 c2]])]) (Gh.start (Nat.le_of_ble_eq_true rfl)) (Nat.zero_le _) ?_
 refine sr ?_
 refine RS.q (u:=.ptr 0 0 0) (σ':=⟨[(0,.row (cGChart p1) 24)],1⟩) rfl (q20 rfl rfl rfl) ?_
 refine se ?_
 refine se ?_
 refine RS.q (u:=.ptr 0 0 1) rfl (q06 und24 rfl (q00 inf22) rfl rfl rfl) (RS.q (u:=.isl false (List.map cGEdge p1.Edges)) rfl (q03 und22 rfl rfl rfl rfl) (RS.q rfl (q0j rfl rfl rfl (q0a cGEdge und22)) (RS.mv rfl rfl rfl rfl ?_)))
 refine sd ?_
 refine WPU.ghost (tm':=fr 25 [(1,.fn (.func 41) [] [.iptr [.int .i64 c2]]),(5,.vl 1 0 0 (([]:List Int).length)),(9,.isl false (List.map cGEdge p1.Edges)),(10,.int .i64 (p1.Edges.length:Int)),(11,.int .i64 0)]) (σ':=⟨[(1,.vec (List.map (cI .i64) ([]:List Int)).flatten 3 1 0),(0,.row (cGChart p1) 24)],2⟩) (Gh.trans (Gh.nilS 5 3 1 (by decide) (Nat.zero_le _) rfl rfl) (Gh.eqS ⟨rfl,rfl,rfl,rfl,rfl,trivial⟩ rfl)) (Nat.zero_le _) ?_
 refine WPU.ghost (tm':=fr 25 [(1,.fn (.func 41) [] [.iptr [.int .i64 c2]]),(5,.vl 1 0 0 (([]:List Int).length)),(9,.isl false (List.map cGEdge p1.Edges)),(10,.int .i64 (p1.Edges.length:Int)),(11,.int .i64 0)]) (Gh.sub ⟨rfl,rfl,rfl,rfl,rfl,trivial⟩) (Nat.zero_le _) ?_
 refine WPU.loopK (fun m tm σ=>∃ z10:Int,∃ l11:List Int,∃ t12:Nat,q1e p1 c2 f1 m z10 l11=some r∧tm=fr 25 [(1,.fn (.func 41) [] [.iptr [.int .i64 c2]]),(5,.vl 1 t12 0 l11.length),(9,.isl false (List.map cGEdge p1.Edges)),(10,.int .i64 (p1.Edges.length:Int)),(11,.int .i64 z10)]∧σ=⟨[(1,.vec (List.map (cI .i64) l11).flatten 3 1 t12),(0,.row (cGChart p1) 24)],2⟩) (fun tm σ=>∃ l13:List Int,∃ t14:Nat,q39 l13=some r∧tm=fr 25 [(5,.vl 1 t14 0 l13.length)]∧σ=⟨[(1,.vec (List.map (cI .i64) l13).flatten 3 1 t14),(0,.row (cGChart p1) 24)],2⟩) n ⟨0,([]:List Int),0,hF,rfl,rfl⟩ ?_ ?_
 rintro _ _ ⟨l13,t14,hF,rfl,rfl⟩
 unfold q39 at hF
 refine sr ?_
 refine sd ?_
 refine WPU.ret ?_
 refine st ?_
 have hr:=Option.some.inj hF
 subst hr
 exact ⟨.inr rfl,[.vl 1 t14 0 l13.length],q0r rfl (q0o),.isl false (List.map (cI .i64) l13),⟨[],0⟩,Nat.le_refl _,Gh.trans (Gh.fz (tm':=[.isl false (List.map (cI .i64) l13)]) (h':=[(0,.row (cGChart p1) 24)]) 1 (.vec (List.map (cI .i64) l13).flatten 3 1 t14) 1 rfl (by simp) (by simp only [oneU,q11,q0n,q1o,q14,q1r,q18,q17,q16,q15,q12,q1p,q1q,q1n,q1s,q36,junkT,q8k (q1t .i64),q0l]) (by simp only [fzH,fzB,ug,Nat.beq,cond_true,cond_false,oneU,q11,q0n,q1o,q14,q1r,q18,q17,q16,q15,q12,q1p,q1q,q1n,q1s,q36,junkT,q8k (q1t .i64),q0l])) (Gh.toR (.isl false (List.map (cI .i64) l13)) rfl),rfl,BU.h⟩
 rintro m1 _ _ ⟨z10,l11,t12,hF,rfl,rfl⟩
 rcases m1 with _ | m1
 cases hF
 unfold q1e at hF
 refine sr ?_
 refine RS.q rfl (q02 rfl rfl (q0s _ _ _) rfl) ?_
 refine sd ?_
 refine WPU.condS (t:=(decide (z10<(p1.Edges.length:Int)))) rfl (fun h15=>?_) (fun h15=>?_)
 replace hF:=q08 h15 hF
 refine st ?_
 refine WPU.skip ?_
 refine st ?_
 refine WPU.block ?_
 refine st ?_
 obtain ⟨x16,h17,hF⟩:=q01 hF
 refine sr ?_
 refine RS.q (u:=.iptr (cGEdge x16)) rfl (q0x rfl rfl (q0k cGEdge und22 (q00 inf42) q0f h17 rfl)) (RS.q (u:=.agg (cGEdge x16)) rfl (q2c und42 rfl (q00 inf42) rfl rfl) (RS.q (u:=.ptr 2 0 0) (σ':=⟨[(2,.row [.int .i64 0,.int .i64 0,.int .i64 0,.int .i64 0,.str [],.nils,.int .i64 0,.str [],.int .i64 0,.int .i64 0,.nils,.nils] 42),(1,.vec (List.map (cI .i64) l11).flatten 3 1 t12),(0,.row (cGChart p1) 24)],3⟩) rfl (q0w inf42 rfl rfl) (RS.as rfl rfl rfl rfl (RS.opn (u:=.junk) (σ':=⟨[(2,.row (cGEdge x16) 42),(1,.vec (List.map (cI .i64) l11).flatten 3 1 t12),(0,.row (cGChart p1) 24)],3⟩) rfl (q0g (q00 inf42) rfl rfl rfl rfl rfl rfl rfl rfl) rfl ?_))))
 refine sd ?_
 obtain ⟨r18,h19,hF⟩:=q01 hF
 refine sr ?_
 refine RS.q (u:=.agg (cGEdge x16)) rfl (q0i und42 rfl (q00 inf42) rfl rfl rfl) (RS.call (u:=.bool r18) (args:=[.agg (cGEdge x16),.iptr [.int .i64 c2]]) rfl (q0b rfl rfl fn41 hb41 rfl rfl) (hf1S x16 c2 r18 h19 _) rfl rfl ?_)
 refine sd ?_
 refine WPU.joinK (fun tm σ=>∃ l21:List Int,∃ t22:Nat,q2h z10 (q1e p1 c2 f1 m1) l21=some r∧tm=fr 25 [(1,.fn (.func 41) [] [.iptr [.int .i64 c2]]),(5,.vl 1 t22 0 l21.length),(9,.isl false (List.map cGEdge p1.Edges)),(10,.int .i64 (p1.Edges.length:Int)),(11,.int .i64 z10)]∧σ=⟨[(2,.row (cGEdge x16) 42),(1,.vec (List.map (cI .i64) l21).flatten 3 1 t22),(0,.row (cGChart p1) 24)],3⟩) ?_ ?_
 rintro _ _ ⟨l21,t22,hF,rfl,rfl⟩
 unfold q2h at hF
 refine sr ?_
 refine RS.q rfl (q02 rfl rfl (q23 _ _ _) rfl) (RS.mv rfl rfl rfl rfl ?_)
 refine sd ?_
 exact ⟨m1,_,_,Nat.lt_succ_self _,⟨(IntKind.i64.wrap (z10+1)),l21,t22,hF,rfl,rfl⟩,(Nat.zero_le _),Gh.toC (n1:=2) ⟨rfl,rfl,rfl,rfl,rfl,trivial⟩ rfl (Nat.zero_le _) (by simp)⟩
 refine WPU.condS (t:=r18) rfl (fun h20=>?_) (fun h20=>?_)
 replace hF:=q08 h20 hF
 refine st ?_
 obtain ⟨h23,hF⟩:=q0u hF
 refine sr ?_
 repeat refine RS.mv rfl rfl rfl rfl ?_
 refine RS.q (u:=.sl 3 0 1 1) (σ':=⟨[(3,.row [.int .i64 z10] 3),(2,.row (cGEdge x16) 42),(1,.vec (List.map (cI .i64) l11).flatten 3 1 t12),(0,.row (cGChart p1) 24)],4⟩) rfl (q55 und34 inf3 rfl rfl rfl rfl rfl rfl rfl) (RS.q (u:=.vl 1 (t12+1) 0 ((l11++[z10]).length)) (σ':=⟨[(3,.row [.int .i64 z10] 3),(2,.row (cGEdge x16) 42),(1,.vec (List.map (cI .i64) (l11++[z10])).flatten 3 1 (t12+1)),(0,.row (cGChart p1) 24)],4⟩) rfl (q8v rfl rfl rfl rfl (q9f (cI .i64) ([z10]) und34 und34 inf3 rfl (q1t .i64) rfl (q79 (cI .i64) [z10] rfl rfl rfl rfl) h23)) ?_)
 refine sd ?_
 exact ⟨_,_,⟨(l11++[z10]),(t12+1),hF,rfl,rfl⟩,(Nat.zero_le _),Gh.toC (n1:=3) ⟨rfl,rfl,rfl,rfl,rfl,trivial⟩ rfl (Nat.zero_le _) (by simp)⟩
 replace hF:=q07 h20 hF
 refine st ?_
 refine WPU.skip ?_
 refine st ?_
 exact ⟨_,_,⟨l11,t12,hF,rfl,rfl⟩,(Nat.zero_le _),Gh.toC (n1:=3) ⟨rfl,rfl,rfl,rfl,rfl,trivial⟩ rfl (Nat.zero_le _) (by simp)⟩
 replace hF:=q07 h15 hF
 refine st ?_
 refine WPU.exit ?_
 refine st ?_
 exact ⟨_,_,⟨l11,t12,hF,rfl,rfl⟩,(Nat.zero_le _),Gh.toC (n1:=2) ⟨rfl,trivial⟩ rfl (Nat.zero_le _) (by simp)⟩
theorem q7p (f1:GEdge→Int→Option (Bool)) (hf1:∀ (a0:GEdge) (a1:Int) (r:Bool),f1 a0 a1=some r→EvU Try.prog 41 [.agg (cGEdge a0),.iptr [.int .i64 a1]] ⟨[],0⟩ (fun u _=>u = .bool r∧Bel 0 u)) (n:Nat) (p1:GChart) (c2:Int) (r:(List Int)) (hF:q31 f1 n p1 c2=some r) (σ:Sg):EvU Try.prog 39 [.agg (cGChart p1),.fn (.func 41) [] [.iptr [.int .i64 c2]]] σ (fun u σ'=>u = .isl false (List.map (cI .i64) r)∧σ'=σ) :=
 EvU.pure1C (q7z f1 hf1 n p1 c2 r hF) σ
def q5x (n:Nat) (p1:GEdge) (c2:Int):Option (Bool) :=
 some (p1.To == c2)
theorem qbk (n:Nat) (p1:GEdge) (c2:Int) (r:Bool) (hF:q5x n p1 c2=some r):EvU Try.prog 41 [.agg (cGEdge p1),.iptr [.int .i64 c2]] ⟨[],0⟩ (fun u _=>u = .bool r∧Bel 0 u):=by
 unfold q5x at hF
 refine EvU.of_body Try.tb_ok fn41 rfl ?_
 refine WPU.ghost (tm':=fr 8 [(0,.agg (cGEdge p1)),(1,.iptr [.int .i64 c2])]) (Gh.start (Nat.le_of_ble_eq_true rfl)) (Nat.zero_le _) ?_
 refine sr ?_
 refine RS.q (u:=.ptr 0 0 0) (σ':=⟨[(0,.row (cGEdge p1) 42)],1⟩) rfl (q20 rfl rfl rfl) ?_
 refine se ?_
 refine RS.q (u:=.ptr 0 0 1) rfl (q06 und42 rfl (q00 inf3) rfl rfl rfl) (RS.q (u:=.int .i64 p1.To) rfl (q03 und3 rfl rfl rfl rfl) (RS.q (u:=.int .i64 c2) rfl (q0z und3 rfl rfl rfl) (RS.q rfl (q02 rfl rfl (q0c _ _ _) rfl) ?_)))
 refine sd ?_
 refine WPU.ret ?_
 refine st ?_
 have hr:=Option.some.inj hF
 subst hr
 exact ⟨.inr rfl,[.bool (p1.To == c2)],q0r rfl (q0o),.bool (p1.To == c2),⟨[],0⟩,Nat.le_refl _,Gh.toR (.bool (p1.To == c2)) rfl,rfl,BU.h⟩
def q7g (n:Nat) (p1:GChart) (p2:Int):Option ((List Int)) :=
 bindO (q31 (q5x n) n p1 p2) fun r3 =>
 some r3
theorem chart_Ending_0 (n:Nat) (p1:GChart) (p2:Int) (r:(List Int)) (hF:q7g n p1 p2=some r):EvU Try.prog 18 [.agg (cGChart p1),.int .i64 p2] ⟨[],0⟩ (fun u _=>u = .isl false (List.map (cI .i64) r)∧Bel 0 u):=by
 unfold q7g at hF
 refine EvU.of_body Try.tb_ok fn18 rfl ?_
 refine WPU.ghost (tm':=fr 8 [(0,.agg (cGChart p1)),(1,.int .i64 p2)]) (Gh.start (Nat.le_of_ble_eq_true rfl)) (Nat.zero_le _) ?_
 refine sr ?_
 refine RS.q (u:=.ptr 0 0 0) (σ':=⟨[(0,.row (cGChart p1) 24)],1⟩) rfl (q20 rfl rfl rfl) (RS.q (u:=.ptr 1 0 0) (σ':=⟨[(1,.row [.int .i64 p2] 3),(0,.row (cGChart p1) 24)],2⟩) rfl (q20 rfl rfl rfl) ?_)
 refine sd ?_
 refine WPU.ghost (tm':=fr 8 [(2,.ptr 0 0 0),(3,.iptr [.int .i64 p2])]) (σ':=⟨[(0,.row (cGChart p1) 24)],2⟩) (Gh.trans (Gh.sub (l':=[(2,.ptr 0 0 0),(3,.ptr 1 0 0)]) ⟨rfl,rfl,trivial⟩) (Gh.fzS (l':=[(2,.ptr 0 0 0),(3,.iptr [.int .i64 p2])]) (h':=[(0,.row (cGChart p1) 24)]) 1 (.row [.int .i64 p2] 3) 1 rfl (by simp) (by simp only [fzS,oneU,q11,q0n,q1o,q14,q1r,q18,q17,q16,q15,q12,q1p,q1q,q1n,q1s,q36,junkT,q7r,q80,q6m,q0l,q2x (show Nat.beq 0 1=false from rfl),q2w (show Nat.beq 0 1=false from rfl),q2v (show Nat.beq 0 1=false from rfl),Nat.reduceLeDiff,Nat.reduceMul,List.length_cons,List.length_nil,Nat.reduceAdd]<;>simp only [chunks,List.take,List.drop,List.map,cI,cB,cS,cL]) (by simp only [fzH,fzB,ug,Nat.beq,cond_true,cond_false,oneU,q11,q0n,q1o,q14,q1r,q18,q17,q16,q15,q12,q1p,q1q,q1n,q1s,q36,junkT,q7r,q80,q6m,q0l,q2x (show Nat.beq 0 1=false from rfl),q2w (show Nat.beq 0 1=false from rfl),q2v (show Nat.beq 0 1=false from rfl),Nat.reduceLeDiff,Nat.reduceMul,List.length_cons,List.length_nil,Nat.reduceAdd]<;>simp only [chunks,List.take,List.drop,List.map,cI,cB,cS,cL]))) (Nat.zero_le _) ?_
 refine st ?_
 obtain ⟨r3,h4,hF⟩:=q01 hF
 refine sr ?_
 refine RS.q (u:=.agg (cGChart p1)) rfl (q0i und24 rfl (q00 inf24) rfl rfl rfl) (RS.q rfl (op_fun rfl rfl) (RS.call (u:=.isl false (List.map (cI .i64) r3)) (args:=[.agg (cGChart p1),.fn (.func 41) [] [.iptr [.int .i64 p2]]]) rfl (q0b rfl rfl fn39 hb39 rfl rfl) (q7p (q5x n) (qbk n) n p1 p2 r3 h4 _) rfl rfl ?_))
 refine sd ?_
 refine WPU.ret ?_
 refine st ?_
 have hr:=Option.some.inj hF
 subst hr
 exact ⟨.inr rfl,[.isl false (List.map (cI .i64) r3)],q0r rfl (q0o),.isl false (List.map (cI .i64) r3),⟨[],0⟩,Nat.le_refl _,Gh.toR (.isl false (List.map (cI .i64) r3)) rfl,rfl,BU.h⟩
theorem qcc (n:Nat) (p1:GChart) (p2:Int) (r:(List Int)) (hF:q7g n p1 p2=some r) (σ:Sg):EvU Try.prog 18 [.agg (cGChart p1),.int .i64 p2] σ (fun u σ'=>u = .isl false (List.map (cI .i64) r)∧σ'=σ) :=
 EvU.pure1C (chart_Ending_0 n p1 p2 r hF) σ
def q3l (p2:GEdge) (l34:List GDeriv):Option (GDeriv) :=
 some (GDeriv.mk 2 p2.Name p2.From p2.To l34)
def q2e (p1:GChart) (p2:GEdge) (self:GChart→GEdge→Option (GDeriv)):Nat→Int→(List GDeriv)→Option (GDeriv)
 | 0,_,_=>none
 | m1+1,z31,l32 =>
  cond (decide (z31<(p2.Kids.length:Int)))
   (bindO (idxO p2.Kids z31) fun x37 =>
   bindO (idxO p1.Edges x37) fun x39 =>
   bindO (self p1 x39) fun r41 =>
   needO ((l32.length+1)*64≤140737488355328∧l32.length+1≤140737488355328) (
   (q2e p1 p2 self m1) (IntKind.i64.wrap (z31+1)) (l32++[r41])))
   (q3l p2 l32)
def q5g (n:Nat) (self:GChart→GEdge→Option (GDeriv)) (p1:GChart) (p2:GEdge):Option (GDeriv) :=
 cond (p2.Kind == 1)
  (some p2.Lex)
  (q2e p1 p2 self n 0 ([]:List GDeriv))
def q1y:Nat→GChart→GEdge→Option (GDeriv)
 | 0,_,_=>none
 | n+1,p1,p2=>q5g n (q1y n) p1 p2
theorem q7h:∀ (n:Nat) (p1:GChart) (p2:GEdge) (r:GDeriv),q1y n p1 p2=some r→EvU Try.prog 43 [.agg (cGChart p1),.agg (cGEdge p2)] ⟨[],0⟩ (fun u _=>u = .agg (xGDeriv r)∧Bel 0 u)
 | 0,p1,p2,r,hF=>by cases hF
 | n+1,p1,p2,r,hF=>by
  have ih:=q7h n
  have ihS:∀ (p1:GChart) (p2:GEdge) (r:GDeriv),q1y n p1 p2=some r→∀ σ,EvU Try.prog 43 [.agg (cGChart p1),.agg (cGEdge p2)] σ (fun u σ'=>u = .agg (xGDeriv r)∧σ'=σ):=fun p1 p2 r h σ=>EvU.pure1C (ih p1 p2 r h) σ
  unfold q1y q5g at hF
  refine EvU.of_body Try.tb_ok fn43 rfl ?_
  refine WPU.ghost (tm':=fr 41 [(0,.agg (cGChart p1)),(1,.agg (cGEdge p2))]) (Gh.start (Nat.le_of_ble_eq_true rfl)) (Nat.zero_le _) ?_
  refine sr ?_
  refine RS.q (u:=.ptr 0 0 0) (σ':=⟨[(0,.row (cGChart p1) 24)],1⟩) rfl (q20 rfl rfl rfl) (RS.q (u:=.ptr 1 0 0) (σ':=⟨[(1,.row (cGEdge p2) 42),(0,.row (cGChart p1) 24)],2⟩) rfl (q20 rfl rfl rfl) (RS.q (u:=.ptr 2 0 0) (σ':=⟨[(2,.row [.int .i64 0,.str [],.int .i64 0,.int .i64 0,.nils] 37),(1,.row (cGEdge p2) 42),(0,.row (cGChart p1) 24)],3⟩) rfl (q0w inf37 rfl rfl) ?_))
  refine se ?_
  refine RS.q (u:=.ptr 1 0 3) rfl (q06 und42 rfl (q00 inf3) rfl rfl rfl) (RS.q (u:=.int .i64 p2.Kind) rfl (q03 und3 rfl rfl rfl rfl) (RS.q rfl (q02 rfl rfl (q0c _ _ _) rfl) ?_))
  refine sd ?_
  refine WPU.condS (t:=(p2.Kind == 1)) rfl (fun h3=>?_) (fun h3=>?_)
  replace hF:=q08 h3 hF
  refine sr ?_
  refine RS.q (u:=.ptr 1 0 6) rfl (q06 und42 rfl (q00 inf37) rfl rfl rfl) (RS.q (u:=.agg (xGDeriv p2.Lex)) rfl (q0i und37 rfl (q00 inf37) rfl rfl rfl) (RS.opn (u:=.junk) (σ':=⟨[(2,.row (xGDeriv p2.Lex) 37),(1,.row (cGEdge p2) 42),(0,.row (cGChart p1) 24)],3⟩) rfl (q0g (q00 inf37) rfl rfl rfl rfl rfl rfl rfl rfl) rfl ?_))
  refine sd ?_
  refine WPU.ret ?_
  refine st ?_
  have hr:=Option.some.inj hF
  subst hr
  exact ⟨.inr rfl,[.agg (xGDeriv p2.Lex)],q6i (q0i und37 rfl (q00 inf37) rfl rfl rfl) (q0o),.agg (xGDeriv p2.Lex),⟨[],0⟩,Nat.le_refl _,Gh.toR (.agg (xGDeriv p2.Lex)) rfl,rfl,BU.h⟩
  replace hF:=q07 h3 hF
  refine st ?_
  refine WPU.skip ?_
  refine sr ?_
  refine RS.q (u:=.ptr 1 0 4) rfl (q06 und42 rfl (q00 inf9) rfl rfl rfl) (RS.q (u:=.str p2.Name) rfl (q03 und9 rfl rfl rfl rfl) (RS.q (u:=.ptr 1 0 0) rfl (q06 und42 rfl (q00 inf3) rfl rfl rfl) (RS.q (u:=.int .i64 p2.From) rfl (q03 und3 rfl rfl rfl rfl) (RS.q (u:=.ptr 1 0 1) rfl (q06 und42 rfl (q00 inf3) rfl rfl rfl) (RS.q (u:=.int .i64 p2.To) rfl (q03 und3 rfl rfl rfl rfl) (RS.q (u:=.agg [.int .i64 2,.str p2.Name,.int .i64 p2.From,.int .i64 p2.To,.nils]) rfl (q5p bd37 rfl rfl rfl) (RS.q (u:=.ptr 3 0 0) (σ':=⟨[(3,.row [.int .i64 0,.str [],.int .i64 0,.int .i64 0,.nils] 37),(2,.row [.int .i64 0,.str [],.int .i64 0,.int .i64 0,.nils] 37),(1,.row (cGEdge p2) 42),(0,.row (cGChart p1) 24)],4⟩) rfl (q0w inf37 rfl rfl) ?_)))))))
  refine RS.opn (u:=.junk) (σ':=⟨[(3,.row [.int .i64 2,.str p2.Name,.int .i64 p2.From,.int .i64 p2.To,.nils] 37),(2,.row [.int .i64 0,.str [],.int .i64 0,.int .i64 0,.nils] 37),(1,.row (cGEdge p2) 42),(0,.row (cGChart p1) 24)],4⟩) rfl (q0g (q00 inf37) rfl rfl rfl rfl rfl rfl rfl rfl) rfl ?_
  refine se ?_
  refine RS.q (u:=.ptr 1 0 5) rfl (q06 und42 rfl (q00 inf34) rfl rfl rfl) (RS.q (u:=.isl false (List.map (cI .i64) p2.Kids)) rfl (q03 und34 rfl rfl rfl rfl) (RS.q rfl (q0j rfl rfl rfl (q0a (cI .i64) und34)) (RS.mv rfl rfl rfl rfl ?_)))
  refine sd ?_
  refine WPU.ghost (tm':=fr 41 [(2,.ptr 0 0 0),(4,.ptr 2 0 0),(5,.ptr 3 0 0),(21,.isl false (List.map (cI .i64) p2.Kids)),(22,.int .i64 (p2.Kids.length:Int)),(23,.int .i64 0)]) (σ':=⟨[(4,.vec (List.map cGDeriv ([]:List GDeriv)).flatten 37 5 0),(3,.row [.int .i64 2,.str p2.Name,.int .i64 p2.From,.int .i64 p2.To,.vl 4 0 0 (([]:List GDeriv).length)] 37),(2,.row [.int .i64 0,.str [],.int .i64 0,.int .i64 0,.nils] 37),(1,.row (cGEdge p2) 42),(0,.row (cGChart p1) 24)],5⟩) (Gh.trans (Gh.nilC 3 4 37 5 (by decide) (Nat.zero_le _) rfl rfl) (Gh.eqS ⟨rfl,rfl,rfl,rfl,rfl,rfl,trivial⟩ rfl)) (Nat.zero_le _) ?_
  refine WPU.ghost (tm':=fr 41 [(2,.ptr 0 0 0),(4,.ptr 2 0 0),(5,.ptr 3 0 0),(21,.isl false (List.map (cI .i64) p2.Kids)),(22,.int .i64 (p2.Kids.length:Int)),(23,.int .i64 0)]) (Gh.sub ⟨rfl,rfl,rfl,rfl,rfl,rfl,trivial⟩) (Nat.zero_le _) ?_
  refine WPU.loopK (fun m tm σ=>∃ z31:Int,∃ l32:List GDeriv,∃ t33:Nat,q2e p1 p2 (q1y n) m z31 l32=some r∧tm=fr 41 [(2,.ptr 0 0 0),(4,.ptr 2 0 0),(5,.ptr 3 0 0),(21,.isl false (List.map (cI .i64) p2.Kids)),(22,.int .i64 (p2.Kids.length:Int)),(23,.int .i64 z31)]∧σ=⟨[(4,.vec (List.map cGDeriv l32).flatten 37 5 t33),(3,.row [.int .i64 2,.str p2.Name,.int .i64 p2.From,.int .i64 p2.To,.vl 4 t33 0 l32.length] 37),(2,.row [.int .i64 0,.str [],.int .i64 0,.int .i64 0,.nils] 37),(1,.row (cGEdge p2) 42),(0,.row (cGChart p1) 24)],5⟩) (fun tm σ=>∃ l34:List GDeriv,∃ t35:Nat,q3l p2 l34=some r∧tm=fr 41 [(4,.ptr 2 0 0),(5,.ptr 3 0 0)]∧σ=⟨[(4,.vec (List.map cGDeriv l34).flatten 37 5 t35),(3,.row [.int .i64 2,.str p2.Name,.int .i64 p2.From,.int .i64 p2.To,.vl 4 t35 0 l34.length] 37),(2,.row [.int .i64 0,.str [],.int .i64 0,.int .i64 0,.nils] 37),(1,.row (cGEdge p2) 42),(0,.row (cGChart p1) 24)],5⟩) n ⟨0,([]:List GDeriv),0,hF,rfl,rfl⟩ ?_ ?_
  rintro _ _ ⟨l34,t35,hF,rfl,rfl⟩
  unfold q3l at hF
  refine sr ?_
  refine RS.q (u:=.agg [.int .i64 2,.str p2.Name,.int .i64 p2.From,.int .i64 p2.To,.vl 4 t35 0 l34.length]) rfl (q0i und37 rfl (q00 inf37) rfl rfl rfl) (RS.opn (u:=.junk) (σ':=⟨[(4,.vec (List.map cGDeriv l34).flatten 37 5 t35),(3,.row [.int .i64 2,.str p2.Name,.int .i64 p2.From,.int .i64 p2.To,.vl 4 t35 0 l34.length] 37),(2,.row [.int .i64 2,.str p2.Name,.int .i64 p2.From,.int .i64 p2.To,.vl 4 t35 0 l34.length] 37),(1,.row (cGEdge p2) 42),(0,.row (cGChart p1) 24)],5⟩) rfl (q0g (q00 inf37) rfl rfl rfl rfl rfl rfl rfl rfl) rfl ?_)
  refine sd ?_
  refine WPU.ret ?_
  refine st ?_
  have hr:=Option.some.inj hF
  subst hr
  exact ⟨.inr rfl,[.agg [.int .i64 2,.str p2.Name,.int .i64 p2.From,.int .i64 p2.To,.vl 4 t35 0 l34.length]],q6i (q0i und37 rfl (q00 inf37) rfl rfl rfl) (q0o),.agg [.int .i64 2,.str p2.Name,.int .i64 p2.From,.int .i64 p2.To,.isl false (List.map cGDeriv l34)],⟨[],0⟩,Nat.le_refl _,Gh.trans (Gh.fz (tm':=[.agg [.int .i64 2,.str p2.Name,.int .i64 p2.From,.int .i64 p2.To,.isl false (List.map cGDeriv l34)]]) (h':=[(3,.row [.int .i64 2,.str p2.Name,.int .i64 p2.From,.int .i64 p2.To,.isl false (List.map cGDeriv l34)] 37),(2,.row [.int .i64 2,.str p2.Name,.int .i64 p2.From,.int .i64 p2.To,.isl false (List.map cGDeriv l34)] 37),(1,.row (cGEdge p2) 42),(0,.row (cGChart p1) 24)]) 4 (.vec (List.map cGDeriv l34).flatten 37 5 t35) 5 rfl (by simp) (by simp only [oneU,q11,q0n,q1o,q14,q1r,q18,q17,q16,q15,q12,q1p,q1q,q1n,q1s,q36,junkT,q8k q0m,q0l,q4i]) (by simp only [fzH,fzB,ug,Nat.beq,cond_true,cond_false,oneU,q11,q0n,q1o,q14,q1r,q18,q17,q16,q15,q12,q1p,q1q,q1n,q1s,q36,junkT,q8k q0m,q0l,q4i])) (Gh.toR (.agg [.int .i64 2,.str p2.Name,.int .i64 p2.From,.int .i64 p2.To,.isl false (List.map cGDeriv l34)]) rfl),rfl,BU.h⟩
  rintro m1 _ _ ⟨z31,l32,t33,hF,rfl,rfl⟩
  rcases m1 with _ | m1
  cases hF
  unfold q2e at hF
  refine sr ?_
  refine RS.q rfl (q02 rfl rfl (q0s _ _ _) rfl) ?_
  refine sd ?_
  refine WPU.condS (t:=(decide (z31<(p2.Kids.length:Int)))) rfl (fun h36=>?_) (fun h36=>?_)
  replace hF:=q08 h36 hF
  refine st ?_
  refine WPU.skip ?_
  refine st ?_
  refine WPU.block ?_
  refine st ?_
  obtain ⟨x37,h38,hF⟩:=q01 hF
  refine sr ?_
  refine RS.q (u:=.iptr [.int .i64 x37]) rfl (q0x rfl rfl (q0k (cI .i64) und34 (q00 inf3) (q1t .i64) h38 rfl)) (RS.q (u:=.int .i64 x37) rfl (q0z und3 rfl rfl rfl) ?_)
  refine sd ?_
  obtain ⟨x39,h40,hF⟩:=q01 hF
  obtain ⟨r41,h42,hF⟩:=q01 hF
  obtain ⟨h43,hF⟩:=q0u hF
  refine WPU.drawE Try.tb_ok [(0,9),(1,9)] (by kernel_rfl) ?_
  refine RD.q (u:=.ptr 3 0 4) rfl (q06 und37 rfl (q00 inf35) rfl rfl rfl) (RD.q (u:=.vl 4 t33 0 l32.length) rfl (q03 und35 rfl rfl rfl rfl) (RD.q (u:=.agg (cGChart p1)) rfl (q0i und24 rfl (q00 inf24) rfl rfl rfl) (RD.q (u:=.ptr 0 0 1) rfl (q06 und24 rfl (q00 inf22) rfl rfl rfl) (RD.q (u:=.isl false (List.map cGEdge p1.Edges)) rfl (q03 und22 rfl rfl rfl rfl) (RD.mv rfl rfl rfl rfl (RD.q (u:=.iptr (cGEdge x39)) rfl (q0x rfl rfl (q0k cGEdge und22 (q00 inf42) q0f h40 rfl)) (RD.q (u:=.agg (cGEdge x39)) rfl (q2c und42 rfl (q00 inf42) rfl rfl) ?_)))))))
  refine RD.free (u:=.agg (xGDeriv r41)) (args:=[.agg (cGChart p1),.agg (cGEdge x39)]) rfl (q0b rfl rfl fn43 hb43 rfl rfl) (fun s=>ihS p1 x39 r41 h42 s) rfl rfl (RD.act (u:=.sl 5 0 1 1) (σ':=⟨[(5,.row (xGDeriv r41) 37),(4,.vec (List.map cGDeriv l32).flatten 37 5 t33),(3,.row [.int .i64 2,.str p2.Name,.int .i64 p2.From,.int .i64 p2.To,.vl 4 t33 0 l32.length] 37),(2,.row [.int .i64 0,.str [],.int .i64 0,.int .i64 0,.nils] 37),(1,.row (cGEdge p2) 42),(0,.row (cGChart p1) 24)],6⟩) rfl (q55 und35 inf37 rfl rfl rfl rfl rfl rfl rfl) rfl rfl ?_)
  refine RD.act (u:=.vl 4 (t33+1) 0 ((l32++[r41]).length)) (σ':=⟨[(5,.row (xGDeriv r41) 37),(4,.vec (List.map cGDeriv (l32++[r41])).flatten 37 5 (t33+1)),(3,.row [.int .i64 2,.str p2.Name,.int .i64 p2.From,.int .i64 p2.To,.vl 4 t33 0 l32.length] 37),(2,.row [.int .i64 0,.str [],.int .i64 0,.int .i64 0,.nils] 37),(1,.row (cGEdge p2) 42),(0,.row (cGChart p1) 24)],6⟩) rfl (q8v rfl rfl rfl rfl (q9f cGDeriv ([r41]) und35 und35 inf37 rfl q0m rfl (q79 cGDeriv [r41] rfl rfl rfl (by simp only [List.map,List.flatten,List.append_nil,q0v,xGDeriv,GDeriv.Kind,GDeriv.Name,GDeriv.From,GDeriv.To,GDeriv.Kids]; rfl)) h43)) rfl rfl ?_
  refine RD.q (u:=.ptr 3 0 4) rfl (q06 und37 rfl (q00 inf35) rfl rfl rfl) (RD.actn (u:=.junk) (σ':=⟨[(5,.row (xGDeriv r41) 37),(4,.vec (List.map cGDeriv (l32++[r41])).flatten 37 5 (t33+1)),(3,.row [.int .i64 2,.str p2.Name,.int .i64 p2.From,.int .i64 p2.To,.vl 4 (t33+1) 0 ((l32++[r41]).length)] 37),(2,.row [.int .i64 0,.str [],.int .i64 0,.int .i64 0,.nils] 37),(1,.row (cGEdge p2) 42),(0,.row (cGChart p1) 24)],6⟩) rfl (q0g (q00 inf35) rfl rfl rfl rfl rfl rfl rfl rfl) rfl ?_)
  refine RD.done ⟨by kernel_rfl,⟨q06 und37 rfl (q00 inf35) rfl rfl rfl,⟨q03 und35 rfl rfl rfl rfl,trivial⟩⟩,?_⟩
  refine sr ?_
  refine RS.q rfl (q02 rfl rfl (q23 _ _ _) rfl) (RS.mv rfl rfl rfl rfl ?_)
  refine sd ?_
  exact ⟨m1,_,_,Nat.lt_succ_self _,⟨(IntKind.i64.wrap (z31+1)),(l32++[r41]),(t33+1),hF,rfl,rfl⟩,(Nat.zero_le _),Gh.toC (n1:=5) ⟨rfl,rfl,rfl,rfl,rfl,rfl,trivial⟩ rfl (Nat.zero_le _) (by simp)⟩
  replace hF:=q07 h36 hF
  refine st ?_
  refine WPU.exit ?_
  refine st ?_
  exact ⟨_,_,⟨l32,t33,hF,rfl,rfl⟩,(Nat.zero_le _),Gh.toC (n1:=5) ⟨rfl,rfl,trivial⟩ rfl (Nat.zero_le _) (by simp)⟩
theorem q9m (n:Nat) (p1:GChart) (p2:GEdge) (r:GDeriv) (hF:q1y n p1 p2=some r) (σ:Sg):EvU Try.prog 43 [.agg (cGChart p1),.agg (cGEdge p2)] σ (fun u σ'=>u = .agg (xGDeriv r)∧σ'=σ) :=
 EvU.pure1C (q7h n p1 p2 r hF) σ
def q4y (n:Nat) (p1:GChart) (p2:Int):Option (GDeriv) :=
 bindO (cond (decide (p2<0))
  (some true)
  (some (decide (p2 ≥ (p1.Edges.length:Int))))) fun b4 =>
 cond b4
  (some (GDeriv.mk 0 [] 0 0 []))
  (bindO (idxO p1.Edges p2) fun x7 =>
  bindO (q1y n p1 x7) fun r9 =>
  some r9)
theorem chart_Deriv_0 (n:Nat) (p1:GChart) (p2:Int) (r:GDeriv) (hF:q4y n p1 p2=some r):EvU Try.prog 22 [.agg (cGChart p1),.int .i64 p2] ⟨[],0⟩ (fun u _=>u = .agg (xGDeriv r)∧Bel 0 u):=by
 unfold q4y at hF
 refine EvU.of_body Try.tb_ok fn22 rfl ?_
 refine WPU.ghost (tm':=fr 22 [(0,.agg (cGChart p1)),(1,.int .i64 p2)]) (Gh.start (Nat.le_of_ble_eq_true rfl)) (Nat.zero_le _) ?_
 refine sr ?_
 refine RS.q (u:=.ptr 0 0 0) (σ':=⟨[(0,.row (cGChart p1) 24)],1⟩) rfl (q20 rfl rfl rfl) (RS.q (u:=.ptr 1 0 0) (σ':=⟨[(1,.row [.int .i64 0,.str [],.int .i64 0,.int .i64 0,.nils] 37),(0,.row (cGChart p1) 24)],2⟩) rfl (q0w inf37 rfl rfl) ?_)
 refine sd ?_
 obtain ⟨b4,h5,hF⟩:=q01 hF
 refine WPU.joinK (fun tm σ=>tm=fr 22 [(1,.int .i64 p2),(2,.ptr 0 0 0),(4,.ptr 1 0 0),(13,.bool b4)]∧σ=⟨[(1,.row [.int .i64 0,.str [],.int .i64 0,.int .i64 0,.nils] 37),(0,.row (cGChart p1) 24)],2⟩) ?_ ?_
 rintro _ _ ⟨rfl,rfl⟩
 refine st ?_
 refine WPU.condS (t:=b4) rfl (fun h6=>?_) (fun h6=>?_)
 replace hF:=q08 h6 hF
 refine sr ?_
 refine RS.q (u:=.agg [.int .i64 0,.str [],.int .i64 0,.int .i64 0,.nils]) rfl (q5p bd37 rfl rfl rfl) (RS.opn (u:=.junk) (σ':=⟨[(1,.row [.int .i64 0,.str [],.int .i64 0,.int .i64 0,.nils] 37),(0,.row (cGChart p1) 24)],2⟩) rfl (q0g (q00 inf37) rfl rfl rfl rfl rfl rfl rfl rfl) rfl ?_)
 refine sd ?_
 refine WPU.ret ?_
 refine st ?_
 have hr:=Option.some.inj hF
 subst hr
 exact ⟨.inr rfl,[.agg [.int .i64 0,.str [],.int .i64 0,.int .i64 0,.nils]],q6i (q0i und37 rfl (q00 inf37) rfl rfl rfl) (q0o),.agg [.int .i64 0,.str [],.int .i64 0,.int .i64 0,.isl false []],⟨[],0⟩,Nat.le_refl _,Gh.trans (Gh.wk (.cons (.agg (.cons (.refl _) (.cons (.refl _) (.cons (.refl _) (.cons (.refl _) (.cons (.nil false) .nil)))))) .nil)) (Gh.toR (.agg [.int .i64 0,.str [],.int .i64 0,.int .i64 0,.isl false []]) rfl),rfl,BU.h⟩
 replace hF:=q07 h6 hF
 refine st ?_
 refine WPU.skip ?_
 refine st ?_
 obtain ⟨x7,h8,hF⟩:=q01 hF
 obtain ⟨r9,h10,hF⟩:=q01 hF
 refine WPU.drawE Try.tb_ok [] (by kernel_rfl) ?_
 refine RD.q (u:=.agg (cGChart p1)) rfl (q0i und24 rfl (q00 inf24) rfl rfl rfl) (RD.q (u:=.ptr 0 0 1) rfl (q06 und24 rfl (q00 inf22) rfl rfl rfl) (RD.q (u:=.isl false (List.map cGEdge p1.Edges)) rfl (q03 und22 rfl rfl rfl rfl) (RD.mv rfl rfl rfl rfl (RD.q (u:=.iptr (cGEdge x7)) rfl (q0x rfl rfl (q0k cGEdge und22 (q00 inf42) q0f h8 rfl)) (RD.q (u:=.agg (cGEdge x7)) rfl (q2c und42 rfl (q00 inf42) rfl rfl) (RD.free (u:=.agg (xGDeriv r9)) (args:=[.agg (cGChart p1),.agg (cGEdge x7)]) rfl (q0b rfl rfl fn43 hb43 rfl rfl) (fun s=>q9m n p1 x7 r9 h10 s) rfl rfl (RD.actn (u:=.junk) (σ':=⟨[(1,.row (xGDeriv r9) 37),(0,.row (cGChart p1) 24)],2⟩) rfl (q0g (q00 inf37) rfl rfl rfl rfl rfl rfl rfl rfl) rfl ?_)))))))
 refine RD.done ⟨by kernel_rfl,trivial,?_⟩
 refine st ?_
 refine WPU.ret ?_
 refine st ?_
 have hr:=Option.some.inj hF
 subst hr
 exact ⟨.inr rfl,[.agg (xGDeriv r9)],q6i (q0i und37 rfl (q00 inf37) rfl rfl rfl) (q0o),.agg (xGDeriv r9),⟨[],0⟩,Nat.le_refl _,Gh.toR (.agg (xGDeriv r9)) rfl,rfl,BU.h⟩
 rcases q0h (decide (p2<0)) with h3 | h3
 replace h5:=q08 h3 h5
 replace h5:=Option.some.inj h5
 subst h5
 refine sr ?_
 refine RS.q rfl (q02 rfl rfl (q0s _ _ _) rfl) (RS.mv rfl rfl rfl rfl ?_)
 repeat refine RS.no (want0 rfl rfl rfl h3) rfl rfl ?_
 refine RS.q (u:=.bool true) rfl (q05 rfl h3 rfl) ?_
 refine sd ?_
 exact ⟨_,_,⟨rfl,rfl⟩,(Nat.zero_le _),Gh.toC (n1:=2) ⟨rfl,rfl,rfl,rfl,trivial⟩ rfl (Nat.zero_le _) (by simp)⟩
 replace h5:=q07 h3 h5
 replace h5:=Option.some.inj h5
 subst h5
 refine sr ?_
 refine RS.q rfl (q02 rfl rfl (q0s _ _ _) rfl) (RS.mv rfl rfl rfl rfl (RS.op (want1 rfl rfl rfl h3) (q09 rfl) rfl rfl (RS.op (u:=.ptr 0 0 1) (want1 rfl rfl rfl h3) (q06 und24 rfl (q00 inf22) rfl rfl rfl) rfl rfl (RS.op (u:=.isl false (List.map cGEdge p1.Edges)) (want1 rfl rfl rfl h3) (q03 und22 rfl rfl rfl rfl) rfl rfl (RS.op (want1 rfl rfl rfl h3) (q0j rfl rfl rfl (q0a cGEdge und22)) rfl rfl (RS.op (want1 rfl rfl rfl h3) (q02 rfl rfl (q8r _ _ _) rfl) rfl rfl (RS.q (u:=.bool (decide (p2 ≥ (p1.Edges.length:Int)))) rfl (q04 rfl h3 rfl) ?_)))))))
 refine sd ?_
 exact ⟨_,_,⟨rfl,rfl⟩,(Nat.zero_le _),Gh.toC (n1:=2) ⟨rfl,rfl,rfl,rfl,trivial⟩ rfl (Nat.zero_le _) (by simp)⟩
theorem q7o (n:Nat) (p1:GChart) (p2:Int) (r:GDeriv) (hF:q4y n p1 p2=some r) (σ:Sg):EvU Try.prog 22 [.agg (cGChart p1),.int .i64 p2] σ (fun u σ'=>u = .agg (xGDeriv r)∧σ'=σ) :=
 EvU.pure1C (chart_Deriv_0 n p1 p2 r hF) σ
def q4k (z10:Int) (rc1:Int→Int→(List GEdge)→Option (GChart)) (z21:Int) (l22:List GEdge):Option (GChart) :=
 rc1 (IntKind.i64.wrap (z10+1)) z21 l22
def q62  (z13:Int) (l14:List GEdge):Option (GChart) :=
 some (GChart.mk z13 l14)
def q2q (p2:List GEdge) (n:Nat):Nat→Int→Int→(List GEdge)→Option (GChart)
 | 0,_,_,_=>none
 | m1+1,z10,z11,l12 =>
  cond (decide (z10<(p2.length:Int)))
   (bindO (idxO p2 z10) fun x16 =>
   bindO (q81 n (GChart.mk z11 l12) x16) fun r18 =>
   cond (r18.2.2 == 0)
    (q4k z10 (q2q p2 n m1) r18.1.Words r18.1.Edges)
    (q4k z10 (q2q p2 n m1) z11 l12))
   (q62 z11 l12)
def q75 (n:Nat) (p1:Int) (p2:List GEdge):Option (GChart) :=
 bindO (q82 n p1) fun r3 =>
 q2q p2 n n 0 r3.1.Words r3.1.Edges
theorem ref32_Build_0 (n:Nat) (p1:Int) (p2:List GEdge) (r:GChart) (hF:q75 n p1 p2=some r):EvU Try.prog 24 [.int .i64 p1,.isl false (List.map cGEdge p2)] ⟨[],0⟩ (fun u _=>u = .agg (cGChart r)∧Bel 0 u):=by
 unfold q75 at hF
 refine EvU.of_body Try.tb_ok fn24 rfl ?_
 refine WPU.ghost (tm':=fr 36 [(0,.int .i64 p1),(1,.isl false (List.map cGEdge p2))]) (Gh.start (Nat.le_of_ble_eq_true rfl)) (Nat.zero_le _) ?_
 refine sr ?_
 refine RS.q (u:=.ptr 0 0 0) (σ':=⟨[(0,.row [.int .i64 0,.nils] 24)],1⟩) rfl (q0w inf24 rfl rfl) ?_
 refine sd ?_
 obtain ⟨r3,h4,hF⟩:=q01 hF
 refine sr ?_
 refine RS.call (u:=.tup [.agg (cGChart r3.1),.int .i64 r3.2]) (args:=[.int .i64 p1]) rfl (q0b rfl rfl fn10 hb10 rfl rfl) (ref32_New_ok n p1 r3 h4 _) rfl rfl (RS.mv rfl rfl rfl rfl (RS.q rfl (q1k rfl rfl) (RS.q rfl (q1k rfl rfl) (RS.q (u:=.ptr 1 0 0) (σ':=⟨[(1,.row [.int .i64 0,.nils] 24),(0,.row [.int .i64 0,.nils] 24)],2⟩) rfl (q0w inf24 rfl rfl) (RS.opn (u:=.junk) (σ':=⟨[(1,.row (cGChart r3.1) 24),(0,.row [.int .i64 0,.nils] 24)],2⟩) rfl (q0g (q00 inf24) rfl rfl rfl rfl rfl rfl rfl rfl) rfl ?_)))))
 refine se ?_
 refine sd ?_
 refine WPU.ghost (tm':=fr 36 [(1,.isl false (List.map cGEdge p2)),(4,.ptr 0 0 0),(5,.ptr 1 0 0),(7,.int .i64 0)]) (Gh.sub ⟨rfl,rfl,rfl,rfl,trivial⟩) (Nat.zero_le _) ?_
 refine WPU.loopK (fun m tm σ=>∃ z10:Int,∃ z11:Int,∃ l12:List GEdge,q2q p2 n m z10 z11 l12=some r∧tm=fr 36 [(1,.isl false (List.map cGEdge p2)),(4,.ptr 0 0 0),(5,.ptr 1 0 0),(7,.int .i64 z10)]∧σ=⟨[(1,.row [.int .i64 z11,.isl false (List.map cGEdge l12)] 24),(0,.row [.int .i64 0,.nils] 24)],2⟩) (fun tm σ=>∃ z13:Int,∃ l14:List GEdge,q62 z13 l14=some r∧tm=fr 36 [(4,.ptr 0 0 0),(5,.ptr 1 0 0)]∧σ=⟨[(1,.row [.int .i64 z13,.isl false (List.map cGEdge l14)] 24),(0,.row [.int .i64 0,.nils] 24)],2⟩) n ⟨0,r3.1.Words,r3.1.Edges,hF,rfl,rfl⟩ ?_ ?_
 rintro _ _ ⟨z13,l14,hF,rfl,rfl⟩
 unfold q62 at hF
 refine sr ?_
 refine RS.q (u:=.agg [.int .i64 z13,.isl false (List.map cGEdge l14)]) rfl (q0i und24 rfl (q00 inf24) rfl rfl rfl) (RS.opn (u:=.junk) (σ':=⟨[(1,.row [.int .i64 z13,.isl false (List.map cGEdge l14)] 24),(0,.row [.int .i64 z13,.isl false (List.map cGEdge l14)] 24)],2⟩) rfl (q0g (q00 inf24) rfl rfl rfl rfl rfl rfl rfl rfl) rfl ?_)
 refine sd ?_
 refine WPU.ret ?_
 refine st ?_
 have hr:=Option.some.inj hF
 subst hr
 exact ⟨.inr rfl,[.agg [.int .i64 z13,.isl false (List.map cGEdge l14)]],q6i (q0i und24 rfl (q00 inf24) rfl rfl rfl) (q0o),.agg [.int .i64 z13,.isl false (List.map cGEdge l14)],⟨[],0⟩,Nat.le_refl _,Gh.toR (.agg [.int .i64 z13,.isl false (List.map cGEdge l14)]) rfl,rfl,BU.h⟩
 rintro m1 _ _ ⟨z10,z11,l12,hF,rfl,rfl⟩
 rcases m1 with _ | m1
 cases hF
 unfold q2q at hF
 refine sr ?_
 repeat refine RS.mv rfl rfl rfl rfl ?_
 refine RS.q rfl (q0j rfl rfl rfl (q0a cGEdge und22)) (RS.q rfl (q02 rfl rfl (q0s _ _ _) rfl) ?_)
 refine sd ?_
 refine WPU.condS (t:=(decide (z10<(p2.length:Int)))) rfl (fun h15=>?_) (fun h15=>?_)
 replace hF:=q08 h15 hF
 refine st ?_
 refine WPU.skip ?_
 refine st ?_
 refine WPU.block ?_
 refine st ?_
 obtain ⟨x16,h17,hF⟩:=q01 hF
 obtain ⟨r18,h19,hF⟩:=q01 hF
 refine WPU.drawE Try.tb_ok [(0,10),(1,10),(2,10),(3,10),(4,10),(6,10),(7,10),(8,10),(8,11),(9,10),(9,11)] (by kernel_rfl) ?_
 refine RD.q (u:=.agg [.int .i64 z11,.isl false (List.map cGEdge l12)]) rfl (q0i und24 rfl (q00 inf24) rfl rfl rfl) ?_
 repeat refine RD.mv rfl rfl rfl rfl ?_
 refine RD.q (u:=.iptr (cGEdge x16)) rfl (q0x rfl rfl (q0k cGEdge und22 (q00 inf42) q0f h17 rfl)) (RD.q (u:=.agg (cGEdge x16)) rfl (q2c und42 rfl (q00 inf42) rfl rfl) (RD.free (u:=.tup [.agg (cGChart r18.1),.int .i64 r18.2.1,.int .i64 r18.2.2]) (args:=[.agg [.int .i64 z11,.isl false (List.map cGEdge l12)],.agg (cGEdge x16)]) rfl (q0b rfl rfl fn15 hb15 rfl rfl) (fun s=>ref32_Add_ok n (GChart.mk z11 l12) x16 r18 h19 s) rfl rfl (RD.mv rfl rfl rfl rfl (RD.q rfl (q1k rfl rfl) (RD.q rfl (q1k rfl rfl) (RD.q rfl (q1k rfl rfl) (RD.act (u:=.ptr 2 0 0) (σ':=⟨[(2,.row [.int .i64 0,.nils] 24),(1,.row [.int .i64 z11,.isl false (List.map cGEdge l12)] 24),(0,.row [.int .i64 0,.nils] 24)],3⟩) rfl (q0w inf24 rfl rfl) rfl rfl ?_)))))))
 refine RD.actn (u:=.junk) (σ':=⟨[(2,.row (cGChart r18.1) 24),(1,.row [.int .i64 z11,.isl false (List.map cGEdge l12)] 24),(0,.row [.int .i64 0,.nils] 24)],3⟩) rfl (q0g (q00 inf24) rfl rfl rfl rfl rfl rfl rfl rfl) rfl ?_
 repeat refine RD.as rfl rfl rfl rfl ?_
 refine RD.done ⟨by kernel_rfl,⟨q0i und24 rfl (q00 inf24) rfl rfl rfl,⟨q09 rfl,⟨q09 rfl,⟨q0x rfl rfl (q0k cGEdge und22 (q00 inf42) q0f h17 rfl),⟨q2c und42 rfl (q00 inf42) rfl rfl,⟨q09 rfl,⟨q1k rfl rfl,⟨q1k rfl rfl,⟨q1k rfl rfl,⟨q1k rfl rfl,⟨q1k rfl rfl,trivial⟩⟩⟩⟩⟩⟩⟩⟩⟩⟩⟩,?_⟩
 refine sr ?_
 refine RS.q rfl (q02 rfl rfl (q0c _ _ _) rfl) ?_
 refine sd ?_
 refine WPU.joinK (fun tm σ=>∃ z21:Int,∃ l22:List GEdge,q4k z10 (q2q p2 n m1) z21 l22=some r∧tm=fr 36 [(1,.isl false (List.map cGEdge p2)),(4,.ptr 0 0 0),(5,.ptr 1 0 0),(7,.int .i64 z10)]∧σ=⟨[(2,.row (cGChart r18.1) 24),(1,.row [.int .i64 z21,.isl false (List.map cGEdge l22)] 24),(0,.row [.int .i64 0,.nils] 24)],3⟩) ?_ ?_
 rintro _ _ ⟨z21,l22,hF,rfl,rfl⟩
 unfold q4k at hF
 refine sr ?_
 refine RS.q rfl (q02 rfl rfl (q23 _ _ _) rfl) ?_
 refine sd ?_
 exact ⟨m1,_,_,Nat.lt_succ_self _,⟨(IntKind.i64.wrap (z10+1)),z21,l22,hF,rfl,rfl⟩,(Nat.zero_le _),Gh.toC (n1:=2) ⟨rfl,rfl,rfl,rfl,trivial⟩ rfl (Nat.zero_le _) (by simp)⟩
 refine WPU.condS (t:=(r18.2.2 == 0)) rfl (fun h20=>?_) (fun h20=>?_)
 replace hF:=q08 h20 hF
 refine sr ?_
 refine RS.q (u:=.agg (cGChart r18.1)) rfl (q0i und24 rfl (q00 inf24) rfl rfl rfl) (RS.opn (u:=.junk) (σ':=⟨[(2,.row (cGChart r18.1) 24),(1,.row (cGChart r18.1) 24),(0,.row [.int .i64 0,.nils] 24)],3⟩) rfl (q0g (q00 inf24) rfl rfl rfl rfl rfl rfl rfl rfl) rfl ?_)
 refine sd ?_
 exact ⟨_,_,⟨r18.1.Words,r18.1.Edges,hF,rfl,rfl⟩,(Nat.zero_le _),Gh.toC (n1:=3) ⟨rfl,rfl,rfl,rfl,trivial⟩ rfl (Nat.zero_le _) (by simp)⟩
 replace hF:=q07 h20 hF
 refine st ?_
 refine WPU.skip ?_
 refine st ?_
 exact ⟨_,_,⟨z11,l12,hF,rfl,rfl⟩,(Nat.zero_le _),Gh.toC (n1:=3) ⟨rfl,rfl,rfl,rfl,trivial⟩ rfl (Nat.zero_le _) (by simp)⟩
 replace hF:=q07 h15 hF
 refine st ?_
 refine WPU.exit ?_
 refine st ?_
 exact ⟨_,_,⟨z11,l12,hF,rfl,rfl⟩,(Nat.zero_le _),Gh.toC (n1:=2) ⟨rfl,rfl,trivial⟩ rfl (Nat.zero_le _) (by simp)⟩
theorem ref32_Build_ok (n:Nat) (p1:Int) (p2:List GEdge) (r:GChart) (hF:q75 n p1 p2=some r) (σ:Sg):EvU Try.prog 24 [.int .i64 p1,.isl false (List.map cGEdge p2)] σ (fun u σ'=>u = .agg (cGChart r)∧σ'=σ) :=
 EvU.pure1C (ref32_Build_0 n p1 p2 r hF) σ
def q59 (n:Nat) (p1:GChart) (p2:Int) (p3:Int):Option (Bool) :=
 bindO (idxO p1.Edges p2) fun x4 =>
 bindO (idxO p1.Edges p3) fun x6 =>
 cond ((IntKind.i64.wrap (x4.To - x4.From)) != (IntKind.i64.wrap (x6.To - x6.From)))
  (some (decide ((IntKind.i64.wrap (x4.To - x4.From))<(IntKind.i64.wrap (x6.To - x6.From)))))
  (cond (x4.From != x6.From)
   (some (decide (x4.From<x6.From)))
   (cond (x4.Unary != x6.Unary)
    (some (decide (x4.Unary<x6.Unary)))
    (bindO (q3a n p1 p2) fun r11 =>
    bindO (q3a n p1 p3) fun r13 =>
    bindO (q1z n r11 r13) fun r15 =>
    some (decide (r15<0)))))
end Go.Proofs
end
