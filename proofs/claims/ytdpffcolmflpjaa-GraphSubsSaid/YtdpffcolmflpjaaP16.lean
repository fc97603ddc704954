/-
  Texts of the walk: H4.
-/
import Derived.Test.YtdpffcolmflpjaaP15
section
namespace Go.Proofs
open Go Go.Rx Go.Vx Try
set_option maxRecDepth 10000
set_option linter.unusedSimpArgs false
set_option linter.unusedVariables false
theorem qbg (n:Nat) (p1:GFS) (p2:GFS) (r:Int) (hF:q4x n p1 p2=some r):EvU Try.prog 24 [.agg [.isl false (List.map cGNode p1.Nodes)],.agg [.isl false (List.map cGNode p2.Nodes)]] ⟨[],0⟩ (fun u _=>u = .int .i64 r∧Bel 0 u):=by
 unfold q4x at hF
 refine EvU.of_body Try.tb_ok fn24 rfl ?_
 refine WPU.ghost (tm':=fr 21 [(0,.agg [.isl false (List.map cGNode p1.Nodes)]),(1,.agg [.isl false (List.map cGNode p2.Nodes)])]) (Gh.start (Nat.le_of_ble_eq_true rfl)) (Nat.zero_le _) ?_
 refine sr ?_
 refine RS.q (u:=.ptr 0 0 0) (σ':=⟨[(0,.row [.isl false (List.map cGNode p1.Nodes)] 25)],1⟩) rfl (q2z rfl rfl rfl) (RS.q (u:=.ptr 1 0 0) (σ':=⟨[(1,.row [.isl false (List.map cGNode p2.Nodes)] 25),(0,.row [.isl false (List.map cGNode p1.Nodes)] 25)],2⟩) rfl (q2z rfl rfl rfl) ?_)
 refine sd ?_
 obtain ⟨r3,h4,hF⟩:=q00 hF
 refine sr ?_
 refine RS.q (u:=.ptr 0 0 0) rfl (q0u und25 rfl (q01 inf23) rfl rfl rfl) (RS.q (u:=.isl false (List.map cGNode p1.Nodes)) rfl (q06 und23 rfl rfl rfl rfl) (RS.q rfl (q10 rfl rfl rfl (q0w cGNode und23)) (RS.q (u:=.ptr 1 0 0) rfl (q0u und25 rfl (q01 inf23) rfl rfl rfl) (RS.q (u:=.isl false (List.map cGNode p2.Nodes)) rfl (q06 und23 rfl rfl rfl rfl) (RS.q rfl (q10 rfl rfl rfl (q0w cGNode und23)) (RS.call (u:=.int .i64 r3) (args:=[.int .i64 (p1.Nodes.length:Int),.int .i64 (p2.Nodes.length:Int)]) rfl (q02 rfl rfl fn36 hb36 rfl rfl) (q2n n (p1.Nodes.length:Int) (p2.Nodes.length:Int) r3 h4 _) rfl rfl ?_))))))
 refine se ?_
 refine RS.q rfl (q04 rfl rfl (q63 _ _ _) rfl) ?_
 refine sd ?_
 refine WPU.condS (t:=(r3 != 0)) rfl (fun h5=>?_) (fun h5=>?_)
 replace hF:=q0g h5 hF
 refine sr ?_
 refine sd ?_
 refine WPU.ret ?_
 refine st ?_
 have hr:=Option.some.inj hF
 subst hr
 exact ⟨.inr rfl,[.int .i64 r3],q1y rfl (q1e),.int .i64 r3,⟨[],0⟩,Nat.le_refl _,Gh.toR (.int .i64 r3) rfl,rfl,BU.h⟩
 replace hF:=q0f h5 hF
 refine st ?_
 refine WPU.skip ?_
 refine st ?_
 obtain ⟨r6,h7,hF⟩:=q00 hF
 refine sr ?_
 refine RS.q (u:=.ptr 0 0 0) rfl (q0u und25 rfl (q01 inf23) rfl rfl rfl) (RS.q (u:=.isl false (List.map cGNode p1.Nodes)) rfl (q06 und23 rfl rfl rfl rfl) (RS.q (u:=.ptr 1 0 0) rfl (q0u und25 rfl (q01 inf23) rfl rfl rfl) (RS.q (u:=.isl false (List.map cGNode p2.Nodes)) rfl (q06 und23 rfl rfl rfl rfl) (RS.call (u:=.int .i64 r6) (args:=[.isl false (List.map cGNode p1.Nodes),.isl false (List.map cGNode p2.Nodes),.fn (.func 38) [] []]) rfl (q02 rfl rfl fn37 hb37 rfl rfl) (q46 (q3z n) (q8h n) n p1.Nodes p2.Nodes r6 h7 _) rfl rfl ?_))))
 refine sd ?_
 refine WPU.ret ?_
 refine st ?_
 have hr:=Option.some.inj hF
 subst hr
 exact ⟨.inr rfl,[.int .i64 r6],q1y rfl (q1e),.int .i64 r6,⟨[],0⟩,Nat.le_refl _,Gh.toR (.int .i64 r6) rfl,rfl,BU.h⟩
theorem q7l (n:Nat) (p1:GFS) (p2:GFS) (r:Int) (hF:q4x n p1 p2=some r) (σ:Sg):EvU Try.prog 24 [.agg [.isl false (List.map cGNode p1.Nodes)],.agg [.isl false (List.map cGNode p2.Nodes)]] σ (fun u σ'=>u = .int .i64 r∧σ'=σ) :=
 EvU.pure1C (qbg n p1 p2 r hF) σ
def q4p (z6:Int) (rc1:Int→(List Int)→Option ((List Int))) (l28:List Int):Option ((List Int)) :=
 rc1 (IntKind.i64.wrap (z6+1)) l28
def q3a (z6:Int) (rc1:Int→(List Int)→Option ((List Int))) (x12:GNode):Nat→Int→(List Int)→Option ((List Int))
 | 0,_,_=>none
 | m2+1,z25,l26 =>
  cond (decide (z25<(x12.Arcs.length:Int)))
   (bindO (idxO x12.Arcs z25) fun x31 =>
   bindO (idxO x12.Arcs z25) fun x33 =>
   needO ((l26.length+2)*8≤140737488355328∧l26.length+2≤140737488355328) (
   (q3a z6 rc1 x12 m2) (IntKind.i64.wrap (z25+1)) (l26++[x31.Feat,x33.To])))
   (q4p z6 rc1 l26)
def q4o  (l9:List Int):Option ((List Int)) :=
 some l9
def q23 (p1:GFS) (n:Nat):Nat→Int→(List Int)→Option ((List Int))
 | 0,_,_=>none
 | m1+1,z6,l7 =>
  cond (decide (z6<(p1.Nodes.length:Int)))
   (bindO (idxO p1.Nodes z6) fun x12 =>
   bindO (idxO p1.Nodes z6) fun x14 =>
   needO ((l7.length+2)*8≤140737488355328∧l7.length+2≤140737488355328) (
   q3a z6 (q23 p1 n m1) x12 n 0 (l7++[x14.Typex,(x12.Arcs.length:Int)])))
   (q4o l7)
def q4g (n:Nat) (p1:GFS):Option ((List Int)) :=
 q23 p1 n n 0 ([(p1.Nodes.length:Int)])
theorem q81 (n:Nat) (p1:GFS) (r:(List Int)) (hF:q4g n p1=some r):EvU Try.prog 39 [.agg [.isl false (List.map cGNode p1.Nodes)]] ⟨[],0⟩ (fun u σ'=>∃ t,u = .vl 1 t 0 r.length∧σ'=⟨[(1,.vec (List.map (cI .i64) r).flatten 3 1 t)],1+1⟩):=by
 unfold q4g at hF
 refine EvU.of_body Try.tb_ok fn39 rfl ?_
 refine WPU.ghost (tm':=fr 55 [(0,.agg [.isl false (List.map cGNode p1.Nodes)])]) (Gh.start (Nat.le_of_ble_eq_true rfl)) (Nat.zero_le _) ?_
 refine sr ?_
 refine RS.q (u:=.ptr 0 0 0) (σ':=⟨[(0,.row [.isl false (List.map cGNode p1.Nodes)] 25)],1⟩) rfl (q2z rfl rfl rfl) ?_
 refine se ?_
 refine RS.q (u:=.ptr 0 0 0) rfl (q0u und25 rfl (q01 inf23) rfl rfl rfl) (RS.q (u:=.isl false (List.map cGNode p1.Nodes)) rfl (q06 und23 rfl rfl rfl rfl) (RS.q rfl (q10 rfl rfl rfl (q0w cGNode und23)) (RS.step (u:=.vl 1 0 0 ([(p1.Nodes.length:Int)].length)) (σ':=⟨[(1,.vec (List.map (cI .i64) ([(p1.Nodes.length:Int)])).flatten 3 1 0),(0,.row [.isl false (List.map cGNode p1.Nodes)] 25)],2⟩) rfl (StepU.bslv (cs:=(List.map (cI .i64) [(p1.Nodes.length:Int)]).flatten) Try.tb_ok rfl und55 inf3 rfl rfl rfl rfl rfl rfl rfl rfl) rfl rfl ?_)))
 refine se ?_
 refine sd ?_
 refine WPU.ghost (tm':=fr 55 [(1,.ptr 0 0 0),(3,.vl 1 0 0 (([(p1.Nodes.length:Int)]).length)),(4,.int .i64 0)]) (Gh.sub ⟨rfl,rfl,rfl,trivial⟩) (Nat.zero_le _) ?_
 refine WPU.loopK (fun m tm σ=>∃ z6:Int,∃ l7:List Int,∃ t8:Nat,q23 p1 n m z6 l7=some r∧tm=fr 55 [(1,.ptr 0 0 0),(3,.vl 1 t8 0 l7.length),(4,.int .i64 z6)]∧σ=⟨[(1,.vec (List.map (cI .i64) l7).flatten 3 1 t8),(0,.row [.isl false (List.map cGNode p1.Nodes)] 25)],2⟩) (fun tm σ=>∃ l9:List Int,∃ t10:Nat,q4o l9=some r∧tm=fr 55 [(3,.vl 1 t10 0 l9.length)]∧σ=⟨[(1,.vec (List.map (cI .i64) l9).flatten 3 1 t10),(0,.row [.isl false (List.map cGNode p1.Nodes)] 25)],2⟩) n ⟨0,[(p1.Nodes.length:Int)],0,hF,rfl,rfl⟩ ?_ ?_
 rintro _ _ ⟨l9,t10,hF,rfl,rfl⟩
 unfold q4o at hF
 refine sr ?_
 refine sd ?_
 refine WPU.ret ?_
 refine st ?_
 have hr:=Option.some.inj hF
 subst hr
 exact ⟨.inr rfl,[.vl 1 t10 0 l9.length],q1y rfl q1e,.vl 1 t10 0 l9.length,⟨[(1,.vec (List.map (cI .i64) l9).flatten 3 1 t10)],2⟩,(Nat.zero_le _),Gh.trans (Gh.only (fun k=>Nat.beq k 1)) (Gh.to (n1:=2) [] rfl rfl (Nat.zero_le _) (Nat.le_of_ble_eq_true rfl) BUL.h BH.h),t10,rfl,rfl⟩
 rintro m1 _ _ ⟨z6,l7,t8,hF,rfl,rfl⟩
 rcases m1 with _ | m1
 cases hF
 unfold q23 at hF
 refine sr ?_
 refine RS.q (u:=.ptr 0 0 0) rfl (q0u und25 rfl (q01 inf23) rfl rfl rfl) (RS.q (u:=.isl false (List.map cGNode p1.Nodes)) rfl (q06 und23 rfl rfl rfl rfl) (RS.q rfl (q10 rfl rfl rfl (q0w cGNode und23)) (RS.q rfl (q04 rfl rfl (q1n _ _ _) rfl) ?_)))
 refine sd ?_
 refine WPU.condS (t:=(decide (z6<(p1.Nodes.length:Int)))) rfl (fun h11=>?_) (fun h11=>?_)
 replace hF:=q0g h11 hF
 refine st ?_
 refine WPU.skip ?_
 refine st ?_
 refine WPU.block ?_
 refine st ?_
 obtain ⟨x12,h13,hF⟩:=q00 hF
 refine sr ?_
 refine RS.q (u:=.ptr 0 0 0) rfl (q0u und25 rfl (q01 inf23) rfl rfl rfl) (RS.q (u:=.isl false (List.map cGNode p1.Nodes)) rfl (q06 und23 rfl rfl rfl rfl) (RS.mv rfl rfl rfl rfl (RS.q (u:=.iptr (cGNode x12)) rfl (q1t rfl rfl (q2g cGNode und23 (q01 inf43) q1b h13 rfl)) (RS.q (u:=.iptr [.isl false (List.map cGArc x12.Arcs)]) rfl (q68 und43 rfl (q01 inf41) rfl rfl) (RS.q (u:=.isl false (List.map cGArc x12.Arcs)) rfl (q3h und41 rfl rfl rfl) ?_)))))
 refine sd ?_
 obtain ⟨x14,h15,hF⟩:=q00 hF
 obtain ⟨h16,hF⟩:=q1o hF
 refine sr ?_
 refine RS.q (u:=.ptr 0 0 0) rfl (q0u und25 rfl (q01 inf23) rfl rfl rfl) (RS.q (u:=.isl false (List.map cGNode p1.Nodes)) rfl (q06 und23 rfl rfl rfl rfl) (RS.mv rfl rfl rfl rfl (RS.q (u:=.iptr (cGNode x14)) rfl (q1t rfl rfl (q2g cGNode und23 (q01 inf43) q1b h15 rfl)) (RS.q (u:=.iptr (cGNode x14)) rfl (q68 und43 rfl (q01 inf3) rfl rfl) (RS.q (u:=.int .i64 x14.Typex) rfl (q3h und3 rfl rfl rfl) (RS.mv rfl rfl rfl rfl (RS.q rfl (q10 rfl rfl rfl (q0w cGArc und41)) ?_)))))))
 refine RS.q (u:=.sl 2 0 2 2) (σ':=⟨[(2,.row [.int .i64 x14.Typex,.int .i64 (x12.Arcs.length:Int)] 3),(1,.vec (List.map (cI .i64) l7).flatten 3 1 t8),(0,.row [.isl false (List.map cGNode p1.Nodes)] 25)],3⟩) rfl (q26 und55 inf3 rfl rfl rfl rfl rfl rfl rfl) (RS.q (u:=.vl 1 (t8+1) 0 ((l7++[x14.Typex,(x12.Arcs.length:Int)]).length)) (σ':=⟨[(2,.row [.int .i64 x14.Typex,.int .i64 (x12.Arcs.length:Int)] 3),(1,.vec (List.map (cI .i64) (l7++[x14.Typex,(x12.Arcs.length:Int)])).flatten 3 1 (t8+1)),(0,.row [.isl false (List.map cGNode p1.Nodes)] 25)],3⟩) rfl (q7x rfl rfl rfl rfl (q8j (cI .i64) ([x14.Typex,(x12.Arcs.length:Int)]) und55 und55 inf3 rfl (q52 .i64) rfl (q7h (cI .i64) [x14.Typex,(x12.Arcs.length:Int)] rfl rfl rfl rfl) h16)) ?_)
 refine se ?_
 refine sd ?_
 refine WPU.ghost (tm':=fr 55 [(1,.ptr 0 0 0),(3,.vl 1 (t8+1) 0 ((l7++[x14.Typex,(x12.Arcs.length:Int)]).length)),(4,.int .i64 z6),(5,.isl false (List.map cGArc x12.Arcs)),(6,.int .i64 0)]) (Gh.sub ⟨rfl,rfl,rfl,rfl,rfl,trivial⟩) (Nat.zero_le _) ?_
 refine WPU.loopK (fun m tm σ=>∃ z25:Int,∃ l26:List Int,∃ t27:Nat,q3a z6 (q23 p1 n m1) x12 m z25 l26=some r∧tm=fr 55 [(1,.ptr 0 0 0),(3,.vl 1 t27 0 l26.length),(4,.int .i64 z6),(5,.isl false (List.map cGArc x12.Arcs)),(6,.int .i64 z25)]∧σ=⟨[(2,.row [.int .i64 x14.Typex,.int .i64 (x12.Arcs.length:Int)] 3),(1,.vec (List.map (cI .i64) l26).flatten 3 1 t27),(0,.row [.isl false (List.map cGNode p1.Nodes)] 25)],3⟩) (fun tm σ=>∃ l28:List Int,∃ t29:Nat,q4p z6 (q23 p1 n m1) l28=some r∧tm=fr 55 [(1,.ptr 0 0 0),(3,.vl 1 t29 0 l28.length),(4,.int .i64 z6)]∧σ=⟨[(2,.row [.int .i64 x14.Typex,.int .i64 (x12.Arcs.length:Int)] 3),(1,.vec (List.map (cI .i64) l28).flatten 3 1 t29),(0,.row [.isl false (List.map cGNode p1.Nodes)] 25)],3⟩) n ⟨0,(l7++[x14.Typex,(x12.Arcs.length:Int)]),(t8+1),hF,rfl,rfl⟩ ?_ ?_
 rintro _ _ ⟨l28,t29,hF,rfl,rfl⟩
 unfold q4p at hF
 refine sr ?_
 refine RS.q rfl (q04 rfl rfl (q2y _ _ _) rfl) ?_
 refine sd ?_
 exact ⟨m1,_,_,Nat.lt_succ_self _,⟨(IntKind.i64.wrap (z6+1)),l28,t29,hF,rfl,rfl⟩,(Nat.zero_le _),Gh.toC (n1:=2) ⟨rfl,rfl,rfl,trivial⟩ rfl (Nat.zero_le _) (by simp)⟩
 rintro m2 _ _ ⟨z25,l26,t27,hF,rfl,rfl⟩
 rcases m2 with _ | m2
 cases hF
 unfold q3a at hF
 refine sr ?_
 repeat refine RS.mv rfl rfl rfl rfl ?_
 refine RS.q rfl (q10 rfl rfl rfl (q0w cGArc und41)) (RS.q rfl (q04 rfl rfl (q1n _ _ _) rfl) ?_)
 refine sd ?_
 refine WPU.condS (t:=(decide (z25<(x12.Arcs.length:Int)))) rfl (fun h30=>?_) (fun h30=>?_)
 replace hF:=q0g h30 hF
 refine st ?_
 refine WPU.skip ?_
 refine st ?_
 refine WPU.block ?_
 refine st ?_
 obtain ⟨x31,h32,hF⟩:=q00 hF
 obtain ⟨x33,h34,hF⟩:=q00 hF
 obtain ⟨h35,hF⟩:=q1o hF
 refine WPU.drawE Try.tb_ok [(0,11)] (by kernel_rfl) ?_
 repeat refine RD.mv rfl rfl rfl rfl ?_
 refine RD.q (u:=.iptr (cGArc x31)) rfl (q1t rfl rfl (q2g cGArc und41 (q01 inf45) q0e h32 rfl)) (RD.q (u:=.iptr (cGArc x31)) rfl (q68 und45 rfl (q01 inf3) rfl rfl) (RD.q (u:=.int .i64 x31.Feat) rfl (q3h und3 rfl rfl rfl) ?_))
 repeat refine RD.mv rfl rfl rfl rfl ?_
 refine RD.q (u:=.iptr (cGArc x33)) rfl (q1t rfl rfl (q2g cGArc und41 (q01 inf45) q0e h34 rfl)) (RD.q (u:=.iptr [.int .i64 x33.To]) rfl (q68 und45 rfl (q01 inf3) rfl rfl) (RD.q (u:=.int .i64 x33.To) rfl (q3h und3 rfl rfl rfl) (RD.act (u:=.sl 3 0 2 2) (σ':=⟨[(3,.row [.int .i64 x31.Feat,.int .i64 x33.To] 3),(2,.row [.int .i64 x14.Typex,.int .i64 (x12.Arcs.length:Int)] 3),(1,.vec (List.map (cI .i64) l26).flatten 3 1 t27),(0,.row [.isl false (List.map cGNode p1.Nodes)] 25)],4⟩) rfl (q26 und55 inf3 rfl rfl rfl rfl rfl rfl rfl) rfl rfl (RD.act (u:=.vl 1 (t27+1) 0 ((l26++[x31.Feat,x33.To]).length)) (σ':=⟨[(3,.row [.int .i64 x31.Feat,.int .i64 x33.To] 3),(2,.row [.int .i64 x14.Typex,.int .i64 (x12.Arcs.length:Int)] 3),(1,.vec (List.map (cI .i64) (l26++[x31.Feat,x33.To])).flatten 3 1 (t27+1)),(0,.row [.isl false (List.map cGNode p1.Nodes)] 25)],4⟩) rfl (q7x rfl rfl rfl rfl (q8j (cI .i64) ([x31.Feat,x33.To]) und55 und55 inf3 rfl (q52 .i64) rfl (q7h (cI .i64) [x31.Feat,x33.To] rfl rfl rfl rfl) h35)) rfl rfl (RD.as rfl rfl rfl rfl ?_)))))
 refine RD.done ⟨by kernel_rfl,⟨q2b rfl,trivial⟩,?_⟩
 refine sr ?_
 refine RS.q rfl (q04 rfl rfl (q2y _ _ _) rfl) ?_
 refine sd ?_
 exact ⟨m2,_,_,Nat.lt_succ_self _,⟨(IntKind.i64.wrap (z25+1)),(l26++[x31.Feat,x33.To]),(t27+1),hF,rfl,rfl⟩,(Nat.zero_le _),Gh.toC (n1:=3) ⟨rfl,rfl,rfl,rfl,rfl,trivial⟩ rfl (Nat.zero_le _) (by simp)⟩
 replace hF:=q0f h30 hF
 refine st ?_
 refine WPU.exit ?_
 refine st ?_
 exact ⟨_,_,⟨l26,t27,hF,rfl,rfl⟩,(Nat.zero_le _),Gh.toC (n1:=3) ⟨rfl,rfl,rfl,trivial⟩ rfl (Nat.zero_le _) (by simp)⟩
 replace hF:=q0f h11 hF
 refine st ?_
 refine WPU.exit ?_
 refine st ?_
 exact ⟨_,_,⟨l7,t8,hF,rfl,rfl⟩,(Nat.zero_le _),Gh.toC (n1:=2) ⟨rfl,trivial⟩ rfl (Nat.zero_le _) (by simp)⟩
def q3u   : Option (Int) :=
 some 0
def q39 (r3:List Int) (r6:List Int):Nat→Int→Option (Int)
 | 0,_=>none
 | m1+1,z16 =>
  bindO (cond (decide (z16<(r3.length:Int)))
   (some (decide (z16<(r6.length:Int))))
   (some false)) fun b18 =>
  cond b18
   (bindO (idxO r3 z16) fun x21 =>
   bindO (idxO r6 z16) fun x23 =>
   cond (decide (x21<x23))
    (some (-1))
    (bindO (idxO r3 z16) fun x26 =>
    bindO (idxO r6 z16) fun x28 =>
    cond (decide (x26 > x28))
     (some 1)
     ((q39 r3 r6 m1) (IntKind.i64.wrap (z16+1)))))
   (q3u)
def q4c (n:Nat) (p1:GFS) (p2:GFS):Option (Int) :=
 bindO (q4g n p1) fun r3 =>
 bindO (q4g n p2) fun r6 =>
 q39 r3 r6 n 0
theorem qbu (n:Nat) (p1:GFS) (p2:GFS) (r:Int) (hF:q4c n p1 p2=some r):EvU Try.prog 25 [.agg [.isl false (List.map cGNode p1.Nodes)],.agg [.isl false (List.map cGNode p2.Nodes)]] ⟨[],0⟩ (fun u _=>u = .int .i64 r∧Bel 0 u):=by
 unfold q4c at hF
 refine EvU.of_body Try.tb_ok fn25 rfl ?_
 refine WPU.ghost (tm':=fr 42 [(0,.agg [.isl false (List.map cGNode p1.Nodes)]),(1,.agg [.isl false (List.map cGNode p2.Nodes)])]) (Gh.start (Nat.le_of_ble_eq_true rfl)) (Nat.zero_le _) ?_
 refine sr ?_
 refine RS.q (u:=.ptr 0 0 0) (σ':=⟨[(0,.row [.isl false (List.map cGNode p1.Nodes)] 25)],1⟩) rfl (q2z rfl rfl rfl) (RS.q (u:=.ptr 1 0 0) (σ':=⟨[(1,.row [.isl false (List.map cGNode p2.Nodes)] 25),(0,.row [.isl false (List.map cGNode p1.Nodes)] 25)],2⟩) rfl (q2z rfl rfl rfl) ?_)
 refine sd ?_
 obtain ⟨r3,h4,hF⟩:=q00 hF
 refine sr ?_
 refine RS.q (u:=.agg [.isl false (List.map cGNode p1.Nodes)]) rfl (q0q und25 rfl (q01 inf25) rfl rfl rfl) ?_
 refine RS.callx (R:=fun u σ'=>∃ t5,u = .vl 3 t5 0 r3.length∧σ'=⟨[(3,.vec (List.map (cI .i64) r3).flatten 3 1 t5),(1,.row [.isl false (List.map cGNode p2.Nodes)] 25),(0,.row [.isl false (List.map cGNode p1.Nodes)] 25)],4⟩) (args:=[.agg [.isl false (List.map cGNode p1.Nodes)]]) rfl (q02 rfl rfl fn39 hb39 rfl rfl) (EvU.own1 (cI .i64) (q81 n p1 r3 h4) _ 3 rfl) rfl rfl ?_
 rintro _ _ ⟨t5,rfl,rfl⟩
 refine sd ?_
 obtain ⟨r6,h7,hF⟩:=q00 hF
 refine sr ?_
 refine RS.q (u:=.agg [.isl false (List.map cGNode p2.Nodes)]) rfl (q0q und25 rfl (q01 inf25) rfl rfl rfl) ?_
 refine RS.callx (R:=fun u σ'=>∃ t8,u = .vl 5 t8 0 r6.length∧σ'=⟨[(5,.vec (List.map (cI .i64) r6).flatten 3 1 t8),(3,.vec (List.map (cI .i64) r3).flatten 3 1 t5),(1,.row [.isl false (List.map cGNode p2.Nodes)] 25),(0,.row [.isl false (List.map cGNode p1.Nodes)] 25)],6⟩) (args:=[.agg [.isl false (List.map cGNode p2.Nodes)]]) rfl (q02 rfl rfl fn39 hb39 rfl rfl) (EvU.own1 (cI .i64) (q81 n p2 r6 h7) _ 5 rfl) rfl rfl ?_
 rintro _ _ ⟨t8,rfl,rfl⟩
 refine se ?_
 refine sd ?_
 refine WPU.ghost (tm':=fr 42 [(5,.vl 3 t5 0 r3.length),(6,.vl 5 t8 0 r6.length),(7,.int .i64 0)]) (Gh.sub ⟨rfl,rfl,rfl,trivial⟩) (Nat.zero_le _) ?_
 refine WPU.loopK (fun m tm σ=>∃ z16:Int,q39 r3 r6 m z16=some r∧tm=fr 42 [(5,.vl 3 t5 0 r3.length),(6,.vl 5 t8 0 r6.length),(7,.int .i64 z16)]∧σ=⟨[(5,.vec (List.map (cI .i64) r6).flatten 3 1 t8),(3,.vec (List.map (cI .i64) r3).flatten 3 1 t5),(1,.row [.isl false (List.map cGNode p2.Nodes)] 25),(0,.row [.isl false (List.map cGNode p1.Nodes)] 25)],6⟩) (fun tm σ=>q3u=some r∧tm=fr 42 []∧σ=⟨[(5,.vec (List.map (cI .i64) r6).flatten 3 1 t8),(3,.vec (List.map (cI .i64) r3).flatten 3 1 t5),(1,.row [.isl false (List.map cGNode p2.Nodes)] 25),(0,.row [.isl false (List.map cGNode p1.Nodes)] 25)],6⟩) n ⟨0,hF,rfl,rfl⟩ ?_ ?_
 rintro _ _ ⟨hF,rfl,rfl⟩
 unfold q3u at hF
 refine sr ?_
 refine sd ?_
 refine WPU.ret ?_
 refine st ?_
 have hr:=Option.some.inj hF
 subst hr
 exact ⟨.inr rfl,[.int .i64 0],q1y rfl (q1e),.int .i64 0,⟨[],0⟩,Nat.le_refl _,Gh.toR (.int .i64 0) rfl,rfl,BU.h⟩
 rintro m1 _ _ ⟨z16,hF,rfl,rfl⟩
 rcases m1 with _ | m1
 cases hF
 unfold q39 at hF
 refine st ?_
 obtain ⟨b18,h19,hF⟩:=q00 hF
 refine WPU.joinK (fun tm σ=>tm=fr 42 [(5,.vl 3 t5 0 r3.length),(6,.vl 5 t8 0 r6.length),(7,.int .i64 z16),(21,.bool b18)]∧σ=⟨[(5,.vec (List.map (cI .i64) r6).flatten 3 1 t8),(3,.vec (List.map (cI .i64) r3).flatten 3 1 t5),(1,.row [.isl false (List.map cGNode p2.Nodes)] 25),(0,.row [.isl false (List.map cGNode p1.Nodes)] 25)],6⟩) ?_ ?_
 rintro _ _ ⟨rfl,rfl⟩
 refine st ?_
 refine WPU.condS (t:=b18) rfl (fun h20=>?_) (fun h20=>?_)
 replace hF:=q0g h20 hF
 refine st ?_
 refine WPU.skip ?_
 refine st ?_
 refine WPU.block ?_
 refine st ?_
 obtain ⟨x21,h22,hF⟩:=q00 hF
 obtain ⟨x23,h24,hF⟩:=q00 hF
 refine WPU.drawE Try.tb_ok [] (by kernel_rfl) ?_
 repeat refine RD.mv rfl rfl rfl rfl ?_
 refine RD.q (u:=.ptr 3 t5 (0*1+z16.toNat*1)) rfl (q1t rfl rfl (q7o (cI .i64) und55 (q01 inf3) (by decide) (q52 .i64) (vo rfl) h22)) ?_
 refine RD.q (u:=.int .i64 x21) rfl (q79 (cI .i64) (fun x=>.int .i64 x) und3 rfl (fun _=>rfl) rfl rfl h22) ?_
 repeat refine RD.mv rfl rfl rfl rfl ?_
 refine RD.q (u:=.ptr 5 t8 (0*1+z16.toNat*1)) rfl (q1t rfl rfl (q7o (cI .i64) und55 (q01 inf3) (by decide) (q52 .i64) (vo rfl) h24)) ?_
 refine RD.q (u:=.int .i64 x23) rfl (q79 (cI .i64) (fun x=>.int .i64 x) und3 rfl (fun _=>rfl) rfl rfl h24) (RD.q rfl (q04 rfl rfl (q1n _ _ _) rfl) ?_)
 refine RD.done ⟨by kernel_rfl,trivial,?_⟩
 refine st ?_
 refine WPU.condS (t:=(decide (x21<x23))) rfl (fun h25=>?_) (fun h25=>?_)
 replace hF:=q0g h25 hF
 refine sr ?_
 refine sd ?_
 refine WPU.ret ?_
 refine st ?_
 have hr:=Option.some.inj hF
 subst hr
 exact ⟨.inr rfl,[.int .i64 (-1)],q1y rfl (q1e),.int .i64 (-1),⟨[],0⟩,Nat.le_refl _,Gh.toR (.int .i64 (-1)) rfl,rfl,BU.h⟩
 replace hF:=q0f h25 hF
 refine st ?_
 refine WPU.skip ?_
 refine st ?_
 obtain ⟨x26,h27,hF⟩:=q00 hF
 obtain ⟨x28,h29,hF⟩:=q00 hF
 refine WPU.drawE Try.tb_ok [] (by kernel_rfl) ?_
 repeat refine RD.mv rfl rfl rfl rfl ?_
 refine RD.q (u:=.ptr 3 t5 (0*1+z16.toNat*1)) rfl (q1t rfl rfl (q7o (cI .i64) und55 (q01 inf3) (by decide) (q52 .i64) (vo rfl) h27)) ?_
 refine RD.q (u:=.int .i64 x26) rfl (q79 (cI .i64) (fun x=>.int .i64 x) und3 rfl (fun _=>rfl) rfl rfl h27) ?_
 repeat refine RD.mv rfl rfl rfl rfl ?_
 refine RD.q (u:=.ptr 5 t8 (0*1+z16.toNat*1)) rfl (q1t rfl rfl (q7o (cI .i64) und55 (q01 inf3) (by decide) (q52 .i64) (vo rfl) h29)) ?_
 refine RD.q (u:=.int .i64 x28) rfl (q79 (cI .i64) (fun x=>.int .i64 x) und3 rfl (fun _=>rfl) rfl rfl h29) (RD.q rfl (q04 rfl rfl (q9c _ _ _) rfl) ?_)
 refine RD.done ⟨by kernel_rfl,trivial,?_⟩
 refine st ?_
 refine WPU.condS (t:=(decide (x26 > x28))) rfl (fun h30=>?_) (fun h30=>?_)
 replace hF:=q0g h30 hF
 refine sr ?_
 refine sd ?_
 refine WPU.ret ?_
 refine st ?_
 have hr:=Option.some.inj hF
 subst hr
 exact ⟨.inr rfl,[.int .i64 1],q1y rfl (q1e),.int .i64 1,⟨[],0⟩,Nat.le_refl _,Gh.toR (.int .i64 1) rfl,rfl,BU.h⟩
 replace hF:=q0f h30 hF
 refine st ?_
 refine WPU.skip ?_
 refine sr ?_
 refine RS.q rfl (q04 rfl rfl (q2y _ _ _) rfl) ?_
 refine sd ?_
 exact ⟨m1,_,_,Nat.lt_succ_self _,⟨(IntKind.i64.wrap (z16+1)),hF,rfl,rfl⟩,(Nat.zero_le _),Gh.toC (n1:=6) ⟨rfl,rfl,rfl,trivial⟩ rfl (Nat.zero_le _) (by simp)⟩
 replace hF:=q0f h20 hF
 refine st ?_
 refine WPU.exit ?_
 refine st ?_
 exact ⟨_,_,⟨hF,rfl,rfl⟩,(Nat.zero_le _),Gh.toC (n1:=6) trivial rfl (Nat.zero_le _) (by simp)⟩
 rcases q3f (decide (z16<(r3.length:Int))) with h17 | h17
 replace h19:=q0g h17 h19
 replace h19:=Option.some.inj h19
 subst h19
 refine sr ?_
 repeat refine RS.mv rfl rfl rfl rfl ?_
 refine RS.q rfl (q10 rfl rfl rfl (q6z und55 rfl)) (RS.q rfl (q04 rfl rfl (q1n _ _ _) rfl) (RS.mv rfl rfl rfl rfl (RS.op (want1 rfl rfl rfl h17) (q2b rfl) rfl rfl (RS.op (want1 rfl rfl rfl h17) (q2b rfl) rfl rfl (RS.op (want1 rfl rfl rfl h17) (q10 rfl rfl rfl (q6z und55 rfl)) rfl rfl (RS.op (want1 rfl rfl rfl h17) (q04 rfl rfl (q1n _ _ _) rfl) rfl rfl (RS.q (u:=.bool (decide (z16<(r6.length:Int)))) rfl (q0r rfl h17 rfl) ?_)))))))
 refine sd ?_
 exact ⟨_,_,⟨rfl,rfl⟩,(Nat.zero_le _),Gh.toC (n1:=6) ⟨rfl,rfl,rfl,rfl,trivial⟩ rfl (Nat.zero_le _) (by simp)⟩
 replace h19:=q0f h17 h19
 replace h19:=Option.some.inj h19
 subst h19
 refine sr ?_
 repeat refine RS.mv rfl rfl rfl rfl ?_
 refine RS.q rfl (q10 rfl rfl rfl (q6z und55 rfl)) (RS.q rfl (q04 rfl rfl (q1n _ _ _) rfl) (RS.mv rfl rfl rfl rfl ?_))
 repeat refine RS.no (want0 rfl rfl rfl h17) rfl rfl ?_
 refine RS.q (u:=.bool false) rfl (q0p rfl h17 rfl) ?_
 refine sd ?_
 exact ⟨_,_,⟨rfl,rfl⟩,(Nat.zero_le _),Gh.toC (n1:=6) ⟨rfl,rfl,rfl,rfl,trivial⟩ rfl (Nat.zero_le _) (by simp)⟩
theorem qao (n:Nat) (p1:GFS) (p2:GFS) (r:Int) (hF:q4c n p1 p2=some r) (σ:Sg):EvU Try.prog 25 [.agg [.isl false (List.map cGNode p1.Nodes)],.agg [.isl false (List.map cGNode p2.Nodes)]] σ (fun u σ'=>u = .int .i64 r∧σ'=σ) :=
 EvU.pure1C (qbu n p1 p2 r hF) σ
def q75 (n:Nat) (p1:GFS) (p2:GFS):Option (Bool) :=
 bindO (q4x n p1 p2) fun r3 =>
 some (r3 == 0)
theorem graph_Equal_0 (n:Nat) (p1:GFS) (p2:GFS) (r:Bool) (hF:q75 n p1 p2=some r):EvU Try.prog 26 [.agg [.isl false (List.map cGNode p1.Nodes)],.agg [.isl false (List.map cGNode p2.Nodes)]] ⟨[],0⟩ (fun u _=>u = .bool r∧Bel 0 u):=by
 unfold q75 at hF
 refine EvU.of_body Try.tb_ok fn26 rfl ?_
 refine WPU.ghost (tm':=fr 9 [(0,.agg [.isl false (List.map cGNode p1.Nodes)]),(1,.agg [.isl false (List.map cGNode p2.Nodes)])]) (Gh.start (Nat.le_of_ble_eq_true rfl)) (Nat.zero_le _) ?_
 refine sr ?_
 refine RS.q (u:=.ptr 0 0 0) (σ':=⟨[(0,.row [.isl false (List.map cGNode p1.Nodes)] 25)],1⟩) rfl (q2z rfl rfl rfl) (RS.q (u:=.ptr 1 0 0) (σ':=⟨[(1,.row [.isl false (List.map cGNode p2.Nodes)] 25),(0,.row [.isl false (List.map cGNode p1.Nodes)] 25)],2⟩) rfl (q2z rfl rfl rfl) ?_)
 refine sd ?_
 obtain ⟨r3,h4,hF⟩:=q00 hF
 refine sr ?_
 refine RS.q (u:=.agg [.isl false (List.map cGNode p1.Nodes)]) rfl (q0q und25 rfl (q01 inf25) rfl rfl rfl) (RS.q (u:=.agg [.isl false (List.map cGNode p2.Nodes)]) rfl (q0q und25 rfl (q01 inf25) rfl rfl rfl) (RS.call (u:=.int .i64 r3) (args:=[.agg [.isl false (List.map cGNode p1.Nodes)],.agg [.isl false (List.map cGNode p2.Nodes)]]) rfl (q02 rfl rfl fn24 hb24 rfl rfl) (q7l n p1 p2 r3 h4 _) rfl rfl (RS.q rfl (q04 rfl rfl (q6i _ _ _) rfl) ?_)))
 refine sd ?_
 refine WPU.ret ?_
 refine st ?_
 have hr:=Option.some.inj hF
 subst hr
 exact ⟨.inr rfl,[.bool (r3 == 0)],q1y rfl (q1e),.bool (r3 == 0),⟨[],0⟩,Nat.le_refl _,Gh.toR (.bool (r3 == 0)) rfl,rfl,BU.h⟩
theorem q8m (n:Nat) (p1:GFS) (p2:GFS) (r:Bool) (hF:q75 n p1 p2=some r) (σ:Sg):EvU Try.prog 26 [.agg [.isl false (List.map cGNode p1.Nodes)],.agg [.isl false (List.map cGNode p2.Nodes)]] σ (fun u σ'=>u = .bool r∧σ'=σ) :=
 EvU.pure1C (graph_Equal_0 n p1 p2 r hF) σ
def q6w (n:Nat) (p1:Int):Option (GFS) :=
 some (GFS.mk ([(GNode.mk p1 [])]))
theorem graph_Atom_0 (n:Nat) (p1:Int) (r:GFS) (hF:q6w n p1=some r):EvU Try.prog 12 [.int .i64 p1] ⟨[],0⟩ (fun u _=>u = .agg [.isl false (List.map cGNode r.Nodes)]∧Bel 0 u):=by
 unfold q6w at hF
 refine EvU.of_body Try.tb_ok fn12 rfl ?_
 refine WPU.ghost (tm':=fr 7 [(0,.int .i64 p1)]) (Gh.start (Nat.le_of_ble_eq_true rfl)) (Nat.zero_le _) ?_
 refine sr ?_
 refine RS.q (u:=.ptr 0 0 0) (σ':=⟨[(0,.row [.nils] 25)],1⟩) rfl (q15 inf25 rfl rfl) ?_
 refine se ?_
 refine RS.q (u:=.agg [.int .i64 p1,.nils]) rfl (q6q bd43 rfl rfl rfl) (RS.q (u:=.sl 1 0 1 1) (σ':=⟨[(1,.row [.int .i64 p1,.nils] 43),(0,.row [.nils] 25)],2⟩) rfl (q26 und23 inf43 rfl rfl rfl rfl rfl rfl rfl) (RS.q (u:=.agg [.sl 1 0 1 1]) rfl (q6q bd25 rfl rfl rfl) (RS.opn (u:=.junk) (σ':=⟨[(1,.row [.int .i64 p1,.nils] 43),(0,.row [.sl 1 0 1 1] 25)],2⟩) rfl (q0s (q01 inf25) rfl rfl rfl rfl rfl rfl rfl rfl) rfl ?_)))
 refine sd ?_
 refine WPU.ret ?_
 refine st ?_
 have hr:=Option.some.inj hF
 subst hr
 exact ⟨.inr rfl,[.agg [.sl 1 0 1 1]],qa9 (q0q und25 rfl (q01 inf25) rfl rfl rfl) (q1e),.agg [.isl false (List.map cGNode ([(GNode.mk p1 [])]))],⟨[],0⟩,Nat.le_refl _,Gh.trans (Gh.trans (Gh.rowW (K:=1) (q':=[.int .i64 p1,.isl false []]) rfl rfl (.cons (.refl _) (.cons (.nil false) .nil))) (Gh.fz (tm':=[.agg [.isl false (List.map cGNode ([(GNode.mk p1 [])]))]]) (h':=[(0,.row [.isl false (List.map cGNode ([(GNode.mk p1 [])]))] 25)]) 1 (.row [.int .i64 p1,.isl false []] 43) 2 rfl (by simp) (by simp only [oneU,q07,q03,q0k,q09,q0n,q0d,q0c,q0b,q0a,q08,q0l,q0m,q0j,q0o,q1j,junkT,q20,q22,Nat.reduceLeDiff,Nat.reduceMul,List.length_cons,List.length_nil,Nat.reduceAdd]<;>simp only [chunks,List.take,List.drop,List.map,cGNode]) (by simp only [fzH,fzB,ug,Nat.beq,cond_true,cond_false,oneU,q07,q03,q0k,q09,q0n,q0d,q0c,q0b,q0a,q08,q0l,q0m,q0j,q0o,q1j,junkT,q20,q22,Nat.reduceLeDiff,Nat.reduceMul,List.length_cons,List.length_nil,Nat.reduceAdd]<;>simp only [chunks,List.take,List.drop,List.map,cGNode]))) (Gh.toR (.agg [.isl false (List.map cGNode ([(GNode.mk p1 [])]))]) rfl),rfl,BU.h⟩
theorem q66 (n:Nat) (p1:Int) (r:GFS) (hF:q6w n p1=some r) (σ:Sg):EvU Try.prog 12 [.int .i64 p1] σ (fun u σ'=>u = .agg [.isl false (List.map cGNode r.Nodes)]∧σ'=σ) :=
 EvU.pure1C (graph_Atom_0 n p1 r hF) σ
def q50  (w13:MapL Int Bool):Option (Int) :=
 some 0
def q40 (p1:GNode) (p2:Int):Nat→Int→(MapL Int Bool)→Option (Int)
 | 0,_,_=>none
 | m1+1,z11,w12 =>
  cond (decide (z11<(p1.Arcs.length:Int)))
   (bindO (idxO p1.Arcs z11) fun x15 =>
   bindO (cond (decide (x15.Feat<0))
    (some true)
    (cond (decide (x15.To<0))
     (some true)
     (some (decide (x15.To ≥ p2))))) fun b19 =>
   cond b19
    (some 2)
    (cond ((mGet (fun a b=>a == b) w12 x15.Feat).getD false)
     (some 4)
     ((q40 p1 p2 m1) (IntKind.i64.wrap (z11+1)) (mUpd (fun a b=>a == b) w12 x15.Feat true))))
   (q50 w12)
def q4z (n:Nat) (p1:GNode) (p2:Int):Option (Int) :=
 cond (decide (p1.Typex<0))
  (some 2)
  (q40 p1 p2 n 0 (mNew:MapL Int Bool))
theorem qa0 (n:Nat) (p1:GNode) (p2:Int) (r:Int) (hF:q4z n p1 p2=some r):EvU Try.prog 30 [.agg (cGNode p1),.int .i64 p2] ⟨[],0⟩ (fun u _=>u = .int .i64 r∧Bel 0 u):=by
 unfold q4z at hF
 refine EvU.of_body Try.tb_ok fn30 rfl ?_
 refine WPU.ghost (tm':=fr 41 [(0,.agg (cGNode p1)),(1,.int .i64 p2)]) (Gh.start (Nat.le_of_ble_eq_true rfl)) (Nat.zero_le _) ?_
 refine sr ?_
 refine RS.q (u:=.ptr 0 0 0) (σ':=⟨[(0,.row (cGNode p1) 43)],1⟩) rfl (q2z rfl rfl rfl) ?_
 refine se ?_
 refine RS.q (u:=.ptr 0 0 0) rfl (q0u und43 rfl (q01 inf3) rfl rfl rfl) (RS.q (u:=.int .i64 p1.Typex) rfl (q06 und3 rfl rfl rfl rfl) (RS.q rfl (q04 rfl rfl (q1n _ _ _) rfl) ?_))
 refine sd ?_
 refine WPU.condS (t:=(decide (p1.Typex<0))) rfl (fun h3=>?_) (fun h3=>?_)
 replace hF:=q0g h3 hF
 refine sr ?_
 refine sd ?_
 refine WPU.ret ?_
 refine st ?_
 have hr:=Option.some.inj hF
 subst hr
 exact ⟨.inr rfl,[.int .i64 2],q1y rfl (q1e),.int .i64 2,⟨[],0⟩,Nat.le_refl _,Gh.toR (.int .i64 2) rfl,rfl,BU.h⟩
 replace hF:=q0f h3 hF
 refine st ?_
 refine WPU.skip ?_
 refine sr ?_
 refine RS.q (u:=.map 1) (σ':=⟨[(1,.map (List.map (mE (fun x=>.int .i64 x) (fun x=>.bool x)) (mNew:MapL Int Bool).es) (mNew:MapL Int Bool).cl),(0,.row (cGNode p1) 43)],2⟩) rfl (op_mnew) ?_
 refine se ?_
 refine RS.q (u:=.ptr 0 0 1) rfl (q0u und43 rfl (q01 inf41) rfl rfl rfl) (RS.q (u:=.isl false (List.map cGArc p1.Arcs)) rfl (q06 und41 rfl rfl rfl rfl) (RS.q rfl (q10 rfl rfl rfl (q0w cGArc und41)) (RS.mv rfl rfl rfl rfl ?_)))
 refine sd ?_
 refine WPU.ghost (tm':=fr 41 [(1,.int .i64 p2),(5,.map 1),(13,.isl false (List.map cGArc p1.Arcs)),(14,.int .i64 (p1.Arcs.length:Int)),(15,.int .i64 0)]) (Gh.sub ⟨rfl,rfl,rfl,rfl,rfl,trivial⟩) (Nat.zero_le _) ?_
 refine WPU.loopK (fun m tm σ=>∃ z11:Int,∃ w12:MapL Int Bool,q40 p1 p2 m z11 w12=some r∧tm=fr 41 [(1,.int .i64 p2),(5,.map 1),(13,.isl false (List.map cGArc p1.Arcs)),(14,.int .i64 (p1.Arcs.length:Int)),(15,.int .i64 z11)]∧σ=⟨[(1,.map (List.map (mE (fun x=>.int .i64 x) (fun x=>.bool x)) w12.es) w12.cl),(0,.row (cGNode p1) 43)],2⟩) (fun tm σ=>∃ w13:MapL Int Bool,q50 w13=some r∧tm=fr 41 []∧σ=⟨[(1,.map (List.map (mE (fun x=>.int .i64 x) (fun x=>.bool x)) w13.es) w13.cl),(0,.row (cGNode p1) 43)],2⟩) n ⟨0,(mNew:MapL Int Bool),hF,rfl,rfl⟩ ?_ ?_
 rintro _ _ ⟨w13,hF,rfl,rfl⟩
 unfold q50 at hF
 refine sr ?_
 refine sd ?_
 refine WPU.ret ?_
 refine st ?_
 have hr:=Option.some.inj hF
 subst hr
 exact ⟨.inr rfl,[.int .i64 0],q1y rfl (q1e),.int .i64 0,⟨[],0⟩,Nat.le_refl _,Gh.toR (.int .i64 0) rfl,rfl,BU.h⟩
 rintro m1 _ _ ⟨z11,w12,hF,rfl,rfl⟩
 rcases m1 with _ | m1
 cases hF
 unfold q40 at hF
 refine sr ?_
 refine RS.q rfl (q04 rfl rfl (q1n _ _ _) rfl) ?_
 refine sd ?_
 refine WPU.condS (t:=(decide (z11<(p1.Arcs.length:Int)))) rfl (fun h14=>?_) (fun h14=>?_)
 replace hF:=q0g h14 hF
 refine st ?_
 refine WPU.skip ?_
 refine st ?_
 refine WPU.block ?_
 refine st ?_
 obtain ⟨x15,h16,hF⟩:=q00 hF
 refine sr ?_
 refine RS.q (u:=.iptr (cGArc x15)) rfl (q1t rfl rfl (q2g cGArc und41 (q01 inf45) q0e h16 rfl)) (RS.q (u:=.agg (cGArc x15)) rfl (q7s und45 rfl (q01 inf45) rfl rfl) (RS.q (u:=.ptr 2 0 0) (σ':=⟨[(2,.row [.int .i64 0,.int .i64 0] 45),(1,.map (List.map (mE (fun x=>.int .i64 x) (fun x=>.bool x)) w12.es) w12.cl),(0,.row (cGNode p1) 43)],3⟩) rfl (q15 inf45 rfl rfl) (RS.opn (u:=.junk) (σ':=⟨[(2,.row (cGArc x15) 45),(1,.map (List.map (mE (fun x=>.int .i64 x) (fun x=>.bool x)) w12.es) w12.cl),(0,.row (cGNode p1) 43)],3⟩) rfl (q0s (q01 inf45) rfl rfl rfl rfl rfl rfl rfl rfl) rfl ?_)))
 refine sd ?_
 obtain ⟨b19,h20,hF⟩:=q00 hF
 refine WPU.joinK (fun tm σ=>tm=fr 41 [(1,.int .i64 p2),(5,.map 1),(7,.ptr 2 0 0),(13,.isl false (List.map cGArc p1.Arcs)),(14,.int .i64 (p1.Arcs.length:Int)),(15,.int .i64 z11),(32,.bool b19)]∧σ=⟨[(2,.row (cGArc x15) 45),(1,.map (List.map (mE (fun x=>.int .i64 x) (fun x=>.bool x)) w12.es) w12.cl),(0,.row (cGNode p1) 43)],3⟩) ?_ ?_
 rintro _ _ ⟨rfl,rfl⟩
 refine st ?_
 refine WPU.condS (t:=b19) rfl (fun h21=>?_) (fun h21=>?_)
 replace hF:=q0g h21 hF
 refine sr ?_
 refine sd ?_
 refine WPU.ret ?_
 refine st ?_
 have hr:=Option.some.inj hF
 subst hr
 exact ⟨.inr rfl,[.int .i64 2],q1y rfl (q1e),.int .i64 2,⟨[],0⟩,Nat.le_refl _,Gh.toR (.int .i64 2) rfl,rfl,BU.h⟩
 replace hF:=q0f h21 hF
 refine st ?_
 refine WPU.skip ?_
 refine sr ?_
 refine RS.q (u:=.ptr 2 0 0) rfl (q0u und45 rfl (q01 inf3) rfl rfl rfl) (RS.q (u:=.int .i64 x15.Feat) rfl (q06 und3 rfl rfl rfl rfl) (RS.q (u:=.bool ((mGet (fun a b=>a == b) w12 x15.Feat).getD false)) rfl (op_look (kU:=(fun x=>.int .i64 x)) (vU:=(fun x=>.bool x)) (m:=w12) (k:=x15.Feat) (zv:=false) (qbk und3) und60 rfl rfl rfl inf4 rfl) ?_))
 refine sd ?_
 refine WPU.condS (t:=((mGet (fun a b=>a == b) w12 x15.Feat).getD false)) rfl (fun h22=>?_) (fun h22=>?_)
 replace hF:=q0g h22 hF
 refine sr ?_
 refine sd ?_
 refine WPU.ret ?_
 refine st ?_
 have hr:=Option.some.inj hF
 subst hr
 exact ⟨.inr rfl,[.int .i64 4],q1y rfl (q1e),.int .i64 4,⟨[],0⟩,Nat.le_refl _,Gh.toR (.int .i64 4) rfl,rfl,BU.h⟩
 replace hF:=q0f h22 hF
 refine st ?_
 refine WPU.skip ?_
 refine sr ?_
 refine RS.q (u:=.ptr 2 0 0) rfl (q0u und45 rfl (q01 inf3) rfl rfl rfl) (RS.q (u:=.int .i64 x15.Feat) rfl (q06 und3 rfl rfl rfl rfl) (RS.opn (u:=.junk) (σ':=⟨[(2,.row (cGArc x15) 45),(1,.map (List.map (mE (fun x=>.int .i64 x) (fun x=>.bool x)) (mUpd (fun a b=>a == b) w12 x15.Feat true).es) (mUpd (fun a b=>a == b) w12 x15.Feat true).cl),(0,.row (cGNode p1) 43)],3⟩) rfl (op_mup (kU:=(fun x=>.int .i64 x)) (vU:=(fun x=>.bool x)) (m:=w12) (k:=x15.Feat) (v:=true) (qbk und3) und60 rfl rfl rfl rfl rfl) rfl ?_))
 refine se ?_
 refine RS.q rfl (q04 rfl rfl (q2y _ _ _) rfl) (RS.mv rfl rfl rfl rfl ?_)
 refine sd ?_
 exact ⟨m1,_,_,Nat.lt_succ_self _,⟨(IntKind.i64.wrap (z11+1)),(mUpd (fun a b=>a == b) w12 x15.Feat true),hF,rfl,rfl⟩,(Nat.zero_le _),Gh.toC (n1:=2) ⟨rfl,rfl,rfl,rfl,rfl,trivial⟩ rfl (Nat.zero_le _) (by simp)⟩
 rcases q3f (decide (x15.Feat<0)) with h17 | h17
 replace h20:=q0g h17 h20
 replace h20:=Option.some.inj h20
 subst h20
 refine sr ?_
 refine RS.q (u:=.ptr 2 0 0) rfl (q0u und45 rfl (q01 inf3) rfl rfl rfl) (RS.q (u:=.int .i64 x15.Feat) rfl (q06 und3 rfl rfl rfl rfl) (RS.q rfl (q04 rfl rfl (q1n _ _ _) rfl) (RS.mv rfl rfl rfl rfl ?_)))
 repeat refine RS.no (want0 rfl rfl rfl h17) rfl rfl ?_
 refine RS.q (u:=.bool true) rfl (q0r rfl h17 rfl) (RS.mv rfl rfl rfl rfl ?_)
 repeat refine RS.no (want0 rfl rfl rfl rfl) rfl rfl ?_
 refine RS.q (u:=.bool true) rfl (q0r rfl rfl rfl) ?_
 refine sd ?_
 exact ⟨_,_,⟨rfl,rfl⟩,(Nat.zero_le _),Gh.toC (n1:=3) ⟨rfl,rfl,rfl,rfl,rfl,rfl,rfl,trivial⟩ rfl (Nat.zero_le _) (by simp)⟩
 replace h20:=q0f h17 h20
 rcases q3f (decide (x15.To<0)) with h18 | h18
 replace h20:=q0g h18 h20
 replace h20:=Option.some.inj h20
 subst h20
 refine sr ?_
 refine RS.q (u:=.ptr 2 0 0) rfl (q0u und45 rfl (q01 inf3) rfl rfl rfl) (RS.q (u:=.int .i64 x15.Feat) rfl (q06 und3 rfl rfl rfl rfl) (RS.q rfl (q04 rfl rfl (q1n _ _ _) rfl) (RS.mv rfl rfl rfl rfl (RS.op (u:=.ptr 2 0 1) (want1 rfl rfl rfl h17) (q0u und45 rfl (q01 inf3) rfl rfl rfl) rfl rfl (RS.op (u:=.int .i64 x15.To) (want1 rfl rfl rfl h17) (q06 und3 rfl rfl rfl rfl) rfl rfl (RS.op (want1 rfl rfl rfl h17) (q04 rfl rfl (q1n _ _ _) rfl) rfl rfl (RS.q (u:=.bool (decide (x15.To<0))) rfl (q0p rfl h17 rfl) ?_)))))))
 refine RS.mv rfl rfl rfl rfl ?_
 repeat refine RS.no (want0 rfl rfl rfl h18) rfl rfl ?_
 refine RS.q (u:=.bool true) rfl (q0r rfl h18 rfl) ?_
 refine sd ?_
 exact ⟨_,_,⟨rfl,rfl⟩,(Nat.zero_le _),Gh.toC (n1:=3) ⟨rfl,rfl,rfl,rfl,rfl,rfl,rfl,trivial⟩ rfl (Nat.zero_le _) (by simp)⟩
 replace h20:=q0f h18 h20
 replace h20:=Option.some.inj h20
 subst h20
 refine sr ?_
 refine RS.q (u:=.ptr 2 0 0) rfl (q0u und45 rfl (q01 inf3) rfl rfl rfl) (RS.q (u:=.int .i64 x15.Feat) rfl (q06 und3 rfl rfl rfl rfl) (RS.q rfl (q04 rfl rfl (q1n _ _ _) rfl) (RS.mv rfl rfl rfl rfl (RS.op (u:=.ptr 2 0 1) (want1 rfl rfl rfl h17) (q0u und45 rfl (q01 inf3) rfl rfl rfl) rfl rfl (RS.op (u:=.int .i64 x15.To) (want1 rfl rfl rfl h17) (q06 und3 rfl rfl rfl rfl) rfl rfl (RS.op (want1 rfl rfl rfl h17) (q04 rfl rfl (q1n _ _ _) rfl) rfl rfl (RS.q (u:=.bool (decide (x15.To<0))) rfl (q0p rfl h17 rfl) ?_)))))))
 refine RS.mv rfl rfl rfl rfl (RS.op (u:=.ptr 2 0 1) (want1 rfl rfl rfl h18) (q0u und45 rfl (q01 inf3) rfl rfl rfl) rfl rfl (RS.op (u:=.int .i64 x15.To) (want1 rfl rfl rfl h18) (q06 und3 rfl rfl rfl rfl) rfl rfl (RS.op (want1 rfl rfl rfl h18) (q2b rfl) rfl rfl (RS.op (want1 rfl rfl rfl h18) (q04 rfl rfl (ix_geq _ _ _) rfl) rfl rfl (RS.q (u:=.bool (decide (x15.To ≥ p2))) rfl (q0p rfl h18 rfl) ?_)))))
 refine sd ?_
 exact ⟨_,_,⟨rfl,rfl⟩,(Nat.zero_le _),Gh.toC (n1:=3) ⟨rfl,rfl,rfl,rfl,rfl,rfl,rfl,trivial⟩ rfl (Nat.zero_le _) (by simp)⟩
 replace hF:=q0f h14 hF
 refine st ?_
 refine WPU.exit ?_
 refine st ?_
 exact ⟨_,_,⟨w12,hF,rfl,rfl⟩,(Nat.zero_le _),Gh.toC (n1:=2) trivial rfl (Nat.zero_le _) (by simp)⟩
theorem q98 (n:Nat) (p1:GNode) (p2:Int) (r:Int) (hF:q4z n p1 p2=some r) (σ:Sg):EvU Try.prog 30 [.agg (cGNode p1),.int .i64 p2] σ (fun u σ'=>u = .int .i64 r∧σ'=σ) :=
 EvU.pure1C (qa0 n p1 p2 r hF) σ
def q6r (p1:GFS) (n:Nat)  : Option (GFS×Int) :=
 bindO (q2x n p1 0) fun r9 =>
 some (r9,0)
def q5m (p1:GFS) (n:Nat):Nat→Int→Option (GFS×Int)
 | 0,_=>none
 | m1+1,z8 =>
  cond (decide (z8<(p1.Nodes.length:Int)))
   (bindO (idxO p1.Nodes z8) fun x12 =>
   bindO (q4z n x12 (p1.Nodes.length:Int)) fun r14 =>
   cond (r14 != 0)
    (some ((GFS.mk []),r14))
    ((q5m p1 n m1) (IntKind.i64.wrap (z8+1))))
   (q6r p1 n)
def q5e (n:Nat) (p1:GFS):Option (GFS×Int) :=
 cond ((p1.Nodes.length:Int) == 0)
  (some ((GFS.mk []),1))
  (cond (decide ((p1.Nodes.length:Int) > 4096))
   (some ((GFS.mk []),7))
   (q5m p1 n n 0))
theorem graph_Canon_0 (n:Nat) (p1:GFS) (r:GFS×Int) (hF:q5e n p1=some r):EvU Try.prog 13 [.agg [.isl false (List.map cGNode p1.Nodes)]] ⟨[],0⟩ (fun u _=>u = .tup [.agg [.isl false (List.map cGNode r.1.Nodes)],.int .i64 r.2]∧Bel 0 u):=by
 unfold q5e at hF
 refine EvU.of_body Try.tb_ok fn13 rfl ?_
 refine WPU.ghost (tm':=fr 36 [(0,.agg [.isl false (List.map cGNode p1.Nodes)])]) (Gh.start (Nat.le_of_ble_eq_true rfl)) (Nat.zero_le _) ?_
 refine sr ?_
 refine RS.q (u:=.ptr 0 0 0) (σ':=⟨[(0,.row [.isl false (List.map cGNode p1.Nodes)] 25)],1⟩) rfl (q2z rfl rfl rfl) (RS.q (u:=.ptr 1 0 0) (σ':=⟨[(1,.row [.nils] 25),(0,.row [.isl false (List.map cGNode p1.Nodes)] 25)],2⟩) rfl (q15 inf25 rfl rfl) ?_)
 refine se ?_
 refine RS.q (u:=.ptr 0 0 0) rfl (q0u und25 rfl (q01 inf23) rfl rfl rfl) (RS.q (u:=.isl false (List.map cGNode p1.Nodes)) rfl (q06 und23 rfl rfl rfl rfl) (RS.q rfl (q10 rfl rfl rfl (q0w cGNode und23)) (RS.q rfl (q04 rfl rfl (q6i _ _ _) rfl) ?_)))
 refine sd ?_
 refine WPU.condS (t:=((p1.Nodes.length:Int) == 0)) rfl (fun h2=>?_) (fun h2=>?_)
 replace hF:=q0g h2 hF
 refine sr ?_
 refine RS.q (u:=.agg [.nils]) rfl (q6q bd25 rfl rfl rfl) (RS.opn (u:=.junk) (σ':=⟨[(1,.row [.nils] 25),(0,.row [.isl false (List.map cGNode p1.Nodes)] 25)],2⟩) rfl (q0s (q01 inf25) rfl rfl rfl rfl rfl rfl rfl rfl) rfl ?_)
 refine sd ?_
 refine WPU.ret ?_
 refine st ?_
 have hr:=Option.some.inj hF
 subst hr
 exact ⟨.inr rfl,[.agg [.nils],.int .i64 1],qa9 (q0q und25 rfl (q01 inf25) rfl rfl rfl) (q1y rfl (q1e)),.tup [.agg [.isl false []],.int .i64 1],⟨[],0⟩,Nat.le_refl _,Gh.trans (Gh.wk (.cons (.tup (.cons (.agg (.cons (.nil false) .nil)) (.cons (.refl _) .nil))) .nil)) (Gh.toR (.tup [.agg [.isl false []],.int .i64 1]) rfl),rfl,BU.h⟩
 replace hF:=q0f h2 hF
 refine st ?_
 refine WPU.skip ?_
 refine sr ?_
 refine RS.q (u:=.ptr 0 0 0) rfl (q0u und25 rfl (q01 inf23) rfl rfl rfl) (RS.q (u:=.isl false (List.map cGNode p1.Nodes)) rfl (q06 und23 rfl rfl rfl rfl) (RS.q rfl (q10 rfl rfl rfl (q0w cGNode und23)) (RS.q rfl (q04 rfl rfl (q9c _ _ _) rfl) ?_)))
 refine sd ?_
 refine WPU.condS (t:=(decide ((p1.Nodes.length:Int) > 4096))) rfl (fun h3=>?_) (fun h3=>?_)
 replace hF:=q0g h3 hF
 refine sr ?_
 refine RS.q (u:=.agg [.nils]) rfl (q6q bd25 rfl rfl rfl) (RS.opn (u:=.junk) (σ':=⟨[(1,.row [.nils] 25),(0,.row [.isl false (List.map cGNode p1.Nodes)] 25)],2⟩) rfl (q0s (q01 inf25) rfl rfl rfl rfl rfl rfl rfl rfl) rfl ?_)
 refine sd ?_
 refine WPU.ret ?_
 refine st ?_
 have hr:=Option.some.inj hF
 subst hr
 exact ⟨.inr rfl,[.agg [.nils],.int .i64 7],qa9 (q0q und25 rfl (q01 inf25) rfl rfl rfl) (q1y rfl (q1e)),.tup [.agg [.isl false []],.int .i64 7],⟨[],0⟩,Nat.le_refl _,Gh.trans (Gh.wk (.cons (.tup (.cons (.agg (.cons (.nil false) .nil)) (.cons (.refl _) .nil))) .nil)) (Gh.toR (.tup [.agg [.isl false []],.int .i64 7]) rfl),rfl,BU.h⟩
 replace hF:=q0f h3 hF
 refine st ?_
 refine WPU.skip ?_
 refine sr ?_
 refine RS.q (u:=.ptr 0 0 0) rfl (q0u und25 rfl (q01 inf23) rfl rfl rfl) (RS.q (u:=.isl false (List.map cGNode p1.Nodes)) rfl (q06 und23 rfl rfl rfl rfl) (RS.q rfl (q10 rfl rfl rfl (q0w cGNode und23)) (RS.mv rfl rfl rfl rfl ?_)))
 refine sd ?_
 refine WPU.ghost (tm':=fr 36 [(1,.ptr 0 0 0),(2,.ptr 1 0 0),(18,.isl false (List.map cGNode p1.Nodes)),(19,.int .i64 (p1.Nodes.length:Int)),(20,.int .i64 0)]) (Gh.sub ⟨rfl,rfl,rfl,rfl,rfl,trivial⟩) (Nat.zero_le _) ?_
 refine WPU.loopK (fun m tm σ=>∃ z8:Int,q5m p1 n m z8=some r∧tm=fr 36 [(1,.ptr 0 0 0),(2,.ptr 1 0 0),(18,.isl false (List.map cGNode p1.Nodes)),(19,.int .i64 (p1.Nodes.length:Int)),(20,.int .i64 z8)]∧σ=⟨[(1,.row [.nils] 25),(0,.row [.isl false (List.map cGNode p1.Nodes)] 25)],2⟩) (fun tm σ=>q6r p1 n=some r∧tm=fr 36 [(1,.ptr 0 0 0),(2,.ptr 1 0 0)]∧σ=⟨[(1,.row [.nils] 25),(0,.row [.isl false (List.map cGNode p1.Nodes)] 25)],2⟩) n ⟨0,hF,rfl,rfl⟩ ?_ ?_
 rintro _ _ ⟨hF,rfl,rfl⟩
 unfold q6r at hF
 refine st ?_
 obtain ⟨r9,h10,hF⟩:=q00 hF
 refine sr ?_
 refine RS.q (u:=.agg [.isl false (List.map cGNode p1.Nodes)]) rfl (q0q und25 rfl (q01 inf25) rfl rfl rfl) (RS.call (u:=.agg [.isl false (List.map cGNode r9.Nodes)]) (args:=[.agg [.isl false (List.map cGNode p1.Nodes)],.int .i64 0]) rfl (q02 rfl rfl fn31 hb31 rfl rfl) (q6n n p1 0 r9 h10 _) rfl rfl (RS.opn (u:=.junk) (σ':=⟨[(1,.row [.isl false (List.map cGNode r9.Nodes)] 25),(0,.row [.isl false (List.map cGNode p1.Nodes)] 25)],2⟩) rfl (q0s (q01 inf25) rfl rfl rfl rfl rfl rfl rfl rfl) rfl ?_))
 refine sd ?_
 refine WPU.ret ?_
 refine st ?_
 have hr:=Option.some.inj hF
 subst hr
 exact ⟨.inr rfl,[.agg [.isl false (List.map cGNode r9.Nodes)],.int .i64 0],qa9 (q0q und25 rfl (q01 inf25) rfl rfl rfl) (q1y rfl (q1e)),.tup [.agg [.isl false (List.map cGNode r9.Nodes)],.int .i64 0],⟨[],0⟩,Nat.le_refl _,Gh.toR (.tup [.agg [.isl false (List.map cGNode r9.Nodes)],.int .i64 0]) rfl,rfl,BU.h⟩
 rintro m1 _ _ ⟨z8,hF,rfl,rfl⟩
 rcases m1 with _ | m1
 cases hF
 unfold q5m at hF
 refine sr ?_
 refine RS.q rfl (q04 rfl rfl (q1n _ _ _) rfl) ?_
 refine sd ?_
 refine WPU.condS (t:=(decide (z8<(p1.Nodes.length:Int)))) rfl (fun h11=>?_) (fun h11=>?_)
 replace hF:=q0g h11 hF
 refine st ?_
 refine WPU.skip ?_
 refine st ?_
 refine WPU.block ?_
 refine st ?_
 obtain ⟨x12,h13,hF⟩:=q00 hF
 refine sr ?_
 refine RS.q (u:=.iptr (cGNode x12)) rfl (q1t rfl rfl (q2g cGNode und23 (q01 inf43) q1b h13 rfl)) (RS.q (u:=.agg (cGNode x12)) rfl (q7s und43 rfl (q01 inf43) rfl rfl) (RS.q (u:=.ptr 2 0 0) (σ':=⟨[(2,.row [.int .i64 0,.nils] 43),(1,.row [.nils] 25),(0,.row [.isl false (List.map cGNode p1.Nodes)] 25)],3⟩) rfl (q15 inf43 rfl rfl) (RS.opn (u:=.junk) (σ':=⟨[(2,.row (cGNode x12) 43),(1,.row [.nils] 25),(0,.row [.isl false (List.map cGNode p1.Nodes)] 25)],3⟩) rfl (q0s (q01 inf43) rfl rfl rfl rfl rfl rfl rfl rfl) rfl ?_)))
 refine sd ?_
 obtain ⟨r14,h15,hF⟩:=q00 hF
 refine sr ?_
 refine RS.q (u:=.agg (cGNode x12)) rfl (q0q und43 rfl (q01 inf43) rfl rfl rfl) (RS.q (u:=.ptr 0 0 0) rfl (q0u und25 rfl (q01 inf23) rfl rfl rfl) (RS.q (u:=.isl false (List.map cGNode p1.Nodes)) rfl (q06 und23 rfl rfl rfl rfl) (RS.q rfl (q10 rfl rfl rfl (q0w cGNode und23)) (RS.call (u:=.int .i64 r14) (args:=[.agg (cGNode x12),.int .i64 (p1.Nodes.length:Int)]) rfl (q02 rfl rfl fn30 hb30 rfl rfl) (q98 n x12 (p1.Nodes.length:Int) r14 h15 _) rfl rfl ?_))))
 refine se ?_
 refine RS.q rfl (q04 rfl rfl (q63 _ _ _) rfl) ?_
 refine sd ?_
 refine WPU.condS (t:=(r14 != 0)) rfl (fun h16=>?_) (fun h16=>?_)
 replace hF:=q0g h16 hF
 refine sr ?_
 refine RS.q (u:=.agg [.nils]) rfl (q6q bd25 rfl rfl rfl) (RS.mv rfl rfl rfl rfl (RS.opn (u:=.junk) (σ':=⟨[(2,.row (cGNode x12) 43),(1,.row [.nils] 25),(0,.row [.isl false (List.map cGNode p1.Nodes)] 25)],3⟩) rfl (q0s (q01 inf25) rfl rfl rfl rfl rfl rfl rfl rfl) rfl ?_))
 refine sd ?_
 refine WPU.ret ?_
 refine st ?_
 have hr:=Option.some.inj hF
 subst hr
 exact ⟨.inr rfl,[.agg [.nils],.int .i64 r14],qa9 (q0q und25 rfl (q01 inf25) rfl rfl rfl) (q1y rfl (q1e)),.tup [.agg [.isl false []],.int .i64 r14],⟨[],0⟩,Nat.le_refl _,Gh.trans (Gh.wk (.cons (.tup (.cons (.agg (.cons (.nil false) .nil)) (.cons (.refl _) .nil))) .nil)) (Gh.toR (.tup [.agg [.isl false []],.int .i64 r14]) rfl),rfl,BU.h⟩
 replace hF:=q0f h16 hF
 refine st ?_
 refine WPU.skip ?_
 refine sr ?_
 refine RS.q rfl (q04 rfl rfl (q2y _ _ _) rfl) (RS.mv rfl rfl rfl rfl ?_)
 refine sd ?_
 exact ⟨m1,_,_,Nat.lt_succ_self _,⟨(IntKind.i64.wrap (z8+1)),hF,rfl,rfl⟩,(Nat.zero_le _),Gh.toC (n1:=2) ⟨rfl,rfl,rfl,rfl,rfl,trivial⟩ rfl (Nat.zero_le _) (by simp)⟩
 replace hF:=q0f h11 hF
 refine st ?_
 refine WPU.exit ?_
 refine st ?_
 exact ⟨_,_,⟨hF,rfl,rfl⟩,(Nat.zero_le _),Gh.toC (n1:=2) ⟨rfl,rfl,trivial⟩ rfl (Nat.zero_le _) (by simp)⟩
theorem q6s (n:Nat) (p1:GFS) (r:GFS×Int) (hF:q5e n p1=some r) (σ:Sg):EvU Try.prog 13 [.agg [.isl false (List.map cGNode p1.Nodes)]] σ (fun u σ'=>u = .tup [.agg [.isl false (List.map cGNode r.1.Nodes)],.int .i64 r.2]∧σ'=σ) :=
 EvU.pure1C (graph_Canon_0 n p1 r hF) σ
def q32 (n:Nat) (p1:GFS) (p2:GFS):Option (Bool) :=
 bindO (q4c n p1 p2) fun r3 =>
 some (r3 == 0)
theorem ref07_Equal_0 (n:Nat) (p1:GFS) (p2:GFS) (r:Bool) (hF:q32 n p1 p2=some r):EvU Try.prog 14 [.agg [.isl false (List.map cGNode p1.Nodes)],.agg [.isl false (List.map cGNode p2.Nodes)]] ⟨[],0⟩ (fun u _=>u = .bool r∧Bel 0 u):=by
 unfold q32 at hF
 refine EvU.of_body Try.tb_ok fn14 rfl ?_
 refine WPU.ghost (tm':=fr 9 [(0,.agg [.isl false (List.map cGNode p1.Nodes)]),(1,.agg [.isl false (List.map cGNode p2.Nodes)])]) (Gh.start (Nat.le_of_ble_eq_true rfl)) (Nat.zero_le _) ?_
 refine sr ?_
 refine RS.q (u:=.ptr 0 0 0) (σ':=⟨[(0,.row [.isl false (List.map cGNode p1.Nodes)] 25)],1⟩) rfl (q2z rfl rfl rfl) (RS.q (u:=.ptr 1 0 0) (σ':=⟨[(1,.row [.isl false (List.map cGNode p2.Nodes)] 25),(0,.row [.isl false (List.map cGNode p1.Nodes)] 25)],2⟩) rfl (q2z rfl rfl rfl) ?_)
 refine sd ?_
 obtain ⟨r3,h4,hF⟩:=q00 hF
 refine sr ?_
 refine RS.q (u:=.agg [.isl false (List.map cGNode p1.Nodes)]) rfl (q0q und25 rfl (q01 inf25) rfl rfl rfl) (RS.q (u:=.agg [.isl false (List.map cGNode p2.Nodes)]) rfl (q0q und25 rfl (q01 inf25) rfl rfl rfl) (RS.call (u:=.int .i64 r3) (args:=[.agg [.isl false (List.map cGNode p1.Nodes)],.agg [.isl false (List.map cGNode p2.Nodes)]]) rfl (q02 rfl rfl fn25 hb25 rfl rfl) (qao n p1 p2 r3 h4 _) rfl rfl (RS.q rfl (q04 rfl rfl (q6i _ _ _) rfl) ?_)))
 refine sd ?_
 refine WPU.ret ?_
 refine st ?_
 have hr:=Option.some.inj hF
 subst hr
 exact ⟨.inr rfl,[.bool (r3 == 0)],q1y rfl (q1e),.bool (r3 == 0),⟨[],0⟩,Nat.le_refl _,Gh.toR (.bool (r3 == 0)) rfl,rfl,BU.h⟩
theorem q17 (n:Nat) (p1:GFS) (p2:GFS) (r:Bool) (hF:q32 n p1 p2=some r) (σ:Sg):EvU Try.prog 14 [.agg [.isl false (List.map cGNode p1.Nodes)],.agg [.isl false (List.map cGNode p2.Nodes)]] σ (fun u σ'=>u = .bool r∧σ'=σ) :=
 EvU.pure1C (ref07_Equal_0 n p1 p2 r hF) σ
def q5p   : Option (Bool) :=
 some true
def q3x (p1:GFS):Nat→Int→Option (Bool)
 | 0,_=>none
 | m1+1,z5 =>
  cond (decide (z5<(p1.Nodes.length:Int)))
   (bindO (idxO p1.Nodes z5) fun x7 =>
   cond (decide ((x7.Arcs.length:Int) > 12))
    (some false)
    ((q3x p1 m1) (IntKind.i64.wrap (z5+1))))
   (q5p)
def q5j (n:Nat) (p1:GFS):Option (Bool) :=
 cond (decide ((p1.Nodes.length:Int) > 12))
  (some false)
  (q3x p1 n 0)
theorem ref07_Light_0 (n:Nat) (p1:GFS) (r:Bool) (hF:q5j n p1=some r):EvU Try.prog 17 [.agg [.isl false (List.map cGNode p1.Nodes)]] ⟨[],0⟩ (fun u _=>u = .bool r∧Bel 0 u):=by
 unfold q5j at hF
 refine EvU.of_body Try.tb_ok fn17 rfl ?_
 refine WPU.ghost (tm':=fr 23 [(0,.agg [.isl false (List.map cGNode p1.Nodes)])]) (Gh.start (Nat.le_of_ble_eq_true rfl)) (Nat.zero_le _) ?_
 refine sr ?_
 refine RS.q (u:=.ptr 0 0 0) (σ':=⟨[(0,.row [.isl false (List.map cGNode p1.Nodes)] 25)],1⟩) rfl (q2z rfl rfl rfl) ?_
 refine se ?_
 refine RS.q (u:=.ptr 0 0 0) rfl (q0u und25 rfl (q01 inf23) rfl rfl rfl) (RS.q (u:=.isl false (List.map cGNode p1.Nodes)) rfl (q06 und23 rfl rfl rfl rfl) (RS.q rfl (q10 rfl rfl rfl (q0w cGNode und23)) (RS.q rfl (q04 rfl rfl (q9c _ _ _) rfl) ?_)))
 refine sd ?_
 refine WPU.condS (t:=(decide ((p1.Nodes.length:Int) > 12))) rfl (fun h2=>?_) (fun h2=>?_)
 replace hF:=q0g h2 hF
 refine sr ?_
 refine sd ?_
 refine WPU.ret ?_
 refine st ?_
 have hr:=Option.some.inj hF
 subst hr
 exact ⟨.inr rfl,[.bool false],q1y rfl (q1e),.bool false,⟨[],0⟩,Nat.le_refl _,Gh.toR (.bool false) rfl,rfl,BU.h⟩
 replace hF:=q0f h2 hF
 refine st ?_
 refine WPU.skip ?_
 refine sr ?_
 refine sd ?_
 refine WPU.ghost (tm':=fr 23 [(1,.ptr 0 0 0),(3,.int .i64 0)]) (Gh.sub ⟨rfl,rfl,trivial⟩) (Nat.zero_le _) ?_
 refine WPU.loopK (fun m tm σ=>∃ z5:Int,q3x p1 m z5=some r∧tm=fr 23 [(1,.ptr 0 0 0),(3,.int .i64 z5)]∧σ=⟨[(0,.row [.isl false (List.map cGNode p1.Nodes)] 25)],1⟩) (fun tm σ=>q5p=some r∧tm=fr 23 []∧σ=⟨[(0,.row [.isl false (List.map cGNode p1.Nodes)] 25)],1⟩) n ⟨0,hF,rfl,rfl⟩ ?_ ?_
 rintro _ _ ⟨hF,rfl,rfl⟩
 unfold q5p at hF
 refine sr ?_
 refine sd ?_
 refine WPU.ret ?_
 refine st ?_
 have hr:=Option.some.inj hF
 subst hr
 exact ⟨.inr rfl,[.bool true],q1y rfl (q1e),.bool true,⟨[],0⟩,Nat.le_refl _,Gh.toR (.bool true) rfl,rfl,BU.h⟩
 rintro m1 _ _ ⟨z5,hF,rfl,rfl⟩
 rcases m1 with _ | m1
 cases hF
 unfold q3x at hF
 refine sr ?_
 refine RS.q (u:=.ptr 0 0 0) rfl (q0u und25 rfl (q01 inf23) rfl rfl rfl) (RS.q (u:=.isl false (List.map cGNode p1.Nodes)) rfl (q06 und23 rfl rfl rfl rfl) (RS.q rfl (q10 rfl rfl rfl (q0w cGNode und23)) (RS.q rfl (q04 rfl rfl (q1n _ _ _) rfl) ?_)))
 refine sd ?_
 refine WPU.condS (t:=(decide (z5<(p1.Nodes.length:Int)))) rfl (fun h6=>?_) (fun h6=>?_)
 replace hF:=q0g h6 hF
 refine st ?_
 refine WPU.skip ?_
 refine st ?_
 refine WPU.block ?_
 refine st ?_
 obtain ⟨x7,h8,hF⟩:=q00 hF
 refine sr ?_
 refine RS.q (u:=.ptr 0 0 0) rfl (q0u und25 rfl (q01 inf23) rfl rfl rfl) (RS.q (u:=.isl false (List.map cGNode p1.Nodes)) rfl (q06 und23 rfl rfl rfl rfl) (RS.mv rfl rfl rfl rfl (RS.q (u:=.iptr (cGNode x7)) rfl (q1t rfl rfl (q2g cGNode und23 (q01 inf43) q1b h8 rfl)) (RS.q (u:=.iptr [.isl false (List.map cGArc x7.Arcs)]) rfl (q68 und43 rfl (q01 inf41) rfl rfl) (RS.q (u:=.isl false (List.map cGArc x7.Arcs)) rfl (q3h und41 rfl rfl rfl) (RS.q rfl (q10 rfl rfl rfl (q0w cGArc und41)) (RS.q rfl (q04 rfl rfl (q9c _ _ _) rfl) ?_)))))))
 refine sd ?_
 refine WPU.condS (t:=(decide ((x7.Arcs.length:Int) > 12))) rfl (fun h9=>?_) (fun h9=>?_)
 replace hF:=q0g h9 hF
 refine sr ?_
 refine sd ?_
 refine WPU.ret ?_
 refine st ?_
 have hr:=Option.some.inj hF
 subst hr
 exact ⟨.inr rfl,[.bool false],q1y rfl (q1e),.bool false,⟨[],0⟩,Nat.le_refl _,Gh.toR (.bool false) rfl,rfl,BU.h⟩
 replace hF:=q0f h9 hF
 refine st ?_
 refine WPU.skip ?_
 refine sr ?_
 refine RS.q rfl (q04 rfl rfl (q2y _ _ _) rfl) ?_
 refine sd ?_
 exact ⟨m1,_,_,Nat.lt_succ_self _,⟨(IntKind.i64.wrap (z5+1)),hF,rfl,rfl⟩,(Nat.zero_le _),Gh.toC (n1:=1) ⟨rfl,rfl,trivial⟩ rfl (Nat.zero_le _) (by simp)⟩
 replace hF:=q0f h6 hF
 refine st ?_
 refine WPU.exit ?_
 refine st ?_
 exact ⟨_,_,⟨hF,rfl,rfl⟩,(Nat.zero_le _),Gh.toC (n1:=1) trivial rfl (Nat.zero_le _) (by simp)⟩
theorem ref07_Light_ok (n:Nat) (p1:GFS) (r:Bool) (hF:q5j n p1=some r) (σ:Sg):EvU Try.prog 17 [.agg [.isl false (List.map cGNode p1.Nodes)]] σ (fun u σ'=>u = .bool r∧σ'=σ) :=
 EvU.pure1C (ref07_Light_0 n p1 r hF) σ
def q6b (z6:Int) (rc1:Int→Option (Int))  : Option (Int) :=
 rc1 (IntKind.i64.wrap (z6+1))
def q4e (p1:List GArc) (z6:Int) (rc1:Int→Option (Int)):Nat→Int→Option (Int)
 | 0,_=>none
 | m2+1,z23 =>
  cond (decide (z23<z6))
   (bindO (idxO p1 z23) fun x25 =>
   bindO (idxO p1 z6) fun x27 =>
   cond (x25.Feat == x27.Feat)
    (some 4)
    ((q4e p1 z6 rc1 m2) (IntKind.i64.wrap (z23+1))))
   (q6b z6 rc1)
def q6a   : Option (Int) :=
 some 0
def q2v (p1:List GArc) (p2:Int) (n:Nat):Nat→Int→Option (Int)
 | 0,_=>none
 | m1+1,z6 =>
  cond (decide (z6<(p1.length:Int)))
   (bindO (bindO (idxO p1 z6) fun x8 =>
   cond (decide (x8.Feat<0))
    (some true)
    (bindO (idxO p1 z6) fun x11 =>
    cond (decide (x11.To<0))
     (some true)
     (bindO (idxO p1 z6) fun x14 =>
     some (decide (x14.To ≥ p2))))) fun b16 =>
   cond b16
    (some 2)
    (q4e p1 z6 (q2v p1 p2 n m1) n 0))
   (q6a)
def q71 (n:Nat) (p1:List GArc) (p2:Int):Option (Int) :=
 q2v p1 p2 n n 0
theorem ref07_arcs_0 (n:Nat) (p1:List GArc) (p2:Int) (r:Int) (hF:q71 n p1 p2=some r):EvU Try.prog 46 [.isl false (List.map cGArc p1),.int .i64 p2] ⟨[],0⟩ (fun u _=>u = .int .i64 r∧Bel 0 u):=by
 unfold q71 at hF
 refine EvU.of_body Try.tb_ok fn46 rfl ?_
 refine WPU.ghost (tm':=fr 52 [(0,.isl false (List.map cGArc p1)),(1,.int .i64 p2)]) (Gh.start (Nat.le_of_ble_eq_true rfl)) (Nat.zero_le _) ?_
 refine sr ?_
 refine se ?_
 refine sd ?_
 refine WPU.ghost (tm':=fr 52 [(0,.isl false (List.map cGArc p1)),(1,.int .i64 p2),(5,.int .i64 0)]) (Gh.sub ⟨rfl,rfl,rfl,trivial⟩) (Nat.zero_le _) ?_
 refine WPU.loopK (fun m tm σ=>∃ z6:Int,q2v p1 p2 n m z6=some r∧tm=fr 52 [(0,.isl false (List.map cGArc p1)),(1,.int .i64 p2),(5,.int .i64 z6)]∧σ=⟨[],0⟩) (fun tm σ=>q6a=some r∧tm=fr 52 []∧σ=⟨[],0⟩) n ⟨0,hF,rfl,rfl⟩ ?_ ?_
 rintro _ _ ⟨hF,rfl,rfl⟩
 unfold q6a at hF
 refine sr ?_
 refine sd ?_
 refine WPU.ret ?_
 refine st ?_
 have hr:=Option.some.inj hF
 subst hr
 exact ⟨.inr rfl,[.int .i64 0],q1y rfl (q1e),.int .i64 0,⟨[],0⟩,Nat.le_refl _,Gh.toR (.int .i64 0) rfl,rfl,BU.h⟩
 rintro m1 _ _ ⟨z6,hF,rfl,rfl⟩
 rcases m1 with _ | m1
 cases hF
 unfold q2v at hF
 refine sr ?_
 repeat refine RS.mv rfl rfl rfl rfl ?_
 refine RS.q rfl (q10 rfl rfl rfl (q0w cGArc und41)) (RS.q rfl (q04 rfl rfl (q1n _ _ _) rfl) ?_)
 refine sd ?_
 refine WPU.condS (t:=(decide (z6<(p1.length:Int)))) rfl (fun h7=>?_) (fun h7=>?_)
 replace hF:=q0g h7 hF
 refine st ?_
 refine WPU.skip ?_
 refine st ?_
 refine WPU.block ?_
 refine st ?_
 obtain ⟨b16,h17,hF⟩:=q00 hF
 refine WPU.joinK (fun tm σ=>tm=fr 52 [(0,.isl false (List.map cGArc p1)),(1,.int .i64 p2),(5,.int .i64 z6),(35,.bool b16)]∧σ=⟨[],0⟩) ?_ ?_
 rintro _ _ ⟨rfl,rfl⟩
 refine st ?_
 refine WPU.condS (t:=b16) rfl (fun h18=>?_) (fun h18=>?_)
 replace hF:=q0g h18 hF
 refine sr ?_
 refine sd ?_
 refine WPU.ret ?_
 refine st ?_
 have hr:=Option.some.inj hF
 subst hr
 exact ⟨.inr rfl,[.int .i64 2],q1y rfl (q1e),.int .i64 2,⟨[],0⟩,Nat.le_refl _,Gh.toR (.int .i64 2) rfl,rfl,BU.h⟩
 replace hF:=q0f h18 hF
 refine st ?_
 refine WPU.skip ?_
 refine sr ?_
 refine sd ?_
 refine WPU.ghost (tm':=fr 52 [(0,.isl false (List.map cGArc p1)),(1,.int .i64 p2),(5,.int .i64 z6),(6,.int .i64 0)]) (Gh.sub ⟨rfl,rfl,rfl,rfl,trivial⟩) (Nat.zero_le _) ?_
 refine WPU.loopK (fun m tm σ=>∃ z23:Int,q4e p1 z6 (q2v p1 p2 n m1) m z23=some r∧tm=fr 52 [(0,.isl false (List.map cGArc p1)),(1,.int .i64 p2),(5,.int .i64 z6),(6,.int .i64 z23)]∧σ=⟨[],0⟩) (fun tm σ=>q6b z6 (q2v p1 p2 n m1)=some r∧tm=fr 52 [(0,.isl false (List.map cGArc p1)),(1,.int .i64 p2),(5,.int .i64 z6)]∧σ=⟨[],0⟩) n ⟨0,hF,rfl,rfl⟩ ?_ ?_
 rintro _ _ ⟨hF,rfl,rfl⟩
 unfold q6b at hF
 refine sr ?_
 refine RS.q rfl (q04 rfl rfl (q2y _ _ _) rfl) ?_
 refine sd ?_
 exact ⟨m1,_,_,Nat.lt_succ_self _,⟨(IntKind.i64.wrap (z6+1)),hF,rfl,rfl⟩,(Nat.zero_le _),Gh.toC (n1:=0) ⟨rfl,rfl,rfl,trivial⟩ rfl (Nat.zero_le _) (by simp)⟩
 rintro m2 _ _ ⟨z23,hF,rfl,rfl⟩
 rcases m2 with _ | m2
 cases hF
 unfold q4e at hF
 refine sr ?_
 repeat refine RS.mv rfl rfl rfl rfl ?_
 refine RS.q rfl (q04 rfl rfl (q1n _ _ _) rfl) ?_
 refine sd ?_
 refine WPU.condS (t:=(decide (z23<z6))) rfl (fun h24=>?_) (fun h24=>?_)
 replace hF:=q0g h24 hF
 refine st ?_
 refine WPU.skip ?_
 refine st ?_
 refine WPU.block ?_
 refine st ?_
 obtain ⟨x25,h26,hF⟩:=q00 hF
 obtain ⟨x27,h28,hF⟩:=q00 hF
 refine WPU.drawE Try.tb_ok [] (by kernel_rfl) ?_
 repeat refine RD.mv rfl rfl rfl rfl ?_
 refine RD.q (u:=.iptr (cGArc x25)) rfl (q1t rfl rfl (q2g cGArc und41 (q01 inf45) q0e h26 rfl)) (RD.q (u:=.iptr (cGArc x25)) rfl (q68 und45 rfl (q01 inf3) rfl rfl) (RD.q (u:=.int .i64 x25.Feat) rfl (q3h und3 rfl rfl rfl) ?_))
 repeat refine RD.mv rfl rfl rfl rfl ?_
 refine RD.q (u:=.iptr (cGArc x27)) rfl (q1t rfl rfl (q2g cGArc und41 (q01 inf45) q0e h28 rfl)) (RD.q (u:=.iptr (cGArc x27)) rfl (q68 und45 rfl (q01 inf3) rfl rfl) (RD.q (u:=.int .i64 x27.Feat) rfl (q3h und3 rfl rfl rfl) (RD.q rfl (q04 rfl rfl (q6i _ _ _) rfl) ?_)))
 refine RD.done ⟨by kernel_rfl,trivial,?_⟩
 refine st ?_
 refine WPU.condS (t:=(x25.Feat == x27.Feat)) rfl (fun h29=>?_) (fun h29=>?_)
 replace hF:=q0g h29 hF
 refine sr ?_
 refine sd ?_
 refine WPU.ret ?_
 refine st ?_
 have hr:=Option.some.inj hF
 subst hr
 exact ⟨.inr rfl,[.int .i64 4],q1y rfl (q1e),.int .i64 4,⟨[],0⟩,Nat.le_refl _,Gh.toR (.int .i64 4) rfl,rfl,BU.h⟩
 replace hF:=q0f h29 hF
 refine st ?_
 refine WPU.skip ?_
 refine sr ?_
 refine RS.q rfl (q04 rfl rfl (q2y _ _ _) rfl) ?_
 refine sd ?_
 exact ⟨m2,_,_,Nat.lt_succ_self _,⟨(IntKind.i64.wrap (z23+1)),hF,rfl,rfl⟩,(Nat.zero_le _),Gh.toC (n1:=0) ⟨rfl,rfl,rfl,rfl,trivial⟩ rfl (Nat.zero_le _) (by simp)⟩
 replace hF:=q0f h24 hF
 refine st ?_
 refine WPU.exit ?_
 refine st ?_
 exact ⟨_,_,⟨hF,rfl,rfl⟩,(Nat.zero_le _),Gh.toC (n1:=0) ⟨rfl,rfl,rfl,trivial⟩ rfl (Nat.zero_le _) (by simp)⟩
 obtain ⟨x8,h9,h17⟩:=q00 h17
 rcases q3f (decide (x8.Feat<0)) with h10 | h10
 replace h17:=q0g h10 h17
 replace h17:=Option.some.inj h17
 subst h17
 refine sr ?_
 repeat refine RS.mv rfl rfl rfl rfl ?_
 refine RS.q (u:=.iptr (cGArc x8)) rfl (q1t rfl rfl (q2g cGArc und41 (q01 inf45) q0e h9 rfl)) (RS.q (u:=.iptr (cGArc x8)) rfl (q68 und45 rfl (q01 inf3) rfl rfl) (RS.q (u:=.int .i64 x8.Feat) rfl (q3h und3 rfl rfl rfl) (RS.q rfl (q04 rfl rfl (q1n _ _ _) rfl) (RS.mv rfl rfl rfl rfl ?_))))
 repeat refine RS.no (want0 rfl rfl rfl h10) rfl rfl ?_
 refine RS.q (u:=.bool true) rfl (q0r rfl h10 rfl) (RS.mv rfl rfl rfl rfl ?_)
 repeat refine RS.no (want0 rfl rfl rfl rfl) rfl rfl ?_
 refine RS.q (u:=.bool true) rfl (q0r rfl rfl rfl) ?_
 refine sd ?_
 exact ⟨_,_,⟨rfl,rfl⟩,(Nat.zero_le _),Gh.toC (n1:=0) ⟨rfl,rfl,rfl,rfl,trivial⟩ rfl (Nat.zero_le _) (by simp)⟩
 replace h17:=q0f h10 h17
 obtain ⟨x11,h12,h17⟩:=q00 h17
 rcases q3f (decide (x11.To<0)) with h13 | h13
 replace h17:=q0g h13 h17
 replace h17:=Option.some.inj h17
 subst h17
 refine sr ?_
 repeat refine RS.mv rfl rfl rfl rfl ?_
 refine RS.q (u:=.iptr (cGArc x8)) rfl (q1t rfl rfl (q2g cGArc und41 (q01 inf45) q0e h9 rfl)) (RS.q (u:=.iptr (cGArc x8)) rfl (q68 und45 rfl (q01 inf3) rfl rfl) (RS.q (u:=.int .i64 x8.Feat) rfl (q3h und3 rfl rfl rfl) (RS.q rfl (q04 rfl rfl (q1n _ _ _) rfl) (RS.mv rfl rfl rfl rfl (RS.op (want1 rfl rfl rfl h10) (q2b rfl) rfl rfl (RS.op (want1 rfl rfl rfl h10) (q2b rfl) rfl rfl (RS.op (u:=.iptr (cGArc x11)) (want1 rfl rfl rfl h10) (q1t rfl rfl (q2g cGArc und41 (q01 inf45) q0e h12 rfl)) rfl rfl ?_)))))))
 refine RS.op (u:=.iptr [.int .i64 x11.To]) (want1 rfl rfl rfl h10) (q68 und45 rfl (q01 inf3) rfl rfl) rfl rfl (RS.op (u:=.int .i64 x11.To) (want1 rfl rfl rfl h10) (q3h und3 rfl rfl rfl) rfl rfl (RS.op (want1 rfl rfl rfl h10) (q04 rfl rfl (q1n _ _ _) rfl) rfl rfl (RS.q (u:=.bool (decide (x11.To<0))) rfl (q0p rfl h10 rfl) (RS.mv rfl rfl rfl rfl ?_))))
 repeat refine RS.no (want0 rfl rfl rfl h13) rfl rfl ?_
 refine RS.q (u:=.bool true) rfl (q0r rfl h13 rfl) ?_
 refine sd ?_
 exact ⟨_,_,⟨rfl,rfl⟩,(Nat.zero_le _),Gh.toC (n1:=0) ⟨rfl,rfl,rfl,rfl,trivial⟩ rfl (Nat.zero_le _) (by simp)⟩
 replace h17:=q0f h13 h17
 obtain ⟨x14,h15,h17⟩:=q00 h17
 replace h17:=Option.some.inj h17
 subst h17
 refine sr ?_
 repeat refine RS.mv rfl rfl rfl rfl ?_
 refine RS.q (u:=.iptr (cGArc x8)) rfl (q1t rfl rfl (q2g cGArc und41 (q01 inf45) q0e h9 rfl)) (RS.q (u:=.iptr (cGArc x8)) rfl (q68 und45 rfl (q01 inf3) rfl rfl) (RS.q (u:=.int .i64 x8.Feat) rfl (q3h und3 rfl rfl rfl) (RS.q rfl (q04 rfl rfl (q1n _ _ _) rfl) (RS.mv rfl rfl rfl rfl (RS.op (want1 rfl rfl rfl h10) (q2b rfl) rfl rfl (RS.op (want1 rfl rfl rfl h10) (q2b rfl) rfl rfl (RS.op (u:=.iptr (cGArc x11)) (want1 rfl rfl rfl h10) (q1t rfl rfl (q2g cGArc und41 (q01 inf45) q0e h12 rfl)) rfl rfl ?_)))))))
 refine RS.op (u:=.iptr [.int .i64 x11.To]) (want1 rfl rfl rfl h10) (q68 und45 rfl (q01 inf3) rfl rfl) rfl rfl (RS.op (u:=.int .i64 x11.To) (want1 rfl rfl rfl h10) (q3h und3 rfl rfl rfl) rfl rfl (RS.op (want1 rfl rfl rfl h10) (q04 rfl rfl (q1n _ _ _) rfl) rfl rfl (RS.q (u:=.bool (decide (x11.To<0))) rfl (q0p rfl h10 rfl) (RS.mv rfl rfl rfl rfl (RS.op (want1 rfl rfl rfl h13) (q2b rfl) rfl rfl (RS.op (want1 rfl rfl rfl h13) (q2b rfl) rfl rfl (RS.op (u:=.iptr (cGArc x14)) (want1 rfl rfl rfl h13) (q1t rfl rfl (q2g cGArc und41 (q01 inf45) q0e h15 rfl)) rfl rfl ?_)))))))
 refine RS.op (u:=.iptr [.int .i64 x14.To]) (want1 rfl rfl rfl h13) (q68 und45 rfl (q01 inf3) rfl rfl) rfl rfl (RS.op (u:=.int .i64 x14.To) (want1 rfl rfl rfl h13) (q3h und3 rfl rfl rfl) rfl rfl (RS.op (want1 rfl rfl rfl h13) (q2b rfl) rfl rfl (RS.op (want1 rfl rfl rfl h13) (q04 rfl rfl (ix_geq _ _ _) rfl) rfl rfl (RS.q (u:=.bool (decide (x14.To ≥ p2))) rfl (q0p rfl h13 rfl) ?_))))
 refine sd ?_
 exact ⟨_,_,⟨rfl,rfl⟩,(Nat.zero_le _),Gh.toC (n1:=0) ⟨rfl,rfl,rfl,rfl,trivial⟩ rfl (Nat.zero_le _) (by simp)⟩
 replace hF:=q0f h7 hF
 refine st ?_
 refine WPU.exit ?_
 refine st ?_
 exact ⟨_,_,⟨hF,rfl,rfl⟩,(Nat.zero_le _),Gh.toC (n1:=0) trivial rfl (Nat.zero_le _) (by simp)⟩
theorem ref07_arcs_ok (n:Nat) (p1:List GArc) (p2:Int) (r:Int) (hF:q71 n p1 p2=some r) (σ:Sg):EvU Try.prog 46 [.isl false (List.map cGArc p1),.int .i64 p2] σ (fun u σ'=>u = .int .i64 r∧σ'=σ) :=
 EvU.pure1C (ref07_arcs_0 n p1 p2 r hF) σ
def q6c   : Option (Int) :=
 some 0
def q4f (p1:GFS) (n:Nat):Nat→Int→Option (Int)
 | 0,_=>none
 | m1+1,z6 =>
  cond (decide (z6<(p1.Nodes.length:Int)))
   (bindO (idxO p1.Nodes z6) fun x8 =>
   cond (decide (x8.Typex<0))
    (some 2)
    (bindO (idxO p1.Nodes z6) fun x11 =>
    bindO (q71 n x11.Arcs (p1.Nodes.length:Int)) fun r13 =>
    cond (r13 != 0)
     (some r13)
     ((q4f p1 n m1) (IntKind.i64.wrap (z6+1)))))
   (q6c)
def q6f (n:Nat) (p1:GFS):Option (Int) :=
 cond ((p1.Nodes.length:Int) == 0)
  (some 1)
  (cond (decide ((p1.Nodes.length:Int) > 4096))
   (some 7)
   (q4f p1 n n 0))
theorem ref07_form_0 (n:Nat) (p1:GFS) (r:Int) (hF:q6f n p1=some r):EvU Try.prog 33 [.agg [.isl false (List.map cGNode p1.Nodes)]] ⟨[],0⟩ (fun u _=>u = .int .i64 r∧Bel 0 u):=by
 unfold q6f at hF
 refine EvU.of_body Try.tb_ok fn33 rfl ?_
 refine WPU.ghost (tm':=fr 40 [(0,.agg [.isl false (List.map cGNode p1.Nodes)])]) (Gh.start (Nat.le_of_ble_eq_true rfl)) (Nat.zero_le _) ?_
 refine sr ?_
 refine RS.q (u:=.ptr 0 0 0) (σ':=⟨[(0,.row [.isl false (List.map cGNode p1.Nodes)] 25)],1⟩) rfl (q2z rfl rfl rfl) ?_
 refine se ?_
 refine RS.q (u:=.ptr 0 0 0) rfl (q0u und25 rfl (q01 inf23) rfl rfl rfl) (RS.q (u:=.isl false (List.map cGNode p1.Nodes)) rfl (q06 und23 rfl rfl rfl rfl) (RS.q rfl (q10 rfl rfl rfl (q0w cGNode und23)) (RS.q rfl (q04 rfl rfl (q6i _ _ _) rfl) ?_)))
 refine sd ?_
 refine WPU.condS (t:=((p1.Nodes.length:Int) == 0)) rfl (fun h2=>?_) (fun h2=>?_)
 replace hF:=q0g h2 hF
 refine sr ?_
 refine sd ?_
 refine WPU.ret ?_
 refine st ?_
 have hr:=Option.some.inj hF
 subst hr
 exact ⟨.inr rfl,[.int .i64 1],q1y rfl (q1e),.int .i64 1,⟨[],0⟩,Nat.le_refl _,Gh.toR (.int .i64 1) rfl,rfl,BU.h⟩
 replace hF:=q0f h2 hF
 refine st ?_
 refine WPU.skip ?_
 refine sr ?_
 refine RS.q (u:=.ptr 0 0 0) rfl (q0u und25 rfl (q01 inf23) rfl rfl rfl) (RS.q (u:=.isl false (List.map cGNode p1.Nodes)) rfl (q06 und23 rfl rfl rfl rfl) (RS.q rfl (q10 rfl rfl rfl (q0w cGNode und23)) (RS.q rfl (q04 rfl rfl (q9c _ _ _) rfl) ?_)))
 refine sd ?_
 refine WPU.condS (t:=(decide ((p1.Nodes.length:Int) > 4096))) rfl (fun h3=>?_) (fun h3=>?_)
 replace hF:=q0g h3 hF
 refine sr ?_
 refine sd ?_
 refine WPU.ret ?_
 refine st ?_
 have hr:=Option.some.inj hF
 subst hr
 exact ⟨.inr rfl,[.int .i64 7],q1y rfl (q1e),.int .i64 7,⟨[],0⟩,Nat.le_refl _,Gh.toR (.int .i64 7) rfl,rfl,BU.h⟩
 replace hF:=q0f h3 hF
 refine st ?_
 refine WPU.skip ?_
 refine sr ?_
 refine sd ?_
 refine WPU.ghost (tm':=fr 40 [(1,.ptr 0 0 0),(3,.int .i64 0)]) (Gh.sub ⟨rfl,rfl,trivial⟩) (Nat.zero_le _) ?_
 refine WPU.loopK (fun m tm σ=>∃ z6:Int,q4f p1 n m z6=some r∧tm=fr 40 [(1,.ptr 0 0 0),(3,.int .i64 z6)]∧σ=⟨[(0,.row [.isl false (List.map cGNode p1.Nodes)] 25)],1⟩) (fun tm σ=>q6c=some r∧tm=fr 40 []∧σ=⟨[(0,.row [.isl false (List.map cGNode p1.Nodes)] 25)],1⟩) n ⟨0,hF,rfl,rfl⟩ ?_ ?_
 rintro _ _ ⟨hF,rfl,rfl⟩
 unfold q6c at hF
 refine sr ?_
 refine sd ?_
 refine WPU.ret ?_
 refine st ?_
 have hr:=Option.some.inj hF
 subst hr
 exact ⟨.inr rfl,[.int .i64 0],q1y rfl (q1e),.int .i64 0,⟨[],0⟩,Nat.le_refl _,Gh.toR (.int .i64 0) rfl,rfl,BU.h⟩
 rintro m1 _ _ ⟨z6,hF,rfl,rfl⟩
 rcases m1 with _ | m1
 cases hF
 unfold q4f at hF
 refine sr ?_
 refine RS.q (u:=.ptr 0 0 0) rfl (q0u und25 rfl (q01 inf23) rfl rfl rfl) (RS.q (u:=.isl false (List.map cGNode p1.Nodes)) rfl (q06 und23 rfl rfl rfl rfl) (RS.q rfl (q10 rfl rfl rfl (q0w cGNode und23)) (RS.q rfl (q04 rfl rfl (q1n _ _ _) rfl) ?_)))
 refine sd ?_
 refine WPU.condS (t:=(decide (z6<(p1.Nodes.length:Int)))) rfl (fun h7=>?_) (fun h7=>?_)
 replace hF:=q0g h7 hF
 refine st ?_
 refine WPU.skip ?_
 refine st ?_
 refine WPU.block ?_
 refine st ?_
 obtain ⟨x8,h9,hF⟩:=q00 hF
 refine sr ?_
 refine RS.q (u:=.ptr 0 0 0) rfl (q0u und25 rfl (q01 inf23) rfl rfl rfl) (RS.q (u:=.isl false (List.map cGNode p1.Nodes)) rfl (q06 und23 rfl rfl rfl rfl) (RS.mv rfl rfl rfl rfl (RS.q (u:=.iptr (cGNode x8)) rfl (q1t rfl rfl (q2g cGNode und23 (q01 inf43) q1b h9 rfl)) (RS.q (u:=.iptr (cGNode x8)) rfl (q68 und43 rfl (q01 inf3) rfl rfl) (RS.q (u:=.int .i64 x8.Typex) rfl (q3h und3 rfl rfl rfl) (RS.q rfl (q04 rfl rfl (q1n _ _ _) rfl) ?_))))))
 refine sd ?_
 refine WPU.condS (t:=(decide (x8.Typex<0))) rfl (fun h10=>?_) (fun h10=>?_)
 replace hF:=q0g h10 hF
 refine sr ?_
 refine sd ?_
 refine WPU.ret ?_
 refine st ?_
 have hr:=Option.some.inj hF
 subst hr
 exact ⟨.inr rfl,[.int .i64 2],q1y rfl (q1e),.int .i64 2,⟨[],0⟩,Nat.le_refl _,Gh.toR (.int .i64 2) rfl,rfl,BU.h⟩
 replace hF:=q0f h10 hF
 refine st ?_
 refine WPU.skip ?_
 refine st ?_
 obtain ⟨x11,h12,hF⟩:=q00 hF
 obtain ⟨r13,h14,hF⟩:=q00 hF
 refine WPU.drawE Try.tb_ok [] (by kernel_rfl) ?_
 refine RD.q (u:=.ptr 0 0 0) rfl (q0u und25 rfl (q01 inf23) rfl rfl rfl) (RD.q (u:=.isl false (List.map cGNode p1.Nodes)) rfl (q06 und23 rfl rfl rfl rfl) (RD.mv rfl rfl rfl rfl (RD.q (u:=.iptr (cGNode x11)) rfl (q1t rfl rfl (q2g cGNode und23 (q01 inf43) q1b h12 rfl)) (RD.q (u:=.iptr [.isl false (List.map cGArc x11.Arcs)]) rfl (q68 und43 rfl (q01 inf41) rfl rfl) (RD.q (u:=.isl false (List.map cGArc x11.Arcs)) rfl (q3h und41 rfl rfl rfl) (RD.q (u:=.ptr 0 0 0) rfl (q0u und25 rfl (q01 inf23) rfl rfl rfl) (RD.q (u:=.isl false (List.map cGNode p1.Nodes)) rfl (q06 und23 rfl rfl rfl rfl) ?_)))))))
 refine RD.q rfl (q10 rfl rfl rfl (q0w cGNode und23)) (RD.free (u:=.int .i64 r13) (args:=[.isl false (List.map cGArc x11.Arcs),.int .i64 (p1.Nodes.length:Int)]) rfl (q02 rfl rfl fn46 hb46 rfl rfl) (fun s=>ref07_arcs_ok n x11.Arcs (p1.Nodes.length:Int) r13 h14 s) rfl rfl (RD.as rfl rfl rfl rfl ?_))
 refine RD.done ⟨by kernel_rfl,trivial,?_⟩
 refine sr ?_
 refine RS.q rfl (q04 rfl rfl (q63 _ _ _) rfl) ?_
 refine sd ?_
 refine WPU.condS (t:=(r13 != 0)) rfl (fun h15=>?_) (fun h15=>?_)
 replace hF:=q0g h15 hF
 refine sr ?_
 refine sd ?_
 refine WPU.ret ?_
 refine st ?_
 have hr:=Option.some.inj hF
 subst hr
 exact ⟨.inr rfl,[.int .i64 r13],q1y rfl (q1e),.int .i64 r13,⟨[],0⟩,Nat.le_refl _,Gh.toR (.int .i64 r13) rfl,rfl,BU.h⟩
 replace hF:=q0f h15 hF
 refine st ?_
 refine WPU.skip ?_
 refine sr ?_
 refine RS.q rfl (q04 rfl rfl (q2y _ _ _) rfl) ?_
 refine sd ?_
 exact ⟨m1,_,_,Nat.lt_succ_self _,⟨(IntKind.i64.wrap (z6+1)),hF,rfl,rfl⟩,(Nat.zero_le _),Gh.toC (n1:=1) ⟨rfl,rfl,trivial⟩ rfl (Nat.zero_le _) (by simp)⟩
 replace hF:=q0f h7 hF
 refine st ?_
 refine WPU.exit ?_
 refine st ?_
 exact ⟨_,_,⟨hF,rfl,rfl⟩,(Nat.zero_le _),Gh.toC (n1:=1) trivial rfl (Nat.zero_le _) (by simp)⟩
theorem ref07_form_ok (n:Nat) (p1:GFS) (r:Int) (hF:q6f n p1=some r) (σ:Sg):EvU Try.prog 33 [.agg [.isl false (List.map cGNode p1.Nodes)]] σ (fun u σ'=>u = .int .i64 r∧σ'=σ) :=
 EvU.pure1C (ref07_form_0 n p1 r hF) σ
def q5h (n:Nat) (p1:GFS):Option (GFS×Int) :=
 bindO (q6f n p1) fun r2 =>
 cond (r2 != 0)
  (some ((GFS.mk []),r2))
  (bindO (q5i n p1 0) fun r5 =>
  some (r5,0))
theorem ref07_Canon_0 (n:Nat) (p1:GFS) (r:GFS×Int) (hF:q5h n p1=some r):EvU Try.prog 18 [.agg [.isl false (List.map cGNode p1.Nodes)]] ⟨[],0⟩ (fun u _=>u = .tup [.agg [.isl false (List.map cGNode r.1.Nodes)],.int .i64 r.2]∧Bel 0 u):=by
 unfold q5h at hF
 refine EvU.of_body Try.tb_ok fn18 rfl ?_
 refine WPU.ghost (tm':=fr 13 [(0,.agg [.isl false (List.map cGNode p1.Nodes)])]) (Gh.start (Nat.le_of_ble_eq_true rfl)) (Nat.zero_le _) ?_
 refine sr ?_
 refine RS.q (u:=.ptr 0 0 0) (σ':=⟨[(0,.row [.isl false (List.map cGNode p1.Nodes)] 25)],1⟩) rfl (q2z rfl rfl rfl) (RS.q (u:=.ptr 1 0 0) (σ':=⟨[(1,.row [.nils] 25),(0,.row [.isl false (List.map cGNode p1.Nodes)] 25)],2⟩) rfl (q15 inf25 rfl rfl) ?_)
 refine sd ?_
 obtain ⟨r2,h3,hF⟩:=q00 hF
 refine sr ?_
 refine RS.q (u:=.agg [.isl false (List.map cGNode p1.Nodes)]) rfl (q0q und25 rfl (q01 inf25) rfl rfl rfl) (RS.call (u:=.int .i64 r2) (args:=[.agg [.isl false (List.map cGNode p1.Nodes)]]) rfl (q02 rfl rfl fn33 hb33 rfl rfl) (ref07_form_ok n p1 r2 h3 _) rfl rfl ?_)
 refine se ?_
 refine RS.q rfl (q04 rfl rfl (q63 _ _ _) rfl) ?_
 refine sd ?_
 refine WPU.condS (t:=(r2 != 0)) rfl (fun h4=>?_) (fun h4=>?_)
 replace hF:=q0g h4 hF
 refine sr ?_
 refine RS.q (u:=.agg [.nils]) rfl (q6q bd25 rfl rfl rfl) (RS.mv rfl rfl rfl rfl (RS.opn (u:=.junk) (σ':=⟨[(1,.row [.nils] 25),(0,.row [.isl false (List.map cGNode p1.Nodes)] 25)],2⟩) rfl (q0s (q01 inf25) rfl rfl rfl rfl rfl rfl rfl rfl) rfl ?_))
 refine sd ?_
 refine WPU.ret ?_
 refine st ?_
 have hr:=Option.some.inj hF
 subst hr
 exact ⟨.inr rfl,[.agg [.nils],.int .i64 r2],qa9 (q0q und25 rfl (q01 inf25) rfl rfl rfl) (q1y rfl (q1e)),.tup [.agg [.isl false []],.int .i64 r2],⟨[],0⟩,Nat.le_refl _,Gh.trans (Gh.wk (.cons (.tup (.cons (.agg (.cons (.nil false) .nil)) (.cons (.refl _) .nil))) .nil)) (Gh.toR (.tup [.agg [.isl false []],.int .i64 r2]) rfl),rfl,BU.h⟩
 replace hF:=q0f h4 hF
 refine st ?_
 refine WPU.skip ?_
 refine st ?_
 obtain ⟨r5,h6,hF⟩:=q00 hF
 refine sr ?_
 refine RS.q (u:=.agg [.isl false (List.map cGNode p1.Nodes)]) rfl (q0q und25 rfl (q01 inf25) rfl rfl rfl) (RS.call (u:=.agg [.isl false (List.map cGNode r5.Nodes)]) (args:=[.agg [.isl false (List.map cGNode p1.Nodes)],.int .i64 0]) rfl (q02 rfl rfl fn34 hb34 rfl rfl) (q9i n p1 0 r5 h6 _) rfl rfl (RS.opn (u:=.junk) (σ':=⟨[(1,.row [.isl false (List.map cGNode r5.Nodes)] 25),(0,.row [.isl false (List.map cGNode p1.Nodes)] 25)],2⟩) rfl (q0s (q01 inf25) rfl rfl rfl rfl rfl rfl rfl rfl) rfl ?_))
 refine sd ?_
 refine WPU.ret ?_
 refine st ?_
 have hr:=Option.some.inj hF
 subst hr
 exact ⟨.inr rfl,[.agg [.isl false (List.map cGNode r5.Nodes)],.int .i64 0],qa9 (q0q und25 rfl (q01 inf25) rfl rfl rfl) (q1y rfl (q1e)),.tup [.agg [.isl false (List.map cGNode r5.Nodes)],.int .i64 0],⟨[],0⟩,Nat.le_refl _,Gh.toR (.tup [.agg [.isl false (List.map cGNode r5.Nodes)],.int .i64 0]) rfl,rfl,BU.h⟩
theorem ref07_Canon_ok (n:Nat) (p1:GFS) (r:GFS×Int) (hF:q5h n p1=some r) (σ:Sg):EvU Try.prog 18 [.agg [.isl false (List.map cGNode p1.Nodes)]] σ (fun u σ'=>u = .tup [.agg [.isl false (List.map cGNode r.1.Nodes)],.int .i64 r.2]∧σ'=σ) :=
 EvU.pure1C (ref07_Canon_0 n p1 r hF) σ
def q6x (n:Nat) (p1:GFS) (p2:Int):Option (GFS) :=
 bindO (q2x n p1 p2) fun r3 =>
 some r3
theorem graph_Sub_0 (n:Nat) (p1:GFS) (p2:Int) (r:GFS) (hF:q6x n p1 p2=some r):EvU Try.prog 20 [.agg [.isl false (List.map cGNode p1.Nodes)],.int .i64 p2] ⟨[],0⟩ (fun u _=>u = .agg [.isl false (List.map cGNode r.Nodes)]∧Bel 0 u):=by
 unfold q6x at hF
 refine EvU.of_body Try.tb_ok fn20 rfl ?_
 refine WPU.ghost (tm':=fr 8 [(0,.agg [.isl false (List.map cGNode p1.Nodes)]),(1,.int .i64 p2)]) (Gh.start (Nat.le_of_ble_eq_true rfl)) (Nat.zero_le _) ?_
 refine sr ?_
 refine RS.q (u:=.ptr 0 0 0) (σ':=⟨[(0,.row [.isl false (List.map cGNode p1.Nodes)] 25)],1⟩) rfl (q2z rfl rfl rfl) (RS.q (u:=.ptr 1 0 0) (σ':=⟨[(1,.row [.nils] 25),(0,.row [.isl false (List.map cGNode p1.Nodes)] 25)],2⟩) rfl (q15 inf25 rfl rfl) ?_)
 refine sd ?_
 obtain ⟨r3,h4,hF⟩:=q00 hF
 refine sr ?_
 refine RS.q (u:=.agg [.isl false (List.map cGNode p1.Nodes)]) rfl (q0q und25 rfl (q01 inf25) rfl rfl rfl) (RS.mv rfl rfl rfl rfl (RS.call (u:=.agg [.isl false (List.map cGNode r3.Nodes)]) (args:=[.agg [.isl false (List.map cGNode p1.Nodes)],.int .i64 p2]) rfl (q02 rfl rfl fn31 hb31 rfl rfl) (q6n n p1 p2 r3 h4 _) rfl rfl (RS.opn (u:=.junk) (σ':=⟨[(1,.row [.isl false (List.map cGNode r3.Nodes)] 25),(0,.row [.isl false (List.map cGNode p1.Nodes)] 25)],2⟩) rfl (q0s (q01 inf25) rfl rfl rfl rfl rfl rfl rfl rfl) rfl ?_)))
 refine sd ?_
 refine WPU.ret ?_
 refine st ?_
 have hr:=Option.some.inj hF
 subst hr
 exact ⟨.inr rfl,[.agg [.isl false (List.map cGNode r3.Nodes)]],qa9 (q0q und25 rfl (q01 inf25) rfl rfl rfl) (q1e),.agg [.isl false (List.map cGNode r3.Nodes)],⟨[],0⟩,Nat.le_refl _,Gh.toR (.agg [.isl false (List.map cGNode r3.Nodes)]) rfl,rfl,BU.h⟩
theorem q43 (n:Nat) (p1:GFS) (p2:Int) (r:GFS) (hF:q6x n p1 p2=some r) (σ:Sg):EvU Try.prog 20 [.agg [.isl false (List.map cGNode p1.Nodes)],.int .i64 p2] σ (fun u σ'=>u = .agg [.isl false (List.map cGNode r.Nodes)]∧σ'=σ) :=
 EvU.pure1C (graph_Sub_0 n p1 p2 r hF) σ
def q80 (n:Nat) (p1:GFS) (p2:Int):Option (GFS) :=
 bindO (q5i n p1 p2) fun r3 =>
 some r3
theorem ref07_Sub_0 (n:Nat) (p1:GFS) (p2:Int) (r:GFS) (hF:q80 n p1 p2=some r):EvU Try.prog 21 [.agg [.isl false (List.map cGNode p1.Nodes)],.int .i64 p2] ⟨[],0⟩ (fun u _=>u = .agg [.isl false (List.map cGNode r.Nodes)]∧Bel 0 u):=by
 unfold q80 at hF
 refine EvU.of_body Try.tb_ok fn21 rfl ?_
 refine WPU.ghost (tm':=fr 8 [(0,.agg [.isl false (List.map cGNode p1.Nodes)]),(1,.int .i64 p2)]) (Gh.start (Nat.le_of_ble_eq_true rfl)) (Nat.zero_le _) ?_
 refine sr ?_
 refine RS.q (u:=.ptr 0 0 0) (σ':=⟨[(0,.row [.isl false (List.map cGNode p1.Nodes)] 25)],1⟩) rfl (q2z rfl rfl rfl) (RS.q (u:=.ptr 1 0 0) (σ':=⟨[(1,.row [.nils] 25),(0,.row [.isl false (List.map cGNode p1.Nodes)] 25)],2⟩) rfl (q15 inf25 rfl rfl) ?_)
 refine sd ?_
 obtain ⟨r3,h4,hF⟩:=q00 hF
 refine sr ?_
 refine RS.q (u:=.agg [.isl false (List.map cGNode p1.Nodes)]) rfl (q0q und25 rfl (q01 inf25) rfl rfl rfl) (RS.mv rfl rfl rfl rfl (RS.call (u:=.agg [.isl false (List.map cGNode r3.Nodes)]) (args:=[.agg [.isl false (List.map cGNode p1.Nodes)],.int .i64 p2]) rfl (q02 rfl rfl fn34 hb34 rfl rfl) (q9i n p1 p2 r3 h4 _) rfl rfl (RS.opn (u:=.junk) (σ':=⟨[(1,.row [.isl false (List.map cGNode r3.Nodes)] 25),(0,.row [.isl false (List.map cGNode p1.Nodes)] 25)],2⟩) rfl (q0s (q01 inf25) rfl rfl rfl rfl rfl rfl rfl rfl) rfl ?_)))
 refine sd ?_
 refine WPU.ret ?_
 refine st ?_
 have hr:=Option.some.inj hF
 subst hr
 exact ⟨.inr rfl,[.agg [.isl false (List.map cGNode r3.Nodes)]],qa9 (q0q und25 rfl (q01 inf25) rfl rfl rfl) (q1e),.agg [.isl false (List.map cGNode r3.Nodes)],⟨[],0⟩,Nat.le_refl _,Gh.toR (.agg [.isl false (List.map cGNode r3.Nodes)]) rfl,rfl,BU.h⟩
theorem ref07_Sub_ok (n:Nat) (p1:GFS) (p2:Int) (r:GFS) (hF:q80 n p1 p2=some r) (σ:Sg):EvU Try.prog 21 [.agg [.isl false (List.map cGNode p1.Nodes)],.int .i64 p2] σ (fun u σ'=>u = .agg [.isl false (List.map cGNode r.Nodes)]∧σ'=σ) :=
 EvU.pure1C (ref07_Sub_0 n p1 p2 r hF) σ
def q78 (p1:Int) (l12:List GArc):Option (GNode) :=
 some (GNode.mk p1 l12)
def q67 (p1:Int) (p2:List Int):Nat→Int→(List GArc)→Option (GNode)
 | 0,_,_=>none
 | m1+1,z9,l10 =>
  cond (decide ((IntKind.i64.wrap (z9+1))<(p2.length:Int)))
   (bindO (idxO p2 z9) fun x15 =>
   bindO (idxO p2 (IntKind.i64.wrap (z9+1))) fun x17 =>
   needO ((l10.length+1)*16≤140737488355328∧l10.length+1≤140737488355328) (
   (q67 p1 p2 m1) (IntKind.i64.wrap (z9+2)) (l10++[(GArc.mk x15 x17)])))
   (q78 p1 l10)
def q1v (n:Nat) (p1:Int) (p2:List Int):Option (GNode) :=
 q67 p1 p2 n 0 ([]:List GArc)
theorem law07_node_0 (n:Nat) (p1:Int) (p2:List Int) (r:GNode) (hF:q1v n p1 p2=some r):EvU Try.prog 29 [.int .i64 p1,.isl false (List.map (cI .i64) p2)] ⟨[],0⟩ (fun u _=>u = .agg (cGNode r)∧Bel 0 u):=by
 unfold q1v at hF
 refine EvU.of_body Try.tb_ok fn29 rfl ?_
 refine WPU.ghost (tm':=fr 32 [(0,.int .i64 p1),(1,.isl false (List.map (cI .i64) p2))]) (Gh.start (Nat.le_of_ble_eq_true rfl)) (Nat.zero_le _) ?_
 refine sr ?_
 refine RS.q (u:=.ptr 0 0 0) (σ':=⟨[(0,.row [.int .i64 0,.nils] 43)],1⟩) rfl (q15 inf43 rfl rfl) ?_
 refine se ?_
 refine RS.q (u:=.agg [.int .i64 p1,.nils]) rfl (q6q bd43 rfl rfl rfl) (RS.q (u:=.ptr 1 0 0) (σ':=⟨[(1,.row [.int .i64 0,.nils] 43),(0,.row [.int .i64 0,.nils] 43)],2⟩) rfl (q15 inf43 rfl rfl) (RS.opn (u:=.junk) (σ':=⟨[(1,.row [.int .i64 p1,.nils] 43),(0,.row [.int .i64 0,.nils] 43)],2⟩) rfl (q0s (q01 inf43) rfl rfl rfl rfl rfl rfl rfl rfl) rfl ?_))
 refine se ?_
 refine sd ?_
 refine WPU.ghost (tm':=fr 32 [(1,.isl false (List.map (cI .i64) p2)),(4,.ptr 0 0 0),(5,.ptr 1 0 0),(6,.int .i64 0)]) (σ':=⟨[(2,.vec (List.map cGArc ([]:List GArc)).flatten 45 2 0),(1,.row [.int .i64 p1,.vl 2 0 0 (([]:List GArc).length)] 43),(0,.row [.int .i64 0,.nils] 43)],3⟩) (Gh.trans (Gh.nilC 1 1 45 2 (by decide) (Nat.zero_le _) rfl rfl) (Gh.eqS ⟨rfl,rfl,rfl,rfl,trivial⟩ rfl)) (Nat.zero_le _) ?_
 refine WPU.ghost (tm':=fr 32 [(1,.isl false (List.map (cI .i64) p2)),(4,.ptr 0 0 0),(5,.ptr 1 0 0),(6,.int .i64 0)]) (Gh.sub ⟨rfl,rfl,rfl,rfl,trivial⟩) (Nat.zero_le _) ?_
 refine WPU.loopK (fun m tm σ=>∃ z9:Int,∃ l10:List GArc,∃ t11:Nat,q67 p1 p2 m z9 l10=some r∧tm=fr 32 [(1,.isl false (List.map (cI .i64) p2)),(4,.ptr 0 0 0),(5,.ptr 1 0 0),(6,.int .i64 z9)]∧σ=⟨[(2,.vec (List.map cGArc l10).flatten 45 2 t11),(1,.row [.int .i64 p1,.vl 2 t11 0 l10.length] 43),(0,.row [.int .i64 0,.nils] 43)],3⟩) (fun tm σ=>∃ l12:List GArc,∃ t13:Nat,q78 p1 l12=some r∧tm=fr 32 [(4,.ptr 0 0 0),(5,.ptr 1 0 0)]∧σ=⟨[(2,.vec (List.map cGArc l12).flatten 45 2 t13),(1,.row [.int .i64 p1,.vl 2 t13 0 l12.length] 43),(0,.row [.int .i64 0,.nils] 43)],3⟩) n ⟨0,([]:List GArc),0,hF,rfl,rfl⟩ ?_ ?_
 rintro _ _ ⟨l12,t13,hF,rfl,rfl⟩
 unfold q78 at hF
 refine sr ?_
 refine RS.q (u:=.agg [.int .i64 p1,.vl 2 t13 0 l12.length]) rfl (q0q und43 rfl (q01 inf43) rfl rfl rfl) (RS.opn (u:=.junk) (σ':=⟨[(2,.vec (List.map cGArc l12).flatten 45 2 t13),(1,.row [.int .i64 p1,.vl 2 t13 0 l12.length] 43),(0,.row [.int .i64 p1,.vl 2 t13 0 l12.length] 43)],3⟩) rfl (q0s (q01 inf43) rfl rfl rfl rfl rfl rfl rfl rfl) rfl ?_)
 refine sd ?_
 refine WPU.ret ?_
 refine st ?_
 have hr:=Option.some.inj hF
 subst hr
 exact ⟨.inr rfl,[.agg [.int .i64 p1,.vl 2 t13 0 l12.length]],qa9 (q0q und43 rfl (q01 inf43) rfl rfl rfl) (q1e),.agg [.int .i64 p1,.isl false (List.map cGArc l12)],⟨[],0⟩,Nat.le_refl _,Gh.trans (Gh.fz (tm':=[.agg [.int .i64 p1,.isl false (List.map cGArc l12)]]) (h':=[(1,.row [.int .i64 p1,.isl false (List.map cGArc l12)] 43),(0,.row [.int .i64 p1,.isl false (List.map cGArc l12)] 43)]) 2 (.vec (List.map cGArc l12).flatten 45 2 t13) 2 rfl (by simp) (by simp only [oneU,q07,q03,q0k,q09,q0n,q0d,q0c,q0b,q0a,q08,q0l,q0m,q0j,q0o,q1j,junkT,fz_vl q0e]) (by simp only [fzH,fzB,ug,Nat.beq,cond_true,cond_false,oneU,q07,q03,q0k,q09,q0n,q0d,q0c,q0b,q0a,q08,q0l,q0m,q0j,q0o,q1j,junkT,fz_vl q0e])) (Gh.toR (.agg [.int .i64 p1,.isl false (List.map cGArc l12)]) rfl),rfl,BU.h⟩
 rintro m1 _ _ ⟨z9,l10,t11,hF,rfl,rfl⟩
 rcases m1 with _ | m1
 cases hF
 unfold q67 at hF
 refine sr ?_
 refine RS.q rfl (q04 rfl rfl (q2y _ _ _) rfl) (RS.mv rfl rfl rfl rfl (RS.q rfl (q10 rfl rfl rfl (q0w (cI .i64) und55)) (RS.q rfl (q04 rfl rfl (q1n _ _ _) rfl) ?_)))
 refine sd ?_
 refine WPU.condS (t:=(decide ((IntKind.i64.wrap (z9+1))<(p2.length:Int)))) rfl (fun h14=>?_) (fun h14=>?_)
 replace hF:=q0g h14 hF
 refine st ?_
 refine WPU.skip ?_
 refine st ?_
 refine WPU.block ?_
 refine st ?_
 obtain ⟨x15,h16,hF⟩:=q00 hF
 obtain ⟨x17,h18,hF⟩:=q00 hF
 obtain ⟨h19,hF⟩:=q1o hF
 refine WPU.drawE Try.tb_ok [(0,12),(1,12)] (by kernel_rfl) ?_
 refine RD.q (u:=.ptr 1 0 1) rfl (q0u und43 rfl (q01 inf41) rfl rfl rfl) (RD.q (u:=.vl 2 t11 0 l10.length) rfl (q06 und41 rfl rfl rfl rfl) ?_)
 repeat refine RD.mv rfl rfl rfl rfl ?_
 refine RD.q (u:=.iptr [.int .i64 x15]) rfl (q1t rfl rfl (q2g (cI .i64) und55 (q01 inf3) (q52 .i64) h16 rfl)) (RD.q (u:=.int .i64 x15) rfl (q3h und3 rfl rfl rfl) ?_)
 repeat refine RD.mv rfl rfl rfl rfl ?_
 refine RD.q rfl (q04 rfl rfl (q2y _ _ _) rfl) (RD.q (u:=.iptr [.int .i64 x17]) rfl (q1t rfl rfl (q2g (cI .i64) und55 (q01 inf3) (q52 .i64) h18 rfl)) (RD.q (u:=.int .i64 x17) rfl (q3h und3 rfl rfl rfl) (RD.q (u:=.agg [.int .i64 x15,.int .i64 x17]) rfl (q6q bd45 rfl rfl rfl) (RD.act (u:=.sl 3 0 1 1) (σ':=⟨[(3,.row [.int .i64 x15,.int .i64 x17] 45),(2,.vec (List.map cGArc l10).flatten 45 2 t11),(1,.row [.int .i64 p1,.vl 2 t11 0 l10.length] 43),(0,.row [.int .i64 0,.nils] 43)],4⟩) rfl (q26 und41 inf45 rfl rfl rfl rfl rfl rfl rfl) rfl rfl (RD.act (u:=.vl 2 (t11+1) 0 ((l10++[(GArc.mk x15 x17)]).length)) (σ':=⟨[(3,.row [.int .i64 x15,.int .i64 x17] 45),(2,.vec (List.map cGArc (l10++[(GArc.mk x15 x17)])).flatten 45 2 (t11+1)),(1,.row [.int .i64 p1,.vl 2 t11 0 l10.length] 43),(0,.row [.int .i64 0,.nils] 43)],4⟩) rfl (q7x rfl rfl rfl rfl (q8j cGArc ([(GArc.mk x15 x17)]) und41 und41 inf45 rfl q0e rfl (q7h cGArc [(GArc.mk x15 x17)] rfl rfl rfl rfl) h19)) rfl rfl (RD.q (u:=.ptr 1 0 1) rfl (q0u und43 rfl (q01 inf41) rfl rfl rfl) (RD.actn (u:=.junk) (σ':=⟨[(3,.row [.int .i64 x15,.int .i64 x17] 45),(2,.vec (List.map cGArc (l10++[(GArc.mk x15 x17)])).flatten 45 2 (t11+1)),(1,.row [.int .i64 p1,.vl 2 (t11+1) 0 ((l10++[(GArc.mk x15 x17)]).length)] 43),(0,.row [.int .i64 0,.nils] 43)],4⟩) rfl (q0s (q01 inf41) rfl rfl rfl rfl rfl rfl rfl rfl) rfl ?_)))))))
 refine RD.done ⟨by kernel_rfl,⟨q0u und43 rfl (q01 inf41) rfl rfl rfl,⟨q06 und41 rfl rfl rfl rfl,trivial⟩⟩,?_⟩
 refine sr ?_
 refine RS.q rfl (q04 rfl rfl (q2y _ _ _) rfl) ?_
 refine sd ?_
 exact ⟨m1,_,_,Nat.lt_succ_self _,⟨(IntKind.i64.wrap (z9+2)),(l10++[(GArc.mk x15 x17)]),(t11+1),hF,rfl,rfl⟩,(Nat.zero_le _),Gh.toC (n1:=3) ⟨rfl,rfl,rfl,rfl,trivial⟩ rfl (Nat.zero_le _) (by simp)⟩
 replace hF:=q0f h14 hF
 refine st ?_
 refine WPU.exit ?_
 refine st ?_
 exact ⟨_,_,⟨l10,t11,hF,rfl,rfl⟩,(Nat.zero_le _),Gh.toC (n1:=3) ⟨rfl,rfl,trivial⟩ rfl (Nat.zero_le _) (by simp)⟩
theorem q05 (n:Nat) (p1:Int) (p2:List Int) (r:GNode) (hF:q1v n p1 p2=some r) (σ:Sg):EvU Try.prog 29 [.int .i64 p1,.isl false (List.map (cI .i64) p2)] σ (fun u σ'=>u = .agg (cGNode r)∧σ'=σ) :=
 EvU.pure1C (law07_node_0 n p1 p2 r hF) σ
def q5n (n:Nat) (p1:List GNode):Option (GFS) :=
 some (GFS.mk p1)
theorem law07_of_0 (n:Nat) (p1:List GNode) (r:GFS) (hF:q5n n p1=some r):EvU Try.prog 32 [.isl false (List.map cGNode p1)] ⟨[],0⟩ (fun u _=>u = .agg [.isl false (List.map cGNode r.Nodes)]∧Bel 0 u):=by
 unfold q5n at hF
 refine EvU.of_body Try.tb_ok fn32 rfl ?_
 refine WPU.ghost (tm':=fr 5 [(0,.isl false (List.map cGNode p1))]) (Gh.start (Nat.le_of_ble_eq_true rfl)) (Nat.zero_le _) ?_
 refine sr ?_
 refine RS.q (u:=.ptr 0 0 0) (σ':=⟨[(0,.row [.nils] 25)],1⟩) rfl (q15 inf25 rfl rfl) ?_
 refine se ?_
 refine RS.q (u:=.agg [.isl false (List.map cGNode p1)]) rfl (q6q bd25 rfl rfl rfl) (RS.opn (u:=.junk) (σ':=⟨[(0,.row [.isl false (List.map cGNode p1)] 25)],1⟩) rfl (q0s (q01 inf25) rfl rfl rfl rfl rfl rfl rfl rfl) rfl ?_)
 refine sd ?_
 refine WPU.ret ?_
 refine st ?_
 have hr:=Option.some.inj hF
 subst hr
 exact ⟨.inr rfl,[.agg [.isl false (List.map cGNode p1)]],qa9 (q0q und25 rfl (q01 inf25) rfl rfl rfl) (q1e),.agg [.isl false (List.map cGNode p1)],⟨[],0⟩,Nat.le_refl _,Gh.toR (.agg [.isl false (List.map cGNode p1)]) rfl,rfl,BU.h⟩
theorem q1c (n:Nat) (p1:List GNode) (r:GFS) (hF:q5n n p1=some r) (σ:Sg):EvU Try.prog 32 [.isl false (List.map cGNode p1)] σ (fun u σ'=>u = .agg [.isl false (List.map cGNode r.Nodes)]∧σ'=σ) :=
 EvU.pure1C (law07_of_0 n p1 r hF) σ
def q29 (n:Nat)  : Option (Bool) :=
 bindO (q1v n 1 ([0,2,1,1])) fun r1 =>
 bindO (q1v n 2 []) fun r3 =>
 bindO (q1v n 3 ([0,1])) fun r5 =>
 bindO (q5n n ([r1,r3,r5])) fun r7 =>
 bindO (q5e n r7) fun r9 =>
 bindO (q1v n 4 ([7,2,3,1])) fun r11 =>
 bindO (q1v n 5 []) fun r13 =>
 bindO (q1v n 6 ([2,0])) fun r15 =>
 bindO (q5n n ([r11,r13,r15])) fun r17 =>
 bindO (q5e n r17) fun r19 =>
 bindO (cond (r9.2 != 0)
  (some true)
  (cond (r19.2 != 0)
   (some true)
   (bindO (q1v n 1 ([0,1,1,2])) fun r23 =>
   bindO (q1v n 3 ([0,2])) fun r25 =>
   bindO (q1v n 2 []) fun r27 =>
   bindO (q5n n ([r23,r25,r27])) fun r29 =>
   bindO (q32 n (GFS.mk r9.1.Nodes) r29) fun r31 =>
   cond (!r31)
    (some true)
    (bindO (q1v n 4 ([3,1,7,2])) fun r34 =>
    bindO (q1v n 5 []) fun r36 =>
    bindO (q1v n 6 ([2,0])) fun r38 =>
    bindO (q5n n ([r34,r36,r38])) fun r40 =>
    bindO (q32 n (GFS.mk r19.1.Nodes) r40) fun r42 =>
    some (!r42))))) fun b44 =>
 cond b44
  (some false)
  (bindO (q5e n (GFS.mk [])) fun r47 =>
  bindO (cond (r47.2 == 1)
   (bindO (q6x n (GFS.mk r9.1.Nodes) 1) fun r50 =>
   bindO (q1v n 3 ([0,1])) fun r52 =>
   bindO (q1v n 2 []) fun r54 =>
   bindO (q5n n ([r52,r54])) fun r56 =>
   bindO (q32 n r50 r56) fun r58 =>
   cond r58
    (bindO (q1v n 1 ([5,0])) fun r61 =>
    bindO (q5n n ([r61])) fun r63 =>
    bindO (q3b n r63) fun r65 =>
    cond r65
     (bindO (q3b n (GFS.mk r9.1.Nodes)) fun r68 =>
     cond (!r68)
      (bindO (q6w n 4) fun r71 =>
      bindO (q1v n 4 []) fun r73 =>
      bindO (q5n n ([r73])) fun r75 =>
      bindO (q32 n r71 r75) fun r77 =>
      cond r77
       (bindO (q75 n (GFS.mk r9.1.Nodes) (GFS.mk r9.1.Nodes)) fun r80 =>
       cond r80
        (bindO (q6w n 9) fun r83 =>
        bindO (q4x n r83 (GFS.mk r9.1.Nodes)) fun r85 =>
        some (r85 == (-1)))
        (some false))
       (some false))
      (some false))
     (some false))
    (some false))
   (some false)) fun b87 =>
  some b87)
theorem q8i (n:Nat)  (r:Bool) (hF:q29 n  = some r):EvU Try.prog 16 [] ⟨[],0⟩ (fun u _=>u = .bool r∧Bel 0 u):=by
 unfold q29 at hF
 refine EvU.of_body Try.tb_ok fn16 rfl ?_
 refine WPU.ghost (tm':=fr 106 []) (Gh.start (Nat.le_of_ble_eq_true rfl)) (Nat.zero_le _) ?_
 refine sr ?_
 refine sd ?_
 obtain ⟨r1,h2,hF⟩:=q00 hF
 obtain ⟨r3,h4,hF⟩:=q00 hF
 obtain ⟨r5,h6,hF⟩:=q00 hF
 obtain ⟨r7,h8,hF⟩:=q00 hF
 obtain ⟨r9,h10,hF⟩:=q00 hF
 refine sr ?_
 refine RS.q (u:=.sl 0 0 4 4) (σ':=⟨[(0,.row [.int .i64 0,.int .i64 2,.int .i64 1,.int .i64 1] 3)],1⟩) rfl (q26 und55 inf3 rfl rfl rfl rfl rfl rfl rfl) ?_
 refine RS.fcall (u:=.agg (cGNode r1)) (args:=[.int .i64 1,.sl 0 0 4 4]) (σ1:=⟨[],1⟩) rfl (q02 rfl rfl fn29 hb29 rfl rfl) (Gh.fz (tm':=[.int .i64 1,.isl false (List.map (cI .i64) ([0,2,1,1]))]) (h':=[]) 0 (.row [.int .i64 0,.int .i64 2,.int .i64 1,.int .i64 1] 3) 1 rfl (by simp) (by simp only [oneU,q07,q03,q0k,q09,q0n,q0d,q0c,q0b,q0a,q08,q0l,q0m,q0j,q0o,q1j,junkT,q20,q22,Nat.reduceLeDiff,Nat.reduceMul,List.length_cons,List.length_nil,Nat.reduceAdd]<;>simp only [chunks,List.take,List.drop,List.map,cI,cB,cS,cL]) (by simp only [fzH,fzB,ug,Nat.beq,cond_true,cond_false,oneU,q07,q03,q0k,q09,q0n,q0d,q0c,q0b,q0a,q08,q0l,q0m,q0j,q0o,q1j,junkT,q20,q22,Nat.reduceLeDiff,Nat.reduceMul,List.length_cons,List.length_nil,Nat.reduceAdd]<;>simp only [chunks,List.take,List.drop,List.map,cI,cB,cS,cL])) (Nat.le_of_ble_eq_true rfl) (q05 n 1 ([0,2,1,1]) r1 h2 _) rfl rfl ?_
 refine RS.call (u:=.agg (cGNode r3)) (args:=[.int .i64 2,.nils]) rfl (q02 rfl rfl fn29 hb29 rfl rfl) (EvU.wkA (args':=[.int .i64 2,.isl false []]) (.cons (.refl _) (.cons (.nil false) .nil)) (fun s=>q05 n 2 [] r3 h4 s) _) rfl rfl (RS.q (u:=.sl 1 0 2 2) (σ':=⟨[(1,.row [.int .i64 0,.int .i64 1] 3)],2⟩) rfl (q26 und55 inf3 rfl rfl rfl rfl rfl rfl rfl) ?_)
 refine RS.fcall (u:=.agg (cGNode r5)) (args:=[.int .i64 3,.sl 1 0 2 2]) (σ1:=⟨[],2⟩) rfl (q02 rfl rfl fn29 hb29 rfl rfl) (Gh.fz (tm':=[.int .i64 3,.isl false (List.map (cI .i64) ([0,1]))]) (h':=[]) 1 (.row [.int .i64 0,.int .i64 1] 3) 1 rfl (by simp) (by simp only [oneU,q07,q03,q0k,q09,q0n,q0d,q0c,q0b,q0a,q08,q0l,q0m,q0j,q0o,q1j,junkT,q20,q22,Nat.reduceLeDiff,Nat.reduceMul,List.length_cons,List.length_nil,Nat.reduceAdd]<;>simp only [chunks,List.take,List.drop,List.map,cI,cB,cS,cL]) (by simp only [fzH,fzB,ug,Nat.beq,cond_true,cond_false,oneU,q07,q03,q0k,q09,q0n,q0d,q0c,q0b,q0a,q08,q0l,q0m,q0j,q0o,q1j,junkT,q20,q22,Nat.reduceLeDiff,Nat.reduceMul,List.length_cons,List.length_nil,Nat.reduceAdd]<;>simp only [chunks,List.take,List.drop,List.map,cI,cB,cS,cL])) (Nat.le_of_ble_eq_true rfl) (q05 n 3 ([0,1]) r5 h6 _) rfl rfl ?_
 refine RS.q (u:=.sl 2 0 3 3) (σ':=⟨[(2,.row [.int .i64 r1.Typex,.isl false (List.map cGArc r1.Arcs),.int .i64 r3.Typex,.isl false (List.map cGArc r3.Arcs),.int .i64 r5.Typex,.isl false (List.map cGArc r5.Arcs)] 43)],3⟩) rfl (q26 und23 inf43 rfl rfl rfl rfl rfl rfl rfl) ?_
 refine RS.fcall (u:=.agg [.isl false (List.map cGNode r7.Nodes)]) (args:=[.sl 2 0 3 3]) (σ1:=⟨[],3⟩) rfl (q02 rfl rfl fn32 hb32 rfl rfl) (Gh.fz (tm':=[.isl false (List.map cGNode ([r1,r3,r5]))]) (h':=[]) 2 (.row [.int .i64 r1.Typex,.isl false (List.map cGArc r1.Arcs),.int .i64 r3.Typex,.isl false (List.map cGArc r3.Arcs),.int .i64 r5.Typex,.isl false (List.map cGArc r5.Arcs)] 43) 2 rfl (by simp) (by simp only [oneU,q07,q03,q0k,q09,q0n,q0d,q0c,q0b,q0a,q08,q0l,q0m,q0j,q0o,q1j,junkT,q20,q22,Nat.reduceLeDiff,Nat.reduceMul,List.length_cons,List.length_nil,Nat.reduceAdd]<;>simp only [chunks,List.take,List.drop,List.map,cGNode]) (by simp only [fzH,fzB,ug,Nat.beq,cond_true,cond_false,oneU,q07,q03,q0k,q09,q0n,q0d,q0c,q0b,q0a,q08,q0l,q0m,q0j,q0o,q1j,junkT,q20,q22,Nat.reduceLeDiff,Nat.reduceMul,List.length_cons,List.length_nil,Nat.reduceAdd]<;>simp only [chunks,List.take,List.drop,List.map,cGNode])) (Nat.le_of_ble_eq_true rfl) (q1c n ([r1,r3,r5]) r7 h8 _) rfl rfl ?_
 refine RS.call (u:=.tup [.agg [.isl false (List.map cGNode r9.1.Nodes)],.int .i64 r9.2]) (args:=[.agg [.isl false (List.map cGNode r7.Nodes)]]) rfl (q02 rfl rfl fn13 hb13 rfl rfl) (q6s n r7 r9 h10 _) rfl rfl (RS.mv rfl rfl rfl rfl (RS.q rfl (q8n rfl rfl) (RS.q rfl (q8n rfl rfl) (RS.q (u:=.ptr 3 0 0) (σ':=⟨[(3,.row [.nils] 25)],4⟩) rfl (q15 inf25 rfl rfl) (RS.opn (u:=.junk) (σ':=⟨[(3,.row [.isl false (List.map cGNode r9.1.Nodes)] 25)],4⟩) rfl (q0s (q01 inf25) rfl rfl rfl rfl rfl rfl rfl rfl) rfl ?_)))))
 refine sd ?_
 obtain ⟨r11,h12,hF⟩:=q00 hF
 obtain ⟨r13,h14,hF⟩:=q00 hF
 obtain ⟨r15,h16,hF⟩:=q00 hF
 obtain ⟨r17,h18,hF⟩:=q00 hF
 obtain ⟨r19,h20,hF⟩:=q00 hF
 refine sr ?_
 refine RS.q (u:=.sl 4 0 4 4) (σ':=⟨[(4,.row [.int .i64 7,.int .i64 2,.int .i64 3,.int .i64 1] 3),(3,.row [.isl false (List.map cGNode r9.1.Nodes)] 25)],5⟩) rfl (q26 und55 inf3 rfl rfl rfl rfl rfl rfl rfl) ?_
 refine RS.fcall (u:=.agg (cGNode r11)) (args:=[.int .i64 4,.sl 4 0 4 4]) (σ1:=⟨[(3,.row [.isl false (List.map cGNode r9.1.Nodes)] 25)],5⟩) rfl (q02 rfl rfl fn29 hb29 rfl rfl) (Gh.fz (tm':=[.int .i64 4,.isl false (List.map (cI .i64) ([7,2,3,1]))]) (h':=[(3,.row [.isl false (List.map cGNode r9.1.Nodes)] 25)]) 4 (.row [.int .i64 7,.int .i64 2,.int .i64 3,.int .i64 1] 3) 1 rfl (by simp) (by simp only [oneU,q07,q03,q0k,q09,q0n,q0d,q0c,q0b,q0a,q08,q0l,q0m,q0j,q0o,q1j,junkT,q20,q22,Nat.reduceLeDiff,Nat.reduceMul,List.length_cons,List.length_nil,Nat.reduceAdd]<;>simp only [chunks,List.take,List.drop,List.map,cI,cB,cS,cL]) (by simp only [fzH,fzB,ug,Nat.beq,cond_true,cond_false,oneU,q07,q03,q0k,q09,q0n,q0d,q0c,q0b,q0a,q08,q0l,q0m,q0j,q0o,q1j,junkT,q20,q22,Nat.reduceLeDiff,Nat.reduceMul,List.length_cons,List.length_nil,Nat.reduceAdd]<;>simp only [chunks,List.take,List.drop,List.map,cI,cB,cS,cL])) (Nat.le_of_ble_eq_true rfl) (q05 n 4 ([7,2,3,1]) r11 h12 _) rfl rfl ?_
 refine RS.call (u:=.agg (cGNode r13)) (args:=[.int .i64 5,.nils]) rfl (q02 rfl rfl fn29 hb29 rfl rfl) (EvU.wkA (args':=[.int .i64 5,.isl false []]) (.cons (.refl _) (.cons (.nil false) .nil)) (fun s=>q05 n 5 [] r13 h14 s) _) rfl rfl (RS.q (u:=.sl 5 0 2 2) (σ':=⟨[(5,.row [.int .i64 2,.int .i64 0] 3),(3,.row [.isl false (List.map cGNode r9.1.Nodes)] 25)],6⟩) rfl (q26 und55 inf3 rfl rfl rfl rfl rfl rfl rfl) ?_)
 refine RS.fcall (u:=.agg (cGNode r15)) (args:=[.int .i64 6,.sl 5 0 2 2]) (σ1:=⟨[(3,.row [.isl false (List.map cGNode r9.1.Nodes)] 25)],6⟩) rfl (q02 rfl rfl fn29 hb29 rfl rfl) (Gh.fz (tm':=[.int .i64 6,.isl false (List.map (cI .i64) ([2,0]))]) (h':=[(3,.row [.isl false (List.map cGNode r9.1.Nodes)] 25)]) 5 (.row [.int .i64 2,.int .i64 0] 3) 1 rfl (by simp) (by simp only [oneU,q07,q03,q0k,q09,q0n,q0d,q0c,q0b,q0a,q08,q0l,q0m,q0j,q0o,q1j,junkT,q20,q22,Nat.reduceLeDiff,Nat.reduceMul,List.length_cons,List.length_nil,Nat.reduceAdd]<;>simp only [chunks,List.take,List.drop,List.map,cI,cB,cS,cL]) (by simp only [fzH,fzB,ug,Nat.beq,cond_true,cond_false,oneU,q07,q03,q0k,q09,q0n,q0d,q0c,q0b,q0a,q08,q0l,q0m,q0j,q0o,q1j,junkT,q20,q22,Nat.reduceLeDiff,Nat.reduceMul,List.length_cons,List.length_nil,Nat.reduceAdd]<;>simp only [chunks,List.take,List.drop,List.map,cI,cB,cS,cL])) (Nat.le_of_ble_eq_true rfl) (q05 n 6 ([2,0]) r15 h16 _) rfl rfl ?_
 refine RS.q (u:=.sl 6 0 3 3) (σ':=⟨[(6,.row [.int .i64 r11.Typex,.isl false (List.map cGArc r11.Arcs),.int .i64 r13.Typex,.isl false (List.map cGArc r13.Arcs),.int .i64 r15.Typex,.isl false (List.map cGArc r15.Arcs)] 43),(3,.row [.isl false (List.map cGNode r9.1.Nodes)] 25)],7⟩) rfl (q26 und23 inf43 rfl rfl rfl rfl rfl rfl rfl) ?_
 refine RS.fcall (u:=.agg [.isl false (List.map cGNode r17.Nodes)]) (args:=[.sl 6 0 3 3]) (σ1:=⟨[(3,.row [.isl false (List.map cGNode r9.1.Nodes)] 25)],7⟩) rfl (q02 rfl rfl fn32 hb32 rfl rfl) (Gh.fz (tm':=[.isl false (List.map cGNode ([r11,r13,r15]))]) (h':=[(3,.row [.isl false (List.map cGNode r9.1.Nodes)] 25)]) 6 (.row [.int .i64 r11.Typex,.isl false (List.map cGArc r11.Arcs),.int .i64 r13.Typex,.isl false (List.map cGArc r13.Arcs),.int .i64 r15.Typex,.isl false (List.map cGArc r15.Arcs)] 43) 2 rfl (by simp) (by simp only [oneU,q07,q03,q0k,q09,q0n,q0d,q0c,q0b,q0a,q08,q0l,q0m,q0j,q0o,q1j,junkT,q20,q22,Nat.reduceLeDiff,Nat.reduceMul,List.length_cons,List.length_nil,Nat.reduceAdd]<;>simp only [chunks,List.take,List.drop,List.map,cGNode]) (by simp only [fzH,fzB,ug,Nat.beq,cond_true,cond_false,oneU,q07,q03,q0k,q09,q0n,q0d,q0c,q0b,q0a,q08,q0l,q0m,q0j,q0o,q1j,junkT,q20,q22,Nat.reduceLeDiff,Nat.reduceMul,List.length_cons,List.length_nil,Nat.reduceAdd]<;>simp only [chunks,List.take,List.drop,List.map,cGNode])) (Nat.le_of_ble_eq_true rfl) (q1c n ([r11,r13,r15]) r17 h18 _) rfl rfl ?_
 refine RS.call (u:=.tup [.agg [.isl false (List.map cGNode r19.1.Nodes)],.int .i64 r19.2]) (args:=[.agg [.isl false (List.map cGNode r17.Nodes)]]) rfl (q02 rfl rfl fn13 hb13 rfl rfl) (q6s n r17 r19 h20 _) rfl rfl (RS.mv rfl rfl rfl rfl (RS.q rfl (q8n rfl rfl) (RS.q rfl (q8n rfl rfl) (RS.q (u:=.ptr 7 0 0) (σ':=⟨[(7,.row [.nils] 25),(3,.row [.isl false (List.map cGNode r9.1.Nodes)] 25)],8⟩) rfl (q15 inf25 rfl rfl) (RS.opn (u:=.junk) (σ':=⟨[(7,.row [.isl false (List.map cGNode r19.1.Nodes)] 25),(3,.row [.isl false (List.map cGNode r9.1.Nodes)] 25)],8⟩) rfl (q0s (q01 inf25) rfl rfl rfl rfl rfl rfl rfl rfl) rfl ?_)))))
 refine sd ?_
 obtain ⟨b44,h45,hF⟩:=q00 hF
 refine WPU.joinK (fun tm σ=>tm=fr 106 [(1,.ptr 3 0 0),(58,.bool b44)]∧σ=⟨[(7,.row [.isl false (List.map cGNode r19.1.Nodes)] 25),(3,.row [.isl false (List.map cGNode r9.1.Nodes)] 25)],8⟩) ?_ ?_
 rintro _ _ ⟨rfl,rfl⟩
 refine st ?_
 refine WPU.condS (t:=b44) rfl (fun h46=>?_) (fun h46=>?_)
 replace hF:=q0g h46 hF
 refine sr ?_
 refine sd ?_
 refine WPU.ret ?_
 refine st ?_
 have hr:=Option.some.inj hF
 subst hr
 exact ⟨.inr rfl,[.bool false],q1y rfl (q1e),.bool false,⟨[],0⟩,Nat.le_refl _,Gh.toR (.bool false) rfl,rfl,BU.h⟩
 replace hF:=q0f h46 hF
 refine st ?_
 refine WPU.skip ?_
 refine st ?_
 obtain ⟨r47,h48,hF⟩:=q00 hF
 refine sr ?_
 refine RS.q (u:=.agg [.nils]) rfl (q6q bd25 rfl rfl rfl) (RS.call (u:=.tup [.agg [.isl false (List.map cGNode r47.1.Nodes)],.int .i64 r47.2]) (args:=[.agg [.nils]]) rfl (q02 rfl rfl fn13 hb13 rfl rfl) (EvU.wkA (args':=[.agg [.isl false []]]) (.cons (.agg (.cons (.nil false) .nil)) .nil) (fun s=>q6s n (GFS.mk []) r47 h48 s) _) rfl rfl (RS.mv rfl rfl rfl rfl (RS.q rfl (q8n rfl rfl) (RS.q rfl (q8n rfl rfl) (RS.q (u:=.ptr 8 0 0) (σ':=⟨[(8,.row [.nils] 25),(7,.row [.isl false (List.map cGNode r19.1.Nodes)] 25),(3,.row [.isl false (List.map cGNode r9.1.Nodes)] 25)],9⟩) rfl (q15 inf25 rfl rfl) (RS.opn (u:=.junk) (σ':=⟨[(8,.row [.isl false (List.map cGNode r47.1.Nodes)] 25),(7,.row [.isl false (List.map cGNode r19.1.Nodes)] 25),(3,.row [.isl false (List.map cGNode r9.1.Nodes)] 25)],9⟩) rfl (q0s (q01 inf25) rfl rfl rfl rfl rfl rfl rfl rfl) rfl ?_))))))
 refine sd ?_
 obtain ⟨b87,h88,hF⟩:=q00 hF
 refine WPU.joinK (fun tm σ=>tm=fr 106 [(0,.bool b87)]∧σ=⟨[(8,.row [.isl false (List.map cGNode r47.1.Nodes)] 25),(7,.row [.isl false (List.map cGNode r19.1.Nodes)] 25),(3,.row [.isl false (List.map cGNode r9.1.Nodes)] 25)],9⟩) ?_ ?_
 rintro _ _ ⟨rfl,rfl⟩
 refine st ?_
 refine WPU.ret ?_
 refine st ?_
 have hr:=Option.some.inj hF
 subst hr
 exact ⟨.inr rfl,[.bool b87],q1y rfl (q1e),.bool b87,⟨[],0⟩,Nat.le_refl _,Gh.toR (.bool b87) rfl,rfl,BU.h⟩
 rcases q3f (r47.2 == 1) with h49 | h49
 replace h88:=q0g h49 h88
 obtain ⟨r50,h51,h88⟩:=q00 h88
 obtain ⟨r52,h53,h88⟩:=q00 h88
 obtain ⟨r54,h55,h88⟩:=q00 h88
 obtain ⟨r56,h57,h88⟩:=q00 h88
 obtain ⟨r58,h59,h88⟩:=q00 h88
 rcases q3f r58 with h60 | h60
 replace h88:=q0g h60 h88
 obtain ⟨r61,h62,h88⟩:=q00 h88
 obtain ⟨r63,h64,h88⟩:=q00 h88
 obtain ⟨r65,h66,h88⟩:=q00 h88
 rcases q3f r65 with h67 | h67
 replace h88:=q0g h67 h88
 obtain ⟨r68,h69,h88⟩:=q00 h88
 rcases q3f (!r68) with h70 | h70
 replace h88:=q0g h70 h88
 obtain ⟨r71,h72,h88⟩:=q00 h88
 obtain ⟨r73,h74,h88⟩:=q00 h88
 obtain ⟨r75,h76,h88⟩:=q00 h88
 obtain ⟨r77,h78,h88⟩:=q00 h88
 rcases q3f r77 with h79 | h79
 replace h88:=q0g h79 h88
 obtain ⟨r80,h81,h88⟩:=q00 h88
 rcases q3f r80 with h82 | h82
 replace h88:=q0g h82 h88
 obtain ⟨r83,h84,h88⟩:=q00 h88
 obtain ⟨r85,h86,h88⟩:=q00 h88
 replace h88:=Option.some.inj h88
 subst h88
 refine WPU.drawE Try.tb_ok [] (by kernel_rfl) ?_
 refine RD.mv rfl rfl rfl rfl (RD.q rfl (q04 rfl rfl (q6i _ _ _) rfl) (RD.mv rfl rfl rfl rfl (RD.look (u:=.agg [.isl false (List.map cGNode r9.1.Nodes)]) (want1 rfl rfl rfl h49) (q0q und25 rfl (q01 inf25) rfl rfl rfl) rfl rfl (RD.free (u:=.agg [.isl false (List.map cGNode r50.Nodes)]) (args:=[.agg [.isl false (List.map cGNode r9.1.Nodes)],.int .i64 1]) (want1 rfl rfl rfl h49) (q02 rfl rfl fn20 hb20 rfl rfl) (fun s=>q43 n (GFS.mk r9.1.Nodes) 1 r50 h51 s) rfl rfl (RD.freeO (u:=.isl false (List.map (cI .i64) ([0,1]))) (want1 rfl rfl rfl h49) (FreeO.bs (cs:=[.int .i64 0,.int .i64 1]) und55 inf3 rfl rfl rfl rfl rfl rfl rfl rfl rfl) rfl rfl (RD.free (u:=.agg (cGNode r52)) (args:=[.int .i64 3,.isl false (List.map (cI .i64) ([0,1]))]) (want1 rfl rfl rfl h49) (q02 rfl rfl fn29 hb29 rfl rfl) (fun s=>q05 n 3 ([0,1]) r52 h53 s) rfl rfl (RD.free (u:=.agg (cGNode r54)) (args:=[.int .i64 2,.nils]) (want1 rfl rfl rfl h49) (q02 rfl rfl fn29 hb29 rfl rfl) (fun s=>EvU.wkA (args':=[.int .i64 2,.isl false []]) (.cons (.refl _) (.cons (.nil false) .nil)) (fun s=>q05 n 2 [] r54 h55 s) s) rfl rfl ?_)))))))
 refine RD.act (u:=.sl 9 0 2 2) (σ':=⟨[(9,.row [.int .i64 r52.Typex,.isl false (List.map cGArc r52.Arcs),.int .i64 r54.Typex,.isl false (List.map cGArc r54.Arcs)] 43),(8,.row [.isl false (List.map cGNode r47.1.Nodes)] 25),(7,.row [.isl false (List.map cGNode r19.1.Nodes)] 25),(3,.row [.isl false (List.map cGNode r9.1.Nodes)] 25)],10⟩) (want1 rfl rfl rfl h49) (q26 und23 inf43 rfl rfl rfl rfl rfl rfl rfl) rfl rfl ?_
 refine RD.fcall (u:=.agg [.isl false (List.map cGNode r56.Nodes)]) (args:=[.sl 9 0 2 2]) (σ1:=⟨[(8,.row [.isl false (List.map cGNode r47.1.Nodes)] 25),(7,.row [.isl false (List.map cGNode r19.1.Nodes)] 25),(3,.row [.isl false (List.map cGNode r9.1.Nodes)] 25)],10⟩) (want1 rfl rfl rfl h49) (q02 rfl rfl fn32 hb32 rfl rfl) (Gh.fz (tm':=[.isl false (List.map cGNode ([r52,r54]))]) (h':=[(8,.row [.isl false (List.map cGNode r47.1.Nodes)] 25),(7,.row [.isl false (List.map cGNode r19.1.Nodes)] 25),(3,.row [.isl false (List.map cGNode r9.1.Nodes)] 25)]) 9 (.row [.int .i64 r52.Typex,.isl false (List.map cGArc r52.Arcs),.int .i64 r54.Typex,.isl false (List.map cGArc r54.Arcs)] 43) 2 rfl (by simp) (by simp only [oneU,q07,q03,q0k,q09,q0n,q0d,q0c,q0b,q0a,q08,q0l,q0m,q0j,q0o,q1j,junkT,q20,q22,Nat.reduceLeDiff,Nat.reduceMul,List.length_cons,List.length_nil,Nat.reduceAdd]<;>simp only [chunks,List.take,List.drop,List.map,cGNode]) (by simp only [fzH,fzB,ug,Nat.beq,cond_true,cond_false,oneU,q07,q03,q0k,q09,q0n,q0d,q0c,q0b,q0a,q08,q0l,q0m,q0j,q0o,q1j,junkT,q20,q22,Nat.reduceLeDiff,Nat.reduceMul,List.length_cons,List.length_nil,Nat.reduceAdd]<;>simp only [chunks,List.take,List.drop,List.map,cGNode])) (Nat.le_of_ble_eq_true rfl) (q1c n ([r52,r54]) r56 h57 _) rfl rfl ?_
 refine RD.free (u:=.bool r58) (args:=[.agg [.isl false (List.map cGNode r50.Nodes)],.agg [.isl false (List.map cGNode r56.Nodes)]]) (want1 rfl rfl rfl h49) (q02 rfl rfl fn14 hb14 rfl rfl) (fun s=>q17 n r50 r56 r58 h59 s) rfl rfl (RD.q (u:=.bool r58) rfl (q0r rfl h49 rfl) (RD.mv rfl rfl rfl rfl (RD.act (u:=.sl 10 0 2 2) (σ':=⟨[(10,.row [.int .i64 5,.int .i64 0] 3),(8,.row [.isl false (List.map cGNode r47.1.Nodes)] 25),(7,.row [.isl false (List.map cGNode r19.1.Nodes)] 25),(3,.row [.isl false (List.map cGNode r9.1.Nodes)] 25)],11⟩) (want1 rfl rfl rfl h60) (q26 und55 inf3 rfl rfl rfl rfl rfl rfl rfl) rfl rfl ?_)))
 refine RD.fcall (u:=.agg (cGNode r61)) (args:=[.int .i64 1,.sl 10 0 2 2]) (σ1:=⟨[(8,.row [.isl false (List.map cGNode r47.1.Nodes)] 25),(7,.row [.isl false (List.map cGNode r19.1.Nodes)] 25),(3,.row [.isl false (List.map cGNode r9.1.Nodes)] 25)],11⟩) (want1 rfl rfl rfl h60) (q02 rfl rfl fn29 hb29 rfl rfl) (Gh.fz (tm':=[.int .i64 1,.isl false (List.map (cI .i64) ([5,0]))]) (h':=[(8,.row [.isl false (List.map cGNode r47.1.Nodes)] 25),(7,.row [.isl false (List.map cGNode r19.1.Nodes)] 25),(3,.row [.isl false (List.map cGNode r9.1.Nodes)] 25)]) 10 (.row [.int .i64 5,.int .i64 0] 3) 1 rfl (by simp) (by simp only [oneU,q07,q03,q0k,q09,q0n,q0d,q0c,q0b,q0a,q08,q0l,q0m,q0j,q0o,q1j,junkT,q20,q22,Nat.reduceLeDiff,Nat.reduceMul,List.length_cons,List.length_nil,Nat.reduceAdd]<;>simp only [chunks,List.take,List.drop,List.map,cI,cB,cS,cL]) (by simp only [fzH,fzB,ug,Nat.beq,cond_true,cond_false,oneU,q07,q03,q0k,q09,q0n,q0d,q0c,q0b,q0a,q08,q0l,q0m,q0j,q0o,q1j,junkT,q20,q22,Nat.reduceLeDiff,Nat.reduceMul,List.length_cons,List.length_nil,Nat.reduceAdd]<;>simp only [chunks,List.take,List.drop,List.map,cI,cB,cS,cL])) (Nat.le_of_ble_eq_true rfl) (q05 n 1 ([5,0]) r61 h62 _) rfl rfl ?_
 refine RD.act (u:=.sl 11 0 1 1) (σ':=⟨[(11,.row (cGNode r61) 43),(8,.row [.isl false (List.map cGNode r47.1.Nodes)] 25),(7,.row [.isl false (List.map cGNode r19.1.Nodes)] 25),(3,.row [.isl false (List.map cGNode r9.1.Nodes)] 25)],12⟩) (want1 rfl rfl rfl h60) (q26 und23 inf43 rfl rfl rfl rfl rfl rfl rfl) rfl rfl ?_
 refine RD.fcall (u:=.agg [.isl false (List.map cGNode r63.Nodes)]) (args:=[.sl 11 0 1 1]) (σ1:=⟨[(8,.row [.isl false (List.map cGNode r47.1.Nodes)] 25),(7,.row [.isl false (List.map cGNode r19.1.Nodes)] 25),(3,.row [.isl false (List.map cGNode r9.1.Nodes)] 25)],12⟩) (want1 rfl rfl rfl h60) (q02 rfl rfl fn32 hb32 rfl rfl) (Gh.fz (tm':=[.isl false (List.map cGNode ([r61]))]) (h':=[(8,.row [.isl false (List.map cGNode r47.1.Nodes)] 25),(7,.row [.isl false (List.map cGNode r19.1.Nodes)] 25),(3,.row [.isl false (List.map cGNode r9.1.Nodes)] 25)]) 11 (.row [.int .i64 r61.Typex,.isl false (List.map cGArc r61.Arcs)] 43) 2 rfl (by simp) (by simp only [oneU,q07,q03,q0k,q09,q0n,q0d,q0c,q0b,q0a,q08,q0l,q0m,q0j,q0o,q1j,junkT,q20,q22,q24,Nat.reduceLeDiff,Nat.reduceMul,List.length_cons,List.length_nil,Nat.reduceAdd]<;>simp only [chunks,List.take,List.drop,List.map,cGNode]) (by simp only [fzH,fzB,ug,Nat.beq,cond_true,cond_false,oneU,q07,q03,q0k,q09,q0n,q0d,q0c,q0b,q0a,q08,q0l,q0m,q0j,q0o,q1j,junkT,q20,q22,q24,Nat.reduceLeDiff,Nat.reduceMul,List.length_cons,List.length_nil,Nat.reduceAdd]<;>simp only [chunks,List.take,List.drop,List.map,cGNode])) (Nat.le_of_ble_eq_true rfl) (q1c n ([r61]) r63 h64 _) rfl rfl ?_
 refine RD.free (u:=.bool r65) (args:=[.agg [.isl false (List.map cGNode r63.Nodes)]]) (want1 rfl rfl rfl h60) (q02 rfl rfl fn22 hb22 rfl rfl) (fun s=>q1r n r63 r65 h66 s) rfl rfl (RD.q (u:=.bool r65) rfl (q0r rfl h60 rfl) (RD.mv rfl rfl rfl rfl (RD.look (u:=.agg [.isl false (List.map cGNode r9.1.Nodes)]) (want1 rfl rfl rfl h67) (q0q und25 rfl (q01 inf25) rfl rfl rfl) rfl rfl (RD.free (u:=.bool r68) (args:=[.agg [.isl false (List.map cGNode r9.1.Nodes)]]) (want1 rfl rfl rfl h67) (q02 rfl rfl fn22 hb22 rfl rfl) (fun s=>q1r n (GFS.mk r9.1.Nodes) r68 h69 s) rfl rfl (RD.look (u:=.bool (!r68)) (want1 rfl rfl rfl h67) (q7y rfl rfl rfl rfl) rfl rfl (RD.q (u:=.bool (!r68)) rfl (q0r rfl h67 rfl) (RD.mv rfl rfl rfl rfl ?_)))))))
 refine RD.free (u:=.agg [.isl false (List.map cGNode r71.Nodes)]) (args:=[.int .i64 4]) (want1 rfl rfl rfl h70) (q02 rfl rfl fn12 hb12 rfl rfl) (fun s=>q66 n 4 r71 h72 s) rfl rfl (RD.free (u:=.agg (cGNode r73)) (args:=[.int .i64 4,.nils]) (want1 rfl rfl rfl h70) (q02 rfl rfl fn29 hb29 rfl rfl) (fun s=>EvU.wkA (args':=[.int .i64 4,.isl false []]) (.cons (.refl _) (.cons (.nil false) .nil)) (fun s=>q05 n 4 [] r73 h74 s) s) rfl rfl (RD.act (u:=.sl 12 0 1 1) (σ':=⟨[(12,.row (cGNode r73) 43),(8,.row [.isl false (List.map cGNode r47.1.Nodes)] 25),(7,.row [.isl false (List.map cGNode r19.1.Nodes)] 25),(3,.row [.isl false (List.map cGNode r9.1.Nodes)] 25)],13⟩) (want1 rfl rfl rfl h70) (q26 und23 inf43 rfl rfl rfl rfl rfl rfl rfl) rfl rfl ?_))
 refine RD.fcall (u:=.agg [.isl false (List.map cGNode r75.Nodes)]) (args:=[.sl 12 0 1 1]) (σ1:=⟨[(8,.row [.isl false (List.map cGNode r47.1.Nodes)] 25),(7,.row [.isl false (List.map cGNode r19.1.Nodes)] 25),(3,.row [.isl false (List.map cGNode r9.1.Nodes)] 25)],13⟩) (want1 rfl rfl rfl h70) (q02 rfl rfl fn32 hb32 rfl rfl) (Gh.fz (tm':=[.isl false (List.map cGNode ([r73]))]) (h':=[(8,.row [.isl false (List.map cGNode r47.1.Nodes)] 25),(7,.row [.isl false (List.map cGNode r19.1.Nodes)] 25),(3,.row [.isl false (List.map cGNode r9.1.Nodes)] 25)]) 12 (.row [.int .i64 r73.Typex,.isl false (List.map cGArc r73.Arcs)] 43) 2 rfl (by simp) (by simp only [oneU,q07,q03,q0k,q09,q0n,q0d,q0c,q0b,q0a,q08,q0l,q0m,q0j,q0o,q1j,junkT,q20,q22,q24,Nat.reduceLeDiff,Nat.reduceMul,List.length_cons,List.length_nil,Nat.reduceAdd]<;>simp only [chunks,List.take,List.drop,List.map,cGNode]) (by simp only [fzH,fzB,ug,Nat.beq,cond_true,cond_false,oneU,q07,q03,q0k,q09,q0n,q0d,q0c,q0b,q0a,q08,q0l,q0m,q0j,q0o,q1j,junkT,q20,q22,q24,Nat.reduceLeDiff,Nat.reduceMul,List.length_cons,List.length_nil,Nat.reduceAdd]<;>simp only [chunks,List.take,List.drop,List.map,cGNode])) (Nat.le_of_ble_eq_true rfl) (q1c n ([r73]) r75 h76 _) rfl rfl ?_
 refine RD.free (u:=.bool r77) (args:=[.agg [.isl false (List.map cGNode r71.Nodes)],.agg [.isl false (List.map cGNode r75.Nodes)]]) (want1 rfl rfl rfl h70) (q02 rfl rfl fn14 hb14 rfl rfl) (fun s=>q17 n r71 r75 r77 h78 s) rfl rfl (RD.q (u:=.bool r77) rfl (q0r rfl h70 rfl) (RD.mv rfl rfl rfl rfl (RD.look (u:=.agg [.isl false (List.map cGNode r9.1.Nodes)]) (want1 rfl rfl rfl h79) (q0q und25 rfl (q01 inf25) rfl rfl rfl) rfl rfl (RD.look (u:=.agg [.isl false (List.map cGNode r9.1.Nodes)]) (want1 rfl rfl rfl h79) (q0q und25 rfl (q01 inf25) rfl rfl rfl) rfl rfl (RD.free (u:=.bool r80) (args:=[.agg [.isl false (List.map cGNode r9.1.Nodes)],.agg [.isl false (List.map cGNode r9.1.Nodes)]]) (want1 rfl rfl rfl h79) (q02 rfl rfl fn26 hb26 rfl rfl) (fun s=>q8m n (GFS.mk r9.1.Nodes) (GFS.mk r9.1.Nodes) r80 h81 s) rfl rfl (RD.q (u:=.bool r80) rfl (q0r rfl h79 rfl) (RD.mv rfl rfl rfl rfl ?_)))))))
 refine RD.free (u:=.agg [.isl false (List.map cGNode r83.Nodes)]) (args:=[.int .i64 9]) (want1 rfl rfl rfl h82) (q02 rfl rfl fn12 hb12 rfl rfl) (fun s=>q66 n 9 r83 h84 s) rfl rfl (RD.look (u:=.agg [.isl false (List.map cGNode r9.1.Nodes)]) (want1 rfl rfl rfl h82) (q0q und25 rfl (q01 inf25) rfl rfl rfl) rfl rfl (RD.free (u:=.int .i64 r85) (args:=[.agg [.isl false (List.map cGNode r83.Nodes)],.agg [.isl false (List.map cGNode r9.1.Nodes)]]) (want1 rfl rfl rfl h82) (q02 rfl rfl fn24 hb24 rfl rfl) (fun s=>q7l n r83 (GFS.mk r9.1.Nodes) r85 h86 s) rfl rfl (RD.look (want1 rfl rfl rfl h82) (q04 rfl rfl (q6i _ _ _) rfl) rfl rfl (RD.q (u:=.bool (r85 == (-1))) rfl (q0r rfl h82 rfl) (RD.as rfl rfl rfl rfl ?_)))))
 refine RD.done ⟨by kernel_rfl,trivial,?_⟩
 refine st ?_
 exact ⟨_,_,⟨rfl,rfl⟩,(Nat.zero_le _),Gh.toC (n1:=9) ⟨rfl,trivial⟩ rfl (Nat.zero_le _) (by simp)⟩
 replace h88:=q0f h82 h88
 replace h88:=Option.some.inj h88
 subst h88
 refine WPU.drawE Try.tb_ok [] (by kernel_rfl) ?_
 refine RD.mv rfl rfl rfl rfl (RD.q rfl (q04 rfl rfl (q6i _ _ _) rfl) (RD.mv rfl rfl rfl rfl (RD.look (u:=.agg [.isl false (List.map cGNode r9.1.Nodes)]) (want1 rfl rfl rfl h49) (q0q und25 rfl (q01 inf25) rfl rfl rfl) rfl rfl (RD.free (u:=.agg [.isl false (List.map cGNode r50.Nodes)]) (args:=[.agg [.isl false (List.map cGNode r9.1.Nodes)],.int .i64 1]) (want1 rfl rfl rfl h49) (q02 rfl rfl fn20 hb20 rfl rfl) (fun s=>q43 n (GFS.mk r9.1.Nodes) 1 r50 h51 s) rfl rfl (RD.freeO (u:=.isl false (List.map (cI .i64) ([0,1]))) (want1 rfl rfl rfl h49) (FreeO.bs (cs:=[.int .i64 0,.int .i64 1]) und55 inf3 rfl rfl rfl rfl rfl rfl rfl rfl rfl) rfl rfl (RD.free (u:=.agg (cGNode r52)) (args:=[.int .i64 3,.isl false (List.map (cI .i64) ([0,1]))]) (want1 rfl rfl rfl h49) (q02 rfl rfl fn29 hb29 rfl rfl) (fun s=>q05 n 3 ([0,1]) r52 h53 s) rfl rfl (RD.free (u:=.agg (cGNode r54)) (args:=[.int .i64 2,.nils]) (want1 rfl rfl rfl h49) (q02 rfl rfl fn29 hb29 rfl rfl) (fun s=>EvU.wkA (args':=[.int .i64 2,.isl false []]) (.cons (.refl _) (.cons (.nil false) .nil)) (fun s=>q05 n 2 [] r54 h55 s) s) rfl rfl ?_)))))))
 refine RD.act (u:=.sl 9 0 2 2) (σ':=⟨[(9,.row [.int .i64 r52.Typex,.isl false (List.map cGArc r52.Arcs),.int .i64 r54.Typex,.isl false (List.map cGArc r54.Arcs)] 43),(8,.row [.isl false (List.map cGNode r47.1.Nodes)] 25),(7,.row [.isl false (List.map cGNode r19.1.Nodes)] 25),(3,.row [.isl false (List.map cGNode r9.1.Nodes)] 25)],10⟩) (want1 rfl rfl rfl h49) (q26 und23 inf43 rfl rfl rfl rfl rfl rfl rfl) rfl rfl ?_
 refine RD.fcall (u:=.agg [.isl false (List.map cGNode r56.Nodes)]) (args:=[.sl 9 0 2 2]) (σ1:=⟨[(8,.row [.isl false (List.map cGNode r47.1.Nodes)] 25),(7,.row [.isl false (List.map cGNode r19.1.Nodes)] 25),(3,.row [.isl false (List.map cGNode r9.1.Nodes)] 25)],10⟩) (want1 rfl rfl rfl h49) (q02 rfl rfl fn32 hb32 rfl rfl) (Gh.fz (tm':=[.isl false (List.map cGNode ([r52,r54]))]) (h':=[(8,.row [.isl false (List.map cGNode r47.1.Nodes)] 25),(7,.row [.isl false (List.map cGNode r19.1.Nodes)] 25),(3,.row [.isl false (List.map cGNode r9.1.Nodes)] 25)]) 9 (.row [.int .i64 r52.Typex,.isl false (List.map cGArc r52.Arcs),.int .i64 r54.Typex,.isl false (List.map cGArc r54.Arcs)] 43) 2 rfl (by simp) (by simp only [oneU,q07,q03,q0k,q09,q0n,q0d,q0c,q0b,q0a,q08,q0l,q0m,q0j,q0o,q1j,junkT,q20,q22,Nat.reduceLeDiff,Nat.reduceMul,List.length_cons,List.length_nil,Nat.reduceAdd]<;>simp only [chunks,List.take,List.drop,List.map,cGNode]) (by simp only [fzH,fzB,ug,Nat.beq,cond_true,cond_false,oneU,q07,q03,q0k,q09,q0n,q0d,q0c,q0b,q0a,q08,q0l,q0m,q0j,q0o,q1j,junkT,q20,q22,Nat.reduceLeDiff,Nat.reduceMul,List.length_cons,List.length_nil,Nat.reduceAdd]<;>simp only [chunks,List.take,List.drop,List.map,cGNode])) (Nat.le_of_ble_eq_true rfl) (q1c n ([r52,r54]) r56 h57 _) rfl rfl ?_
 refine RD.free (u:=.bool r58) (args:=[.agg [.isl false (List.map cGNode r50.Nodes)],.agg [.isl false (List.map cGNode r56.Nodes)]]) (want1 rfl rfl rfl h49) (q02 rfl rfl fn14 hb14 rfl rfl) (fun s=>q17 n r50 r56 r58 h59 s) rfl rfl (RD.q (u:=.bool r58) rfl (q0r rfl h49 rfl) (RD.mv rfl rfl rfl rfl (RD.act (u:=.sl 10 0 2 2) (σ':=⟨[(10,.row [.int .i64 5,.int .i64 0] 3),(8,.row [.isl false (List.map cGNode r47.1.Nodes)] 25),(7,.row [.isl false (List.map cGNode r19.1.Nodes)] 25),(3,.row [.isl false (List.map cGNode r9.1.Nodes)] 25)],11⟩) (want1 rfl rfl rfl h60) (q26 und55 inf3 rfl rfl rfl rfl rfl rfl rfl) rfl rfl ?_)))
 refine RD.fcall (u:=.agg (cGNode r61)) (args:=[.int .i64 1,.sl 10 0 2 2]) (σ1:=⟨[(8,.row [.isl false (List.map cGNode r47.1.Nodes)] 25),(7,.row [.isl false (List.map cGNode r19.1.Nodes)] 25),(3,.row [.isl false (List.map cGNode r9.1.Nodes)] 25)],11⟩) (want1 rfl rfl rfl h60) (q02 rfl rfl fn29 hb29 rfl rfl) (Gh.fz (tm':=[.int .i64 1,.isl false (List.map (cI .i64) ([5,0]))]) (h':=[(8,.row [.isl false (List.map cGNode r47.1.Nodes)] 25),(7,.row [.isl false (List.map cGNode r19.1.Nodes)] 25),(3,.row [.isl false (List.map cGNode r9.1.Nodes)] 25)]) 10 (.row [.int .i64 5,.int .i64 0] 3) 1 rfl (by simp) (by simp only [oneU,q07,q03,q0k,q09,q0n,q0d,q0c,q0b,q0a,q08,q0l,q0m,q0j,q0o,q1j,junkT,q20,q22,Nat.reduceLeDiff,Nat.reduceMul,List.length_cons,List.length_nil,Nat.reduceAdd]<;>simp only [chunks,List.take,List.drop,List.map,cI,cB,cS,cL]) (by simp only [fzH,fzB,ug,Nat.beq,cond_true,cond_false,oneU,q07,q03,q0k,q09,q0n,q0d,q0c,q0b,q0a,q08,q0l,q0m,q0j,q0o,q1j,junkT,q20,q22,Nat.reduceLeDiff,Nat.reduceMul,List.length_cons,List.length_nil,Nat.reduceAdd]<;>simp only [chunks,List.take,List.drop,List.map,cI,cB,cS,cL])) (Nat.le_of_ble_eq_true rfl) (q05 n 1 ([5,0]) r61 h62 _) rfl rfl ?_
 refine RD.act (u:=.sl 11 0 1 1) (σ':=⟨[(11,.row (cGNode r61) 43),(8,.row [.isl false (List.map cGNode r47.1.Nodes)] 25),(7,.row [.isl false (List.map cGNode r19.1.Nodes)] 25),(3,.row [.isl false (List.map cGNode r9.1.Nodes)] 25)],12⟩) (want1 rfl rfl rfl h60) (q26 und23 inf43 rfl rfl rfl rfl rfl rfl rfl) rfl rfl ?_
 refine RD.fcall (u:=.agg [.isl false (List.map cGNode r63.Nodes)]) (args:=[.sl 11 0 1 1]) (σ1:=⟨[(8,.row [.isl false (List.map cGNode r47.1.Nodes)] 25),(7,.row [.isl false (List.map cGNode r19.1.Nodes)] 25),(3,.row [.isl false (List.map cGNode r9.1.Nodes)] 25)],12⟩) (want1 rfl rfl rfl h60) (q02 rfl rfl fn32 hb32 rfl rfl) (Gh.fz (tm':=[.isl false (List.map cGNode ([r61]))]) (h':=[(8,.row [.isl false (List.map cGNode r47.1.Nodes)] 25),(7,.row [.isl false (List.map cGNode r19.1.Nodes)] 25),(3,.row [.isl false (List.map cGNode r9.1.Nodes)] 25)]) 11 (.row [.int .i64 r61.Typex,.isl false (List.map cGArc r61.Arcs)] 43) 2 rfl (by simp) (by simp only [oneU,q07,q03,q0k,q09,q0n,q0d,q0c,q0b,q0a,q08,q0l,q0m,q0j,q0o,q1j,junkT,q20,q22,q24,Nat.reduceLeDiff,Nat.reduceMul,List.length_cons,List.length_nil,Nat.reduceAdd]<;>simp only [chunks,List.take,List.drop,List.map,cGNode]) (by simp only [fzH,fzB,ug,Nat.beq,cond_true,cond_false,oneU,q07,q03,q0k,q09,q0n,q0d,q0c,q0b,q0a,q08,q0l,q0m,q0j,q0o,q1j,junkT,q20,q22,q24,Nat.reduceLeDiff,Nat.reduceMul,List.length_cons,List.length_nil,Nat.reduceAdd]<;>simp only [chunks,List.take,List.drop,List.map,cGNode])) (Nat.le_of_ble_eq_true rfl) (q1c n ([r61]) r63 h64 _) rfl rfl ?_
 refine RD.free (u:=.bool r65) (args:=[.agg [.isl false (List.map cGNode r63.Nodes)]]) (want1 rfl rfl rfl h60) (q02 rfl rfl fn22 hb22 rfl rfl) (fun s=>q1r n r63 r65 h66 s) rfl rfl (RD.q (u:=.bool r65) rfl (q0r rfl h60 rfl) (RD.mv rfl rfl rfl rfl (RD.look (u:=.agg [.isl false (List.map cGNode r9.1.Nodes)]) (want1 rfl rfl rfl h67) (q0q und25 rfl (q01 inf25) rfl rfl rfl) rfl rfl (RD.free (u:=.bool r68) (args:=[.agg [.isl false (List.map cGNode r9.1.Nodes)]]) (want1 rfl rfl rfl h67) (q02 rfl rfl fn22 hb22 rfl rfl) (fun s=>q1r n (GFS.mk r9.1.Nodes) r68 h69 s) rfl rfl (RD.look (u:=.bool (!r68)) (want1 rfl rfl rfl h67) (q7y rfl rfl rfl rfl) rfl rfl (RD.q (u:=.bool (!r68)) rfl (q0r rfl h67 rfl) (RD.mv rfl rfl rfl rfl ?_)))))))
 refine RD.free (u:=.agg [.isl false (List.map cGNode r71.Nodes)]) (args:=[.int .i64 4]) (want1 rfl rfl rfl h70) (q02 rfl rfl fn12 hb12 rfl rfl) (fun s=>q66 n 4 r71 h72 s) rfl rfl (RD.free (u:=.agg (cGNode r73)) (args:=[.int .i64 4,.nils]) (want1 rfl rfl rfl h70) (q02 rfl rfl fn29 hb29 rfl rfl) (fun s=>EvU.wkA (args':=[.int .i64 4,.isl false []]) (.cons (.refl _) (.cons (.nil false) .nil)) (fun s=>q05 n 4 [] r73 h74 s) s) rfl rfl (RD.act (u:=.sl 12 0 1 1) (σ':=⟨[(12,.row (cGNode r73) 43),(8,.row [.isl false (List.map cGNode r47.1.Nodes)] 25),(7,.row [.isl false (List.map cGNode r19.1.Nodes)] 25),(3,.row [.isl false (List.map cGNode r9.1.Nodes)] 25)],13⟩) (want1 rfl rfl rfl h70) (q26 und23 inf43 rfl rfl rfl rfl rfl rfl rfl) rfl rfl ?_))
 refine RD.fcall (u:=.agg [.isl false (List.map cGNode r75.Nodes)]) (args:=[.sl 12 0 1 1]) (σ1:=⟨[(8,.row [.isl false (List.map cGNode r47.1.Nodes)] 25),(7,.row [.isl false (List.map cGNode r19.1.Nodes)] 25),(3,.row [.isl false (List.map cGNode r9.1.Nodes)] 25)],13⟩) (want1 rfl rfl rfl h70) (q02 rfl rfl fn32 hb32 rfl rfl) (Gh.fz (tm':=[.isl false (List.map cGNode ([r73]))]) (h':=[(8,.row [.isl false (List.map cGNode r47.1.Nodes)] 25),(7,.row [.isl false (List.map cGNode r19.1.Nodes)] 25),(3,.row [.isl false (List.map cGNode r9.1.Nodes)] 25)]) 12 (.row [.int .i64 r73.Typex,.isl false (List.map cGArc r73.Arcs)] 43) 2 rfl (by simp) (by simp only [oneU,q07,q03,q0k,q09,q0n,q0d,q0c,q0b,q0a,q08,q0l,q0m,q0j,q0o,q1j,junkT,q20,q22,q24,Nat.reduceLeDiff,Nat.reduceMul,List.length_cons,List.length_nil,Nat.reduceAdd]<;>simp only [chunks,List.take,List.drop,List.map,cGNode]) (by simp only [fzH,fzB,ug,Nat.beq,cond_true,cond_false,oneU,q07,q03,q0k,q09,q0n,q0d,q0c,q0b,q0a,q08,q0l,q0m,q0j,q0o,q1j,junkT,q20,q22,q24,Nat.reduceLeDiff,Nat.reduceMul,List.length_cons,List.length_nil,Nat.reduceAdd]<;>simp only [chunks,List.take,List.drop,List.map,cGNode])) (Nat.le_of_ble_eq_true rfl) (q1c n ([r73]) r75 h76 _) rfl rfl ?_
 refine RD.free (u:=.bool r77) (args:=[.agg [.isl false (List.map cGNode r71.Nodes)],.agg [.isl false (List.map cGNode r75.Nodes)]]) (want1 rfl rfl rfl h70) (q02 rfl rfl fn14 hb14 rfl rfl) (fun s=>q17 n r71 r75 r77 h78 s) rfl rfl (RD.q (u:=.bool r77) rfl (q0r rfl h70 rfl) (RD.mv rfl rfl rfl rfl (RD.look (u:=.agg [.isl false (List.map cGNode r9.1.Nodes)]) (want1 rfl rfl rfl h79) (q0q und25 rfl (q01 inf25) rfl rfl rfl) rfl rfl (RD.look (u:=.agg [.isl false (List.map cGNode r9.1.Nodes)]) (want1 rfl rfl rfl h79) (q0q und25 rfl (q01 inf25) rfl rfl rfl) rfl rfl (RD.free (u:=.bool r80) (args:=[.agg [.isl false (List.map cGNode r9.1.Nodes)],.agg [.isl false (List.map cGNode r9.1.Nodes)]]) (want1 rfl rfl rfl h79) (q02 rfl rfl fn26 hb26 rfl rfl) (fun s=>q8m n (GFS.mk r9.1.Nodes) (GFS.mk r9.1.Nodes) r80 h81 s) rfl rfl (RD.q (u:=.bool r80) rfl (q0r rfl h79 rfl) (RD.mv rfl rfl rfl rfl ?_)))))))
 repeat refine RD.no (want0 rfl rfl rfl h82) rfl rfl ?_
 refine RD.q (u:=.bool false) rfl (q0p rfl h82 rfl) (RD.as rfl rfl rfl rfl ?_)
 refine RD.done ⟨by kernel_rfl,trivial,?_⟩
 refine st ?_
 exact ⟨_,_,⟨rfl,rfl⟩,(Nat.zero_le _),Gh.toC (n1:=9) ⟨rfl,trivial⟩ rfl (Nat.zero_le _) (by simp)⟩
 replace h88:=q0f h79 h88
 replace h88:=Option.some.inj h88
 subst h88
 refine WPU.drawE Try.tb_ok [] (by kernel_rfl) ?_
 refine RD.mv rfl rfl rfl rfl (RD.q rfl (q04 rfl rfl (q6i _ _ _) rfl) (RD.mv rfl rfl rfl rfl (RD.look (u:=.agg [.isl false (List.map cGNode r9.1.Nodes)]) (want1 rfl rfl rfl h49) (q0q und25 rfl (q01 inf25) rfl rfl rfl) rfl rfl (RD.free (u:=.agg [.isl false (List.map cGNode r50.Nodes)]) (args:=[.agg [.isl false (List.map cGNode r9.1.Nodes)],.int .i64 1]) (want1 rfl rfl rfl h49) (q02 rfl rfl fn20 hb20 rfl rfl) (fun s=>q43 n (GFS.mk r9.1.Nodes) 1 r50 h51 s) rfl rfl (RD.freeO (u:=.isl false (List.map (cI .i64) ([0,1]))) (want1 rfl rfl rfl h49) (FreeO.bs (cs:=[.int .i64 0,.int .i64 1]) und55 inf3 rfl rfl rfl rfl rfl rfl rfl rfl rfl) rfl rfl (RD.free (u:=.agg (cGNode r52)) (args:=[.int .i64 3,.isl false (List.map (cI .i64) ([0,1]))]) (want1 rfl rfl rfl h49) (q02 rfl rfl fn29 hb29 rfl rfl) (fun s=>q05 n 3 ([0,1]) r52 h53 s) rfl rfl (RD.free (u:=.agg (cGNode r54)) (args:=[.int .i64 2,.nils]) (want1 rfl rfl rfl h49) (q02 rfl rfl fn29 hb29 rfl rfl) (fun s=>EvU.wkA (args':=[.int .i64 2,.isl false []]) (.cons (.refl _) (.cons (.nil false) .nil)) (fun s=>q05 n 2 [] r54 h55 s) s) rfl rfl ?_)))))))
 refine RD.act (u:=.sl 9 0 2 2) (σ':=⟨[(9,.row [.int .i64 r52.Typex,.isl false (List.map cGArc r52.Arcs),.int .i64 r54.Typex,.isl false (List.map cGArc r54.Arcs)] 43),(8,.row [.isl false (List.map cGNode r47.1.Nodes)] 25),(7,.row [.isl false (List.map cGNode r19.1.Nodes)] 25),(3,.row [.isl false (List.map cGNode r9.1.Nodes)] 25)],10⟩) (want1 rfl rfl rfl h49) (q26 und23 inf43 rfl rfl rfl rfl rfl rfl rfl) rfl rfl ?_
 refine RD.fcall (u:=.agg [.isl false (List.map cGNode r56.Nodes)]) (args:=[.sl 9 0 2 2]) (σ1:=⟨[(8,.row [.isl false (List.map cGNode r47.1.Nodes)] 25),(7,.row [.isl false (List.map cGNode r19.1.Nodes)] 25),(3,.row [.isl false (List.map cGNode r9.1.Nodes)] 25)],10⟩) (want1 rfl rfl rfl h49) (q02 rfl rfl fn32 hb32 rfl rfl) (Gh.fz (tm':=[.isl false (List.map cGNode ([r52,r54]))]) (h':=[(8,.row [.isl false (List.map cGNode r47.1.Nodes)] 25),(7,.row [.isl false (List.map cGNode r19.1.Nodes)] 25),(3,.row [.isl false (List.map cGNode r9.1.Nodes)] 25)]) 9 (.row [.int .i64 r52.Typex,.isl false (List.map cGArc r52.Arcs),.int .i64 r54.Typex,.isl false (List.map cGArc r54.Arcs)] 43) 2 rfl (by simp) (by simp only [oneU,q07,q03,q0k,q09,q0n,q0d,q0c,q0b,q0a,q08,q0l,q0m,q0j,q0o,q1j,junkT,q20,q22,Nat.reduceLeDiff,Nat.reduceMul,List.length_cons,List.length_nil,Nat.reduceAdd]<;>simp only [chunks,List.take,List.drop,List.map,cGNode]) (by simp only [fzH,fzB,ug,Nat.beq,cond_true,cond_false,oneU,q07,q03,q0k,q09,q0n,q0d,q0c,q0b,q0a,q08,q0l,q0m,q0j,q0o,q1j,junkT,q20,q22,Nat.reduceLeDiff,Nat.reduceMul,List.length_cons,List.length_nil,Nat.reduceAdd]<;>simp only [chunks,List.take,List.drop,List.map,cGNode])) (Nat.le_of_ble_eq_true rfl) (q1c n ([r52,r54]) r56 h57 _) rfl rfl ?_
 refine RD.free (u:=.bool r58) (args:=[.agg [.isl false (List.map cGNode r50.Nodes)],.agg [.isl false (List.map cGNode r56.Nodes)]]) (want1 rfl rfl rfl h49) (q02 rfl rfl fn14 hb14 rfl rfl) (fun s=>q17 n r50 r56 r58 h59 s) rfl rfl (RD.q (u:=.bool r58) rfl (q0r rfl h49 rfl) (RD.mv rfl rfl rfl rfl (RD.act (u:=.sl 10 0 2 2) (σ':=⟨[(10,.row [.int .i64 5,.int .i64 0] 3),(8,.row [.isl false (List.map cGNode r47.1.Nodes)] 25),(7,.row [.isl false (List.map cGNode r19.1.Nodes)] 25),(3,.row [.isl false (List.map cGNode r9.1.Nodes)] 25)],11⟩) (want1 rfl rfl rfl h60) (q26 und55 inf3 rfl rfl rfl rfl rfl rfl rfl) rfl rfl ?_)))
 refine RD.fcall (u:=.agg (cGNode r61)) (args:=[.int .i64 1,.sl 10 0 2 2]) (σ1:=⟨[(8,.row [.isl false (List.map cGNode r47.1.Nodes)] 25),(7,.row [.isl false (List.map cGNode r19.1.Nodes)] 25),(3,.row [.isl false (List.map cGNode r9.1.Nodes)] 25)],11⟩) (want1 rfl rfl rfl h60) (q02 rfl rfl fn29 hb29 rfl rfl) (Gh.fz (tm':=[.int .i64 1,.isl false (List.map (cI .i64) ([5,0]))]) (h':=[(8,.row [.isl false (List.map cGNode r47.1.Nodes)] 25),(7,.row [.isl false (List.map cGNode r19.1.Nodes)] 25),(3,.row [.isl false (List.map cGNode r9.1.Nodes)] 25)]) 10 (.row [.int .i64 5,.int .i64 0] 3) 1 rfl (by simp) (by simp only [oneU,q07,q03,q0k,q09,q0n,q0d,q0c,q0b,q0a,q08,q0l,q0m,q0j,q0o,q1j,junkT,q20,q22,Nat.reduceLeDiff,Nat.reduceMul,List.length_cons,List.length_nil,Nat.reduceAdd]<;>simp only [chunks,List.take,List.drop,List.map,cI,cB,cS,cL]) (by simp only [fzH,fzB,ug,Nat.beq,cond_true,cond_false,oneU,q07,q03,q0k,q09,q0n,q0d,q0c,q0b,q0a,q08,q0l,q0m,q0j,q0o,q1j,junkT,q20,q22,Nat.reduceLeDiff,Nat.reduceMul,List.length_cons,List.length_nil,Nat.reduceAdd]<;>simp only [chunks,List.take,List.drop,List.map,cI,cB,cS,cL])) (Nat.le_of_ble_eq_true rfl) (q05 n 1 ([5,0]) r61 h62 _) rfl rfl ?_
 refine RD.act (u:=.sl 11 0 1 1) (σ':=⟨[(11,.row (cGNode r61) 43),(8,.row [.isl false (List.map cGNode r47.1.Nodes)] 25),(7,.row [.isl false (List.map cGNode r19.1.Nodes)] 25),(3,.row [.isl false (List.map cGNode r9.1.Nodes)] 25)],12⟩) (want1 rfl rfl rfl h60) (q26 und23 inf43 rfl rfl rfl rfl rfl rfl rfl) rfl rfl ?_
 refine RD.fcall (u:=.agg [.isl false (List.map cGNode r63.Nodes)]) (args:=[.sl 11 0 1 1]) (σ1:=⟨[(8,.row [.isl false (List.map cGNode r47.1.Nodes)] 25),(7,.row [.isl false (List.map cGNode r19.1.Nodes)] 25),(3,.row [.isl false (List.map cGNode r9.1.Nodes)] 25)],12⟩) (want1 rfl rfl rfl h60) (q02 rfl rfl fn32 hb32 rfl rfl) (Gh.fz (tm':=[.isl false (List.map cGNode ([r61]))]) (h':=[(8,.row [.isl false (List.map cGNode r47.1.Nodes)] 25),(7,.row [.isl false (List.map cGNode r19.1.Nodes)] 25),(3,.row [.isl false (List.map cGNode r9.1.Nodes)] 25)]) 11 (.row [.int .i64 r61.Typex,.isl false (List.map cGArc r61.Arcs)] 43) 2 rfl (by simp) (by simp only [oneU,q07,q03,q0k,q09,q0n,q0d,q0c,q0b,q0a,q08,q0l,q0m,q0j,q0o,q1j,junkT,q20,q22,q24,Nat.reduceLeDiff,Nat.reduceMul,List.length_cons,List.length_nil,Nat.reduceAdd]<;>simp only [chunks,List.take,List.drop,List.map,cGNode]) (by simp only [fzH,fzB,ug,Nat.beq,cond_true,cond_false,oneU,q07,q03,q0k,q09,q0n,q0d,q0c,q0b,q0a,q08,q0l,q0m,q0j,q0o,q1j,junkT,q20,q22,q24,Nat.reduceLeDiff,Nat.reduceMul,List.length_cons,List.length_nil,Nat.reduceAdd]<;>simp only [chunks,List.take,List.drop,List.map,cGNode])) (Nat.le_of_ble_eq_true rfl) (q1c n ([r61]) r63 h64 _) rfl rfl ?_
 refine RD.free (u:=.bool r65) (args:=[.agg [.isl false (List.map cGNode r63.Nodes)]]) (want1 rfl rfl rfl h60) (q02 rfl rfl fn22 hb22 rfl rfl) (fun s=>q1r n r63 r65 h66 s) rfl rfl (RD.q (u:=.bool r65) rfl (q0r rfl h60 rfl) (RD.mv rfl rfl rfl rfl (RD.look (u:=.agg [.isl false (List.map cGNode r9.1.Nodes)]) (want1 rfl rfl rfl h67) (q0q und25 rfl (q01 inf25) rfl rfl rfl) rfl rfl (RD.free (u:=.bool r68) (args:=[.agg [.isl false (List.map cGNode r9.1.Nodes)]]) (want1 rfl rfl rfl h67) (q02 rfl rfl fn22 hb22 rfl rfl) (fun s=>q1r n (GFS.mk r9.1.Nodes) r68 h69 s) rfl rfl (RD.look (u:=.bool (!r68)) (want1 rfl rfl rfl h67) (q7y rfl rfl rfl rfl) rfl rfl (RD.q (u:=.bool (!r68)) rfl (q0r rfl h67 rfl) (RD.mv rfl rfl rfl rfl ?_)))))))
 refine RD.free (u:=.agg [.isl false (List.map cGNode r71.Nodes)]) (args:=[.int .i64 4]) (want1 rfl rfl rfl h70) (q02 rfl rfl fn12 hb12 rfl rfl) (fun s=>q66 n 4 r71 h72 s) rfl rfl (RD.free (u:=.agg (cGNode r73)) (args:=[.int .i64 4,.nils]) (want1 rfl rfl rfl h70) (q02 rfl rfl fn29 hb29 rfl rfl) (fun s=>EvU.wkA (args':=[.int .i64 4,.isl false []]) (.cons (.refl _) (.cons (.nil false) .nil)) (fun s=>q05 n 4 [] r73 h74 s) s) rfl rfl (RD.act (u:=.sl 12 0 1 1) (σ':=⟨[(12,.row (cGNode r73) 43),(8,.row [.isl false (List.map cGNode r47.1.Nodes)] 25),(7,.row [.isl false (List.map cGNode r19.1.Nodes)] 25),(3,.row [.isl false (List.map cGNode r9.1.Nodes)] 25)],13⟩) (want1 rfl rfl rfl h70) (q26 und23 inf43 rfl rfl rfl rfl rfl rfl rfl) rfl rfl ?_))
 refine RD.fcall (u:=.agg [.isl false (List.map cGNode r75.Nodes)]) (args:=[.sl 12 0 1 1]) (σ1:=⟨[(8,.row [.isl false (List.map cGNode r47.1.Nodes)] 25),(7,.row [.isl false (List.map cGNode r19.1.Nodes)] 25),(3,.row [.isl false (List.map cGNode r9.1.Nodes)] 25)],13⟩) (want1 rfl rfl rfl h70) (q02 rfl rfl fn32 hb32 rfl rfl) (Gh.fz (tm':=[.isl false (List.map cGNode ([r73]))]) (h':=[(8,.row [.isl false (List.map cGNode r47.1.Nodes)] 25),(7,.row [.isl false (List.map cGNode r19.1.Nodes)] 25),(3,.row [.isl false (List.map cGNode r9.1.Nodes)] 25)]) 12 (.row [.int .i64 r73.Typex,.isl false (List.map cGArc r73.Arcs)] 43) 2 rfl (by simp) (by simp only [oneU,q07,q03,q0k,q09,q0n,q0d,q0c,q0b,q0a,q08,q0l,q0m,q0j,q0o,q1j,junkT,q20,q22,q24,Nat.reduceLeDiff,Nat.reduceMul,List.length_cons,List.length_nil,Nat.reduceAdd]<;>simp only [chunks,List.take,List.drop,List.map,cGNode]) (by simp only [fzH,fzB,ug,Nat.beq,cond_true,cond_false,oneU,q07,q03,q0k,q09,q0n,q0d,q0c,q0b,q0a,q08,q0l,q0m,q0j,q0o,q1j,junkT,q20,q22,q24,Nat.reduceLeDiff,Nat.reduceMul,List.length_cons,List.length_nil,Nat.reduceAdd]<;>simp only [chunks,List.take,List.drop,List.map,cGNode])) (Nat.le_of_ble_eq_true rfl) (q1c n ([r73]) r75 h76 _) rfl rfl ?_
 refine RD.free (u:=.bool r77) (args:=[.agg [.isl false (List.map cGNode r71.Nodes)],.agg [.isl false (List.map cGNode r75.Nodes)]]) (want1 rfl rfl rfl h70) (q02 rfl rfl fn14 hb14 rfl rfl) (fun s=>q17 n r71 r75 r77 h78 s) rfl rfl (RD.q (u:=.bool r77) rfl (q0r rfl h70 rfl) (RD.mv rfl rfl rfl rfl ?_))
 repeat refine RD.no (want0 rfl rfl rfl h79) rfl rfl ?_
 refine RD.q (u:=.bool false) rfl (q0p rfl h79 rfl) (RD.mv rfl rfl rfl rfl ?_)
 repeat refine RD.no (want0 rfl rfl rfl rfl) rfl rfl ?_
 refine RD.q (u:=.bool false) rfl (q0p rfl rfl rfl) (RD.as rfl rfl rfl rfl ?_)
 refine RD.done ⟨by kernel_rfl,trivial,?_⟩
 refine st ?_
 exact ⟨_,_,⟨rfl,rfl⟩,(Nat.zero_le _),Gh.toC (n1:=9) ⟨rfl,trivial⟩ rfl (Nat.zero_le _) (by simp)⟩
 replace h88:=q0f h70 h88
 replace h88:=Option.some.inj h88
 subst h88
 refine WPU.drawE Try.tb_ok [] (by kernel_rfl) ?_
 refine RD.mv rfl rfl rfl rfl (RD.q rfl (q04 rfl rfl (q6i _ _ _) rfl) (RD.mv rfl rfl rfl rfl (RD.look (u:=.agg [.isl false (List.map cGNode r9.1.Nodes)]) (want1 rfl rfl rfl h49) (q0q und25 rfl (q01 inf25) rfl rfl rfl) rfl rfl (RD.free (u:=.agg [.isl false (List.map cGNode r50.Nodes)]) (args:=[.agg [.isl false (List.map cGNode r9.1.Nodes)],.int .i64 1]) (want1 rfl rfl rfl h49) (q02 rfl rfl fn20 hb20 rfl rfl) (fun s=>q43 n (GFS.mk r9.1.Nodes) 1 r50 h51 s) rfl rfl (RD.freeO (u:=.isl false (List.map (cI .i64) ([0,1]))) (want1 rfl rfl rfl h49) (FreeO.bs (cs:=[.int .i64 0,.int .i64 1]) und55 inf3 rfl rfl rfl rfl rfl rfl rfl rfl rfl) rfl rfl (RD.free (u:=.agg (cGNode r52)) (args:=[.int .i64 3,.isl false (List.map (cI .i64) ([0,1]))]) (want1 rfl rfl rfl h49) (q02 rfl rfl fn29 hb29 rfl rfl) (fun s=>q05 n 3 ([0,1]) r52 h53 s) rfl rfl (RD.free (u:=.agg (cGNode r54)) (args:=[.int .i64 2,.nils]) (want1 rfl rfl rfl h49) (q02 rfl rfl fn29 hb29 rfl rfl) (fun s=>EvU.wkA (args':=[.int .i64 2,.isl false []]) (.cons (.refl _) (.cons (.nil false) .nil)) (fun s=>q05 n 2 [] r54 h55 s) s) rfl rfl ?_)))))))
 refine RD.act (u:=.sl 9 0 2 2) (σ':=⟨[(9,.row [.int .i64 r52.Typex,.isl false (List.map cGArc r52.Arcs),.int .i64 r54.Typex,.isl false (List.map cGArc r54.Arcs)] 43),(8,.row [.isl false (List.map cGNode r47.1.Nodes)] 25),(7,.row [.isl false (List.map cGNode r19.1.Nodes)] 25),(3,.row [.isl false (List.map cGNode r9.1.Nodes)] 25)],10⟩) (want1 rfl rfl rfl h49) (q26 und23 inf43 rfl rfl rfl rfl rfl rfl rfl) rfl rfl ?_
 refine RD.fcall (u:=.agg [.isl false (List.map cGNode r56.Nodes)]) (args:=[.sl 9 0 2 2]) (σ1:=⟨[(8,.row [.isl false (List.map cGNode r47.1.Nodes)] 25),(7,.row [.isl false (List.map cGNode r19.1.Nodes)] 25),(3,.row [.isl false (List.map cGNode r9.1.Nodes)] 25)],10⟩) (want1 rfl rfl rfl h49) (q02 rfl rfl fn32 hb32 rfl rfl) (Gh.fz (tm':=[.isl false (List.map cGNode ([r52,r54]))]) (h':=[(8,.row [.isl false (List.map cGNode r47.1.Nodes)] 25),(7,.row [.isl false (List.map cGNode r19.1.Nodes)] 25),(3,.row [.isl false (List.map cGNode r9.1.Nodes)] 25)]) 9 (.row [.int .i64 r52.Typex,.isl false (List.map cGArc r52.Arcs),.int .i64 r54.Typex,.isl false (List.map cGArc r54.Arcs)] 43) 2 rfl (by simp) (by simp only [oneU,q07,q03,q0k,q09,q0n,q0d,q0c,q0b,q0a,q08,q0l,q0m,q0j,q0o,q1j,junkT,q20,q22,Nat.reduceLeDiff,Nat.reduceMul,List.length_cons,List.length_nil,Nat.reduceAdd]<;>simp only [chunks,List.take,List.drop,List.map,cGNode]) (by simp only [fzH,fzB,ug,Nat.beq,cond_true,cond_false,oneU,q07,q03,q0k,q09,q0n,q0d,q0c,q0b,q0a,q08,q0l,q0m,q0j,q0o,q1j,junkT,q20,q22,Nat.reduceLeDiff,Nat.reduceMul,List.length_cons,List.length_nil,Nat.reduceAdd]<;>simp only [chunks,List.take,List.drop,List.map,cGNode])) (Nat.le_of_ble_eq_true rfl) (q1c n ([r52,r54]) r56 h57 _) rfl rfl ?_
 refine RD.free (u:=.bool r58) (args:=[.agg [.isl false (List.map cGNode r50.Nodes)],.agg [.isl false (List.map cGNode r56.Nodes)]]) (want1 rfl rfl rfl h49) (q02 rfl rfl fn14 hb14 rfl rfl) (fun s=>q17 n r50 r56 r58 h59 s) rfl rfl (RD.q (u:=.bool r58) rfl (q0r rfl h49 rfl) (RD.mv rfl rfl rfl rfl (RD.act (u:=.sl 10 0 2 2) (σ':=⟨[(10,.row [.int .i64 5,.int .i64 0] 3),(8,.row [.isl false (List.map cGNode r47.1.Nodes)] 25),(7,.row [.isl false (List.map cGNode r19.1.Nodes)] 25),(3,.row [.isl false (List.map cGNode r9.1.Nodes)] 25)],11⟩) (want1 rfl rfl rfl h60) (q26 und55 inf3 rfl rfl rfl rfl rfl rfl rfl) rfl rfl ?_)))
 refine RD.fcall (u:=.agg (cGNode r61)) (args:=[.int .i64 1,.sl 10 0 2 2]) (σ1:=⟨[(8,.row [.isl false (List.map cGNode r47.1.Nodes)] 25),(7,.row [.isl false (List.map cGNode r19.1.Nodes)] 25),(3,.row [.isl false (List.map cGNode r9.1.Nodes)] 25)],11⟩) (want1 rfl rfl rfl h60) (q02 rfl rfl fn29 hb29 rfl rfl) (Gh.fz (tm':=[.int .i64 1,.isl false (List.map (cI .i64) ([5,0]))]) (h':=[(8,.row [.isl false (List.map cGNode r47.1.Nodes)] 25),(7,.row [.isl false (List.map cGNode r19.1.Nodes)] 25),(3,.row [.isl false (List.map cGNode r9.1.Nodes)] 25)]) 10 (.row [.int .i64 5,.int .i64 0] 3) 1 rfl (by simp) (by simp only [oneU,q07,q03,q0k,q09,q0n,q0d,q0c,q0b,q0a,q08,q0l,q0m,q0j,q0o,q1j,junkT,q20,q22,Nat.reduceLeDiff,Nat.reduceMul,List.length_cons,List.length_nil,Nat.reduceAdd]<;>simp only [chunks,List.take,List.drop,List.map,cI,cB,cS,cL]) (by simp only [fzH,fzB,ug,Nat.beq,cond_true,cond_false,oneU,q07,q03,q0k,q09,q0n,q0d,q0c,q0b,q0a,q08,q0l,q0m,q0j,q0o,q1j,junkT,q20,q22,Nat.reduceLeDiff,Nat.reduceMul,List.length_cons,List.length_nil,Nat.reduceAdd]<;>simp only [chunks,List.take,List.drop,List.map,cI,cB,cS,cL])) (Nat.le_of_ble_eq_true rfl) (q05 n 1 ([5,0]) r61 h62 _) rfl rfl ?_
 refine RD.act (u:=.sl 11 0 1 1) (σ':=⟨[(11,.row (cGNode r61) 43),(8,.row [.isl false (List.map cGNode r47.1.Nodes)] 25),(7,.row [.isl false (List.map cGNode r19.1.Nodes)] 25),(3,.row [.isl false (List.map cGNode r9.1.Nodes)] 25)],12⟩) (want1 rfl rfl rfl h60) (q26 und23 inf43 rfl rfl rfl rfl rfl rfl rfl) rfl rfl ?_
 refine RD.fcall (u:=.agg [.isl false (List.map cGNode r63.Nodes)]) (args:=[.sl 11 0 1 1]) (σ1:=⟨[(8,.row [.isl false (List.map cGNode r47.1.Nodes)] 25),(7,.row [.isl false (List.map cGNode r19.1.Nodes)] 25),(3,.row [.isl false (List.map cGNode r9.1.Nodes)] 25)],12⟩) (want1 rfl rfl rfl h60) (q02 rfl rfl fn32 hb32 rfl rfl) (Gh.fz (tm':=[.isl false (List.map cGNode ([r61]))]) (h':=[(8,.row [.isl false (List.map cGNode r47.1.Nodes)] 25),(7,.row [.isl false (List.map cGNode r19.1.Nodes)] 25),(3,.row [.isl false (List.map cGNode r9.1.Nodes)] 25)]) 11 (.row [.int .i64 r61.Typex,.isl false (List.map cGArc r61.Arcs)] 43) 2 rfl (by simp) (by simp only [oneU,q07,q03,q0k,q09,q0n,q0d,q0c,q0b,q0a,q08,q0l,q0m,q0j,q0o,q1j,junkT,q20,q22,q24,Nat.reduceLeDiff,Nat.reduceMul,List.length_cons,List.length_nil,Nat.reduceAdd]<;>simp only [chunks,List.take,List.drop,List.map,cGNode]) (by simp only [fzH,fzB,ug,Nat.beq,cond_true,cond_false,oneU,q07,q03,q0k,q09,q0n,q0d,q0c,q0b,q0a,q08,q0l,q0m,q0j,q0o,q1j,junkT,q20,q22,q24,Nat.reduceLeDiff,Nat.reduceMul,List.length_cons,List.length_nil,Nat.reduceAdd]<;>simp only [chunks,List.take,List.drop,List.map,cGNode])) (Nat.le_of_ble_eq_true rfl) (q1c n ([r61]) r63 h64 _) rfl rfl ?_
 refine RD.free (u:=.bool r65) (args:=[.agg [.isl false (List.map cGNode r63.Nodes)]]) (want1 rfl rfl rfl h60) (q02 rfl rfl fn22 hb22 rfl rfl) (fun s=>q1r n r63 r65 h66 s) rfl rfl (RD.q (u:=.bool r65) rfl (q0r rfl h60 rfl) (RD.mv rfl rfl rfl rfl (RD.look (u:=.agg [.isl false (List.map cGNode r9.1.Nodes)]) (want1 rfl rfl rfl h67) (q0q und25 rfl (q01 inf25) rfl rfl rfl) rfl rfl (RD.free (u:=.bool r68) (args:=[.agg [.isl false (List.map cGNode r9.1.Nodes)]]) (want1 rfl rfl rfl h67) (q02 rfl rfl fn22 hb22 rfl rfl) (fun s=>q1r n (GFS.mk r9.1.Nodes) r68 h69 s) rfl rfl (RD.look (u:=.bool (!r68)) (want1 rfl rfl rfl h67) (q7y rfl rfl rfl rfl) rfl rfl (RD.q (u:=.bool (!r68)) rfl (q0r rfl h67 rfl) (RD.mv rfl rfl rfl rfl ?_)))))))
 repeat refine RD.no (want0 rfl rfl rfl h70) rfl rfl ?_
 refine RD.q (u:=.bool false) rfl (q0p rfl h70 rfl) (RD.mv rfl rfl rfl rfl ?_)
 repeat refine RD.no (want0 rfl rfl rfl rfl) rfl rfl ?_
 refine RD.q (u:=.bool false) rfl (q0p rfl rfl rfl) (RD.mv rfl rfl rfl rfl ?_)
 repeat refine RD.no (want0 rfl rfl rfl rfl) rfl rfl ?_
 refine RD.q (u:=.bool false) rfl (q0p rfl rfl rfl) (RD.as rfl rfl rfl rfl ?_)
 refine RD.done ⟨by kernel_rfl,trivial,?_⟩
 refine st ?_
 exact ⟨_,_,⟨rfl,rfl⟩,(Nat.zero_le _),Gh.toC (n1:=9) ⟨rfl,trivial⟩ rfl (Nat.zero_le _) (by simp)⟩
 replace h88:=q0f h67 h88
 replace h88:=Option.some.inj h88
 subst h88
 refine WPU.drawE Try.tb_ok [] (by kernel_rfl) ?_
 refine RD.mv rfl rfl rfl rfl (RD.q rfl (q04 rfl rfl (q6i _ _ _) rfl) (RD.mv rfl rfl rfl rfl (RD.look (u:=.agg [.isl false (List.map cGNode r9.1.Nodes)]) (want1 rfl rfl rfl h49) (q0q und25 rfl (q01 inf25) rfl rfl rfl) rfl rfl (RD.free (u:=.agg [.isl false (List.map cGNode r50.Nodes)]) (args:=[.agg [.isl false (List.map cGNode r9.1.Nodes)],.int .i64 1]) (want1 rfl rfl rfl h49) (q02 rfl rfl fn20 hb20 rfl rfl) (fun s=>q43 n (GFS.mk r9.1.Nodes) 1 r50 h51 s) rfl rfl (RD.freeO (u:=.isl false (List.map (cI .i64) ([0,1]))) (want1 rfl rfl rfl h49) (FreeO.bs (cs:=[.int .i64 0,.int .i64 1]) und55 inf3 rfl rfl rfl rfl rfl rfl rfl rfl rfl) rfl rfl (RD.free (u:=.agg (cGNode r52)) (args:=[.int .i64 3,.isl false (List.map (cI .i64) ([0,1]))]) (want1 rfl rfl rfl h49) (q02 rfl rfl fn29 hb29 rfl rfl) (fun s=>q05 n 3 ([0,1]) r52 h53 s) rfl rfl (RD.free (u:=.agg (cGNode r54)) (args:=[.int .i64 2,.nils]) (want1 rfl rfl rfl h49) (q02 rfl rfl fn29 hb29 rfl rfl) (fun s=>EvU.wkA (args':=[.int .i64 2,.isl false []]) (.cons (.refl _) (.cons (.nil false) .nil)) (fun s=>q05 n 2 [] r54 h55 s) s) rfl rfl ?_)))))))
 refine RD.act (u:=.sl 9 0 2 2) (σ':=⟨[(9,.row [.int .i64 r52.Typex,.isl false (List.map cGArc r52.Arcs),.int .i64 r54.Typex,.isl false (List.map cGArc r54.Arcs)] 43),(8,.row [.isl false (List.map cGNode r47.1.Nodes)] 25),(7,.row [.isl false (List.map cGNode r19.1.Nodes)] 25),(3,.row [.isl false (List.map cGNode r9.1.Nodes)] 25)],10⟩) (want1 rfl rfl rfl h49) (q26 und23 inf43 rfl rfl rfl rfl rfl rfl rfl) rfl rfl ?_
 refine RD.fcall (u:=.agg [.isl false (List.map cGNode r56.Nodes)]) (args:=[.sl 9 0 2 2]) (σ1:=⟨[(8,.row [.isl false (List.map cGNode r47.1.Nodes)] 25),(7,.row [.isl false (List.map cGNode r19.1.Nodes)] 25),(3,.row [.isl false (List.map cGNode r9.1.Nodes)] 25)],10⟩) (want1 rfl rfl rfl h49) (q02 rfl rfl fn32 hb32 rfl rfl) (Gh.fz (tm':=[.isl false (List.map cGNode ([r52,r54]))]) (h':=[(8,.row [.isl false (List.map cGNode r47.1.Nodes)] 25),(7,.row [.isl false (List.map cGNode r19.1.Nodes)] 25),(3,.row [.isl false (List.map cGNode r9.1.Nodes)] 25)]) 9 (.row [.int .i64 r52.Typex,.isl false (List.map cGArc r52.Arcs),.int .i64 r54.Typex,.isl false (List.map cGArc r54.Arcs)] 43) 2 rfl (by simp) (by simp only [oneU,q07,q03,q0k,q09,q0n,q0d,q0c,q0b,q0a,q08,q0l,q0m,q0j,q0o,q1j,junkT,q20,q22,Nat.reduceLeDiff,Nat.reduceMul,List.length_cons,List.length_nil,Nat.reduceAdd]<;>simp only [chunks,List.take,List.drop,List.map,cGNode]) (by simp only [fzH,fzB,ug,Nat.beq,cond_true,cond_false,oneU,q07,q03,q0k,q09,q0n,q0d,q0c,q0b,q0a,q08,q0l,q0m,q0j,q0o,q1j,junkT,q20,q22,Nat.reduceLeDiff,Nat.reduceMul,List.length_cons,List.length_nil,Nat.reduceAdd]<;>simp only [chunks,List.take,List.drop,List.map,cGNode])) (Nat.le_of_ble_eq_true rfl) (q1c n ([r52,r54]) r56 h57 _) rfl rfl ?_
 refine RD.free (u:=.bool r58) (args:=[.agg [.isl false (List.map cGNode r50.Nodes)],.agg [.isl false (List.map cGNode r56.Nodes)]]) (want1 rfl rfl rfl h49) (q02 rfl rfl fn14 hb14 rfl rfl) (fun s=>q17 n r50 r56 r58 h59 s) rfl rfl (RD.q (u:=.bool r58) rfl (q0r rfl h49 rfl) (RD.mv rfl rfl rfl rfl (RD.act (u:=.sl 10 0 2 2) (σ':=⟨[(10,.row [.int .i64 5,.int .i64 0] 3),(8,.row [.isl false (List.map cGNode r47.1.Nodes)] 25),(7,.row [.isl false (List.map cGNode r19.1.Nodes)] 25),(3,.row [.isl false (List.map cGNode r9.1.Nodes)] 25)],11⟩) (want1 rfl rfl rfl h60) (q26 und55 inf3 rfl rfl rfl rfl rfl rfl rfl) rfl rfl ?_)))
 refine RD.fcall (u:=.agg (cGNode r61)) (args:=[.int .i64 1,.sl 10 0 2 2]) (σ1:=⟨[(8,.row [.isl false (List.map cGNode r47.1.Nodes)] 25),(7,.row [.isl false (List.map cGNode r19.1.Nodes)] 25),(3,.row [.isl false (List.map cGNode r9.1.Nodes)] 25)],11⟩) (want1 rfl rfl rfl h60) (q02 rfl rfl fn29 hb29 rfl rfl) (Gh.fz (tm':=[.int .i64 1,.isl false (List.map (cI .i64) ([5,0]))]) (h':=[(8,.row [.isl false (List.map cGNode r47.1.Nodes)] 25),(7,.row [.isl false (List.map cGNode r19.1.Nodes)] 25),(3,.row [.isl false (List.map cGNode r9.1.Nodes)] 25)]) 10 (.row [.int .i64 5,.int .i64 0] 3) 1 rfl (by simp) (by simp only [oneU,q07,q03,q0k,q09,q0n,q0d,q0c,q0b,q0a,q08,q0l,q0m,q0j,q0o,q1j,junkT,q20,q22,Nat.reduceLeDiff,Nat.reduceMul,List.length_cons,List.length_nil,Nat.reduceAdd]<;>simp only [chunks,List.take,List.drop,List.map,cI,cB,cS,cL]) (by simp only [fzH,fzB,ug,Nat.beq,cond_true,cond_false,oneU,q07,q03,q0k,q09,q0n,q0d,q0c,q0b,q0a,q08,q0l,q0m,q0j,q0o,q1j,junkT,q20,q22,Nat.reduceLeDiff,Nat.reduceMul,List.length_cons,List.length_nil,Nat.reduceAdd]<;>simp only [chunks,List.take,List.drop,List.map,cI,cB,cS,cL])) (Nat.le_of_ble_eq_true rfl) (q05 n 1 ([5,0]) r61 h62 _) rfl rfl ?_
 refine RD.act (u:=.sl 11 0 1 1) (σ':=⟨[(11,.row (cGNode r61) 43),(8,.row [.isl false (List.map cGNode r47.1.Nodes)] 25),(7,.row [.isl false (List.map cGNode r19.1.Nodes)] 25),(3,.row [.isl false (List.map cGNode r9.1.Nodes)] 25)],12⟩) (want1 rfl rfl rfl h60) (q26 und23 inf43 rfl rfl rfl rfl rfl rfl rfl) rfl rfl ?_
 refine RD.fcall (u:=.agg [.isl false (List.map cGNode r63.Nodes)]) (args:=[.sl 11 0 1 1]) (σ1:=⟨[(8,.row [.isl false (List.map cGNode r47.1.Nodes)] 25),(7,.row [.isl false (List.map cGNode r19.1.Nodes)] 25),(3,.row [.isl false (List.map cGNode r9.1.Nodes)] 25)],12⟩) (want1 rfl rfl rfl h60) (q02 rfl rfl fn32 hb32 rfl rfl) (Gh.fz (tm':=[.isl false (List.map cGNode ([r61]))]) (h':=[(8,.row [.isl false (List.map cGNode r47.1.Nodes)] 25),(7,.row [.isl false (List.map cGNode r19.1.Nodes)] 25),(3,.row [.isl false (List.map cGNode r9.1.Nodes)] 25)]) 11 (.row [.int .i64 r61.Typex,.isl false (List.map cGArc r61.Arcs)] 43) 2 rfl (by simp) (by simp only [oneU,q07,q03,q0k,q09,q0n,q0d,q0c,q0b,q0a,q08,q0l,q0m,q0j,q0o,q1j,junkT,q20,q22,q24,Nat.reduceLeDiff,Nat.reduceMul,List.length_cons,List.length_nil,Nat.reduceAdd]<;>simp only [chunks,List.take,List.drop,List.map,cGNode]) (by simp only [fzH,fzB,ug,Nat.beq,cond_true,cond_false,oneU,q07,q03,q0k,q09,q0n,q0d,q0c,q0b,q0a,q08,q0l,q0m,q0j,q0o,q1j,junkT,q20,q22,q24,Nat.reduceLeDiff,Nat.reduceMul,List.length_cons,List.length_nil,Nat.reduceAdd]<;>simp only [chunks,List.take,List.drop,List.map,cGNode])) (Nat.le_of_ble_eq_true rfl) (q1c n ([r61]) r63 h64 _) rfl rfl ?_
 refine RD.free (u:=.bool r65) (args:=[.agg [.isl false (List.map cGNode r63.Nodes)]]) (want1 rfl rfl rfl h60) (q02 rfl rfl fn22 hb22 rfl rfl) (fun s=>q1r n r63 r65 h66 s) rfl rfl (RD.q (u:=.bool r65) rfl (q0r rfl h60 rfl) (RD.mv rfl rfl rfl rfl ?_))
 repeat refine RD.no (want0 rfl rfl rfl h67) rfl rfl ?_
 refine RD.q (u:=.bool false) rfl (q0p rfl h67 rfl) (RD.mv rfl rfl rfl rfl ?_)
 repeat refine RD.no (want0 rfl rfl rfl rfl) rfl rfl ?_
 refine RD.q (u:=.bool false) rfl (q0p rfl rfl rfl) (RD.mv rfl rfl rfl rfl ?_)
 repeat refine RD.no (want0 rfl rfl rfl rfl) rfl rfl ?_
 refine RD.q (u:=.bool false) rfl (q0p rfl rfl rfl) (RD.mv rfl rfl rfl rfl ?_)
 repeat refine RD.no (want0 rfl rfl rfl rfl) rfl rfl ?_
 refine RD.q (u:=.bool false) rfl (q0p rfl rfl rfl) (RD.as rfl rfl rfl rfl ?_)
 refine RD.done ⟨by kernel_rfl,trivial,?_⟩
 refine st ?_
 exact ⟨_,_,⟨rfl,rfl⟩,(Nat.zero_le _),Gh.toC (n1:=9) ⟨rfl,trivial⟩ rfl (Nat.zero_le _) (by simp)⟩
 replace h88:=q0f h60 h88
 replace h88:=Option.some.inj h88
 subst h88
 refine WPU.drawE Try.tb_ok [] (by kernel_rfl) ?_
 refine RD.mv rfl rfl rfl rfl (RD.q rfl (q04 rfl rfl (q6i _ _ _) rfl) (RD.mv rfl rfl rfl rfl (RD.look (u:=.agg [.isl false (List.map cGNode r9.1.Nodes)]) (want1 rfl rfl rfl h49) (q0q und25 rfl (q01 inf25) rfl rfl rfl) rfl rfl (RD.free (u:=.agg [.isl false (List.map cGNode r50.Nodes)]) (args:=[.agg [.isl false (List.map cGNode r9.1.Nodes)],.int .i64 1]) (want1 rfl rfl rfl h49) (q02 rfl rfl fn20 hb20 rfl rfl) (fun s=>q43 n (GFS.mk r9.1.Nodes) 1 r50 h51 s) rfl rfl (RD.freeO (u:=.isl false (List.map (cI .i64) ([0,1]))) (want1 rfl rfl rfl h49) (FreeO.bs (cs:=[.int .i64 0,.int .i64 1]) und55 inf3 rfl rfl rfl rfl rfl rfl rfl rfl rfl) rfl rfl (RD.free (u:=.agg (cGNode r52)) (args:=[.int .i64 3,.isl false (List.map (cI .i64) ([0,1]))]) (want1 rfl rfl rfl h49) (q02 rfl rfl fn29 hb29 rfl rfl) (fun s=>q05 n 3 ([0,1]) r52 h53 s) rfl rfl (RD.free (u:=.agg (cGNode r54)) (args:=[.int .i64 2,.nils]) (want1 rfl rfl rfl h49) (q02 rfl rfl fn29 hb29 rfl rfl) (fun s=>EvU.wkA (args':=[.int .i64 2,.isl false []]) (.cons (.refl _) (.cons (.nil false) .nil)) (fun s=>q05 n 2 [] r54 h55 s) s) rfl rfl ?_)))))))
 refine RD.act (u:=.sl 9 0 2 2) (σ':=⟨[(9,.row [.int .i64 r52.Typex,.isl false (List.map cGArc r52.Arcs),.int .i64 r54.Typex,.isl false (List.map cGArc r54.Arcs)] 43),(8,.row [.isl false (List.map cGNode r47.1.Nodes)] 25),(7,.row [.isl false (List.map cGNode r19.1.Nodes)] 25),(3,.row [.isl false (List.map cGNode r9.1.Nodes)] 25)],10⟩) (want1 rfl rfl rfl h49) (q26 und23 inf43 rfl rfl rfl rfl rfl rfl rfl) rfl rfl ?_
 refine RD.fcall (u:=.agg [.isl false (List.map cGNode r56.Nodes)]) (args:=[.sl 9 0 2 2]) (σ1:=⟨[(8,.row [.isl false (List.map cGNode r47.1.Nodes)] 25),(7,.row [.isl false (List.map cGNode r19.1.Nodes)] 25),(3,.row [.isl false (List.map cGNode r9.1.Nodes)] 25)],10⟩) (want1 rfl rfl rfl h49) (q02 rfl rfl fn32 hb32 rfl rfl) (Gh.fz (tm':=[.isl false (List.map cGNode ([r52,r54]))]) (h':=[(8,.row [.isl false (List.map cGNode r47.1.Nodes)] 25),(7,.row [.isl false (List.map cGNode r19.1.Nodes)] 25),(3,.row [.isl false (List.map cGNode r9.1.Nodes)] 25)]) 9 (.row [.int .i64 r52.Typex,.isl false (List.map cGArc r52.Arcs),.int .i64 r54.Typex,.isl false (List.map cGArc r54.Arcs)] 43) 2 rfl (by simp) (by simp only [oneU,q07,q03,q0k,q09,q0n,q0d,q0c,q0b,q0a,q08,q0l,q0m,q0j,q0o,q1j,junkT,q20,q22,Nat.reduceLeDiff,Nat.reduceMul,List.length_cons,List.length_nil,Nat.reduceAdd]<;>simp only [chunks,List.take,List.drop,List.map,cGNode]) (by simp only [fzH,fzB,ug,Nat.beq,cond_true,cond_false,oneU,q07,q03,q0k,q09,q0n,q0d,q0c,q0b,q0a,q08,q0l,q0m,q0j,q0o,q1j,junkT,q20,q22,Nat.reduceLeDiff,Nat.reduceMul,List.length_cons,List.length_nil,Nat.reduceAdd]<;>simp only [chunks,List.take,List.drop,List.map,cGNode])) (Nat.le_of_ble_eq_true rfl) (q1c n ([r52,r54]) r56 h57 _) rfl rfl ?_
 refine RD.free (u:=.bool r58) (args:=[.agg [.isl false (List.map cGNode r50.Nodes)],.agg [.isl false (List.map cGNode r56.Nodes)]]) (want1 rfl rfl rfl h49) (q02 rfl rfl fn14 hb14 rfl rfl) (fun s=>q17 n r50 r56 r58 h59 s) rfl rfl (RD.q (u:=.bool r58) rfl (q0r rfl h49 rfl) (RD.mv rfl rfl rfl rfl ?_))
 repeat refine RD.no (want0 rfl rfl rfl h60) rfl rfl ?_
 refine RD.q (u:=.bool false) rfl (q0p rfl h60 rfl) (RD.mv rfl rfl rfl rfl ?_)
 repeat refine RD.no (want0 rfl rfl rfl rfl) rfl rfl ?_
 refine RD.q (u:=.bool false) rfl (q0p rfl rfl rfl) (RD.mv rfl rfl rfl rfl ?_)
 repeat refine RD.no (want0 rfl rfl rfl rfl) rfl rfl ?_
 refine RD.q (u:=.bool false) rfl (q0p rfl rfl rfl) (RD.mv rfl rfl rfl rfl ?_)
 repeat refine RD.no (want0 rfl rfl rfl rfl) rfl rfl ?_
 refine RD.q (u:=.bool false) rfl (q0p rfl rfl rfl) (RD.mv rfl rfl rfl rfl ?_)
 repeat refine RD.no (want0 rfl rfl rfl rfl) rfl rfl ?_
 refine RD.q (u:=.bool false) rfl (q0p rfl rfl rfl) (RD.as rfl rfl rfl rfl ?_)
 refine RD.done ⟨by kernel_rfl,trivial,?_⟩
 refine st ?_
 exact ⟨_,_,⟨rfl,rfl⟩,(Nat.zero_le _),Gh.toC (n1:=9) ⟨rfl,trivial⟩ rfl (Nat.zero_le _) (by simp)⟩
 replace h88:=q0f h49 h88
 replace h88:=Option.some.inj h88
 subst h88
 refine WPU.drawE Try.tb_ok [] (by kernel_rfl) ?_
 refine RD.mv rfl rfl rfl rfl (RD.q rfl (q04 rfl rfl (q6i _ _ _) rfl) (RD.mv rfl rfl rfl rfl ?_))
 repeat refine RD.no (want0 rfl rfl rfl h49) rfl rfl ?_
 refine RD.q (u:=.bool false) rfl (q0p rfl h49 rfl) (RD.mv rfl rfl rfl rfl ?_)
 repeat refine RD.no (want0 rfl rfl rfl rfl) rfl rfl ?_
 refine RD.q (u:=.bool false) rfl (q0p rfl rfl rfl) (RD.mv rfl rfl rfl rfl ?_)
 repeat refine RD.no (want0 rfl rfl rfl rfl) rfl rfl ?_
 refine RD.q (u:=.bool false) rfl (q0p rfl rfl rfl) (RD.mv rfl rfl rfl rfl ?_)
 repeat refine RD.no (want0 rfl rfl rfl rfl) rfl rfl ?_
 refine RD.q (u:=.bool false) rfl (q0p rfl rfl rfl) (RD.mv rfl rfl rfl rfl ?_)
 repeat refine RD.no (want0 rfl rfl rfl rfl) rfl rfl ?_
 refine RD.q (u:=.bool false) rfl (q0p rfl rfl rfl) (RD.mv rfl rfl rfl rfl ?_)
 repeat refine RD.no (want0 rfl rfl rfl rfl) rfl rfl ?_
 refine RD.q (u:=.bool false) rfl (q0p rfl rfl rfl) (RD.as rfl rfl rfl rfl ?_)
 refine RD.done ⟨by kernel_rfl,trivial,?_⟩
 refine st ?_
 exact ⟨_,_,⟨rfl,rfl⟩,(Nat.zero_le _),Gh.toC (n1:=9) ⟨rfl,trivial⟩ rfl (Nat.zero_le _) (by simp)⟩
 rcases q3f (r9.2 != 0) with h21 | h21
 replace h45:=q0g h21 h45
 replace h45:=Option.some.inj h45
 subst h45
 refine WPU.drawE Try.tb_ok [] (by kernel_rfl) ?_
 refine RD.mv rfl rfl rfl rfl (RD.q rfl (q04 rfl rfl (q63 _ _ _) rfl) (RD.mv rfl rfl rfl rfl ?_))
 repeat refine RD.no (want0 rfl rfl rfl h21) rfl rfl ?_
 refine RD.q (u:=.bool true) rfl (q0r rfl h21 rfl) (RD.mv rfl rfl rfl rfl ?_)
 repeat refine RD.no (want0 rfl rfl rfl rfl) rfl rfl ?_
 refine RD.q (u:=.bool true) rfl (q0r rfl rfl rfl) (RD.mv rfl rfl rfl rfl ?_)
 repeat refine RD.no (want0 rfl rfl rfl rfl) rfl rfl ?_
 refine RD.q (u:=.bool true) rfl (q0r rfl rfl rfl) ?_
 refine RD.done ⟨by kernel_rfl,trivial,?_⟩
 refine st ?_
 exact ⟨_,_,⟨rfl,rfl⟩,(Nat.zero_le _),Gh.toC (n1:=8) ⟨rfl,rfl,trivial⟩ rfl (Nat.zero_le _) (by simp)⟩
 replace h45:=q0f h21 h45
 rcases q3f (r19.2 != 0) with h22 | h22
 replace h45:=q0g h22 h45
 replace h45:=Option.some.inj h45
 subst h45
 refine WPU.drawE Try.tb_ok [] (by kernel_rfl) ?_
 refine RD.mv rfl rfl rfl rfl (RD.q rfl (q04 rfl rfl (q63 _ _ _) rfl) (RD.mv rfl rfl rfl rfl (RD.look (want1 rfl rfl rfl h21) (q2b rfl) rfl rfl (RD.look (want1 rfl rfl rfl h21) (q04 rfl rfl (q63 _ _ _) rfl) rfl rfl (RD.q (u:=.bool (r19.2 != 0)) rfl (q0p rfl h21 rfl) (RD.mv rfl rfl rfl rfl ?_))))))
 repeat refine RD.no (want0 rfl rfl rfl h22) rfl rfl ?_
 refine RD.q (u:=.bool true) rfl (q0r rfl h22 rfl) (RD.mv rfl rfl rfl rfl ?_)
 repeat refine RD.no (want0 rfl rfl rfl rfl) rfl rfl ?_
 refine RD.q (u:=.bool true) rfl (q0r rfl rfl rfl) ?_
 refine RD.done ⟨by kernel_rfl,trivial,?_⟩
 refine st ?_
 exact ⟨_,_,⟨rfl,rfl⟩,(Nat.zero_le _),Gh.toC (n1:=8) ⟨rfl,rfl,trivial⟩ rfl (Nat.zero_le _) (by simp)⟩
 replace h45:=q0f h22 h45
 obtain ⟨r23,h24,h45⟩:=q00 h45
 obtain ⟨r25,h26,h45⟩:=q00 h45
 obtain ⟨r27,h28,h45⟩:=q00 h45
 obtain ⟨r29,h30,h45⟩:=q00 h45
 obtain ⟨r31,h32,h45⟩:=q00 h45
 rcases q3f (!r31) with h33 | h33
 replace h45:=q0g h33 h45
 replace h45:=Option.some.inj h45
 subst h45
 refine WPU.drawE Try.tb_ok [(7,13),(7,14)] (by kernel_rfl) ?_
 refine RD.mv rfl rfl rfl rfl (RD.q rfl (q04 rfl rfl (q63 _ _ _) rfl) (RD.mv rfl rfl rfl rfl (RD.look (want1 rfl rfl rfl h21) (q2b rfl) rfl rfl (RD.look (want1 rfl rfl rfl h21) (q04 rfl rfl (q63 _ _ _) rfl) rfl rfl (RD.q (u:=.bool (r19.2 != 0)) rfl (q0p rfl h21 rfl) (RD.mv rfl rfl rfl rfl (RD.look (u:=.agg [.isl false (List.map cGNode r9.1.Nodes)]) (want1 rfl rfl rfl h22) (q0q und25 rfl (q01 inf25) rfl rfl rfl) rfl rfl ?_)))))))
 refine RD.freeO (u:=.isl false (List.map (cI .i64) ([0,1,1,2]))) (want1 rfl rfl rfl h22) (FreeO.bs (cs:=[.int .i64 0,.int .i64 1,.int .i64 1,.int .i64 2]) und55 inf3 rfl rfl rfl rfl rfl rfl rfl rfl rfl) rfl rfl (RD.free (u:=.agg (cGNode r23)) (args:=[.int .i64 1,.isl false (List.map (cI .i64) ([0,1,1,2]))]) (want1 rfl rfl rfl h22) (q02 rfl rfl fn29 hb29 rfl rfl) (fun s=>q05 n 1 ([0,1,1,2]) r23 h24 s) rfl rfl (RD.freeO (u:=.isl false (List.map (cI .i64) ([0,2]))) (want1 rfl rfl rfl h22) (FreeO.bs (cs:=[.int .i64 0,.int .i64 2]) und55 inf3 rfl rfl rfl rfl rfl rfl rfl rfl rfl) rfl rfl (RD.free (u:=.agg (cGNode r25)) (args:=[.int .i64 3,.isl false (List.map (cI .i64) ([0,2]))]) (want1 rfl rfl rfl h22) (q02 rfl rfl fn29 hb29 rfl rfl) (fun s=>q05 n 3 ([0,2]) r25 h26 s) rfl rfl (RD.free (u:=.agg (cGNode r27)) (args:=[.int .i64 2,.nils]) (want1 rfl rfl rfl h22) (q02 rfl rfl fn29 hb29 rfl rfl) (fun s=>EvU.wkA (args':=[.int .i64 2,.isl false []]) (.cons (.refl _) (.cons (.nil false) .nil)) (fun s=>q05 n 2 [] r27 h28 s) s) rfl rfl (RD.act (u:=.sl 8 0 3 3) (σ':=⟨[(8,.row [.int .i64 r23.Typex,.isl false (List.map cGArc r23.Arcs),.int .i64 r25.Typex,.isl false (List.map cGArc r25.Arcs),.int .i64 r27.Typex,.isl false (List.map cGArc r27.Arcs)] 43),(7,.row [.isl false (List.map cGNode r19.1.Nodes)] 25),(3,.row [.isl false (List.map cGNode r9.1.Nodes)] 25)],9⟩) (want1 rfl rfl rfl h22) (q26 und23 inf43 rfl rfl rfl rfl rfl rfl rfl) rfl rfl ?_)))))
 refine RD.fcall (u:=.agg [.isl false (List.map cGNode r29.Nodes)]) (args:=[.sl 8 0 3 3]) (σ1:=⟨[(7,.row [.isl false (List.map cGNode r19.1.Nodes)] 25),(3,.row [.isl false (List.map cGNode r9.1.Nodes)] 25)],9⟩) (want1 rfl rfl rfl h22) (q02 rfl rfl fn32 hb32 rfl rfl) (Gh.fz (tm':=[.isl false (List.map cGNode ([r23,r25,r27]))]) (h':=[(7,.row [.isl false (List.map cGNode r19.1.Nodes)] 25),(3,.row [.isl false (List.map cGNode r9.1.Nodes)] 25)]) 8 (.row [.int .i64 r23.Typex,.isl false (List.map cGArc r23.Arcs),.int .i64 r25.Typex,.isl false (List.map cGArc r25.Arcs),.int .i64 r27.Typex,.isl false (List.map cGArc r27.Arcs)] 43) 2 rfl (by simp) (by simp only [oneU,q07,q03,q0k,q09,q0n,q0d,q0c,q0b,q0a,q08,q0l,q0m,q0j,q0o,q1j,junkT,q20,q22,Nat.reduceLeDiff,Nat.reduceMul,List.length_cons,List.length_nil,Nat.reduceAdd]<;>simp only [chunks,List.take,List.drop,List.map,cGNode]) (by simp only [fzH,fzB,ug,Nat.beq,cond_true,cond_false,oneU,q07,q03,q0k,q09,q0n,q0d,q0c,q0b,q0a,q08,q0l,q0m,q0j,q0o,q1j,junkT,q20,q22,Nat.reduceLeDiff,Nat.reduceMul,List.length_cons,List.length_nil,Nat.reduceAdd]<;>simp only [chunks,List.take,List.drop,List.map,cGNode])) (Nat.le_of_ble_eq_true rfl) (q1c n ([r23,r25,r27]) r29 h30 _) rfl rfl ?_
 refine RD.free (u:=.bool r31) (args:=[.agg [.isl false (List.map cGNode r9.1.Nodes)],.agg [.isl false (List.map cGNode r29.Nodes)]]) (want1 rfl rfl rfl h22) (q02 rfl rfl fn14 hb14 rfl rfl) (fun s=>q17 n (GFS.mk r9.1.Nodes) r29 r31 h32 s) rfl rfl (RD.look (u:=.bool (!r31)) (want1 rfl rfl rfl h22) (q7y rfl rfl rfl rfl) rfl rfl (RD.q (u:=.bool (!r31)) rfl (q0p rfl h22 rfl) (RD.mv rfl rfl rfl rfl ?_)))
 repeat refine RD.no (want0 rfl rfl rfl h33) rfl rfl ?_
 refine RD.q (u:=.bool true) rfl (q0r rfl h33 rfl) ?_
 refine RD.done ⟨by kernel_rfl,⟨q0q und25 rfl (q01 inf25) rfl rfl rfl,⟨q0q und25 rfl (q01 inf25) rfl rfl rfl,trivial⟩⟩,?_⟩
 refine st ?_
 exact ⟨_,_,⟨rfl,rfl⟩,(Nat.zero_le _),Gh.toC (n1:=8) ⟨rfl,rfl,trivial⟩ rfl (Nat.zero_le _) (by simp)⟩
 replace h45:=q0f h33 h45
 obtain ⟨r34,h35,h45⟩:=q00 h45
 obtain ⟨r36,h37,h45⟩:=q00 h45
 obtain ⟨r38,h39,h45⟩:=q00 h45
 obtain ⟨r40,h41,h45⟩:=q00 h45
 obtain ⟨r42,h43,h45⟩:=q00 h45
 replace h45:=Option.some.inj h45
 subst h45
 refine WPU.drawE Try.tb_ok [(7,13),(7,14),(19,25),(19,26)] (by kernel_rfl) ?_
 refine RD.mv rfl rfl rfl rfl (RD.q rfl (q04 rfl rfl (q63 _ _ _) rfl) (RD.mv rfl rfl rfl rfl (RD.look (want1 rfl rfl rfl h21) (q2b rfl) rfl rfl (RD.look (want1 rfl rfl rfl h21) (q04 rfl rfl (q63 _ _ _) rfl) rfl rfl (RD.q (u:=.bool (r19.2 != 0)) rfl (q0p rfl h21 rfl) (RD.mv rfl rfl rfl rfl (RD.look (u:=.agg [.isl false (List.map cGNode r9.1.Nodes)]) (want1 rfl rfl rfl h22) (q0q und25 rfl (q01 inf25) rfl rfl rfl) rfl rfl ?_)))))))
 refine RD.freeO (u:=.isl false (List.map (cI .i64) ([0,1,1,2]))) (want1 rfl rfl rfl h22) (FreeO.bs (cs:=[.int .i64 0,.int .i64 1,.int .i64 1,.int .i64 2]) und55 inf3 rfl rfl rfl rfl rfl rfl rfl rfl rfl) rfl rfl (RD.free (u:=.agg (cGNode r23)) (args:=[.int .i64 1,.isl false (List.map (cI .i64) ([0,1,1,2]))]) (want1 rfl rfl rfl h22) (q02 rfl rfl fn29 hb29 rfl rfl) (fun s=>q05 n 1 ([0,1,1,2]) r23 h24 s) rfl rfl (RD.freeO (u:=.isl false (List.map (cI .i64) ([0,2]))) (want1 rfl rfl rfl h22) (FreeO.bs (cs:=[.int .i64 0,.int .i64 2]) und55 inf3 rfl rfl rfl rfl rfl rfl rfl rfl rfl) rfl rfl (RD.free (u:=.agg (cGNode r25)) (args:=[.int .i64 3,.isl false (List.map (cI .i64) ([0,2]))]) (want1 rfl rfl rfl h22) (q02 rfl rfl fn29 hb29 rfl rfl) (fun s=>q05 n 3 ([0,2]) r25 h26 s) rfl rfl (RD.free (u:=.agg (cGNode r27)) (args:=[.int .i64 2,.nils]) (want1 rfl rfl rfl h22) (q02 rfl rfl fn29 hb29 rfl rfl) (fun s=>EvU.wkA (args':=[.int .i64 2,.isl false []]) (.cons (.refl _) (.cons (.nil false) .nil)) (fun s=>q05 n 2 [] r27 h28 s) s) rfl rfl (RD.act (u:=.sl 8 0 3 3) (σ':=⟨[(8,.row [.int .i64 r23.Typex,.isl false (List.map cGArc r23.Arcs),.int .i64 r25.Typex,.isl false (List.map cGArc r25.Arcs),.int .i64 r27.Typex,.isl false (List.map cGArc r27.Arcs)] 43),(7,.row [.isl false (List.map cGNode r19.1.Nodes)] 25),(3,.row [.isl false (List.map cGNode r9.1.Nodes)] 25)],9⟩) (want1 rfl rfl rfl h22) (q26 und23 inf43 rfl rfl rfl rfl rfl rfl rfl) rfl rfl ?_)))))
 refine RD.fcall (u:=.agg [.isl false (List.map cGNode r29.Nodes)]) (args:=[.sl 8 0 3 3]) (σ1:=⟨[(7,.row [.isl false (List.map cGNode r19.1.Nodes)] 25),(3,.row [.isl false (List.map cGNode r9.1.Nodes)] 25)],9⟩) (want1 rfl rfl rfl h22) (q02 rfl rfl fn32 hb32 rfl rfl) (Gh.fz (tm':=[.isl false (List.map cGNode ([r23,r25,r27]))]) (h':=[(7,.row [.isl false (List.map cGNode r19.1.Nodes)] 25),(3,.row [.isl false (List.map cGNode r9.1.Nodes)] 25)]) 8 (.row [.int .i64 r23.Typex,.isl false (List.map cGArc r23.Arcs),.int .i64 r25.Typex,.isl false (List.map cGArc r25.Arcs),.int .i64 r27.Typex,.isl false (List.map cGArc r27.Arcs)] 43) 2 rfl (by simp) (by simp only [oneU,q07,q03,q0k,q09,q0n,q0d,q0c,q0b,q0a,q08,q0l,q0m,q0j,q0o,q1j,junkT,q20,q22,Nat.reduceLeDiff,Nat.reduceMul,List.length_cons,List.length_nil,Nat.reduceAdd]<;>simp only [chunks,List.take,List.drop,List.map,cGNode]) (by simp only [fzH,fzB,ug,Nat.beq,cond_true,cond_false,oneU,q07,q03,q0k,q09,q0n,q0d,q0c,q0b,q0a,q08,q0l,q0m,q0j,q0o,q1j,junkT,q20,q22,Nat.reduceLeDiff,Nat.reduceMul,List.length_cons,List.length_nil,Nat.reduceAdd]<;>simp only [chunks,List.take,List.drop,List.map,cGNode])) (Nat.le_of_ble_eq_true rfl) (q1c n ([r23,r25,r27]) r29 h30 _) rfl rfl ?_
 refine RD.free (u:=.bool r31) (args:=[.agg [.isl false (List.map cGNode r9.1.Nodes)],.agg [.isl false (List.map cGNode r29.Nodes)]]) (want1 rfl rfl rfl h22) (q02 rfl rfl fn14 hb14 rfl rfl) (fun s=>q17 n (GFS.mk r9.1.Nodes) r29 r31 h32 s) rfl rfl (RD.look (u:=.bool (!r31)) (want1 rfl rfl rfl h22) (q7y rfl rfl rfl rfl) rfl rfl (RD.q (u:=.bool (!r31)) rfl (q0p rfl h22 rfl) (RD.mv rfl rfl rfl rfl (RD.look (u:=.agg [.isl false (List.map cGNode r19.1.Nodes)]) (want1 rfl rfl rfl h33) (q0q und25 rfl (q01 inf25) rfl rfl rfl) rfl rfl (RD.freeO (u:=.isl false (List.map (cI .i64) ([3,1,7,2]))) (want1 rfl rfl rfl h33) (FreeO.bs (cs:=[.int .i64 3,.int .i64 1,.int .i64 7,.int .i64 2]) und55 inf3 rfl rfl rfl rfl rfl rfl rfl rfl rfl) rfl rfl (RD.free (u:=.agg (cGNode r34)) (args:=[.int .i64 4,.isl false (List.map (cI .i64) ([3,1,7,2]))]) (want1 rfl rfl rfl h33) (q02 rfl rfl fn29 hb29 rfl rfl) (fun s=>q05 n 4 ([3,1,7,2]) r34 h35 s) rfl rfl (RD.free (u:=.agg (cGNode r36)) (args:=[.int .i64 5,.nils]) (want1 rfl rfl rfl h33) (q02 rfl rfl fn29 hb29 rfl rfl) (fun s=>EvU.wkA (args':=[.int .i64 5,.isl false []]) (.cons (.refl _) (.cons (.nil false) .nil)) (fun s=>q05 n 5 [] r36 h37 s) s) rfl rfl ?_)))))))
 refine RD.freeO (u:=.isl false (List.map (cI .i64) ([2,0]))) (want1 rfl rfl rfl h33) (FreeO.bs (cs:=[.int .i64 2,.int .i64 0]) und55 inf3 rfl rfl rfl rfl rfl rfl rfl rfl rfl) rfl rfl (RD.free (u:=.agg (cGNode r38)) (args:=[.int .i64 6,.isl false (List.map (cI .i64) ([2,0]))]) (want1 rfl rfl rfl h33) (q02 rfl rfl fn29 hb29 rfl rfl) (fun s=>q05 n 6 ([2,0]) r38 h39 s) rfl rfl (RD.act (u:=.sl 9 0 3 3) (σ':=⟨[(9,.row [.int .i64 r34.Typex,.isl false (List.map cGArc r34.Arcs),.int .i64 r36.Typex,.isl false (List.map cGArc r36.Arcs),.int .i64 r38.Typex,.isl false (List.map cGArc r38.Arcs)] 43),(7,.row [.isl false (List.map cGNode r19.1.Nodes)] 25),(3,.row [.isl false (List.map cGNode r9.1.Nodes)] 25)],10⟩) (want1 rfl rfl rfl h33) (q26 und23 inf43 rfl rfl rfl rfl rfl rfl rfl) rfl rfl ?_))
 refine RD.fcall (u:=.agg [.isl false (List.map cGNode r40.Nodes)]) (args:=[.sl 9 0 3 3]) (σ1:=⟨[(7,.row [.isl false (List.map cGNode r19.1.Nodes)] 25),(3,.row [.isl false (List.map cGNode r9.1.Nodes)] 25)],10⟩) (want1 rfl rfl rfl h33) (q02 rfl rfl fn32 hb32 rfl rfl) (Gh.fz (tm':=[.isl false (List.map cGNode ([r34,r36,r38]))]) (h':=[(7,.row [.isl false (List.map cGNode r19.1.Nodes)] 25),(3,.row [.isl false (List.map cGNode r9.1.Nodes)] 25)]) 9 (.row [.int .i64 r34.Typex,.isl false (List.map cGArc r34.Arcs),.int .i64 r36.Typex,.isl false (List.map cGArc r36.Arcs),.int .i64 r38.Typex,.isl false (List.map cGArc r38.Arcs)] 43) 2 rfl (by simp) (by simp only [oneU,q07,q03,q0k,q09,q0n,q0d,q0c,q0b,q0a,q08,q0l,q0m,q0j,q0o,q1j,junkT,q20,q22,Nat.reduceLeDiff,Nat.reduceMul,List.length_cons,List.length_nil,Nat.reduceAdd]<;>simp only [chunks,List.take,List.drop,List.map,cGNode]) (by simp only [fzH,fzB,ug,Nat.beq,cond_true,cond_false,oneU,q07,q03,q0k,q09,q0n,q0d,q0c,q0b,q0a,q08,q0l,q0m,q0j,q0o,q1j,junkT,q20,q22,Nat.reduceLeDiff,Nat.reduceMul,List.length_cons,List.length_nil,Nat.reduceAdd]<;>simp only [chunks,List.take,List.drop,List.map,cGNode])) (Nat.le_of_ble_eq_true rfl) (q1c n ([r34,r36,r38]) r40 h41 _) rfl rfl ?_
 refine RD.free (u:=.bool r42) (args:=[.agg [.isl false (List.map cGNode r19.1.Nodes)],.agg [.isl false (List.map cGNode r40.Nodes)]]) (want1 rfl rfl rfl h33) (q02 rfl rfl fn14 hb14 rfl rfl) (fun s=>q17 n (GFS.mk r19.1.Nodes) r40 r42 h43 s) rfl rfl (RD.look (u:=.bool (!r42)) (want1 rfl rfl rfl h33) (q7y rfl rfl rfl rfl) rfl rfl (RD.q (u:=.bool (!r42)) rfl (q0p rfl h33 rfl) ?_))
 refine RD.done ⟨by kernel_rfl,⟨q0q und25 rfl (q01 inf25) rfl rfl rfl,⟨q0q und25 rfl (q01 inf25) rfl rfl rfl,⟨q0q und25 rfl (q01 inf25) rfl rfl rfl,⟨q0q und25 rfl (q01 inf25) rfl rfl rfl,trivial⟩⟩⟩⟩,?_⟩
 refine st ?_
 exact ⟨_,_,⟨rfl,rfl⟩,(Nat.zero_le _),Gh.toC (n1:=8) ⟨rfl,rfl,trivial⟩ rfl (Nat.zero_le _) (by simp)⟩
theorem q5v (n:Nat)  (r:Bool) (hF:q29 n  = some r) (σ:Sg):EvU Try.prog 16 [] σ (fun u σ'=>u = .bool r∧σ'=σ) :=
 EvU.pure1C (q8i n  r hF) σ
def q3m (n:Nat) (p1:GFS):Option (Bool) :=
 bindO (q5j n p1) fun r2 =>
 cond (!r2)
  (some false)
  (bindO (q5h n p1) fun r5 =>
  bindO (cond (r5.2 == 0)
   (bindO (q32 n p1 (GFS.mk r5.1.Nodes)) fun r8 =>
   some r8)
   (some false)) fun b10 =>
  some b10)
theorem qa2 (n:Nat) (p1:GFS) (r:Bool) (hF:q3m n p1=some r):EvU Try.prog 19 [.agg [.isl false (List.map cGNode p1.Nodes)]] ⟨[],0⟩ (fun u _=>u = .bool r∧Bel 0 u):=by
 unfold q3m at hF
 refine EvU.of_body Try.tb_ok fn19 rfl ?_
 refine WPU.ghost (tm':=fr 20 [(0,.agg [.isl false (List.map cGNode p1.Nodes)])]) (Gh.start (Nat.le_of_ble_eq_true rfl)) (Nat.zero_le _) ?_
 refine sr ?_
 refine RS.q (u:=.ptr 0 0 0) (σ':=⟨[(0,.row [.isl false (List.map cGNode p1.Nodes)] 25)],1⟩) rfl (q2z rfl rfl rfl) ?_
 refine sd ?_
 obtain ⟨r2,h3,hF⟩:=q00 hF
 refine sr ?_
 refine RS.q (u:=.agg [.isl false (List.map cGNode p1.Nodes)]) rfl (q0q und25 rfl (q01 inf25) rfl rfl rfl) (RS.call (u:=.bool r2) (args:=[.agg [.isl false (List.map cGNode p1.Nodes)]]) rfl (q02 rfl rfl fn17 hb17 rfl rfl) (ref07_Light_ok n p1 r2 h3 _) rfl rfl (RS.q (u:=.bool (!r2)) rfl (q7y rfl rfl rfl rfl) ?_))
 refine sd ?_
 refine WPU.condS (t:=(!r2)) rfl (fun h4=>?_) (fun h4=>?_)
 replace hF:=q0g h4 hF
 refine sr ?_
 refine sd ?_
 refine WPU.ret ?_
 refine st ?_
 have hr:=Option.some.inj hF
 subst hr
 exact ⟨.inr rfl,[.bool false],q1y rfl (q1e),.bool false,⟨[],0⟩,Nat.le_refl _,Gh.toR (.bool false) rfl,rfl,BU.h⟩
 replace hF:=q0f h4 hF
 refine st ?_
 refine WPU.skip ?_
 refine st ?_
 obtain ⟨r5,h6,hF⟩:=q00 hF
 refine sr ?_
 refine RS.q (u:=.agg [.isl false (List.map cGNode p1.Nodes)]) rfl (q0q und25 rfl (q01 inf25) rfl rfl rfl) (RS.call (u:=.tup [.agg [.isl false (List.map cGNode r5.1.Nodes)],.int .i64 r5.2]) (args:=[.agg [.isl false (List.map cGNode p1.Nodes)]]) rfl (q02 rfl rfl fn18 hb18 rfl rfl) (ref07_Canon_ok n p1 r5 h6 _) rfl rfl (RS.mv rfl rfl rfl rfl (RS.q rfl (q8n rfl rfl) (RS.q rfl (q8n rfl rfl) (RS.q (u:=.ptr 1 0 0) (σ':=⟨[(1,.row [.nils] 25),(0,.row [.isl false (List.map cGNode p1.Nodes)] 25)],2⟩) rfl (q15 inf25 rfl rfl) (RS.opn (u:=.junk) (σ':=⟨[(1,.row [.isl false (List.map cGNode r5.1.Nodes)] 25),(0,.row [.isl false (List.map cGNode p1.Nodes)] 25)],2⟩) rfl (q0s (q01 inf25) rfl rfl rfl rfl rfl rfl rfl rfl) rfl ?_))))))
 refine sd ?_
 obtain ⟨b10,h11,hF⟩:=q00 hF
 refine WPU.joinK (fun tm σ=>tm=fr 20 [(2,.bool b10)]∧σ=⟨[(1,.row [.isl false (List.map cGNode r5.1.Nodes)] 25),(0,.row [.isl false (List.map cGNode p1.Nodes)] 25)],2⟩) ?_ ?_
 rintro _ _ ⟨rfl,rfl⟩
 refine st ?_
 refine WPU.ret ?_
 refine st ?_
 have hr:=Option.some.inj hF
 subst hr
 exact ⟨.inr rfl,[.bool b10],q1y rfl (q1e),.bool b10,⟨[],0⟩,Nat.le_refl _,Gh.toR (.bool b10) rfl,rfl,BU.h⟩
 rcases q3f (r5.2 == 0) with h7 | h7
 replace h11:=q0g h7 h11
 obtain ⟨r8,h9,h11⟩:=q00 h11
 replace h11:=Option.some.inj h11
 subst h11
 refine sr ?_
 refine RS.q rfl (q04 rfl rfl (q6i _ _ _) rfl) (RS.mv rfl rfl rfl rfl (RS.op (u:=.agg [.isl false (List.map cGNode p1.Nodes)]) (want1 rfl rfl rfl h7) (q0q und25 rfl (q01 inf25) rfl rfl rfl) rfl rfl (RS.op (u:=.agg [.isl false (List.map cGNode r5.1.Nodes)]) (want1 rfl rfl rfl h7) (q0q und25 rfl (q01 inf25) rfl rfl rfl) rfl rfl (RS.call (u:=.bool r8) (args:=[.agg [.isl false (List.map cGNode p1.Nodes)],.agg [.isl false (List.map cGNode r5.1.Nodes)]]) (want1 rfl rfl rfl h7) (q02 rfl rfl fn14 hb14 rfl rfl) (q17 n p1 (GFS.mk r5.1.Nodes) r8 h9 _) rfl rfl (RS.q (u:=.bool r8) rfl (q0r rfl h7 rfl) ?_)))))
 refine sd ?_
 exact ⟨_,_,⟨rfl,rfl⟩,(Nat.zero_le _),Gh.toC (n1:=2) ⟨rfl,trivial⟩ rfl (Nat.zero_le _) (by simp)⟩
 replace h11:=q0f h7 h11
 replace h11:=Option.some.inj h11
 subst h11
 refine sr ?_
 refine RS.q rfl (q04 rfl rfl (q6i _ _ _) rfl) (RS.mv rfl rfl rfl rfl ?_)
 repeat refine RS.no (want0 rfl rfl rfl h7) rfl rfl ?_
 refine RS.q (u:=.bool false) rfl (q0p rfl h7 rfl) ?_
 refine sd ?_
 exact ⟨_,_,⟨rfl,rfl⟩,(Nat.zero_le _),Gh.toC (n1:=2) ⟨rfl,trivial⟩ rfl (Nat.zero_le _) (by simp)⟩
theorem q9d (n:Nat) (p1:GFS) (r:Bool) (hF:q3m n p1=some r) (σ:Sg):EvU Try.prog 19 [.agg [.isl false (List.map cGNode p1.Nodes)]] σ (fun u σ'=>u = .bool r∧σ'=σ) :=
 EvU.pure1C (qa2 n p1 r hF) σ
def q41 (p1:GFS) (n:Nat)  : Option (Bool) :=
 bindO (bindO (q3b n p1) fun r11 =>
 bindO (q44 n p1) fun r13 =>
 cond (r11 == r13)
  (bindO (q29 n) fun r16 =>
  some r16)
  (some false)) fun b18 =>
 some b18
def q2o (p1:GFS) (n:Nat):Nat→Int→Option (Bool)
 | 0,_=>none
 | m1+1,z10 =>
  cond (decide (z10<(p1.Nodes.length:Int)))
   (bindO (q6x n p1 z10) fun r21 =>
   bindO (q80 n p1 z10) fun r23 =>
   bindO (q32 n r21 r23) fun r25 =>
   cond (!r25)
    (some false)
    ((q2o p1 n m1) (IntKind.i64.wrap (z10+1))))
   (q41 p1 n)
def q51 (n:Nat) (p1:GFS):Option (Bool) :=
 bindO (q3m n p1) fun r2 =>
 cond (!r2)
  (bindO (q29 n) fun r5 =>
  some r5)
  (q2o p1 n n 0)
theorem qa1 (n:Nat) (p1:GFS) (r:Bool) (hF:q51 n p1=some r):EvU Try.prog 5 [.agg [.isl false (List.map cGNode p1.Nodes)]] ⟨[],0⟩ (fun u _=>u = .bool r∧Bel 0 u):=by
 unfold q51 at hF
 refine EvU.of_body Try.tb_ok fn5 rfl ?_
 refine WPU.ghost (tm':=fr 31 [(0,.agg [.isl false (List.map cGNode p1.Nodes)])]) (Gh.start (Nat.le_of_ble_eq_true rfl)) (Nat.zero_le _) ?_
 refine sr ?_
 refine RS.q (u:=.ptr 0 0 0) (σ':=⟨[(0,.row [.isl false (List.map cGNode p1.Nodes)] 25)],1⟩) rfl (q2z rfl rfl rfl) ?_
 refine sd ?_
 obtain ⟨r2,h3,hF⟩:=q00 hF
 refine sr ?_
 refine RS.q (u:=.agg [.isl false (List.map cGNode p1.Nodes)]) rfl (q0q und25 rfl (q01 inf25) rfl rfl rfl) (RS.call (u:=.bool r2) (args:=[.agg [.isl false (List.map cGNode p1.Nodes)]]) rfl (q02 rfl rfl fn19 hb19 rfl rfl) (q9d n p1 r2 h3 _) rfl rfl (RS.q (u:=.bool (!r2)) rfl (q7y rfl rfl rfl rfl) ?_))
 refine sd ?_
 refine WPU.condS (t:=(!r2)) rfl (fun h4=>?_) (fun h4=>?_)
 replace hF:=q0g h4 hF
 refine st ?_
 obtain ⟨r5,h6,hF⟩:=q00 hF
 refine sr ?_
 refine RS.call (u:=.bool r5) (args:=[]) rfl (q02 rfl rfl fn16 hb16 rfl rfl) (q5v n  r5 h6 _) rfl rfl ?_
 refine sd ?_
 refine WPU.ret ?_
 refine st ?_
 have hr:=Option.some.inj hF
 subst hr
 exact ⟨.inr rfl,[.bool r5],q1y rfl (q1e),.bool r5,⟨[],0⟩,Nat.le_refl _,Gh.toR (.bool r5) rfl,rfl,BU.h⟩
 replace hF:=q0f h4 hF
 refine st ?_
 refine WPU.skip ?_
 refine sr ?_
 refine RS.q (u:=.ptr 0 0 0) rfl (q0u und25 rfl (q01 inf23) rfl rfl rfl) (RS.q (u:=.isl false (List.map cGNode p1.Nodes)) rfl (q06 und23 rfl rfl rfl rfl) (RS.q rfl (q10 rfl rfl rfl (q0w cGNode und23)) (RS.mv rfl rfl rfl rfl ?_)))
 refine sd ?_
 refine WPU.ghost (tm':=fr 31 [(1,.ptr 0 0 0),(10,.int .i64 (p1.Nodes.length:Int)),(11,.int .i64 0)]) (Gh.sub ⟨rfl,rfl,rfl,trivial⟩) (Nat.zero_le _) ?_
 refine WPU.loopK (fun m tm σ=>∃ z10:Int,q2o p1 n m z10=some r∧tm=fr 31 [(1,.ptr 0 0 0),(10,.int .i64 (p1.Nodes.length:Int)),(11,.int .i64 z10)]∧σ=⟨[(0,.row [.isl false (List.map cGNode p1.Nodes)] 25)],1⟩) (fun tm σ=>q41 p1 n=some r∧tm=fr 31 [(1,.ptr 0 0 0)]∧σ=⟨[(0,.row [.isl false (List.map cGNode p1.Nodes)] 25)],1⟩) n ⟨0,hF,rfl,rfl⟩ ?_ ?_
 rintro _ _ ⟨hF,rfl,rfl⟩
 unfold q41 at hF
 refine st ?_
 obtain ⟨b18,h19,hF⟩:=q00 hF
 refine WPU.joinK (fun tm σ=>tm=fr 31 [(2,.bool b18)]∧σ=⟨[(0,.row [.isl false (List.map cGNode p1.Nodes)] 25)],1⟩) ?_ ?_
 rintro _ _ ⟨rfl,rfl⟩
 refine st ?_
 refine WPU.ret ?_
 refine st ?_
 have hr:=Option.some.inj hF
 subst hr
 exact ⟨.inr rfl,[.bool b18],q1y rfl (q1e),.bool b18,⟨[],0⟩,Nat.le_refl _,Gh.toR (.bool b18) rfl,rfl,BU.h⟩
 obtain ⟨r11,h12,h19⟩:=q00 h19
 obtain ⟨r13,h14,h19⟩:=q00 h19
 rcases q3f (r11 == r13) with h15 | h15
 replace h19:=q0g h15 h19
 obtain ⟨r16,h17,h19⟩:=q00 h19
 replace h19:=Option.some.inj h19
 subst h19
 refine WPU.drawE Try.tb_ok [] (by kernel_rfl) ?_
 refine RD.q (u:=.agg [.isl false (List.map cGNode p1.Nodes)]) rfl (q0q und25 rfl (q01 inf25) rfl rfl rfl) (RD.free (u:=.bool r11) (args:=[.agg [.isl false (List.map cGNode p1.Nodes)]]) rfl (q02 rfl rfl fn22 hb22 rfl rfl) (fun s=>q1r n p1 r11 h12 s) rfl rfl (RD.q (u:=.agg [.isl false (List.map cGNode p1.Nodes)]) rfl (q0q und25 rfl (q01 inf25) rfl rfl rfl) (RD.free (u:=.bool r13) (args:=[.agg [.isl false (List.map cGNode p1.Nodes)]]) rfl (q02 rfl rfl fn23 hb23 rfl rfl) (fun s=>q7z n p1 r13 h14 s) rfl rfl ?_)))
 refine RD.q (u:=.bool (r11 == r13)) rfl (op_bin rfl rfl (by simp only [g2,toV,binX,guardX,eqv,cond_true,ofV,und4])) ?_
 refine RD.mv rfl rfl rfl rfl (RD.free (u:=.bool r16) (args:=[]) (want1 rfl rfl rfl h15) (q02 rfl rfl fn16 hb16 rfl rfl) (fun s=>q5v n  r16 h17 s) rfl rfl (RD.q (u:=.bool r16) rfl (q0r rfl h15 rfl) (RD.as rfl rfl rfl rfl ?_)))
 refine RD.done ⟨by kernel_rfl,trivial,?_⟩
 refine st ?_
 exact ⟨_,_,⟨rfl,rfl⟩,(Nat.zero_le _),Gh.toC (n1:=1) ⟨rfl,trivial⟩ rfl (Nat.zero_le _) (by simp)⟩
 replace h19:=q0f h15 h19
 replace h19:=Option.some.inj h19
 subst h19
 refine WPU.drawE Try.tb_ok [] (by kernel_rfl) ?_
 refine RD.q (u:=.agg [.isl false (List.map cGNode p1.Nodes)]) rfl (q0q und25 rfl (q01 inf25) rfl rfl rfl) (RD.free (u:=.bool r11) (args:=[.agg [.isl false (List.map cGNode p1.Nodes)]]) rfl (q02 rfl rfl fn22 hb22 rfl rfl) (fun s=>q1r n p1 r11 h12 s) rfl rfl (RD.q (u:=.agg [.isl false (List.map cGNode p1.Nodes)]) rfl (q0q und25 rfl (q01 inf25) rfl rfl rfl) (RD.free (u:=.bool r13) (args:=[.agg [.isl false (List.map cGNode p1.Nodes)]]) rfl (q02 rfl rfl fn23 hb23 rfl rfl) (fun s=>q7z n p1 r13 h14 s) rfl rfl ?_)))
 refine RD.q (u:=.bool (r11 == r13)) rfl (op_bin rfl rfl (by simp only [g2,toV,binX,guardX,eqv,cond_true,ofV,und4])) ?_
 refine RD.mv rfl rfl rfl rfl (RD.no (want0 rfl rfl rfl h15) rfl rfl (RD.q (u:=.bool false) rfl (q0p rfl h15 rfl) (RD.as rfl rfl rfl rfl ?_)))
 refine RD.done ⟨by kernel_rfl,trivial,?_⟩
 refine st ?_
 exact ⟨_,_,⟨rfl,rfl⟩,(Nat.zero_le _),Gh.toC (n1:=1) ⟨rfl,trivial⟩ rfl (Nat.zero_le _) (by simp)⟩
 rintro m1 _ _ ⟨z10,hF,rfl,rfl⟩
 rcases m1 with _ | m1
 cases hF
 unfold q2o at hF
 refine sr ?_
 refine RS.q rfl (q04 rfl rfl (q1n _ _ _) rfl) ?_
 refine sd ?_
 refine WPU.condS (t:=(decide (z10<(p1.Nodes.length:Int)))) rfl (fun h20=>?_) (fun h20=>?_)
 replace hF:=q0g h20 hF
 refine st ?_
 refine WPU.skip ?_
 refine st ?_
 refine WPU.block ?_
 refine sr ?_
 refine sd ?_
 obtain ⟨r21,h22,hF⟩:=q00 hF
 obtain ⟨r23,h24,hF⟩:=q00 hF
 obtain ⟨r25,h26,hF⟩:=q00 hF
 refine WPU.drawE Try.tb_ok [] (by kernel_rfl) ?_
 refine RD.q (u:=.agg [.isl false (List.map cGNode p1.Nodes)]) rfl (q0q und25 rfl (q01 inf25) rfl rfl rfl) (RD.mv rfl rfl rfl rfl (RD.free (u:=.agg [.isl false (List.map cGNode r21.Nodes)]) (args:=[.agg [.isl false (List.map cGNode p1.Nodes)],.int .i64 z10]) rfl (q02 rfl rfl fn20 hb20 rfl rfl) (fun s=>q43 n p1 z10 r21 h22 s) rfl rfl (RD.q (u:=.agg [.isl false (List.map cGNode p1.Nodes)]) rfl (q0q und25 rfl (q01 inf25) rfl rfl rfl) (RD.mv rfl rfl rfl rfl (RD.free (u:=.agg [.isl false (List.map cGNode r23.Nodes)]) (args:=[.agg [.isl false (List.map cGNode p1.Nodes)],.int .i64 z10]) rfl (q02 rfl rfl fn21 hb21 rfl rfl) (fun s=>ref07_Sub_ok n p1 z10 r23 h24 s) rfl rfl (RD.free (u:=.bool r25) (args:=[.agg [.isl false (List.map cGNode r21.Nodes)],.agg [.isl false (List.map cGNode r23.Nodes)]]) rfl (q02 rfl rfl fn14 hb14 rfl rfl) (fun s=>q17 n r21 r23 r25 h26 s) rfl rfl (RD.q (u:=.bool (!r25)) rfl (q7y rfl rfl rfl rfl) ?_)))))))
 refine RD.done ⟨by kernel_rfl,trivial,?_⟩
 refine st ?_
 refine WPU.condS (t:=(!r25)) rfl (fun h27=>?_) (fun h27=>?_)
 replace hF:=q0g h27 hF
 refine sr ?_
 refine sd ?_
 refine WPU.ret ?_
 refine st ?_
 have hr:=Option.some.inj hF
 subst hr
 exact ⟨.inr rfl,[.bool false],q1y rfl (q1e),.bool false,⟨[],0⟩,Nat.le_refl _,Gh.toR (.bool false) rfl,rfl,BU.h⟩
 replace hF:=q0f h27 hF
 refine st ?_
 refine WPU.skip ?_
 refine sr ?_
 refine RS.q rfl (q04 rfl rfl (q2y _ _ _) rfl) (RS.mv rfl rfl rfl rfl ?_)
 refine sd ?_
 exact ⟨m1,_,_,Nat.lt_succ_self _,⟨(IntKind.i64.wrap (z10+1)),hF,rfl,rfl⟩,(Nat.zero_le _),Gh.toC (n1:=1) ⟨rfl,rfl,rfl,trivial⟩ rfl (Nat.zero_le _) (by simp)⟩
 replace hF:=q0f h20 hF
 refine st ?_
 refine WPU.exit ?_
 refine st ?_
 exact ⟨_,_,⟨hF,rfl,rfl⟩,(Nat.zero_le _),Gh.toC (n1:=1) ⟨rfl,trivial⟩ rfl (Nat.zero_le _) (by simp)⟩
end Go.Proofs
end
