/-
  Texts of the walk: C1.
-/
import Derived.Test.YtafbldphahfemaaP12
section
namespace Go.Proofs
open Go Go.Rx Go.Vx Try
set_option maxRecDepth 10000
set_option linter.unusedSimpArgs false
set_option linter.unusedVariables false
theorem ref32_before_0 (n:Nat) (p1:GChart) (p2:Int) (p3:Int) (r:Bool) (hF:q59 n p1 p2 p3=some r):EvU Try.prog 48 [.agg (cGChart p1),.int .i64 p2,.int .i64 p3] ⟨[],0⟩ (fun u _=>u = .bool r∧Bel 0 u):=by
 unfold q59 at hF
 refine EvU.of_body Try.tb_ok fn48 rfl ?_
 refine WPU.ghost (tm':=fr 69 [(0,.agg (cGChart p1)),(1,.int .i64 p2),(2,.int .i64 p3)]) (Gh.start (Nat.le_of_ble_eq_true rfl)) (Nat.zero_le _) ?_
 refine sr ?_
 refine RS.q (u:=.ptr 0 0 0) (σ':=⟨[(0,.row (cGChart p1) 24)],1⟩) rfl (q20 rfl rfl rfl) ?_
 refine sd ?_
 obtain ⟨x4,h5,hF⟩:=q01 hF
 refine sr ?_
 refine RS.q (u:=.ptr 0 0 1) rfl (q06 und24 rfl (q00 inf22) rfl rfl rfl) (RS.q (u:=.isl false (List.map cGEdge p1.Edges)) rfl (q03 und22 rfl rfl rfl rfl) (RS.mv rfl rfl rfl rfl (RS.q (u:=.iptr (cGEdge x4)) rfl (q0x rfl rfl (q0k cGEdge und22 (q00 inf42) q0f h5 rfl)) (RS.q (u:=.agg (cGEdge x4)) rfl (q2c und42 rfl (q00 inf42) rfl rfl) (RS.q (u:=.ptr 1 0 0) (σ':=⟨[(1,.row [.int .i64 0,.int .i64 0,.int .i64 0,.int .i64 0,.str [],.nils,.int .i64 0,.str [],.int .i64 0,.int .i64 0,.nils,.nils] 42),(0,.row (cGChart p1) 24)],2⟩) rfl (q0w inf42 rfl rfl) (RS.opn (u:=.junk) (σ':=⟨[(1,.row (cGEdge x4) 42),(0,.row (cGChart p1) 24)],2⟩) rfl (q0g (q00 inf42) rfl rfl rfl rfl rfl rfl rfl rfl) rfl ?_))))))
 refine sd ?_
 obtain ⟨x6,h7,hF⟩:=q01 hF
 refine sr ?_
 refine RS.q (u:=.ptr 0 0 1) rfl (q06 und24 rfl (q00 inf22) rfl rfl rfl) (RS.q (u:=.isl false (List.map cGEdge p1.Edges)) rfl (q03 und22 rfl rfl rfl rfl) (RS.mv rfl rfl rfl rfl (RS.q (u:=.iptr (cGEdge x6)) rfl (q0x rfl rfl (q0k cGEdge und22 (q00 inf42) q0f h7 rfl)) (RS.q (u:=.agg (cGEdge x6)) rfl (q2c und42 rfl (q00 inf42) rfl rfl) (RS.q (u:=.ptr 2 0 0) (σ':=⟨[(2,.row [.int .i64 0,.int .i64 0,.int .i64 0,.int .i64 0,.str [],.nils,.int .i64 0,.str [],.int .i64 0,.int .i64 0,.nils,.nils] 42),(1,.row (cGEdge x4) 42),(0,.row (cGChart p1) 24)],3⟩) rfl (q0w inf42 rfl rfl) (RS.opn (u:=.junk) (σ':=⟨[(2,.row (cGEdge x6) 42),(1,.row (cGEdge x4) 42),(0,.row (cGChart p1) 24)],3⟩) rfl (q0g (q00 inf42) rfl rfl rfl rfl rfl rfl rfl rfl) rfl ?_))))))
 refine se ?_
 refine RS.q (u:=.ptr 1 0 1) rfl (q06 und42 rfl (q00 inf3) rfl rfl rfl) (RS.q (u:=.int .i64 x4.To) rfl (q03 und3 rfl rfl rfl rfl) (RS.q (u:=.ptr 1 0 0) rfl (q06 und42 rfl (q00 inf3) rfl rfl rfl) (RS.q (u:=.int .i64 x4.From) rfl (q03 und3 rfl rfl rfl rfl) (RS.q rfl (q02 rfl rfl (qbg _ _ _) rfl) (RS.q (u:=.ptr 2 0 1) rfl (q06 und42 rfl (q00 inf3) rfl rfl rfl) (RS.q (u:=.int .i64 x6.To) rfl (q03 und3 rfl rfl rfl rfl) (RS.q (u:=.ptr 2 0 0) rfl (q06 und42 rfl (q00 inf3) rfl rfl rfl) ?_)))))))
 refine RS.q (u:=.int .i64 x6.From) rfl (q03 und3 rfl rfl rfl rfl) (RS.q rfl (q02 rfl rfl (qbg _ _ _) rfl) (RS.q rfl (q02 rfl rfl (q0e _ _ _) rfl) ?_))
 refine sd ?_
 refine WPU.condS (t:=((IntKind.i64.wrap (x4.To - x4.From)) != (IntKind.i64.wrap (x6.To - x6.From)))) rfl (fun h8=>?_) (fun h8=>?_)
 replace hF:=q08 h8 hF
 refine sr ?_
 refine RS.q (u:=.ptr 1 0 1) rfl (q06 und42 rfl (q00 inf3) rfl rfl rfl) (RS.q (u:=.int .i64 x4.To) rfl (q03 und3 rfl rfl rfl rfl) (RS.q (u:=.ptr 1 0 0) rfl (q06 und42 rfl (q00 inf3) rfl rfl rfl) (RS.q (u:=.int .i64 x4.From) rfl (q03 und3 rfl rfl rfl rfl) (RS.q rfl (q02 rfl rfl (qbg _ _ _) rfl) (RS.q (u:=.ptr 2 0 1) rfl (q06 und42 rfl (q00 inf3) rfl rfl rfl) (RS.q (u:=.int .i64 x6.To) rfl (q03 und3 rfl rfl rfl rfl) (RS.q (u:=.ptr 2 0 0) rfl (q06 und42 rfl (q00 inf3) rfl rfl rfl) ?_)))))))
 refine RS.q (u:=.int .i64 x6.From) rfl (q03 und3 rfl rfl rfl rfl) (RS.q rfl (q02 rfl rfl (qbg _ _ _) rfl) (RS.q rfl (q02 rfl rfl (q0s _ _ _) rfl) ?_))
 refine sd ?_
 refine WPU.ret ?_
 refine st ?_
 have hr:=Option.some.inj hF
 subst hr
 exact ⟨.inr rfl,[.bool (decide ((IntKind.i64.wrap (x4.To - x4.From))<(IntKind.i64.wrap (x6.To - x6.From))))],q0r rfl (q0o),.bool (decide ((IntKind.i64.wrap (x4.To - x4.From))<(IntKind.i64.wrap (x6.To - x6.From)))),⟨[],0⟩,Nat.le_refl _,Gh.toR (.bool (decide ((IntKind.i64.wrap (x4.To - x4.From))<(IntKind.i64.wrap (x6.To - x6.From))))) rfl,rfl,BU.h⟩
 replace hF:=q07 h8 hF
 refine st ?_
 refine WPU.skip ?_
 refine sr ?_
 refine RS.q (u:=.ptr 1 0 0) rfl (q06 und42 rfl (q00 inf3) rfl rfl rfl) (RS.q (u:=.int .i64 x4.From) rfl (q03 und3 rfl rfl rfl rfl) (RS.q (u:=.ptr 2 0 0) rfl (q06 und42 rfl (q00 inf3) rfl rfl rfl) (RS.q (u:=.int .i64 x6.From) rfl (q03 und3 rfl rfl rfl rfl) (RS.q rfl (q02 rfl rfl (q0e _ _ _) rfl) ?_))))
 refine sd ?_
 refine WPU.condS (t:=(x4.From != x6.From)) rfl (fun h9=>?_) (fun h9=>?_)
 replace hF:=q08 h9 hF
 refine sr ?_
 refine RS.q (u:=.ptr 1 0 0) rfl (q06 und42 rfl (q00 inf3) rfl rfl rfl) (RS.q (u:=.int .i64 x4.From) rfl (q03 und3 rfl rfl rfl rfl) (RS.q (u:=.ptr 2 0 0) rfl (q06 und42 rfl (q00 inf3) rfl rfl rfl) (RS.q (u:=.int .i64 x6.From) rfl (q03 und3 rfl rfl rfl rfl) (RS.q rfl (q02 rfl rfl (q0s _ _ _) rfl) ?_))))
 refine sd ?_
 refine WPU.ret ?_
 refine st ?_
 have hr:=Option.some.inj hF
 subst hr
 exact ⟨.inr rfl,[.bool (decide (x4.From<x6.From))],q0r rfl (q0o),.bool (decide (x4.From<x6.From)),⟨[],0⟩,Nat.le_refl _,Gh.toR (.bool (decide (x4.From<x6.From))) rfl,rfl,BU.h⟩
 replace hF:=q07 h9 hF
 refine st ?_
 refine WPU.skip ?_
 refine sr ?_
 refine RS.q (u:=.ptr 1 0 2) rfl (q06 und42 rfl (q00 inf3) rfl rfl rfl) (RS.q (u:=.int .i64 x4.Unary) rfl (q03 und3 rfl rfl rfl rfl) (RS.q (u:=.ptr 2 0 2) rfl (q06 und42 rfl (q00 inf3) rfl rfl rfl) (RS.q (u:=.int .i64 x6.Unary) rfl (q03 und3 rfl rfl rfl rfl) (RS.q rfl (q02 rfl rfl (q0e _ _ _) rfl) ?_))))
 refine sd ?_
 refine WPU.condS (t:=(x4.Unary != x6.Unary)) rfl (fun h10=>?_) (fun h10=>?_)
 replace hF:=q08 h10 hF
 refine sr ?_
 refine RS.q (u:=.ptr 1 0 2) rfl (q06 und42 rfl (q00 inf3) rfl rfl rfl) (RS.q (u:=.int .i64 x4.Unary) rfl (q03 und3 rfl rfl rfl rfl) (RS.q (u:=.ptr 2 0 2) rfl (q06 und42 rfl (q00 inf3) rfl rfl rfl) (RS.q (u:=.int .i64 x6.Unary) rfl (q03 und3 rfl rfl rfl rfl) (RS.q rfl (q02 rfl rfl (q0s _ _ _) rfl) ?_))))
 refine sd ?_
 refine WPU.ret ?_
 refine st ?_
 have hr:=Option.some.inj hF
 subst hr
 exact ⟨.inr rfl,[.bool (decide (x4.Unary<x6.Unary))],q0r rfl (q0o),.bool (decide (x4.Unary<x6.Unary)),⟨[],0⟩,Nat.le_refl _,Gh.toR (.bool (decide (x4.Unary<x6.Unary))) rfl,rfl,BU.h⟩
 replace hF:=q07 h10 hF
 refine st ?_
 refine WPU.skip ?_
 refine st ?_
 obtain ⟨r11,h12,hF⟩:=q01 hF
 obtain ⟨r13,h14,hF⟩:=q01 hF
 obtain ⟨r15,h16,hF⟩:=q01 hF
 refine WPU.drawE Try.tb_ok [] (by kernel_rfl) ?_
 refine RD.q (u:=.agg (cGChart p1)) rfl (q0i und24 rfl (q00 inf24) rfl rfl rfl) (RD.mv rfl rfl rfl rfl (RD.free (u:=.agg (xGDeriv r11)) (args:=[.agg (cGChart p1),.int .i64 p2]) rfl (q0b rfl rfl fn23 hb23 rfl rfl) (fun s=>q7w n p1 p2 r11 h12 s) rfl rfl (RD.q (u:=.agg (cGChart p1)) rfl (q0i und24 rfl (q00 inf24) rfl rfl rfl) (RD.mv rfl rfl rfl rfl (RD.free (u:=.agg (xGDeriv r13)) (args:=[.agg (cGChart p1),.int .i64 p3]) rfl (q0b rfl rfl fn23 hb23 rfl rfl) (fun s=>q7w n p1 p3 r13 h14 s) rfl rfl (RD.free (u:=.int .i64 r15) (args:=[.agg (xGDeriv r11),.agg (xGDeriv r13)]) rfl (q0b rfl rfl fn21 hb21 rfl rfl) (fun s=>q4v n r11 r13 r15 h16 s) rfl rfl (RD.q rfl (q02 rfl rfl (q0s _ _ _) rfl) ?_)))))))
 refine RD.as rfl rfl rfl rfl ?_
 refine RD.done ⟨by kernel_rfl,trivial,?_⟩
 refine st ?_
 refine WPU.ret ?_
 refine st ?_
 have hr:=Option.some.inj hF
 subst hr
 exact ⟨.inr rfl,[.bool (decide (r15<0))],q0r rfl (q0o),.bool (decide (r15<0)),⟨[],0⟩,Nat.le_refl _,Gh.toR (.bool (decide (r15<0))) rfl,rfl,BU.h⟩
theorem qcu (n:Nat) (p1:GChart) (p2:Int) (p3:Int) (r:Bool) (hF:q59 n p1 p2 p3=some r) (σ:Sg):EvU Try.prog 48 [.agg (cGChart p1),.int .i64 p2,.int .i64 p3] σ (fun u σ'=>u = .bool r∧σ'=σ) :=
 EvU.pure1C (ref32_before_0 n p1 p2 p3 r hF) σ
def q65 (z38:Int) (l39:List GEdge) (rc3:Int→(List GEdge)→Option (GChart)) (x47:GEdge) (l77:List Int):Option (GChart) :=
 needO ((l39.length+1)*160≤140737488355328∧l39.length+1≤140737488355328) (
 rc3 (IntKind.i64.wrap (z38+1)) (l39++[(GEdge.mk x47.From x47.To x47.Unary x47.Kind x47.Name l77 x47.Lex x47.FS)]))
def q3v (l11:List Int) (z38:Int) (l39:List GEdge) (rc3:Int→(List GEdge)→Option (GChart)) (x47:GEdge):Nat→Int→(List Int)→Option (GChart)
 | 0,_,_=>none
 | m4+1,z74,l75 =>
  cond (decide (z74<(x47.Kids.length:Int)))
   (bindO (idxO x47.Kids z74) fun x81 =>
   bindO (idxO l11 x81) fun x83 =>
   needO ((l75.length+1)*8≤140737488355328∧l75.length+1≤140737488355328) (
   (q3v l11 z38 l39 rc3 x47 m4) (IntKind.i64.wrap (z74+1)) (l75++[x83])))
   (q65 z38 l39 rc3 x47 l75)
def q64 (z22:Int) (rc2:Int→(List GEdge)→Option (GChart)) (l41:List GEdge):Option (GChart) :=
 rc2 (IntKind.i64.wrap (z22+1)) l41
def q25 (p1:GChart) (n:Nat) (l11:List Int) (z22:Int) (rc2:Int→(List GEdge)→Option (GChart)):Nat→Int→(List GEdge)→Option (GChart)
 | 0,_,_=>none
 | m3+1,z38,l39 =>
  cond (decide (z38<(p1.Edges.length:Int)))
   (bindO (idxO l11 z38) fun x44 =>
   cond (x44 != z22)
    ((q25 p1 n l11 z22 rc2 m3) (IntKind.i64.wrap (z38+1)) l39)
    (bindO (idxO p1.Edges z38) fun x47 =>
    q3v l11 z38 l39 (q25 p1 n l11 z22 rc2 m3) x47 n 0 ([]:List Int)))
   (q64 z22 rc2 l39)
def q63 (p1:GChart) (l25:List GEdge):Option (GChart) :=
 some (GChart.mk p1.Words l25)
def q1v (p1:GChart) (n:Nat) (l11:List Int):Nat→Int→(List GEdge)→Option (GChart)
 | 0,_,_=>none
 | m2+1,z22,l23 =>
  cond (decide (z22<(p1.Edges.length:Int)))
   (q25 p1 n l11 z22 (q1v p1 n l11 m2) n 0 l23)
   (q63 p1 l23)
def q3u (z96:Int) (rc5:Int→Int→Option (GChart)) (z103:Int):Option (GChart) :=
 rc5 z103 (IntKind.i64.wrap (z96+1))
def q4m (z8:Int) (l9:List Int) (rc1:Int→(List Int)→Option (GChart)) (z97:Int):Option (GChart) :=
 needO ((l9.length+1)*8≤140737488355328∧l9.length+1≤140737488355328) (
 rc1 (IntKind.i64.wrap (z8+1)) (l9++[z97]))
def q2r (p1:GChart) (n:Nat) (z8:Int) (l9:List Int) (rc1:Int→(List Int)→Option (GChart)):Nat→Int→Int→Option (GChart)
 | 0,_,_=>none
 | m5+1,z95,z96 =>
  cond (decide (z96<(p1.Edges.length:Int)))
   (bindO (q59 n p1 z96 z8) fun r100 =>
   cond r100
    (q3u z96 (q2r p1 n z8 l9 rc1 m5) (IntKind.i64.wrap (z95+1)))
    (q3u z96 (q2r p1 n z8 l9 rc1 m5) z95))
   (q4m z8 l9 rc1 z95)
def q4l (p1:GChart) (n:Nat) (l11:List Int):Option (GChart) :=
 q1v p1 n l11 n 0 ([]:List GEdge)
def q24 (p1:GChart) (n:Nat):Nat→Int→(List Int)→Option (GChart)
 | 0,_,_=>none
 | m1+1,z8,l9 =>
  cond (decide (z8<(p1.Edges.length:Int)))
   (q2r p1 n z8 l9 (q24 p1 n m1) n 0 0)
   (q4l p1 n l9)
def q5t (n:Nat) (p1:GChart):Option (GChart) :=
 q24 p1 n n 0 ([]:List Int)
theorem ref32_Canon_0 (n:Nat) (p1:GChart) (r:GChart) (hF:q5t n p1=some r):EvU Try.prog 26 [.agg (cGChart p1)] ⟨[],0⟩ (fun u _=>u = .agg (cGChart r)∧Bel 0 u):=by
 unfold q5t at hF
 refine EvU.of_body Try.tb_ok fn26 rfl ?_
 refine WPU.ghost (tm':=fr 94 [(0,.agg (cGChart p1))]) (Gh.start (Nat.le_of_ble_eq_true rfl)) (Nat.zero_le _) ?_
 refine sr ?_
 refine RS.q (u:=.ptr 0 0 0) (σ':=⟨[(0,.row (cGChart p1) 24)],1⟩) rfl (q20 rfl rfl rfl) (RS.q (u:=.ptr 1 0 0) (σ':=⟨[(1,.row [.int .i64 0,.nils] 24),(0,.row (cGChart p1) 24)],2⟩) rfl (q0w inf24 rfl rfl) ?_)
 refine se ?_
 refine RS.q (u:=.sl 2 0 0 0) (σ':=⟨[(2,.row [] 3),(1,.row [.int .i64 0,.nils] 24),(0,.row (cGChart p1) 24)],3⟩) rfl (q55 und34 inf3 rfl rfl rfl rfl rfl rfl rfl) ?_
 refine se ?_
 refine sd ?_
 refine WPU.ghost (tm':=fr 94 [(1,.ptr 0 0 0),(2,.ptr 1 0 0),(3,.vl 3 0 0 (([]:List Int).length)),(4,.int .i64 0)]) (σ':=⟨[(3,.vec (List.map (cI .i64) ([]:List Int)).flatten 3 1 0),(2,.row [] 3),(1,.row [.int .i64 0,.nils] 24),(0,.row (cGChart p1) 24)],4⟩) (Gh.trans (Gh.empS 3 3 1 (by decide) (Nat.zero_le _) rfl rfl rfl) (Gh.eqS ⟨rfl,rfl,rfl,rfl,trivial⟩ rfl)) (Nat.zero_le _) ?_
 refine WPU.ghost (tm':=fr 94 [(1,.ptr 0 0 0),(2,.ptr 1 0 0),(3,.vl 3 0 0 (([]:List Int).length)),(4,.int .i64 0)]) (Gh.sub ⟨rfl,rfl,rfl,rfl,trivial⟩) (Nat.zero_le _) ?_
 refine WPU.loopK (fun m tm σ=>∃ z8:Int,∃ l9:List Int,∃ t10:Nat,q24 p1 n m z8 l9=some r∧tm=fr 94 [(1,.ptr 0 0 0),(2,.ptr 1 0 0),(3,.vl 3 t10 0 l9.length),(4,.int .i64 z8)]∧σ=⟨[(3,.vec (List.map (cI .i64) l9).flatten 3 1 t10),(2,.row [] 3),(1,.row [.int .i64 0,.nils] 24),(0,.row (cGChart p1) 24)],4⟩) (fun tm σ=>∃ l11:List Int,∃ t12:Nat,q4l p1 n l11=some r∧tm=fr 94 [(1,.ptr 0 0 0),(2,.ptr 1 0 0),(3,.vl 3 t12 0 l11.length)]∧σ=⟨[(3,.vec (List.map (cI .i64) l11).flatten 3 1 t12),(2,.row [] 3),(1,.row [.int .i64 0,.nils] 24),(0,.row (cGChart p1) 24)],4⟩) n ⟨0,([]:List Int),0,hF,rfl,rfl⟩ ?_ ?_
 rintro _ _ ⟨l11,t12,hF,rfl,rfl⟩
 unfold q4l at hF
 refine sr ?_
 refine RS.q (u:=.ptr 0 0 0) rfl (q06 und24 rfl (q00 inf3) rfl rfl rfl) (RS.q (u:=.int .i64 p1.Words) rfl (q03 und3 rfl rfl rfl rfl) (RS.q (u:=.agg [.int .i64 p1.Words,.nils]) rfl (q5p bd24 rfl rfl rfl) (RS.q (u:=.ptr 4 0 0) (σ':=⟨[(4,.row [.int .i64 0,.nils] 24),(3,.vec (List.map (cI .i64) l11).flatten 3 1 t12),(2,.row [] 3),(1,.row [.int .i64 0,.nils] 24),(0,.row (cGChart p1) 24)],5⟩) rfl (q0w inf24 rfl rfl) (RS.opn (u:=.junk) (σ':=⟨[(4,.row [.int .i64 p1.Words,.nils] 24),(3,.vec (List.map (cI .i64) l11).flatten 3 1 t12),(2,.row [] 3),(1,.row [.int .i64 0,.nils] 24),(0,.row (cGChart p1) 24)],5⟩) rfl (q0g (q00 inf24) rfl rfl rfl rfl rfl rfl rfl rfl) rfl ?_))))
 refine se ?_
 refine sd ?_
 refine WPU.ghost (tm':=fr 94 [(1,.ptr 0 0 0),(2,.ptr 1 0 0),(3,.vl 3 t12 0 l11.length),(7,.ptr 4 0 0),(8,.int .i64 0)]) (σ':=⟨[(5,.vec (List.map cGEdge ([]:List GEdge)).flatten 42 12 0),(4,.row [.int .i64 p1.Words,.vl 5 0 0 (([]:List GEdge).length)] 24),(3,.vec (List.map (cI .i64) l11).flatten 3 1 t12),(2,.row [] 3),(1,.row [.int .i64 0,.nils] 24),(0,.row (cGChart p1) 24)],6⟩) (Gh.trans (Gh.nilC 4 1 42 12 (by decide) (Nat.zero_le _) rfl rfl) (Gh.eqS ⟨rfl,rfl,rfl,rfl,rfl,trivial⟩ rfl)) (Nat.zero_le _) ?_
 refine WPU.ghost (tm':=fr 94 [(1,.ptr 0 0 0),(2,.ptr 1 0 0),(3,.vl 3 t12 0 l11.length),(7,.ptr 4 0 0),(8,.int .i64 0)]) (Gh.sub ⟨rfl,rfl,rfl,rfl,rfl,trivial⟩) (Nat.zero_le _) ?_
 refine WPU.loopK (fun m tm σ=>∃ z22:Int,∃ l23:List GEdge,∃ t24:Nat,q1v p1 n l11 m z22 l23=some r∧tm=fr 94 [(1,.ptr 0 0 0),(2,.ptr 1 0 0),(3,.vl 3 t12 0 l11.length),(7,.ptr 4 0 0),(8,.int .i64 z22)]∧σ=⟨[(5,.vec (List.map cGEdge l23).flatten 42 12 t24),(4,.row [.int .i64 p1.Words,.vl 5 t24 0 l23.length] 24),(3,.vec (List.map (cI .i64) l11).flatten 3 1 t12),(2,.row [] 3),(1,.row [.int .i64 0,.nils] 24),(0,.row (cGChart p1) 24)],6⟩) (fun tm σ=>∃ l25:List GEdge,∃ t26:Nat,q63 p1 l25=some r∧tm=fr 94 [(2,.ptr 1 0 0),(7,.ptr 4 0 0)]∧σ=⟨[(5,.vec (List.map cGEdge l25).flatten 42 12 t26),(4,.row [.int .i64 p1.Words,.vl 5 t26 0 l25.length] 24),(3,.vec (List.map (cI .i64) l11).flatten 3 1 t12),(2,.row [] 3),(1,.row [.int .i64 0,.nils] 24),(0,.row (cGChart p1) 24)],6⟩) n ⟨0,([]:List GEdge),0,hF,rfl,rfl⟩ ?_ ?_
 rintro _ _ ⟨l25,t26,hF,rfl,rfl⟩
 unfold q63 at hF
 refine sr ?_
 refine RS.q (u:=.agg [.int .i64 p1.Words,.vl 5 t26 0 l25.length]) rfl (q0i und24 rfl (q00 inf24) rfl rfl rfl) (RS.opn (u:=.junk) (σ':=⟨[(5,.vec (List.map cGEdge l25).flatten 42 12 t26),(4,.row [.int .i64 p1.Words,.vl 5 t26 0 l25.length] 24),(3,.vec (List.map (cI .i64) l11).flatten 3 1 t12),(2,.row [] 3),(1,.row [.int .i64 p1.Words,.vl 5 t26 0 l25.length] 24),(0,.row (cGChart p1) 24)],6⟩) rfl (q0g (q00 inf24) rfl rfl rfl rfl rfl rfl rfl rfl) rfl ?_)
 refine sd ?_
 refine WPU.ret ?_
 refine st ?_
 have hr:=Option.some.inj hF
 subst hr
 exact ⟨.inr rfl,[.agg [.int .i64 p1.Words,.vl 5 t26 0 l25.length]],q6i (q0i und24 rfl (q00 inf24) rfl rfl rfl) (q0o),.agg [.int .i64 p1.Words,.isl false (List.map cGEdge l25)],⟨[],0⟩,Nat.le_refl _,Gh.trans (Gh.fz (tm':=[.agg [.int .i64 p1.Words,.isl false (List.map cGEdge l25)]]) (h':=[(4,.row [.int .i64 p1.Words,.isl false (List.map cGEdge l25)] 24),(3,.vec (List.map (cI .i64) l11).flatten 3 1 t12),(2,.row [] 3),(1,.row [.int .i64 p1.Words,.isl false (List.map cGEdge l25)] 24),(0,.row (cGChart p1) 24)]) 5 (.vec (List.map cGEdge l25).flatten 42 12 t26) 12 rfl (by simp) (by simp only [oneU,q11,q0n,q1o,q14,q1r,q18,q17,q16,q15,q12,q1p,q1q,q1n,q1s,q36,junkT,q8k q0f,q0l,q1f _ _ _ (q1m 5 (fun q=>q53 _ .i64 q) l11)]) (by simp only [fzH,fzB,ug,Nat.beq,cond_true,cond_false,oneU,q11,q0n,q1o,q14,q1r,q18,q17,q16,q15,q12,q1p,q1q,q1n,q1s,q36,junkT,q8k q0f,q0l,q1f _ _ _ (q1m 5 (fun q=>q53 _ .i64 q) l11)])) (Gh.toR (.agg [.int .i64 p1.Words,.isl false (List.map cGEdge l25)]) rfl),rfl,BU.h⟩
 rintro m2 _ _ ⟨z22,l23,t24,hF,rfl,rfl⟩
 rcases m2 with _ | m2
 cases hF
 unfold q1v at hF
 refine sr ?_
 refine RS.q (u:=.ptr 0 0 1) rfl (q06 und24 rfl (q00 inf22) rfl rfl rfl) (RS.q (u:=.isl false (List.map cGEdge p1.Edges)) rfl (q03 und22 rfl rfl rfl rfl) (RS.q rfl (q0j rfl rfl rfl (q0a cGEdge und22)) (RS.q rfl (q02 rfl rfl (q0s _ _ _) rfl) ?_)))
 refine sd ?_
 refine WPU.condS (t:=(decide (z22<(p1.Edges.length:Int)))) rfl (fun h27=>?_) (fun h27=>?_)
 replace hF:=q08 h27 hF
 refine st ?_
 refine WPU.skip ?_
 refine st ?_
 refine WPU.block ?_
 refine sr ?_
 refine sd ?_
 refine WPU.ghost (tm':=fr 94 [(1,.ptr 0 0 0),(2,.ptr 1 0 0),(3,.vl 3 t12 0 l11.length),(7,.ptr 4 0 0),(8,.int .i64 z22),(9,.int .i64 0)]) (Gh.sub ⟨rfl,rfl,rfl,rfl,rfl,rfl,trivial⟩) (Nat.zero_le _) ?_
 refine WPU.loopK (fun m tm σ=>∃ z38:Int,∃ l39:List GEdge,∃ t40:Nat,q25 p1 n l11 z22 (q1v p1 n l11 m2) m z38 l39=some r∧tm=fr 94 [(1,.ptr 0 0 0),(2,.ptr 1 0 0),(3,.vl 3 t12 0 l11.length),(7,.ptr 4 0 0),(8,.int .i64 z22),(9,.int .i64 z38)]∧σ=⟨[(5,.vec (List.map cGEdge l39).flatten 42 12 t40),(4,.row [.int .i64 p1.Words,.vl 5 t40 0 l39.length] 24),(3,.vec (List.map (cI .i64) l11).flatten 3 1 t12),(2,.row [] 3),(1,.row [.int .i64 0,.nils] 24),(0,.row (cGChart p1) 24)],6⟩) (fun tm σ=>∃ l41:List GEdge,∃ t42:Nat,q64 z22 (q1v p1 n l11 m2) l41=some r∧tm=fr 94 [(1,.ptr 0 0 0),(2,.ptr 1 0 0),(3,.vl 3 t12 0 l11.length),(7,.ptr 4 0 0),(8,.int .i64 z22)]∧σ=⟨[(5,.vec (List.map cGEdge l41).flatten 42 12 t42),(4,.row [.int .i64 p1.Words,.vl 5 t42 0 l41.length] 24),(3,.vec (List.map (cI .i64) l11).flatten 3 1 t12),(2,.row [] 3),(1,.row [.int .i64 0,.nils] 24),(0,.row (cGChart p1) 24)],6⟩) n ⟨0,l23,t24,hF,rfl,rfl⟩ ?_ ?_
 rintro _ _ ⟨l41,t42,hF,rfl,rfl⟩
 unfold q64 at hF
 refine sr ?_
 refine RS.q rfl (q02 rfl rfl (q23 _ _ _) rfl) ?_
 refine sd ?_
 exact ⟨m2,_,_,Nat.lt_succ_self _,⟨(IntKind.i64.wrap (z22+1)),l41,t42,hF,rfl,rfl⟩,(Nat.zero_le _),Gh.toC (n1:=6) ⟨rfl,rfl,rfl,rfl,rfl,trivial⟩ rfl (Nat.zero_le _) (by simp)⟩
 rintro m3 _ _ ⟨z38,l39,t40,hF,rfl,rfl⟩
 rcases m3 with _ | m3
 cases hF
 unfold q25 at hF
 refine sr ?_
 refine RS.q (u:=.ptr 0 0 1) rfl (q06 und24 rfl (q00 inf22) rfl rfl rfl) (RS.q (u:=.isl false (List.map cGEdge p1.Edges)) rfl (q03 und22 rfl rfl rfl rfl) (RS.q rfl (q0j rfl rfl rfl (q0a cGEdge und22)) (RS.q rfl (q02 rfl rfl (q0s _ _ _) rfl) ?_)))
 refine sd ?_
 refine WPU.condS (t:=(decide (z38<(p1.Edges.length:Int)))) rfl (fun h43=>?_) (fun h43=>?_)
 replace hF:=q08 h43 hF
 refine st ?_
 refine WPU.skip ?_
 refine st ?_
 refine WPU.block ?_
 refine st ?_
 obtain ⟨x44,h45,hF⟩:=q01 hF
 refine sr ?_
 repeat refine RS.mv rfl rfl rfl rfl ?_
 refine RS.q (u:=.ptr 3 t12 (0*1+z38.toNat*1)) rfl (q0x rfl rfl (ia_vl (cI .i64) und34 (q00 inf3) (by decide) (q1t .i64) (vo rfl) h45)) ?_
 refine RS.q (u:=.int .i64 x44) rfl (ld_vec1 (cI .i64) (fun x=>.int .i64 x) und3 rfl (fun _=>rfl) rfl rfl h45) (RS.mv rfl rfl rfl rfl (RS.q rfl (q02 rfl rfl (q0e _ _ _) rfl) ?_))
 refine sd ?_
 refine WPU.condS (t:=(x44 != z22)) rfl (fun h46=>?_) (fun h46=>?_)
 replace hF:=q08 h46 hF
 refine st ?_
 refine WPU.exit ?_
 refine sr ?_
 refine RS.q rfl (q02 rfl rfl (q23 _ _ _) rfl) ?_
 refine sd ?_
 exact ⟨m3,_,_,Nat.lt_succ_self _,⟨(IntKind.i64.wrap (z38+1)),l39,t40,hF,rfl,rfl⟩,(Nat.zero_le _),Gh.toC (n1:=6) ⟨rfl,rfl,rfl,rfl,rfl,rfl,trivial⟩ rfl (Nat.zero_le _) (by simp)⟩
 replace hF:=q07 h46 hF
 refine st ?_
 refine WPU.skip ?_
 refine st ?_
 obtain ⟨x47,h48,hF⟩:=q01 hF
 refine sr ?_
 refine RS.q (u:=.ptr 0 0 1) rfl (q06 und24 rfl (q00 inf22) rfl rfl rfl) (RS.q (u:=.isl false (List.map cGEdge p1.Edges)) rfl (q03 und22 rfl rfl rfl rfl) (RS.mv rfl rfl rfl rfl (RS.q (u:=.iptr (cGEdge x47)) rfl (q0x rfl rfl (q0k cGEdge und22 (q00 inf42) q0f h48 rfl)) (RS.q (u:=.agg (cGEdge x47)) rfl (q2c und42 rfl (q00 inf42) rfl rfl) (RS.q (u:=.ptr 6 0 0) (σ':=⟨[(6,.row [.int .i64 0,.int .i64 0,.int .i64 0,.int .i64 0,.str [],.nils,.int .i64 0,.str [],.int .i64 0,.int .i64 0,.nils,.nils] 42),(5,.vec (List.map cGEdge l39).flatten 42 12 t40),(4,.row [.int .i64 p1.Words,.vl 5 t40 0 l39.length] 24),(3,.vec (List.map (cI .i64) l11).flatten 3 1 t12),(2,.row [] 3),(1,.row [.int .i64 0,.nils] 24),(0,.row (cGChart p1) 24)],7⟩) rfl (q0w inf42 rfl rfl) (RS.opn (u:=.junk) (σ':=⟨[(6,.row (cGEdge x47) 42),(5,.vec (List.map cGEdge l39).flatten 42 12 t40),(4,.row [.int .i64 p1.Words,.vl 5 t40 0 l39.length] 24),(3,.vec (List.map (cI .i64) l11).flatten 3 1 t12),(2,.row [] 3),(1,.row [.int .i64 0,.nils] 24),(0,.row (cGChart p1) 24)],7⟩) rfl (q0g (q00 inf42) rfl rfl rfl rfl rfl rfl rfl rfl) rfl ?_))))))
 refine se ?_
 refine RS.q (u:=.sl 7 0 0 0) (σ':=⟨[(7,.row [] 3),(6,.row (cGEdge x47) 42),(5,.vec (List.map cGEdge l39).flatten 42 12 t40),(4,.row [.int .i64 p1.Words,.vl 5 t40 0 l39.length] 24),(3,.vec (List.map (cI .i64) l11).flatten 3 1 t12),(2,.row [] 3),(1,.row [.int .i64 0,.nils] 24),(0,.row (cGChart p1) 24)],8⟩) rfl (q55 und34 inf3 rfl rfl rfl rfl rfl rfl rfl) ?_
 refine se ?_
 refine sd ?_
 refine WPU.ghost (tm':=fr 94 [(1,.ptr 0 0 0),(2,.ptr 1 0 0),(3,.vl 3 t12 0 l11.length),(7,.ptr 4 0 0),(8,.int .i64 z22),(9,.int .i64 z38),(10,.ptr 6 0 0),(11,.vl 8 0 0 (([]:List Int).length)),(12,.int .i64 0)]) (σ':=⟨[(8,.vec (List.map (cI .i64) ([]:List Int)).flatten 3 1 0),(7,.row [] 3),(6,.row (cGEdge x47) 42),(5,.vec (List.map cGEdge l39).flatten 42 12 t40),(4,.row [.int .i64 p1.Words,.vl 5 t40 0 l39.length] 24),(3,.vec (List.map (cI .i64) l11).flatten 3 1 t12),(2,.row [] 3),(1,.row [.int .i64 0,.nils] 24),(0,.row (cGChart p1) 24)],9⟩) (Gh.trans (Gh.empS 11 3 1 (by decide) (Nat.zero_le _) rfl rfl rfl) (Gh.eqS ⟨rfl,rfl,rfl,rfl,rfl,rfl,rfl,rfl,rfl,trivial⟩ rfl)) (Nat.zero_le _) ?_
 refine WPU.ghost (tm':=fr 94 [(1,.ptr 0 0 0),(2,.ptr 1 0 0),(3,.vl 3 t12 0 l11.length),(7,.ptr 4 0 0),(8,.int .i64 z22),(9,.int .i64 z38),(10,.ptr 6 0 0),(11,.vl 8 0 0 (([]:List Int).length)),(12,.int .i64 0)]) (Gh.sub ⟨rfl,rfl,rfl,rfl,rfl,rfl,rfl,rfl,rfl,trivial⟩) (Nat.zero_le _) ?_
 refine WPU.loopK (fun m tm σ=>∃ z74:Int,∃ l75:List Int,∃ t76:Nat,q3v l11 z38 l39 (q25 p1 n l11 z22 (q1v p1 n l11 m2) m3) x47 m z74 l75=some r∧tm=fr 94 [(1,.ptr 0 0 0),(2,.ptr 1 0 0),(3,.vl 3 t12 0 l11.length),(7,.ptr 4 0 0),(8,.int .i64 z22),(9,.int .i64 z38),(10,.ptr 6 0 0),(11,.vl 8 t76 0 l75.length),(12,.int .i64 z74)]∧σ=⟨[(8,.vec (List.map (cI .i64) l75).flatten 3 1 t76),(7,.row [] 3),(6,.row (cGEdge x47) 42),(5,.vec (List.map cGEdge l39).flatten 42 12 t40),(4,.row [.int .i64 p1.Words,.vl 5 t40 0 l39.length] 24),(3,.vec (List.map (cI .i64) l11).flatten 3 1 t12),(2,.row [] 3),(1,.row [.int .i64 0,.nils] 24),(0,.row (cGChart p1) 24)],9⟩) (fun tm σ=>∃ l77:List Int,∃ t78:Nat,q65 z38 l39 (q25 p1 n l11 z22 (q1v p1 n l11 m2) m3) x47 l77=some r∧tm=fr 94 [(1,.ptr 0 0 0),(2,.ptr 1 0 0),(3,.vl 3 t12 0 l11.length),(7,.ptr 4 0 0),(8,.int .i64 z22),(9,.int .i64 z38),(10,.ptr 6 0 0),(11,.vl 8 t78 0 l77.length)]∧σ=⟨[(8,.vec (List.map (cI .i64) l77).flatten 3 1 t78),(7,.row [] 3),(6,.row (cGEdge x47) 42),(5,.vec (List.map cGEdge l39).flatten 42 12 t40),(4,.row [.int .i64 p1.Words,.vl 5 t40 0 l39.length] 24),(3,.vec (List.map (cI .i64) l11).flatten 3 1 t12),(2,.row [] 3),(1,.row [.int .i64 0,.nils] 24),(0,.row (cGChart p1) 24)],9⟩) n ⟨0,([]:List Int),0,hF,rfl,rfl⟩ ?_ ?_
 rintro _ _ ⟨l77,t78,hF,rfl,rfl⟩
 unfold q65 at hF
 refine sr ?_
 refine RS.q (u:=.ptr 6 0 5) rfl (q06 und42 rfl (q00 inf34) rfl rfl rfl) (RS.opn (u:=.junk) (σ':=⟨[(8,.vec (List.map (cI .i64) l77).flatten 3 1 t78),(7,.row [] 3),(6,.row [.int .i64 x47.From,.int .i64 x47.To,.int .i64 x47.Unary,.int .i64 x47.Kind,.str x47.Name,.vl 8 t78 0 l77.length,.int .i64 x47.Lex.Kind,.str x47.Lex.Name,.int .i64 x47.Lex.From,.int .i64 x47.Lex.To,.isl false (List.map cGDeriv x47.Lex.Kids),.isl false (List.map cGNode x47.FS.Nodes)] 42),(5,.vec (List.map cGEdge l39).flatten 42 12 t40),(4,.row [.int .i64 p1.Words,.vl 5 t40 0 l39.length] 24),(3,.vec (List.map (cI .i64) l11).flatten 3 1 t12),(2,.row [] 3),(1,.row [.int .i64 0,.nils] 24),(0,.row (cGChart p1) 24)],9⟩) rfl (q0g (q00 inf34) rfl rfl rfl rfl rfl rfl rfl rfl) rfl ?_)
 refine sd ?_
 refine WPU.ghost (tm':=fr 94 [(1,.ptr 0 0 0),(2,.ptr 1 0 0),(3,.vl 3 t12 0 l11.length),(7,.ptr 4 0 0),(8,.int .i64 z22),(9,.int .i64 z38),(10,.ptr 6 0 0)]) (σ':=⟨[(7,.row [] 3),(6,.row [.int .i64 x47.From,.int .i64 x47.To,.int .i64 x47.Unary,.int .i64 x47.Kind,.str x47.Name,.isl false (List.map (cI .i64) l77),.int .i64 x47.Lex.Kind,.str x47.Lex.Name,.int .i64 x47.Lex.From,.int .i64 x47.Lex.To,.isl false (List.map cGDeriv x47.Lex.Kids),.isl false (List.map cGNode x47.FS.Nodes)] 42),(5,.vec (List.map cGEdge l39).flatten 42 12 t40),(4,.row [.int .i64 p1.Words,.vl 5 t40 0 l39.length] 24),(3,.vec (List.map (cI .i64) l11).flatten 3 1 t12),(2,.row [] 3),(1,.row [.int .i64 0,.nils] 24),(0,.row (cGChart p1) 24)],9⟩) (Gh.trans (Gh.sub (l':=[(1,.ptr 0 0 0),(2,.ptr 1 0 0),(3,.vl 3 t12 0 l11.length),(7,.ptr 4 0 0),(8,.int .i64 z22),(9,.int .i64 z38),(10,.ptr 6 0 0)]) ⟨rfl,rfl,rfl,rfl,rfl,rfl,rfl,trivial⟩) (Gh.fzS (l':=[(1,.ptr 0 0 0),(2,.ptr 1 0 0),(3,.vl 3 t12 0 l11.length),(7,.ptr 4 0 0),(8,.int .i64 z22),(9,.int .i64 z38),(10,.ptr 6 0 0)]) (h':=[(7,.row [] 3),(6,.row [.int .i64 x47.From,.int .i64 x47.To,.int .i64 x47.Unary,.int .i64 x47.Kind,.str x47.Name,.isl false (List.map (cI .i64) l77),.int .i64 x47.Lex.Kind,.str x47.Lex.Name,.int .i64 x47.Lex.From,.int .i64 x47.Lex.To,.isl false (List.map cGDeriv x47.Lex.Kids),.isl false (List.map cGNode x47.FS.Nodes)] 42),(5,.vec (List.map cGEdge l39).flatten 42 12 t40),(4,.row [.int .i64 p1.Words,.vl 5 t40 0 l39.length] 24),(3,.vec (List.map (cI .i64) l11).flatten 3 1 t12),(2,.row [] 3),(1,.row [.int .i64 0,.nils] 24),(0,.row (cGChart p1) 24)]) 8 (.vec (List.map (cI .i64) l77).flatten 3 1 t78) 1 rfl (by simp) (by simp only [fzS,oneU,q11,q0n,q1o,q14,q1r,q18,q17,q16,q15,q12,q1p,q1q,q1n,q1s,q36,junkT,q8k (q1t .i64),q0l,q2x (show Nat.beq 0 8=false from rfl),q2w (show Nat.beq 0 8=false from rfl),q2v (show Nat.beq 0 8=false from rfl),q2x (show Nat.beq 1 8=false from rfl),q2w (show Nat.beq 1 8=false from rfl),q2v (show Nat.beq 1 8=false from rfl),q2x (show Nat.beq 3 8=false from rfl),q2w (show Nat.beq 3 8=false from rfl),q2v (show Nat.beq 3 8=false from rfl),q2x (show Nat.beq 4 8=false from rfl),q2w (show Nat.beq 4 8=false from rfl),q2v (show Nat.beq 4 8=false from rfl),q2x (show Nat.beq 5 8=false from rfl),q2w (show Nat.beq 5 8=false from rfl),q2v (show Nat.beq 5 8=false from rfl),q2x (show Nat.beq 6 8=false from rfl),q2w (show Nat.beq 6 8=false from rfl),q2v (show Nat.beq 6 8=false from rfl),q1f _ _ _ (q1m 8 (fun q=>q52 _ q) l39),q1f _ _ _ (q1m 8 (fun q=>q53 _ .i64 q) l11)]) (by simp only [fzH,fzB,ug,Nat.beq,cond_true,cond_false,oneU,q11,q0n,q1o,q14,q1r,q18,q17,q16,q15,q12,q1p,q1q,q1n,q1s,q36,junkT,q8k (q1t .i64),q0l,q2x (show Nat.beq 0 8=false from rfl),q2w (show Nat.beq 0 8=false from rfl),q2v (show Nat.beq 0 8=false from rfl),q2x (show Nat.beq 1 8=false from rfl),q2w (show Nat.beq 1 8=false from rfl),q2v (show Nat.beq 1 8=false from rfl),q2x (show Nat.beq 3 8=false from rfl),q2w (show Nat.beq 3 8=false from rfl),q2v (show Nat.beq 3 8=false from rfl),q2x (show Nat.beq 4 8=false from rfl),q2w (show Nat.beq 4 8=false from rfl),q2v (show Nat.beq 4 8=false from rfl),q2x (show Nat.beq 5 8=false from rfl),q2w (show Nat.beq 5 8=false from rfl),q2v (show Nat.beq 5 8=false from rfl),q2x (show Nat.beq 6 8=false from rfl),q2w (show Nat.beq 6 8=false from rfl),q2v (show Nat.beq 6 8=false from rfl),q1f _ _ _ (q1m 8 (fun q=>q52 _ q) l39),q1f _ _ _ (q1m 8 (fun q=>q53 _ .i64 q) l11)]))) (Nat.zero_le _) ?_
 refine st ?_
 obtain ⟨h79,hF⟩:=q0u hF
 refine sr ?_
 refine RS.q (u:=.ptr 4 0 1) rfl (q06 und24 rfl (q00 inf22) rfl rfl rfl) (RS.q (u:=.vl 5 t40 0 l39.length) rfl (q03 und22 rfl rfl rfl rfl) (RS.q (u:=.agg [.int .i64 x47.From,.int .i64 x47.To,.int .i64 x47.Unary,.int .i64 x47.Kind,.str x47.Name,.isl false (List.map (cI .i64) l77),.int .i64 x47.Lex.Kind,.str x47.Lex.Name,.int .i64 x47.Lex.From,.int .i64 x47.Lex.To,.isl false (List.map cGDeriv x47.Lex.Kids),.isl false (List.map cGNode x47.FS.Nodes)]) rfl (q0i und42 rfl (q00 inf42) rfl rfl rfl) (RS.q (u:=.sl 9 0 1 1) (σ':=⟨[(9,.row [.int .i64 x47.From,.int .i64 x47.To,.int .i64 x47.Unary,.int .i64 x47.Kind,.str x47.Name,.isl false (List.map (cI .i64) l77),.int .i64 x47.Lex.Kind,.str x47.Lex.Name,.int .i64 x47.Lex.From,.int .i64 x47.Lex.To,.isl false (List.map cGDeriv x47.Lex.Kids),.isl false (List.map cGNode x47.FS.Nodes)] 42),(7,.row [] 3),(6,.row [.int .i64 x47.From,.int .i64 x47.To,.int .i64 x47.Unary,.int .i64 x47.Kind,.str x47.Name,.isl false (List.map (cI .i64) l77),.int .i64 x47.Lex.Kind,.str x47.Lex.Name,.int .i64 x47.Lex.From,.int .i64 x47.Lex.To,.isl false (List.map cGDeriv x47.Lex.Kids),.isl false (List.map cGNode x47.FS.Nodes)] 42),(5,.vec (List.map cGEdge l39).flatten 42 12 t40),(4,.row [.int .i64 p1.Words,.vl 5 t40 0 l39.length] 24),(3,.vec (List.map (cI .i64) l11).flatten 3 1 t12),(2,.row [] 3),(1,.row [.int .i64 0,.nils] 24),(0,.row (cGChart p1) 24)],10⟩) rfl (q55 und22 inf42 rfl rfl rfl rfl rfl rfl rfl) (RS.q (u:=.vl 5 (t40+1) 0 ((l39++[(GEdge.mk x47.From x47.To x47.Unary x47.Kind x47.Name l77 x47.Lex x47.FS)]).length)) (σ':=⟨[(9,.row [.int .i64 x47.From,.int .i64 x47.To,.int .i64 x47.Unary,.int .i64 x47.Kind,.str x47.Name,.isl false (List.map (cI .i64) l77),.int .i64 x47.Lex.Kind,.str x47.Lex.Name,.int .i64 x47.Lex.From,.int .i64 x47.Lex.To,.isl false (List.map cGDeriv x47.Lex.Kids),.isl false (List.map cGNode x47.FS.Nodes)] 42),(7,.row [] 3),(6,.row [.int .i64 x47.From,.int .i64 x47.To,.int .i64 x47.Unary,.int .i64 x47.Kind,.str x47.Name,.isl false (List.map (cI .i64) l77),.int .i64 x47.Lex.Kind,.str x47.Lex.Name,.int .i64 x47.Lex.From,.int .i64 x47.Lex.To,.isl false (List.map cGDeriv x47.Lex.Kids),.isl false (List.map cGNode x47.FS.Nodes)] 42),(5,.vec (List.map cGEdge (l39++[(GEdge.mk x47.From x47.To x47.Unary x47.Kind x47.Name l77 x47.Lex x47.FS)])).flatten 42 12 (t40+1)),(4,.row [.int .i64 p1.Words,.vl 5 t40 0 l39.length] 24),(3,.vec (List.map (cI .i64) l11).flatten 3 1 t12),(2,.row [] 3),(1,.row [.int .i64 0,.nils] 24),(0,.row (cGChart p1) 24)],10⟩) rfl (q8v rfl rfl rfl rfl (q9f cGEdge ([(GEdge.mk x47.From x47.To x47.Unary x47.Kind x47.Name l77 x47.Lex x47.FS)]) und22 und22 inf42 rfl q0f rfl (q79 cGEdge [(GEdge.mk x47.From x47.To x47.Unary x47.Kind x47.Name l77 x47.Lex x47.FS)] rfl rfl rfl rfl) h79)) (RS.q (u:=.ptr 4 0 1) rfl (q06 und24 rfl (q00 inf22) rfl rfl rfl) (RS.opn (u:=.junk) (σ':=⟨[(9,.row [.int .i64 x47.From,.int .i64 x47.To,.int .i64 x47.Unary,.int .i64 x47.Kind,.str x47.Name,.isl false (List.map (cI .i64) l77),.int .i64 x47.Lex.Kind,.str x47.Lex.Name,.int .i64 x47.Lex.From,.int .i64 x47.Lex.To,.isl false (List.map cGDeriv x47.Lex.Kids),.isl false (List.map cGNode x47.FS.Nodes)] 42),(7,.row [] 3),(6,.row [.int .i64 x47.From,.int .i64 x47.To,.int .i64 x47.Unary,.int .i64 x47.Kind,.str x47.Name,.isl false (List.map (cI .i64) l77),.int .i64 x47.Lex.Kind,.str x47.Lex.Name,.int .i64 x47.Lex.From,.int .i64 x47.Lex.To,.isl false (List.map cGDeriv x47.Lex.Kids),.isl false (List.map cGNode x47.FS.Nodes)] 42),(5,.vec (List.map cGEdge (l39++[(GEdge.mk x47.From x47.To x47.Unary x47.Kind x47.Name l77 x47.Lex x47.FS)])).flatten 42 12 (t40+1)),(4,.row [.int .i64 p1.Words,.vl 5 (t40+1) 0 ((l39++[(GEdge.mk x47.From x47.To x47.Unary x47.Kind x47.Name l77 x47.Lex x47.FS)]).length)] 24),(3,.vec (List.map (cI .i64) l11).flatten 3 1 t12),(2,.row [] 3),(1,.row [.int .i64 0,.nils] 24),(0,.row (cGChart p1) 24)],10⟩) rfl (q0g (q00 inf22) rfl rfl rfl rfl rfl rfl rfl rfl) rfl ?_))))))
 refine se ?_
 refine RS.q rfl (q02 rfl rfl (q23 _ _ _) rfl) ?_
 refine sd ?_
 exact ⟨m3,_,_,Nat.lt_succ_self _,⟨(IntKind.i64.wrap (z38+1)),(l39++[(GEdge.mk x47.From x47.To x47.Unary x47.Kind x47.Name l77 x47.Lex x47.FS)]),(t40+1),hF,rfl,rfl⟩,(Nat.zero_le _),Gh.toC (n1:=6) ⟨rfl,rfl,rfl,rfl,rfl,rfl,trivial⟩ rfl (Nat.zero_le _) (by simp)⟩
 rintro m4 _ _ ⟨z74,l75,t76,hF,rfl,rfl⟩
 rcases m4 with _ | m4
 cases hF
 unfold q3v at hF
 refine sr ?_
 refine RS.q (u:=.ptr 6 0 5) rfl (q06 und42 rfl (q00 inf34) rfl rfl rfl) (RS.q (u:=.isl false (List.map (cI .i64) x47.Kids)) rfl (q03 und34 rfl rfl rfl rfl) (RS.q rfl (q0j rfl rfl rfl (q0a (cI .i64) und34)) (RS.q rfl (q02 rfl rfl (q0s _ _ _) rfl) ?_)))
 refine sd ?_
 refine WPU.condS (t:=(decide (z74<(x47.Kids.length:Int)))) rfl (fun h80=>?_) (fun h80=>?_)
 replace hF:=q08 h80 hF
 refine st ?_
 refine WPU.skip ?_
 refine st ?_
 refine WPU.block ?_
 refine st ?_
 obtain ⟨x81,h82,hF⟩:=q01 hF
 obtain ⟨x83,h84,hF⟩:=q01 hF
 obtain ⟨h85,hF⟩:=q0u hF
 refine sr ?_
 repeat refine RS.mv rfl rfl rfl rfl ?_
 refine RS.q (u:=.ptr 6 0 5) rfl (q06 und42 rfl (q00 inf34) rfl rfl rfl) (RS.q (u:=.isl false (List.map (cI .i64) x47.Kids)) rfl (q03 und34 rfl rfl rfl rfl) (RS.mv rfl rfl rfl rfl (RS.q (u:=.iptr [.int .i64 x81]) rfl (q0x rfl rfl (q0k (cI .i64) und34 (q00 inf3) (q1t .i64) h82 rfl)) (RS.q (u:=.int .i64 x81) rfl (q0z und3 rfl rfl rfl) ?_))))
 refine RS.q (u:=.ptr 3 t12 (0*1+x81.toNat*1)) rfl (q0x rfl rfl (ia_vl (cI .i64) und34 (q00 inf3) (by decide) (q1t .i64) (vo rfl) h84)) ?_
 refine RS.q (u:=.int .i64 x83) rfl (ld_vec1 (cI .i64) (fun x=>.int .i64 x) und3 rfl (fun _=>rfl) rfl rfl h84) (RS.q (u:=.sl 9 0 1 1) (σ':=⟨[(9,.row [.int .i64 x83] 3),(8,.vec (List.map (cI .i64) l75).flatten 3 1 t76),(7,.row [] 3),(6,.row (cGEdge x47) 42),(5,.vec (List.map cGEdge l39).flatten 42 12 t40),(4,.row [.int .i64 p1.Words,.vl 5 t40 0 l39.length] 24),(3,.vec (List.map (cI .i64) l11).flatten 3 1 t12),(2,.row [] 3),(1,.row [.int .i64 0,.nils] 24),(0,.row (cGChart p1) 24)],10⟩) rfl (q55 und34 inf3 rfl rfl rfl rfl rfl rfl rfl) (RS.q (u:=.vl 8 (t76+1) 0 ((l75++[x83]).length)) (σ':=⟨[(9,.row [.int .i64 x83] 3),(8,.vec (List.map (cI .i64) (l75++[x83])).flatten 3 1 (t76+1)),(7,.row [] 3),(6,.row (cGEdge x47) 42),(5,.vec (List.map cGEdge l39).flatten 42 12 t40),(4,.row [.int .i64 p1.Words,.vl 5 t40 0 l39.length] 24),(3,.vec (List.map (cI .i64) l11).flatten 3 1 t12),(2,.row [] 3),(1,.row [.int .i64 0,.nils] 24),(0,.row (cGChart p1) 24)],10⟩) rfl (q8v rfl rfl rfl rfl (q9f (cI .i64) ([x83]) und34 und34 inf3 rfl (q1t .i64) rfl (q79 (cI .i64) [x83] rfl rfl rfl rfl) h85)) ?_))
 refine se ?_
 refine RS.q rfl (q02 rfl rfl (q23 _ _ _) rfl) ?_
 refine sd ?_
 exact ⟨m4,_,_,Nat.lt_succ_self _,⟨(IntKind.i64.wrap (z74+1)),(l75++[x83]),(t76+1),hF,rfl,rfl⟩,(Nat.zero_le _),Gh.toC (n1:=9) ⟨rfl,rfl,rfl,rfl,rfl,rfl,rfl,rfl,rfl,trivial⟩ rfl (Nat.zero_le _) (by simp)⟩
 replace hF:=q07 h80 hF
 refine st ?_
 refine WPU.exit ?_
 refine st ?_
 exact ⟨_,_,⟨l75,t76,hF,rfl,rfl⟩,(Nat.zero_le _),Gh.toC (n1:=9) ⟨rfl,rfl,rfl,rfl,rfl,rfl,rfl,rfl,trivial⟩ rfl (Nat.zero_le _) (by simp)⟩
 replace hF:=q07 h43 hF
 refine st ?_
 refine WPU.exit ?_
 refine st ?_
 exact ⟨_,_,⟨l39,t40,hF,rfl,rfl⟩,(Nat.zero_le _),Gh.toC (n1:=6) ⟨rfl,rfl,rfl,rfl,rfl,trivial⟩ rfl (Nat.zero_le _) (by simp)⟩
 replace hF:=q07 h27 hF
 refine st ?_
 refine WPU.exit ?_
 refine st ?_
 exact ⟨_,_,⟨l23,t24,hF,rfl,rfl⟩,(Nat.zero_le _),Gh.toC (n1:=6) ⟨rfl,rfl,trivial⟩ rfl (Nat.zero_le _) (by simp)⟩
 rintro m1 _ _ ⟨z8,l9,t10,hF,rfl,rfl⟩
 rcases m1 with _ | m1
 cases hF
 unfold q24 at hF
 refine sr ?_
 refine RS.q (u:=.ptr 0 0 1) rfl (q06 und24 rfl (q00 inf22) rfl rfl rfl) (RS.q (u:=.isl false (List.map cGEdge p1.Edges)) rfl (q03 und22 rfl rfl rfl rfl) (RS.q rfl (q0j rfl rfl rfl (q0a cGEdge und22)) (RS.q rfl (q02 rfl rfl (q0s _ _ _) rfl) ?_)))
 refine sd ?_
 refine WPU.condS (t:=(decide (z8<(p1.Edges.length:Int)))) rfl (fun h86=>?_) (fun h86=>?_)
 replace hF:=q08 h86 hF
 refine st ?_
 refine WPU.skip ?_
 refine st ?_
 refine WPU.block ?_
 refine sr ?_
 refine se ?_
 refine sd ?_
 refine WPU.ghost (tm':=fr 94 [(1,.ptr 0 0 0),(2,.ptr 1 0 0),(3,.vl 3 t10 0 l9.length),(4,.int .i64 z8),(5,.int .i64 0),(6,.int .i64 0)]) (Gh.sub ⟨rfl,rfl,rfl,rfl,rfl,rfl,trivial⟩) (Nat.zero_le _) ?_
 refine WPU.loopK (fun m tm σ=>∃ z95:Int,∃ z96:Int,q2r p1 n z8 l9 (q24 p1 n m1) m z95 z96=some r∧tm=fr 94 [(1,.ptr 0 0 0),(2,.ptr 1 0 0),(3,.vl 3 t10 0 l9.length),(4,.int .i64 z8),(5,.int .i64 z95),(6,.int .i64 z96)]∧σ=⟨[(3,.vec (List.map (cI .i64) l9).flatten 3 1 t10),(2,.row [] 3),(1,.row [.int .i64 0,.nils] 24),(0,.row (cGChart p1) 24)],4⟩) (fun tm σ=>∃ z97:Int,q4m z8 l9 (q24 p1 n m1) z97=some r∧tm=fr 94 [(1,.ptr 0 0 0),(2,.ptr 1 0 0),(3,.vl 3 t10 0 l9.length),(4,.int .i64 z8),(5,.int .i64 z97)]∧σ=⟨[(3,.vec (List.map (cI .i64) l9).flatten 3 1 t10),(2,.row [] 3),(1,.row [.int .i64 0,.nils] 24),(0,.row (cGChart p1) 24)],4⟩) n ⟨0,0,hF,rfl,rfl⟩ ?_ ?_
 rintro _ _ ⟨z97,hF,rfl,rfl⟩
 unfold q4m at hF
 refine st ?_
 obtain ⟨h98,hF⟩:=q0u hF
 refine sr ?_
 repeat refine RS.mv rfl rfl rfl rfl ?_
 refine RS.q (u:=.sl 4 0 1 1) (σ':=⟨[(4,.row [.int .i64 z97] 3),(3,.vec (List.map (cI .i64) l9).flatten 3 1 t10),(2,.row [] 3),(1,.row [.int .i64 0,.nils] 24),(0,.row (cGChart p1) 24)],5⟩) rfl (q55 und34 inf3 rfl rfl rfl rfl rfl rfl rfl) (RS.q (u:=.vl 3 (t10+1) 0 ((l9++[z97]).length)) (σ':=⟨[(4,.row [.int .i64 z97] 3),(3,.vec (List.map (cI .i64) (l9++[z97])).flatten 3 1 (t10+1)),(2,.row [] 3),(1,.row [.int .i64 0,.nils] 24),(0,.row (cGChart p1) 24)],5⟩) rfl (q8v rfl rfl rfl rfl (q9f (cI .i64) ([z97]) und34 und34 inf3 rfl (q1t .i64) rfl (q79 (cI .i64) [z97] rfl rfl rfl rfl) h98)) ?_)
 refine se ?_
 refine RS.q rfl (q02 rfl rfl (q23 _ _ _) rfl) ?_
 refine sd ?_
 exact ⟨m1,_,_,Nat.lt_succ_self _,⟨(IntKind.i64.wrap (z8+1)),(l9++[z97]),(t10+1),hF,rfl,rfl⟩,(Nat.zero_le _),Gh.toC (n1:=4) ⟨rfl,rfl,rfl,rfl,trivial⟩ rfl (Nat.zero_le _) (by simp)⟩
 rintro m5 _ _ ⟨z95,z96,hF,rfl,rfl⟩
 rcases m5 with _ | m5
 cases hF
 unfold q2r at hF
 refine sr ?_
 refine RS.q (u:=.ptr 0 0 1) rfl (q06 und24 rfl (q00 inf22) rfl rfl rfl) (RS.q (u:=.isl false (List.map cGEdge p1.Edges)) rfl (q03 und22 rfl rfl rfl rfl) (RS.q rfl (q0j rfl rfl rfl (q0a cGEdge und22)) (RS.q rfl (q02 rfl rfl (q0s _ _ _) rfl) ?_)))
 refine sd ?_
 refine WPU.condS (t:=(decide (z96<(p1.Edges.length:Int)))) rfl (fun h99=>?_) (fun h99=>?_)
 replace hF:=q08 h99 hF
 refine st ?_
 refine WPU.skip ?_
 refine st ?_
 refine WPU.block ?_
 refine st ?_
 obtain ⟨r100,h101,hF⟩:=q01 hF
 refine sr ?_
 refine RS.q (u:=.agg (cGChart p1)) rfl (q0i und24 rfl (q00 inf24) rfl rfl rfl) ?_
 repeat refine RS.mv rfl rfl rfl rfl ?_
 refine RS.call (u:=.bool r100) (args:=[.agg (cGChart p1),.int .i64 z96,.int .i64 z8]) rfl (q0b rfl rfl fn48 hb48 rfl rfl) (qcu n p1 z96 z8 r100 h101 _) rfl rfl ?_
 refine sd ?_
 refine WPU.joinK (fun tm σ=>∃ z103:Int,q3u z96 (q2r p1 n z8 l9 (q24 p1 n m1) m5) z103=some r∧tm=fr 94 [(1,.ptr 0 0 0),(2,.ptr 1 0 0),(3,.vl 3 t10 0 l9.length),(4,.int .i64 z8),(5,.int .i64 z103),(6,.int .i64 z96)]∧σ=⟨[(3,.vec (List.map (cI .i64) l9).flatten 3 1 t10),(2,.row [] 3),(1,.row [.int .i64 0,.nils] 24),(0,.row (cGChart p1) 24)],4⟩) ?_ ?_
 rintro _ _ ⟨z103,hF,rfl,rfl⟩
 unfold q3u at hF
 refine sr ?_
 refine RS.q rfl (q02 rfl rfl (q23 _ _ _) rfl) ?_
 refine sd ?_
 exact ⟨m5,_,_,Nat.lt_succ_self _,⟨z103,(IntKind.i64.wrap (z96+1)),hF,rfl,rfl⟩,(Nat.zero_le _),Gh.toC (n1:=4) ⟨rfl,rfl,rfl,rfl,rfl,rfl,trivial⟩ rfl (Nat.zero_le _) (by simp)⟩
 refine WPU.condS (t:=r100) rfl (fun h102=>?_) (fun h102=>?_)
 replace hF:=q08 h102 hF
 refine sr ?_
 refine RS.q rfl (q02 rfl rfl (q23 _ _ _) rfl) ?_
 refine sd ?_
 exact ⟨_,_,⟨(IntKind.i64.wrap (z95+1)),hF,rfl,rfl⟩,(Nat.zero_le _),Gh.toC (n1:=4) ⟨rfl,rfl,rfl,rfl,rfl,rfl,trivial⟩ rfl (Nat.zero_le _) (by simp)⟩
 replace hF:=q07 h102 hF
 refine st ?_
 refine WPU.skip ?_
 refine st ?_
 exact ⟨_,_,⟨z95,hF,rfl,rfl⟩,(Nat.zero_le _),Gh.toC (n1:=4) ⟨rfl,rfl,rfl,rfl,rfl,rfl,trivial⟩ rfl (Nat.zero_le _) (by simp)⟩
 replace hF:=q07 h99 hF
 refine st ?_
 refine WPU.exit ?_
 refine st ?_
 exact ⟨_,_,⟨z95,hF,rfl,rfl⟩,(Nat.zero_le _),Gh.toC (n1:=4) ⟨rfl,rfl,rfl,rfl,rfl,trivial⟩ rfl (Nat.zero_le _) (by simp)⟩
 replace hF:=q07 h86 hF
 refine st ?_
 refine WPU.exit ?_
 refine st ?_
 exact ⟨_,_,⟨l9,t10,hF,rfl,rfl⟩,(Nat.zero_le _),Gh.toC (n1:=4) ⟨rfl,rfl,rfl,trivial⟩ rfl (Nat.zero_le _) (by simp)⟩
theorem q9i (n:Nat) (p1:GChart) (r:GChart) (hF:q5t n p1=some r) (σ:Sg):EvU Try.prog 26 [.agg (cGChart p1)] σ (fun u σ'=>u = .agg (cGChart r)∧σ'=σ) :=
 EvU.pure1C (ref32_Canon_0 n p1 r hF) σ
def q7s (z12:Int) (rc1:Int→Int→(List GEdge)→Option (GChart)) (z23:Int) (l24:List GEdge):Option (GChart) :=
 rc1 (IntKind.i64.wrap (z12+1)) z23 l24
def q9g  (z15:Int) (l16:List GEdge):Option (GChart) :=
 some (GChart.mk z15 l16)
def q5z (p2:List GEdge) (n:Nat):Nat→Int→Int→(List GEdge)→Option (GChart)
 | 0,_,_,_=>none
 | m1+1,z12,z13,l14 =>
  cond (decide (z12<(p2.length:Int)))
   (bindO (idxO p2 z12) fun x18 =>
   bindO (q3f n (GChart.mk z13 l14) x18) fun r20 =>
   cond (r20.2.2 == 0)
    (q7s z12 (q5z p2 n m1) r20.1.Words r20.1.Edges)
    (q7s z12 (q5z p2 n m1) z13 l14))
   (q9g z13 l14)
def q6w (n:Nat) (p1:List UInt8) (p2:Int) (p3:Int):Option (GEdge) :=
 some (GEdge.mk p2 p3 0 1 p1 [] (GDeriv.mk 0 p1 p2 p3 []) (GFS.mk []))
theorem law32_item_0 (n:Nat) (p1:List UInt8) (p2:Int) (p3:Int) (r:GEdge) (hF:q6w n p1 p2 p3=some r):EvU Try.prog 31 [.str p1,.int .i64 p2,.int .i64 p3] ⟨[],0⟩ (fun u _=>u = .agg (cGEdge r)∧Bel 0 u):=by
 unfold q6w at hF
 refine EvU.of_body Try.tb_ok fn31 rfl ?_
 refine WPU.ghost (tm':=fr 15 [(0,.str p1),(1,.int .i64 p2),(2,.int .i64 p3)]) (Gh.start (Nat.le_of_ble_eq_true rfl)) (Nat.zero_le _) ?_
 refine sr ?_
 refine RS.q (u:=.ptr 0 0 0) (σ':=⟨[(0,.row [.int .i64 0,.int .i64 0,.int .i64 0,.int .i64 0,.str [],.nils,.int .i64 0,.str [],.int .i64 0,.int .i64 0,.nils,.nils] 42)],1⟩) rfl (q0w inf42 rfl rfl) ?_
 refine se ?_
 repeat refine RS.mv rfl rfl rfl rfl ?_
 refine RS.q (u:=.agg [.int .i64 0,.str p1,.int .i64 p2,.int .i64 p3,.nils]) rfl (q5p bd37 rfl rfl rfl) (RS.q (u:=.agg [.int .i64 p2,.int .i64 p3,.int .i64 0,.int .i64 1,.str p1,.nils,.int .i64 0,.str p1,.int .i64 p2,.int .i64 p3,.nils,.nils]) rfl (q5p bd42 rfl rfl rfl) (RS.opn (u:=.junk) (σ':=⟨[(0,.row [.int .i64 p2,.int .i64 p3,.int .i64 0,.int .i64 1,.str p1,.nils,.int .i64 0,.str p1,.int .i64 p2,.int .i64 p3,.nils,.nils] 42)],1⟩) rfl (q0g (q00 inf42) rfl rfl rfl rfl rfl rfl rfl rfl) rfl ?_))
 refine sd ?_
 refine WPU.ret ?_
 refine st ?_
 have hr:=Option.some.inj hF
 subst hr
 exact ⟨.inr rfl,[.agg [.int .i64 p2,.int .i64 p3,.int .i64 0,.int .i64 1,.str p1,.nils,.int .i64 0,.str p1,.int .i64 p2,.int .i64 p3,.nils,.nils]],q6i (q0i und42 rfl (q00 inf42) rfl rfl rfl) (q0o),.agg [.int .i64 p2,.int .i64 p3,.int .i64 0,.int .i64 1,.str p1,.isl false [],.int .i64 0,.str p1,.int .i64 p2,.int .i64 p3,.isl false [],.isl false []],⟨[],0⟩,Nat.le_refl _,Gh.trans (Gh.wk (.cons (.agg (.cons (.refl _) (.cons (.refl _) (.cons (.refl _) (.cons (.refl _) (.cons (.refl _) (.cons (.nil false) (.cons (.refl _) (.cons (.refl _) (.cons (.refl _) (.cons (.refl _) (.cons (.nil false) (.cons (.nil false) .nil))))))))))))) .nil)) (Gh.toR (.agg [.int .i64 p2,.int .i64 p3,.int .i64 0,.int .i64 1,.str p1,.isl false [],.int .i64 0,.str p1,.int .i64 p2,.int .i64 p3,.isl false [],.isl false []]) rfl),rfl,BU.h⟩
theorem q89 (n:Nat) (p1:List UInt8) (p2:Int) (p3:Int) (r:GEdge) (hF:q6w n p1 p2 p3=some r) (σ:Sg):EvU Try.prog 31 [.str p1,.int .i64 p2,.int .i64 p3] σ (fun u σ'=>u = .agg (cGEdge r)∧σ'=σ) :=
 EvU.pure1C (law32_item_0 n p1 p2 p3 r hF) σ
def q6n (p1:Int) (s10:List UInt8):Option ((List UInt8)) :=
 cond (decide (p1<0))
  (needO (([45]).length+s10.length≤9223372036854775807) (
  some ([45]++s10)))
  (some s10)
def q4u (p1:Int):Nat→Int→(List UInt8)→Option ((List UInt8))
 | 0,_,_=>none
 | m2+1,z8,s9 =>
  cond (decide (z8 > 0))
   (needO (([UInt8.ofNat ((IntKind.u8.wrap (IntKind.u64.wrap (48+(z8.tmod 10))))).toNat]).length+s9.length≤9223372036854775807) (
   (q4u p1 m2) (IntKind.u64.wrap (z8.tdiv 10)) ([UInt8.ofNat ((IntKind.u8.wrap (IntKind.u64.wrap (48+(z8.tmod 10))))).toNat]++s9)))
   (q6n p1 s9)
def q4t (p1:Int) (n:Nat) (z4:Int):Option ((List UInt8)) :=
 q4u p1 n z4 []
def q5k (n:Nat) (p1:Int):Option ((List UInt8)) :=
 cond (p1 == 0)
  (some ([48]))
  (cond (decide (p1<0))
   (q4t p1 n (IntKind.u64.wrap (0 - (IntKind.u64.wrap p1))))
   (q4t p1 n (IntKind.u64.wrap p1)))
theorem qcs (n:Nat) (p1:Int) (r:(List UInt8)) (hF:q5k n p1=some r):EvU Try.prog 49 [.int .i64 p1] ⟨[],0⟩ (fun u _=>u = .str r∧Bel 0 u):=by
 unfold q5k at hF
 refine EvU.of_body Try.tb_ok fn49 rfl ?_
 refine WPU.ghost (tm':=fr 30 [(0,.int .i64 p1)]) (Gh.start (Nat.le_of_ble_eq_true rfl)) (Nat.zero_le _) ?_
 refine sr ?_
 refine se ?_
 refine RS.q rfl (q02 rfl rfl (q0c _ _ _) rfl) ?_
 refine sd ?_
 refine WPU.condS (t:=(p1 == 0)) rfl (fun h2=>?_) (fun h2=>?_)
 replace hF:=q08 h2 hF
 refine sr ?_
 refine sd ?_
 refine WPU.ret ?_
 refine st ?_
 have hr:=Option.some.inj hF
 subst hr
 exact ⟨.inr rfl,[.str ([48])],q0r rfl (q0o),.str ([48]),⟨[],0⟩,Nat.le_refl _,Gh.toR (.str ([48])) rfl,rfl,BU.h⟩
 replace hF:=q07 h2 hF
 refine st ?_
 refine WPU.skip ?_
 refine sr ?_
 refine RS.q (u:=.int .u64 (IntKind.u64.wrap p1)) rfl (op_conv rfl rfl (by simp only [convX,und3,und80]<;>rfl) rfl) ?_
 refine se ?_
 refine RS.q rfl (q02 rfl rfl (q0s _ _ _) rfl) ?_
 refine sd ?_
 refine WPU.joinK (fun tm σ=>∃ z4:Int,q4t p1 n z4=some r∧tm=fr 30 [(0,.int .i64 p1),(3,.int .u64 z4)]∧σ=⟨[],0⟩) ?_ ?_
 rintro _ _ ⟨z4,hF,rfl,rfl⟩
 unfold q4t at hF
 refine sr ?_
 refine sd ?_
 refine WPU.ghost (tm':=fr 30 [(0,.int .i64 p1),(3,.int .u64 z4),(4,.str [])]) (Gh.sub ⟨rfl,rfl,rfl,trivial⟩) (Nat.zero_le _) ?_
 refine WPU.loopK (fun m tm σ=>∃ z8:Int,∃ s9:List UInt8,q4u p1 m z8 s9=some r∧tm=fr 30 [(0,.int .i64 p1),(3,.int .u64 z8),(4,.str s9)]∧σ=⟨[],0⟩) (fun tm σ=>∃ s10:List UInt8,q6n p1 s10=some r∧tm=fr 30 [(0,.int .i64 p1),(4,.str s10)]∧σ=⟨[],0⟩) n ⟨z4,[],hF,rfl,rfl⟩ ?_ ?_
 rintro _ _ ⟨s10,hF,rfl,rfl⟩
 unfold q6n at hF
 refine sr ?_
 refine RS.q rfl (q02 rfl rfl (q0s _ _ _) rfl) ?_
 refine sd ?_
 refine WPU.condS (t:=(decide (p1<0))) rfl (fun h11=>?_) (fun h11=>?_)
 replace hF:=q08 h11 hF
 refine st ?_
 obtain ⟨h12,hF⟩:=q0u hF
 refine sr ?_
 refine RS.q (u:=.str ([45]++s10)) rfl (q1l rfl rfl (q9j h12) rfl) ?_
 refine sd ?_
 refine WPU.ret ?_
 refine st ?_
 have hr:=Option.some.inj hF
 subst hr
 exact ⟨.inr rfl,[.str ([45]++s10)],q0r rfl (q0o),.str ([45]++s10),⟨[],0⟩,Nat.le_refl _,Gh.toR (.str ([45]++s10)) rfl,rfl,BU.h⟩
 replace hF:=q07 h11 hF
 refine st ?_
 refine WPU.skip ?_
 refine sr ?_
 refine sd ?_
 refine WPU.ret ?_
 refine st ?_
 have hr:=Option.some.inj hF
 subst hr
 exact ⟨.inr rfl,[.str s10],q0r rfl (q0o),.str s10,⟨[],0⟩,Nat.le_refl _,Gh.toR (.str s10) rfl,rfl,BU.h⟩
 rintro m2 _ _ ⟨z8,s9,hF,rfl,rfl⟩
 rcases m2 with _ | m2
 cases hF
 unfold q4u at hF
 refine sr ?_
 refine RS.q rfl (q02 rfl rfl (q6e _ _ _) rfl) ?_
 refine sd ?_
 refine WPU.condS (t:=(decide (z8 > 0))) rfl (fun h13=>?_) (fun h13=>?_)
 replace hF:=q08 h13 hF
 refine st ?_
 refine WPU.skip ?_
 refine st ?_
 refine WPU.block ?_
 refine st ?_
 obtain ⟨h15,hF⟩:=q0u hF
 refine sr ?_
 refine RS.q rfl (q02 rfl rfl (ix_rem _ (by decide)) rfl) ?_
 refine RS.q rfl (q02 rfl rfl (q23 _ _ _) rfl) ?_
 refine RS.q (u:=.int .u8 (IntKind.u8.wrap (IntKind.u64.wrap (48+(z8.tmod 10))))) rfl (op_conv rfl rfl (by simp only [convX,und80,und5]<;>rfl) rfl) ?_
 refine RS.q (u:=.sl 0 0 1 1) (σ':=⟨[(0,.row [.int .u8 (IntKind.u8.wrap (IntKind.u64.wrap (48+(z8.tmod 10))))] 5)],1⟩) rfl (q55 und81 inf5 rfl rfl rfl rfl rfl rfl rfl) (RS.step (u:=.str ([UInt8.ofNat ((IntKind.u8.wrap (IntKind.u64.wrap (48+(z8.tmod 10))))).toNat])) rfl (StepU.bstr (ns:=[(IntKind.u8.wrap (IntKind.u64.wrap (48+(z8.tmod 10))))]) Try.tb_ok rfl und81 und5 und9 (q32 rfl) rfl rfl rfl) rfl rfl (RS.mv rfl rfl rfl rfl (RS.q (u:=.str ([UInt8.ofNat ((IntKind.u8.wrap (IntKind.u64.wrap (48+(z8.tmod 10))))).toNat]++s9)) rfl (q1l rfl rfl (q9j h15) rfl) ?_)))
 refine se ?_
 refine RS.q rfl (q02 rfl rfl (ix_quo _ (by decide)) rfl) ?_
 refine sd ?_
 exact ⟨m2,_,_,Nat.lt_succ_self _,⟨(IntKind.u64.wrap (z8.tdiv 10)),([UInt8.ofNat ((IntKind.u8.wrap (IntKind.u64.wrap (48+(z8.tmod 10))))).toNat]++s9),hF,rfl,rfl⟩,(Nat.zero_le _),Gh.toC (n1:=0) ⟨rfl,rfl,rfl,trivial⟩ rfl (Nat.zero_le _) (by simp)⟩
 replace hF:=q07 h13 hF
 refine st ?_
 refine WPU.exit ?_
 refine st ?_
 exact ⟨_,_,⟨s9,hF,rfl,rfl⟩,(Nat.zero_le _),Gh.toC (n1:=0) ⟨rfl,rfl,trivial⟩ rfl (Nat.zero_le _) (by simp)⟩
 refine WPU.condS (t:=(decide (p1<0))) rfl (fun h3=>?_) (fun h3=>?_)
 replace hF:=q08 h3 hF
 refine sr ?_
 refine RS.q (u:=.int .u64 (IntKind.u64.wrap (0 - (IntKind.u64.wrap p1)))) rfl (qcn rfl rfl rfl rfl) ?_
 refine sd ?_
 exact ⟨_,_,⟨(IntKind.u64.wrap (0 - (IntKind.u64.wrap p1))),hF,rfl,rfl⟩,(Nat.zero_le _),Gh.toC (n1:=0) ⟨rfl,rfl,trivial⟩ rfl (Nat.zero_le _) (by simp)⟩
 replace hF:=q07 h3 hF
 refine st ?_
 refine WPU.skip ?_
 refine st ?_
 exact ⟨_,_,⟨(IntKind.u64.wrap p1),hF,rfl,rfl⟩,(Nat.zero_le _),Gh.toC (n1:=0) ⟨rfl,rfl,trivial⟩ rfl (Nat.zero_le _) (by simp)⟩
theorem q8j (n:Nat) (p1:Int) (r:(List UInt8)) (hF:q5k n p1=some r) (σ:Sg):EvU Try.prog 49 [.int .i64 p1] σ (fun u σ'=>u = .str r∧σ'=σ) :=
 EvU.pure1C (qcs n p1 r hF) σ
def q7v  (s22:List UInt8):Option ((List UInt8)) :=
 needO (s22.length+([41]).length≤9223372036854775807) (
 some (s22++[41]))
def q61 (p1:GDeriv) (self:GDeriv→Option ((List UInt8))):Nat→(List UInt8)→Int→Option ((List UInt8))
 | 0,_,_=>none
 | m2+1,s20,z21 =>
  cond (decide (z21<(p1.Kids.length:Int)))
   (needO (s20.length+([32]).length≤9223372036854775807) (
   bindO (idxO p1.Kids z21) fun x26 =>
   bindO (self x26) fun r28 =>
   needO ((s20++[32]).length+r28.length≤9223372036854775807) (
   (q61 p1 self m2) ((s20++[32])++r28) (IntKind.i64.wrap (z21+1)))))
   (q7v s20)
def q60 (p1:GDeriv) (n:Nat) (self:GDeriv→Option ((List UInt8))) (s3:List UInt8):Option ((List UInt8)) :=
 needO (s3.length+p1.Name.length≤9223372036854775807) (
 needO ((s3++p1.Name).length+([32]).length≤9223372036854775807) (
 bindO (q5k n p1.From) fun r6 =>
 needO (((s3++p1.Name)++[32]).length+r6.length≤9223372036854775807) (
 needO ((((s3++p1.Name)++[32])++r6).length+([32]).length≤9223372036854775807) (
 bindO (q5k n p1.To) fun r10 =>
 needO (((((s3++p1.Name)++[32])++r6)++[32]).length+r10.length≤9223372036854775807) (
 q61 p1 self n (((((s3++p1.Name)++[32])++r6)++[32])++r10) 0)))))
def qae (n:Nat) (self:GDeriv→Option ((List UInt8))) (p1:GDeriv):Option ((List UInt8)) :=
 cond (p1.Kind == 1)
  (q60 p1 n self ([40,43]))
  (q60 p1 n self ([40]))
def q44:Nat→GDeriv→Option ((List UInt8))
 | 0,_=>none
 | n+1,p1=>qae n (q44 n) p1
theorem qad:∀ (n:Nat) (p1:GDeriv) (r:(List UInt8)),q44 n p1=some r→EvU Try.prog 32 [.agg (xGDeriv p1)] ⟨[],0⟩ (fun u _=>u = .str r∧Bel 0 u)
 | 0,p1,r,hF=>by cases hF
 | n+1,p1,r,hF=>by
  have ih:=qad n
  have ihS:∀ (p1:GDeriv) (r:(List UInt8)),q44 n p1=some r→∀ σ,EvU Try.prog 32 [.agg (xGDeriv p1)] σ (fun u σ'=>u = .str r∧σ'=σ):=fun p1 r h σ=>EvU.pure1C (ih p1 r h) σ
  unfold q44 qae at hF
  refine EvU.of_body Try.tb_ok fn32 rfl ?_
  refine WPU.ghost (tm':=fr 40 [(0,.agg (xGDeriv p1))]) (Gh.start (Nat.le_of_ble_eq_true rfl)) (Nat.zero_le _) ?_
  refine sr ?_
  refine RS.q (u:=.ptr 0 0 0) (σ':=⟨[(0,.row (xGDeriv p1) 37)],1⟩) rfl (q20 rfl rfl rfl) ?_
  refine se ?_
  refine se ?_
  refine RS.q (u:=.ptr 0 0 0) rfl (q06 und37 rfl (q00 inf3) rfl rfl rfl) (RS.q (u:=.int .i64 p1.Kind) rfl (q03 und3 rfl rfl rfl rfl) (RS.q rfl (q02 rfl rfl (q0c _ _ _) rfl) ?_))
  refine sd ?_
  refine WPU.joinK (fun tm σ=>∃ s3:List UInt8,q60 p1 n (q44 n) s3=some r∧tm=fr 40 [(1,.ptr 0 0 0),(3,.str s3)]∧σ=⟨[(0,.row (xGDeriv p1) 37)],1⟩) ?_ ?_
  rintro _ _ ⟨s3,hF,rfl,rfl⟩
  unfold q60 at hF
  refine st ?_
  obtain ⟨h4,hF⟩:=q0u hF
  obtain ⟨h5,hF⟩:=q0u hF
  obtain ⟨r6,h7,hF⟩:=q01 hF
  obtain ⟨h8,hF⟩:=q0u hF
  obtain ⟨h9,hF⟩:=q0u hF
  obtain ⟨r10,h11,hF⟩:=q01 hF
  obtain ⟨h12,hF⟩:=q0u hF
  refine WPU.drawE Try.tb_ok [] (by kernel_rfl) ?_
  refine RD.mv rfl rfl rfl rfl (RD.q (u:=.ptr 0 0 1) rfl (q06 und37 rfl (q00 inf9) rfl rfl rfl) (RD.q (u:=.str p1.Name) rfl (q03 und9 rfl rfl rfl rfl) (RD.q (u:=.str (s3++p1.Name)) rfl (q1l rfl rfl (q9j h4) rfl) (RD.q (u:=.str ((s3++p1.Name)++[32])) rfl (q1l rfl rfl (q9j h5) rfl) (RD.q (u:=.ptr 0 0 2) rfl (q06 und37 rfl (q00 inf3) rfl rfl rfl) (RD.q (u:=.int .i64 p1.From) rfl (q03 und3 rfl rfl rfl rfl) (RD.free (u:=.str r6) (args:=[.int .i64 p1.From]) rfl (q0b rfl rfl fn49 hb49 rfl rfl) (fun s=>q8j n p1.From r6 h7 s) rfl rfl ?_)))))))
  refine RD.q (u:=.str (((s3++p1.Name)++[32])++r6)) rfl (q1l rfl rfl (q9j h8) rfl) (RD.q (u:=.str ((((s3++p1.Name)++[32])++r6)++[32])) rfl (q1l rfl rfl (q9j h9) rfl) (RD.q (u:=.ptr 0 0 3) rfl (q06 und37 rfl (q00 inf3) rfl rfl rfl) (RD.q (u:=.int .i64 p1.To) rfl (q03 und3 rfl rfl rfl rfl) (RD.free (u:=.str r10) (args:=[.int .i64 p1.To]) rfl (q0b rfl rfl fn49 hb49 rfl rfl) (fun s=>q8j n p1.To r10 h11 s) rfl rfl (RD.q (u:=.str (((((s3++p1.Name)++[32])++r6)++[32])++r10)) rfl (q1l rfl rfl (q9j h12) rfl) (RD.as rfl rfl rfl rfl ?_))))))
  refine RD.done ⟨by kernel_rfl,trivial,?_⟩
  refine sr ?_
  refine sd ?_
  refine WPU.ghost (tm':=fr 40 [(1,.ptr 0 0 0),(3,.str (((((s3++p1.Name)++[32])++r6)++[32])++r10)),(4,.int .i64 0)]) (Gh.sub ⟨rfl,rfl,rfl,trivial⟩) (Nat.zero_le _) ?_
  refine WPU.loopK (fun m tm σ=>∃ s20:List UInt8,∃ z21:Int,q61 p1 (q44 n) m s20 z21=some r∧tm=fr 40 [(1,.ptr 0 0 0),(3,.str s20),(4,.int .i64 z21)]∧σ=⟨[(0,.row (xGDeriv p1) 37)],1⟩) (fun tm σ=>∃ s22:List UInt8,q7v s22=some r∧tm=fr 40 [(3,.str s22)]∧σ=⟨[(0,.row (xGDeriv p1) 37)],1⟩) n ⟨(((((s3++p1.Name)++[32])++r6)++[32])++r10),0,hF,rfl,rfl⟩ ?_ ?_
  rintro _ _ ⟨s22,hF,rfl,rfl⟩
  unfold q7v at hF
  refine st ?_
  obtain ⟨h23,hF⟩:=q0u hF
  refine sr ?_
  refine RS.q (u:=.str (s22++[41])) rfl (q1l rfl rfl (q9j h23) rfl) ?_
  refine sd ?_
  refine WPU.ret ?_
  refine st ?_
  have hr:=Option.some.inj hF
  subst hr
  exact ⟨.inr rfl,[.str (s22++[41])],q0r rfl (q0o),.str (s22++[41]),⟨[],0⟩,Nat.le_refl _,Gh.toR (.str (s22++[41])) rfl,rfl,BU.h⟩
  rintro m2 _ _ ⟨s20,z21,hF,rfl,rfl⟩
  rcases m2 with _ | m2
  cases hF
  unfold q61 at hF
  refine sr ?_
  refine RS.q (u:=.ptr 0 0 4) rfl (q06 und37 rfl (q00 inf35) rfl rfl rfl) (RS.q (u:=.isl false (List.map cGDeriv p1.Kids)) rfl (q03 und35 rfl rfl rfl rfl) (RS.q rfl (q0j rfl rfl rfl (q0a cGDeriv und35)) (RS.q rfl (q02 rfl rfl (q0s _ _ _) rfl) ?_)))
  refine sd ?_
  refine WPU.condS (t:=(decide (z21<(p1.Kids.length:Int)))) rfl (fun h24=>?_) (fun h24=>?_)
  replace hF:=q08 h24 hF
  refine st ?_
  refine WPU.skip ?_
  refine st ?_
  refine WPU.block ?_
  refine st ?_
  obtain ⟨h25,hF⟩:=q0u hF
  obtain ⟨x26,h27,hF⟩:=q01 hF
  obtain ⟨r28,h29,hF⟩:=q01 hF
  obtain ⟨h30,hF⟩:=q0u hF
  refine sr ?_
  refine RS.q (u:=.str (s20++[32])) rfl (q1l rfl rfl (q9j h25) rfl) (RS.q (u:=.ptr 0 0 4) rfl (q06 und37 rfl (q00 inf35) rfl rfl rfl) (RS.q (u:=.isl false (List.map cGDeriv p1.Kids)) rfl (q03 und35 rfl rfl rfl rfl) (RS.mv rfl rfl rfl rfl (RS.q (u:=.iptr (xGDeriv x26)) rfl (q0x rfl rfl (q0k cGDeriv und35 (q00 inf37) q0m h27 (q0v x26))) (RS.q (u:=.agg (xGDeriv x26)) rfl (q2c und37 rfl (q00 inf37) rfl rfl) (RS.call (u:=.str r28) (args:=[.agg (xGDeriv x26)]) rfl (q0b rfl rfl fn32 hb32 rfl rfl) (ihS x26 r28 h29 _) rfl rfl (RS.q (u:=.str ((s20++[32])++r28)) rfl (q1l rfl rfl (q9j h30) rfl) ?_)))))))
  refine se ?_
  refine RS.q rfl (q02 rfl rfl (q23 _ _ _) rfl) ?_
  refine sd ?_
  exact ⟨m2,_,_,Nat.lt_succ_self _,⟨((s20++[32])++r28),(IntKind.i64.wrap (z21+1)),hF,rfl,rfl⟩,(Nat.zero_le _),Gh.toC (n1:=1) ⟨rfl,rfl,rfl,trivial⟩ rfl (Nat.zero_le _) (by simp)⟩
  replace hF:=q07 h24 hF
  refine st ?_
  refine WPU.exit ?_
  refine st ?_
  exact ⟨_,_,⟨s20,hF,rfl,rfl⟩,(Nat.zero_le _),Gh.toC (n1:=1) ⟨rfl,trivial⟩ rfl (Nat.zero_le _) (by simp)⟩
  refine WPU.condS (t:=(p1.Kind == 1)) rfl (fun h2=>?_) (fun h2=>?_)
  replace hF:=q08 h2 hF
  refine sr ?_
  refine sd ?_
  exact ⟨_,_,⟨[40,43],hF,rfl,rfl⟩,(Nat.zero_le _),Gh.toC (n1:=1) ⟨rfl,rfl,trivial⟩ rfl (Nat.zero_le _) (by simp)⟩
  replace hF:=q07 h2 hF
  refine st ?_
  refine WPU.skip ?_
  refine st ?_
  exact ⟨_,_,⟨[40],hF,rfl,rfl⟩,(Nat.zero_le _),Gh.toC (n1:=1) ⟨rfl,rfl,trivial⟩ rfl (Nat.zero_le _) (by simp)⟩
theorem q9h (n:Nat) (p1:GDeriv) (r:(List UInt8)) (hF:q44 n p1=some r) (σ:Sg):EvU Try.prog 32 [.agg (xGDeriv p1)] σ (fun u σ'=>u = .str r∧σ'=σ) :=
 EvU.pure1C (qad n p1 r hF) σ
end Go.Proofs
end
