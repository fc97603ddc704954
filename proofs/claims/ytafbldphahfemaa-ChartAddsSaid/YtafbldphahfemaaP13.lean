/-
  Texts of the walk: C1.
-/
import Derived.Test.YtafbldphahfemaaP12
section
namespace Go.Proofs
open Go Go.Rx Go.Vx Try
set_option maxRecDepth 10000
set_option linter.unusedSimpArgs false
set_option linter.unusedVariables false
theorem q77:∀ (n:Nat) (p1:GChart) (p2:GEdge) (r:GDeriv),q1y n p1 p2=some r→EvU Try.prog 43 [.agg (cGChart p1),.agg (cGEdge p2)] ⟨[],0⟩ (fun u _=>u = .agg (xGDeriv r)∧Bel 0 u)
 | 0,p1,p2,r,hF=>by cases hF
 | n+1,p1,p2,r,hF=>by
  have ih:=q77 n
  have ihS:∀ (p1:GChart) (p2:GEdge) (r:GDeriv),q1y n p1 p2=some r→∀ σ,EvU Try.prog 43 [.agg (cGChart p1),.agg (cGEdge p2)] σ (fun u σ'=>u = .agg (xGDeriv r)∧σ'=σ):=fun p1 p2 r h σ=>EvU.pure1C (ih p1 p2 r h) σ
  unfold q1y q58 at hF
  refine EvU.of_body Try.tb_ok fn43 rfl ?_
  refine WPU.ghost (tm':=fr 41 [(0,.agg (cGChart p1)),(1,.agg (cGEdge p2))]) (Gh.start (Nat.le_of_ble_eq_true rfl)) (Nat.zero_le _) ?_
  refine sr ?_
  refine RS.q (u:=.ptr 0 0 0) (σ':=⟨[(0,.row (cGChart p1) 24)],1⟩) rfl (q23 rfl rfl rfl) (RS.q (u:=.ptr 1 0 0) (σ':=⟨[(1,.row (cGEdge p2) 42),(0,.row (cGChart p1) 24)],2⟩) rfl (q23 rfl rfl rfl) (RS.q (u:=.ptr 2 0 0) (σ':=⟨[(2,.row [.int .i64 0,.str [],.int .i64 0,.int .i64 0,.nils] 37),(1,.row (cGEdge p2) 42),(0,.row (cGChart p1) 24)],3⟩) rfl (q1c inf37 rfl rfl) ?_))
  refine se ?_
  refine RS.q (u:=.ptr 1 0 3) rfl (q06 und42 rfl (q00 inf3) rfl rfl rfl) (RS.q (u:=.int .i64 p2.Kind) rfl (q03 und3 rfl rfl rfl rfl) (RS.q rfl (q02 rfl rfl (q0c _ _ _) rfl) ?_))
  refine sd ?_
  refine WPU.condS (t:=(p2.Kind == 1)) rfl (fun h3=>?_) (fun h3=>?_)
  replace hF:=q09 h3 hF
  refine sr ?_
  refine RS.q (u:=.ptr 1 0 6) rfl (q06 und42 rfl (q00 inf37) rfl rfl rfl) (RS.q (u:=.agg (xGDeriv p2.Lex)) rfl (q0h und37 rfl (q00 inf37) rfl rfl rfl) (RS.opn (u:=.junk) (σ':=⟨[(2,.row (xGDeriv p2.Lex) 37),(1,.row (cGEdge p2) 42),(0,.row (cGChart p1) 24)],3⟩) rfl (q0j (q00 inf37) rfl rfl rfl rfl rfl rfl rfl rfl) rfl ?_))
  refine sd ?_
  refine WPU.ret ?_
  refine st ?_
  have hr:=Option.some.inj hF
  subst hr
  exact ⟨.inr rfl,[.agg (xGDeriv p2.Lex)],q6h (q0h und37 rfl (q00 inf37) rfl rfl rfl) (q0o),.agg (xGDeriv p2.Lex),⟨[],0⟩,Nat.le_refl _,Gh.toR (.agg (xGDeriv p2.Lex)) rfl,rfl,BU.h⟩
  replace hF:=q08 h3 hF
  refine st ?_
  refine WPU.skip ?_
  refine sr ?_
  refine RS.q (u:=.ptr 1 0 4) rfl (q06 und42 rfl (q00 inf9) rfl rfl rfl) (RS.q (u:=.str p2.Name) rfl (q03 und9 rfl rfl rfl rfl) (RS.q (u:=.ptr 1 0 0) rfl (q06 und42 rfl (q00 inf3) rfl rfl rfl) (RS.q (u:=.int .i64 p2.From) rfl (q03 und3 rfl rfl rfl rfl) (RS.q (u:=.ptr 1 0 1) rfl (q06 und42 rfl (q00 inf3) rfl rfl rfl) (RS.q (u:=.int .i64 p2.To) rfl (q03 und3 rfl rfl rfl rfl) (RS.q (u:=.agg [.int .i64 2,.str p2.Name,.int .i64 p2.From,.int .i64 p2.To,.nils]) rfl (q63 bd37 rfl rfl rfl) (RS.q (u:=.ptr 3 0 0) (σ':=⟨[(3,.row [.int .i64 0,.str [],.int .i64 0,.int .i64 0,.nils] 37),(2,.row [.int .i64 0,.str [],.int .i64 0,.int .i64 0,.nils] 37),(1,.row (cGEdge p2) 42),(0,.row (cGChart p1) 24)],4⟩) rfl (q1c inf37 rfl rfl) ?_)))))))
  refine RS.opn (u:=.junk) (σ':=⟨[(3,.row [.int .i64 2,.str p2.Name,.int .i64 p2.From,.int .i64 p2.To,.nils] 37),(2,.row [.int .i64 0,.str [],.int .i64 0,.int .i64 0,.nils] 37),(1,.row (cGEdge p2) 42),(0,.row (cGChart p1) 24)],4⟩) rfl (q0j (q00 inf37) rfl rfl rfl rfl rfl rfl rfl rfl) rfl ?_
  refine se ?_
  refine RS.q (u:=.ptr 1 0 5) rfl (q06 und42 rfl (q00 inf34) rfl rfl rfl) (RS.q (u:=.isl false (List.map (cI .i64) p2.Kids)) rfl (q03 und34 rfl rfl rfl rfl) (RS.q rfl (q0i rfl rfl rfl (q0b (cI .i64) und34)) (RS.mv rfl rfl rfl rfl ?_)))
  refine sd ?_
  refine WPU.ghost (tm':=fr 41 [(2,.ptr 0 0 0),(4,.ptr 2 0 0),(5,.ptr 3 0 0),(21,.isl false (List.map (cI .i64) p2.Kids)),(22,.int .i64 (p2.Kids.length:Int)),(23,.int .i64 0)]) (σ':=⟨[(4,.vec (List.map cGDeriv ([]:List GDeriv)).flatten 37 5 0),(3,.row [.int .i64 2,.str p2.Name,.int .i64 p2.From,.int .i64 p2.To,.vl 4 0 0 (([]:List GDeriv).length)] 37),(2,.row [.int .i64 0,.str [],.int .i64 0,.int .i64 0,.nils] 37),(1,.row (cGEdge p2) 42),(0,.row (cGChart p1) 24)],5⟩) (Gh.trans (Gh.nilC 3 4 37 5 (by decide) (Nat.zero_le _) rfl rfl) (Gh.eqS ⟨rfl,rfl,rfl,rfl,rfl,rfl,trivial⟩ rfl)) (Nat.zero_le _) ?_
  refine WPU.ghost (tm':=fr 41 [(2,.ptr 0 0 0),(4,.ptr 2 0 0),(5,.ptr 3 0 0),(21,.isl false (List.map (cI .i64) p2.Kids)),(22,.int .i64 (p2.Kids.length:Int)),(23,.int .i64 0)]) (Gh.sub ⟨rfl,rfl,rfl,rfl,rfl,rfl,trivial⟩) (Nat.zero_le _) ?_
  refine WPU.loopK (fun m tm σ=>∃ z31:Int,∃ l32:List GDeriv,∃ t33:Nat,q2e p1 p2 (q1y n) m z31 l32=some r∧tm=fr 41 [(2,.ptr 0 0 0),(4,.ptr 2 0 0),(5,.ptr 3 0 0),(21,.isl false (List.map (cI .i64) p2.Kids)),(22,.int .i64 (p2.Kids.length:Int)),(23,.int .i64 z31)]∧σ=⟨[(4,.vec (List.map cGDeriv l32).flatten 37 5 t33),(3,.row [.int .i64 2,.str p2.Name,.int .i64 p2.From,.int .i64 p2.To,.vl 4 t33 0 l32.length] 37),(2,.row [.int .i64 0,.str [],.int .i64 0,.int .i64 0,.nils] 37),(1,.row (cGEdge p2) 42),(0,.row (cGChart p1) 24)],5⟩) (fun tm σ=>∃ l34:List GDeriv,∃ t35:Nat,q3l p2 l34=some r∧tm=fr 41 [(4,.ptr 2 0 0),(5,.ptr 3 0 0)]∧σ=⟨[(4,.vec (List.map cGDeriv l34).flatten 37 5 t35),(3,.row [.int .i64 2,.str p2.Name,.int .i64 p2.From,.int .i64 p2.To,.vl 4 t35 0 l34.length] 37),(2,.row [.int .i64 0,.str [],.int .i64 0,.int .i64 0,.nils] 37),(1,.row (cGEdge p2) 42),(0,.row (cGChart p1) 24)],5⟩) n ⟨0,([]:List GDeriv),0,hF,rfl,rfl⟩ ?_ ?_
  rintro _ _ ⟨l34,t35,hF,rfl,rfl⟩
  unfold q3l at hF
  refine sr ?_
  refine RS.q (u:=.agg [.int .i64 2,.str p2.Name,.int .i64 p2.From,.int .i64 p2.To,.vl 4 t35 0 l34.length]) rfl (q0h und37 rfl (q00 inf37) rfl rfl rfl) (RS.opn (u:=.junk) (σ':=⟨[(4,.vec (List.map cGDeriv l34).flatten 37 5 t35),(3,.row [.int .i64 2,.str p2.Name,.int .i64 p2.From,.int .i64 p2.To,.vl 4 t35 0 l34.length] 37),(2,.row [.int .i64 2,.str p2.Name,.int .i64 p2.From,.int .i64 p2.To,.vl 4 t35 0 l34.length] 37),(1,.row (cGEdge p2) 42),(0,.row (cGChart p1) 24)],5⟩) rfl (q0j (q00 inf37) rfl rfl rfl rfl rfl rfl rfl rfl) rfl ?_)
  refine sd ?_
  refine WPU.ret ?_
  refine st ?_
  have hr:=Option.some.inj hF
  subst hr
  exact ⟨.inr rfl,[.agg [.int .i64 2,.str p2.Name,.int .i64 p2.From,.int .i64 p2.To,.vl 4 t35 0 l34.length]],q6h (q0h und37 rfl (q00 inf37) rfl rfl rfl) (q0o),.agg [.int .i64 2,.str p2.Name,.int .i64 p2.From,.int .i64 p2.To,.isl false (List.map cGDeriv l34)],⟨[],0⟩,Nat.le_refl _,Gh.trans (Gh.fz (tm':=[.agg [.int .i64 2,.str p2.Name,.int .i64 p2.From,.int .i64 p2.To,.isl false (List.map cGDeriv l34)]]) (h':=[(3,.row [.int .i64 2,.str p2.Name,.int .i64 p2.From,.int .i64 p2.To,.isl false (List.map cGDeriv l34)] 37),(2,.row [.int .i64 2,.str p2.Name,.int .i64 p2.From,.int .i64 p2.To,.isl false (List.map cGDeriv l34)] 37),(1,.row (cGEdge p2) 42),(0,.row (cGChart p1) 24)]) 4 (.vec (List.map cGDeriv l34).flatten 37 5 t35) 5 rfl (by simp) (by simp only [oneU,q12,q0n,q1q,q15,q1t,q19,q18,q17,q16,q13,q1r,q1s,q1p,q1u,q36,junkT,q89 q0m,q0l,q4i]) (by simp only [fzH,fzB,ug,Nat.beq,cond_true,cond_false,oneU,q12,q0n,q1q,q15,q1t,q19,q18,q17,q16,q13,q1r,q1s,q1p,q1u,q36,junkT,q89 q0m,q0l,q4i])) (Gh.toR (.agg [.int .i64 2,.str p2.Name,.int .i64 p2.From,.int .i64 p2.To,.isl false (List.map cGDeriv l34)]) rfl),rfl,BU.h⟩
  rintro m1 _ _ ⟨z31,l32,t33,hF,rfl,rfl⟩
  rcases m1 with _ | m1
  cases hF
  unfold q2e at hF
  refine sr ?_
  refine RS.q rfl (q02 rfl rfl (q0z _ _ _) rfl) ?_
  refine sd ?_
  refine WPU.condS (t:=(decide (z31<(p2.Kids.length:Int)))) rfl (fun h36=>?_) (fun h36=>?_)
  replace hF:=q09 h36 hF
  refine st ?_
  refine WPU.skip ?_
  refine st ?_
  refine WPU.block ?_
  refine st ?_
  obtain ⟨x37,h38,hF⟩:=q01 hF
  refine sr ?_
  refine RS.q (u:=.iptr [.int .i64 x37]) rfl (q0x rfl rfl (q0k (cI .i64) und34 (q00 inf3) (q1n .i64) h38 rfl)) (RS.q (u:=.int .i64 x37) rfl (q0y und3 rfl rfl rfl) ?_)
  refine sd ?_
  obtain ⟨x39,h40,hF⟩:=q01 hF
  obtain ⟨r41,h42,hF⟩:=q01 hF
  obtain ⟨h43,hF⟩:=q0w hF
  refine WPU.drawE Try.tb_ok [(0,9),(1,9)] (by kernel_rfl) ?_
  refine RD.q (u:=.ptr 3 0 4) rfl (q06 und37 rfl (q00 inf35) rfl rfl rfl) (RD.q (u:=.vl 4 t33 0 l32.length) rfl (q03 und35 rfl rfl rfl rfl) (RD.q (u:=.agg (cGChart p1)) rfl (q0h und24 rfl (q00 inf24) rfl rfl rfl) (RD.q (u:=.ptr 0 0 1) rfl (q06 und24 rfl (q00 inf22) rfl rfl rfl) (RD.q (u:=.isl false (List.map cGEdge p1.Edges)) rfl (q03 und22 rfl rfl rfl rfl) (RD.mv rfl rfl rfl rfl (RD.q (u:=.iptr (cGEdge x39)) rfl (q0x rfl rfl (q0k cGEdge und22 (q00 inf42) q0g h40 rfl)) (RD.q (u:=.agg (cGEdge x39)) rfl (q2c und42 rfl (q00 inf42) rfl rfl) ?_)))))))
  refine RD.free (u:=.agg (xGDeriv r41)) (args:=[.agg (cGChart p1),.agg (cGEdge x39)]) rfl (q0a rfl rfl fn43 hb43 rfl rfl) (fun s=>ihS p1 x39 r41 h42 s) rfl rfl (RD.act (u:=.sl 5 0 1 1) (σ':=⟨[(5,.row (xGDeriv r41) 37),(4,.vec (List.map cGDeriv l32).flatten 37 5 t33),(3,.row [.int .i64 2,.str p2.Name,.int .i64 p2.From,.int .i64 p2.To,.vl 4 t33 0 l32.length] 37),(2,.row [.int .i64 0,.str [],.int .i64 0,.int .i64 0,.nils] 37),(1,.row (cGEdge p2) 42),(0,.row (cGChart p1) 24)],6⟩) rfl (q5c und35 inf37 rfl rfl rfl rfl rfl rfl rfl) rfl rfl ?_)
  refine RD.act (u:=.vl 4 (t33+1) 0 ((l32++[r41]).length)) (σ':=⟨[(5,.row (xGDeriv r41) 37),(4,.vec (List.map cGDeriv (l32++[r41])).flatten 37 5 (t33+1)),(3,.row [.int .i64 2,.str p2.Name,.int .i64 p2.From,.int .i64 p2.To,.vl 4 t33 0 l32.length] 37),(2,.row [.int .i64 0,.str [],.int .i64 0,.int .i64 0,.nils] 37),(1,.row (cGEdge p2) 42),(0,.row (cGChart p1) 24)],6⟩) rfl (q95 rfl rfl rfl rfl (q9h cGDeriv ([r41]) und35 und35 inf37 rfl q0m rfl (q7n cGDeriv [r41] rfl rfl rfl (by simp only [List.map,List.flatten,List.append_nil,q0v,xGDeriv,GDeriv.Kind,GDeriv.Name,GDeriv.From,GDeriv.To,GDeriv.Kids]; rfl)) h43)) rfl rfl ?_
  refine RD.q (u:=.ptr 3 0 4) rfl (q06 und37 rfl (q00 inf35) rfl rfl rfl) (RD.actn (u:=.junk) (σ':=⟨[(5,.row (xGDeriv r41) 37),(4,.vec (List.map cGDeriv (l32++[r41])).flatten 37 5 (t33+1)),(3,.row [.int .i64 2,.str p2.Name,.int .i64 p2.From,.int .i64 p2.To,.vl 4 (t33+1) 0 ((l32++[r41]).length)] 37),(2,.row [.int .i64 0,.str [],.int .i64 0,.int .i64 0,.nils] 37),(1,.row (cGEdge p2) 42),(0,.row (cGChart p1) 24)],6⟩) rfl (q0j (q00 inf35) rfl rfl rfl rfl rfl rfl rfl rfl) rfl ?_)
  refine RD.done ⟨by kernel_rfl,⟨q06 und37 rfl (q00 inf35) rfl rfl rfl,⟨q03 und35 rfl rfl rfl rfl,trivial⟩⟩,?_⟩
  refine sr ?_
  refine RS.q rfl (q02 rfl rfl (q2g _ _ _) rfl) (RS.mv rfl rfl rfl rfl ?_)
  refine sd ?_
  exact ⟨m1,_,_,Nat.lt_succ_self _,⟨(IntKind.i64.wrap (z31+1)),(l32++[r41]),(t33+1),hF,rfl,rfl⟩,(Nat.zero_le _),Gh.toC (n1:=5) ⟨rfl,rfl,rfl,rfl,rfl,rfl,trivial⟩ rfl (Nat.zero_le _) (by simp)⟩
  replace hF:=q08 h36 hF
  refine st ?_
  refine WPU.exit ?_
  refine st ?_
  exact ⟨_,_,⟨l32,t33,hF,rfl,rfl⟩,(Nat.zero_le _),Gh.toC (n1:=5) ⟨rfl,rfl,trivial⟩ rfl (Nat.zero_le _) (by simp)⟩
theorem q9a (n:Nat) (p1:GChart) (p2:GEdge) (r:GDeriv) (hF:q1y n p1 p2=some r) (σ:Sg):EvU Try.prog 43 [.agg (cGChart p1),.agg (cGEdge p2)] σ (fun u σ'=>u = .agg (xGDeriv r)∧σ'=σ) :=
 EvU.pure1C (q77 n p1 p2 r hF) σ
def q42 (n:Nat) (p1:GChart) (p2:Int):Option (GDeriv) :=
 bindO (cond (decide (p2<0))
  (some true)
  (some (decide (p2 ≥ (p1.Edges.length:Int))))) fun b4 =>
 cond b4
  (some (GDeriv.mk 0 [] 0 0 []))
  (bindO (idxO p1.Edges p2) fun x7 =>
  bindO (q1y n p1 x7) fun r9 =>
  some r9)
theorem chart_Deriv_0 (n:Nat) (p1:GChart) (p2:Int) (r:GDeriv) (hF:q42 n p1 p2=some r):EvU Try.prog 22 [.agg (cGChart p1),.int .i64 p2] ⟨[],0⟩ (fun u _=>u = .agg (xGDeriv r)∧Bel 0 u):=by
 unfold q42 at hF
 refine EvU.of_body Try.tb_ok fn22 rfl ?_
 refine WPU.ghost (tm':=fr 22 [(0,.agg (cGChart p1)),(1,.int .i64 p2)]) (Gh.start (Nat.le_of_ble_eq_true rfl)) (Nat.zero_le _) ?_
 refine sr ?_
 refine RS.q (u:=.ptr 0 0 0) (σ':=⟨[(0,.row (cGChart p1) 24)],1⟩) rfl (q23 rfl rfl rfl) (RS.q (u:=.ptr 1 0 0) (σ':=⟨[(1,.row [.int .i64 0,.str [],.int .i64 0,.int .i64 0,.nils] 37),(0,.row (cGChart p1) 24)],2⟩) rfl (q1c inf37 rfl rfl) ?_)
 refine sd ?_
 obtain ⟨b4,h5,hF⟩:=q01 hF
 refine WPU.joinK (fun tm σ=>tm=fr 22 [(1,.int .i64 p2),(2,.ptr 0 0 0),(4,.ptr 1 0 0),(13,.bool b4)]∧σ=⟨[(1,.row [.int .i64 0,.str [],.int .i64 0,.int .i64 0,.nils] 37),(0,.row (cGChart p1) 24)],2⟩) ?_ ?_
 rintro _ _ ⟨rfl,rfl⟩
 refine st ?_
 refine WPU.condS (t:=b4) rfl (fun h6=>?_) (fun h6=>?_)
 replace hF:=q09 h6 hF
 refine sr ?_
 refine RS.q (u:=.agg [.int .i64 0,.str [],.int .i64 0,.int .i64 0,.nils]) rfl (q63 bd37 rfl rfl rfl) (RS.opn (u:=.junk) (σ':=⟨[(1,.row [.int .i64 0,.str [],.int .i64 0,.int .i64 0,.nils] 37),(0,.row (cGChart p1) 24)],2⟩) rfl (q0j (q00 inf37) rfl rfl rfl rfl rfl rfl rfl rfl) rfl ?_)
 refine sd ?_
 refine WPU.ret ?_
 refine st ?_
 have hr:=Option.some.inj hF
 subst hr
 exact ⟨.inr rfl,[.agg [.int .i64 0,.str [],.int .i64 0,.int .i64 0,.nils]],q6h (q0h und37 rfl (q00 inf37) rfl rfl rfl) (q0o),.agg [.int .i64 0,.str [],.int .i64 0,.int .i64 0,.isl false []],⟨[],0⟩,Nat.le_refl _,Gh.trans (Gh.wk (.cons (.agg (.cons (.refl _) (.cons (.refl _) (.cons (.refl _) (.cons (.refl _) (.cons (.nil false) .nil)))))) .nil)) (Gh.toR (.agg [.int .i64 0,.str [],.int .i64 0,.int .i64 0,.isl false []]) rfl),rfl,BU.h⟩
 replace hF:=q08 h6 hF
 refine st ?_
 refine WPU.skip ?_
 refine st ?_
 obtain ⟨x7,h8,hF⟩:=q01 hF
 obtain ⟨r9,h10,hF⟩:=q01 hF
 refine WPU.drawE Try.tb_ok [] (by kernel_rfl) ?_
 refine RD.q (u:=.agg (cGChart p1)) rfl (q0h und24 rfl (q00 inf24) rfl rfl rfl) (RD.q (u:=.ptr 0 0 1) rfl (q06 und24 rfl (q00 inf22) rfl rfl rfl) (RD.q (u:=.isl false (List.map cGEdge p1.Edges)) rfl (q03 und22 rfl rfl rfl rfl) (RD.mv rfl rfl rfl rfl (RD.q (u:=.iptr (cGEdge x7)) rfl (q0x rfl rfl (q0k cGEdge und22 (q00 inf42) q0g h8 rfl)) (RD.q (u:=.agg (cGEdge x7)) rfl (q2c und42 rfl (q00 inf42) rfl rfl) (RD.free (u:=.agg (xGDeriv r9)) (args:=[.agg (cGChart p1),.agg (cGEdge x7)]) rfl (q0a rfl rfl fn43 hb43 rfl rfl) (fun s=>q9a n p1 x7 r9 h10 s) rfl rfl (RD.actn (u:=.junk) (σ':=⟨[(1,.row (xGDeriv r9) 37),(0,.row (cGChart p1) 24)],2⟩) rfl (q0j (q00 inf37) rfl rfl rfl rfl rfl rfl rfl rfl) rfl ?_)))))))
 refine RD.done ⟨by kernel_rfl,trivial,?_⟩
 refine st ?_
 refine WPU.ret ?_
 refine st ?_
 have hr:=Option.some.inj hF
 subst hr
 exact ⟨.inr rfl,[.agg (xGDeriv r9)],q6h (q0h und37 rfl (q00 inf37) rfl rfl rfl) (q0o),.agg (xGDeriv r9),⟨[],0⟩,Nat.le_refl _,Gh.toR (.agg (xGDeriv r9)) rfl,rfl,BU.h⟩
 rcases q0f (decide (p2<0)) with h3 | h3
 replace h5:=q09 h3 h5
 replace h5:=Option.some.inj h5
 subst h5
 refine sr ?_
 refine RS.q rfl (q02 rfl rfl (q0z _ _ _) rfl) (RS.mv rfl rfl rfl rfl ?_)
 repeat refine RS.no (want0 rfl rfl rfl h3) rfl rfl ?_
 refine RS.q (u:=.bool true) rfl (q05 rfl h3 rfl) ?_
 refine sd ?_
 exact ⟨_,_,⟨rfl,rfl⟩,(Nat.zero_le _),Gh.toC (n1:=2) ⟨rfl,rfl,rfl,rfl,trivial⟩ rfl (Nat.zero_le _) (by simp)⟩
 replace h5:=q08 h3 h5
 replace h5:=Option.some.inj h5
 subst h5
 refine sr ?_
 refine RS.q rfl (q02 rfl rfl (q0z _ _ _) rfl) (RS.mv rfl rfl rfl rfl (RS.op (want1 rfl rfl rfl h3) (q07 rfl) rfl rfl (RS.op (u:=.ptr 0 0 1) (want1 rfl rfl rfl h3) (q06 und24 rfl (q00 inf22) rfl rfl rfl) rfl rfl (RS.op (u:=.isl false (List.map cGEdge p1.Edges)) (want1 rfl rfl rfl h3) (q03 und22 rfl rfl rfl rfl) rfl rfl (RS.op (want1 rfl rfl rfl h3) (q0i rfl rfl rfl (q0b cGEdge und22)) rfl rfl (RS.op (want1 rfl rfl rfl h3) (q02 rfl rfl (q8h _ _ _) rfl) rfl rfl (RS.q (u:=.bool (decide (p2 ≥ (p1.Edges.length:Int)))) rfl (q04 rfl h3 rfl) ?_)))))))
 refine sd ?_
 exact ⟨_,_,⟨rfl,rfl⟩,(Nat.zero_le _),Gh.toC (n1:=2) ⟨rfl,rfl,rfl,rfl,trivial⟩ rfl (Nat.zero_le _) (by simp)⟩
theorem q4h (n:Nat) (p1:GChart) (p2:Int) (r:GDeriv) (hF:q42 n p1 p2=some r) (σ:Sg):EvU Try.prog 22 [.agg (cGChart p1),.int .i64 p2] σ (fun u σ'=>u = .agg (xGDeriv r)∧σ'=σ) :=
 EvU.pure1C (chart_Deriv_0 n p1 p2 r hF) σ
def q6m (n:Nat) (p1:List UInt8) (p2:Int) (p3:Int):Option (GEdge) :=
 some (GEdge.mk p2 p3 0 1 p1 [] (GDeriv.mk 0 p1 p2 p3 []) (GFS.mk []))
theorem law32_item_0 (n:Nat) (p1:List UInt8) (p2:Int) (p3:Int) (r:GEdge) (hF:q6m n p1 p2 p3=some r):EvU Try.prog 31 [.str p1,.int .i64 p2,.int .i64 p3] ⟨[],0⟩ (fun u _=>u = .agg (cGEdge r)∧Bel 0 u):=by
 unfold q6m at hF
 refine EvU.of_body Try.tb_ok fn31 rfl ?_
 refine WPU.ghost (tm':=fr 15 [(0,.str p1),(1,.int .i64 p2),(2,.int .i64 p3)]) (Gh.start (Nat.le_of_ble_eq_true rfl)) (Nat.zero_le _) ?_
 refine sr ?_
 refine RS.q (u:=.ptr 0 0 0) (σ':=⟨[(0,.row [.int .i64 0,.int .i64 0,.int .i64 0,.int .i64 0,.str [],.nils,.int .i64 0,.str [],.int .i64 0,.int .i64 0,.nils,.nils] 42)],1⟩) rfl (q1c inf42 rfl rfl) ?_
 refine se ?_
 repeat refine RS.mv rfl rfl rfl rfl ?_
 refine RS.q (u:=.agg [.int .i64 0,.str p1,.int .i64 p2,.int .i64 p3,.nils]) rfl (q63 bd37 rfl rfl rfl) (RS.q (u:=.agg [.int .i64 p2,.int .i64 p3,.int .i64 0,.int .i64 1,.str p1,.nils,.int .i64 0,.str p1,.int .i64 p2,.int .i64 p3,.nils,.nils]) rfl (q63 bd42 rfl rfl rfl) (RS.opn (u:=.junk) (σ':=⟨[(0,.row [.int .i64 p2,.int .i64 p3,.int .i64 0,.int .i64 1,.str p1,.nils,.int .i64 0,.str p1,.int .i64 p2,.int .i64 p3,.nils,.nils] 42)],1⟩) rfl (q0j (q00 inf42) rfl rfl rfl rfl rfl rfl rfl rfl) rfl ?_))
 refine sd ?_
 refine WPU.ret ?_
 refine st ?_
 have hr:=Option.some.inj hF
 subst hr
 exact ⟨.inr rfl,[.agg [.int .i64 p2,.int .i64 p3,.int .i64 0,.int .i64 1,.str p1,.nils,.int .i64 0,.str p1,.int .i64 p2,.int .i64 p3,.nils,.nils]],q6h (q0h und42 rfl (q00 inf42) rfl rfl rfl) (q0o),.agg [.int .i64 p2,.int .i64 p3,.int .i64 0,.int .i64 1,.str p1,.isl false [],.int .i64 0,.str p1,.int .i64 p2,.int .i64 p3,.isl false [],.isl false []],⟨[],0⟩,Nat.le_refl _,Gh.trans (Gh.wk (.cons (.agg (.cons (.refl _) (.cons (.refl _) (.cons (.refl _) (.cons (.refl _) (.cons (.refl _) (.cons (.nil false) (.cons (.refl _) (.cons (.refl _) (.cons (.refl _) (.cons (.refl _) (.cons (.nil false) (.cons (.nil false) .nil))))))))))))) .nil)) (Gh.toR (.agg [.int .i64 p2,.int .i64 p3,.int .i64 0,.int .i64 1,.str p1,.isl false [],.int .i64 0,.str p1,.int .i64 p2,.int .i64 p3,.isl false [],.isl false []]) rfl),rfl,BU.h⟩
theorem q7z (n:Nat) (p1:List UInt8) (p2:Int) (p3:Int) (r:GEdge) (hF:q6m n p1 p2 p3=some r) (σ:Sg):EvU Try.prog 31 [.str p1,.int .i64 p2,.int .i64 p3] σ (fun u σ'=>u = .agg (cGEdge r)∧σ'=σ) :=
 EvU.pure1C (law32_item_0 n p1 p2 p3 r hF) σ
def q69 (p1:Int) (s10:List UInt8):Option ((List UInt8)) :=
 cond (decide (p1<0))
  (needO (([45]).length+s10.length≤9223372036854775807) (
  some ([45]++s10)))
  (some s10)
def q4s (p1:Int):Nat→Int→(List UInt8)→Option ((List UInt8))
 | 0,_,_=>none
 | m2+1,z8,s9 =>
  cond (decide (z8 > 0))
   (needO (([UInt8.ofNat ((IntKind.u8.wrap (IntKind.u64.wrap (48+(z8.tmod 10))))).toNat]).length+s9.length≤9223372036854775807) (
   (q4s p1 m2) (IntKind.u64.wrap (z8.tdiv 10)) ([UInt8.ofNat ((IntKind.u8.wrap (IntKind.u64.wrap (48+(z8.tmod 10))))).toNat]++s9)))
   (q69 p1 s9)
def q4r (p1:Int) (n:Nat) (z4:Int):Option ((List UInt8)) :=
 q4s p1 n z4 []
def q5d (n:Nat) (p1:Int):Option ((List UInt8)) :=
 cond (p1 == 0)
  (some ([48]))
  (cond (decide (p1<0))
   (q4r p1 n (IntKind.u64.wrap (0 - (IntKind.u64.wrap p1))))
   (q4r p1 n (IntKind.u64.wrap p1)))
theorem qc8 (n:Nat) (p1:Int) (r:(List UInt8)) (hF:q5d n p1=some r):EvU Try.prog 49 [.int .i64 p1] ⟨[],0⟩ (fun u _=>u = .str r∧Bel 0 u):=by
 unfold q5d at hF
 refine EvU.of_body Try.tb_ok fn49 rfl ?_
 refine WPU.ghost (tm':=fr 30 [(0,.int .i64 p1)]) (Gh.start (Nat.le_of_ble_eq_true rfl)) (Nat.zero_le _) ?_
 refine sr ?_
 refine se ?_
 refine RS.q rfl (q02 rfl rfl (q0c _ _ _) rfl) ?_
 refine sd ?_
 refine WPU.condS (t:=(p1 == 0)) rfl (fun h2=>?_) (fun h2=>?_)
 replace hF:=q09 h2 hF
 refine sr ?_
 refine sd ?_
 refine WPU.ret ?_
 refine st ?_
 have hr:=Option.some.inj hF
 subst hr
 exact ⟨.inr rfl,[.str ([48])],q0q rfl (q0o),.str ([48]),⟨[],0⟩,Nat.le_refl _,Gh.toR (.str ([48])) rfl,rfl,BU.h⟩
 replace hF:=q08 h2 hF
 refine st ?_
 refine WPU.skip ?_
 refine sr ?_
 refine RS.q (u:=.int .u64 (IntKind.u64.wrap p1)) rfl (op_conv rfl rfl (by simp only [convX,und3,und80]<;>rfl) rfl) ?_
 refine se ?_
 refine RS.q rfl (q02 rfl rfl (q0z _ _ _) rfl) ?_
 refine sd ?_
 refine WPU.joinK (fun tm σ=>∃ z4:Int,q4r p1 n z4=some r∧tm=fr 30 [(0,.int .i64 p1),(3,.int .u64 z4)]∧σ=⟨[],0⟩) ?_ ?_
 rintro _ _ ⟨z4,hF,rfl,rfl⟩
 unfold q4r at hF
 refine sr ?_
 refine sd ?_
 refine WPU.ghost (tm':=fr 30 [(0,.int .i64 p1),(3,.int .u64 z4),(4,.str [])]) (Gh.sub ⟨rfl,rfl,rfl,trivial⟩) (Nat.zero_le _) ?_
 refine WPU.loopK (fun m tm σ=>∃ z8:Int,∃ s9:List UInt8,q4s p1 m z8 s9=some r∧tm=fr 30 [(0,.int .i64 p1),(3,.int .u64 z8),(4,.str s9)]∧σ=⟨[],0⟩) (fun tm σ=>∃ s10:List UInt8,q69 p1 s10=some r∧tm=fr 30 [(0,.int .i64 p1),(4,.str s10)]∧σ=⟨[],0⟩) n ⟨z4,[],hF,rfl,rfl⟩ ?_ ?_
 rintro _ _ ⟨s10,hF,rfl,rfl⟩
 unfold q69 at hF
 refine sr ?_
 refine RS.q rfl (q02 rfl rfl (q0z _ _ _) rfl) ?_
 refine sd ?_
 refine WPU.condS (t:=(decide (p1<0))) rfl (fun h11=>?_) (fun h11=>?_)
 replace hF:=q09 h11 hF
 refine st ?_
 obtain ⟨h12,hF⟩:=q0w hF
 refine sr ?_
 refine RS.q (u:=.str ([45]++s10)) rfl (q1m rfl rfl (q97 h12) rfl) ?_
 refine sd ?_
 refine WPU.ret ?_
 refine st ?_
 have hr:=Option.some.inj hF
 subst hr
 exact ⟨.inr rfl,[.str ([45]++s10)],q0q rfl (q0o),.str ([45]++s10),⟨[],0⟩,Nat.le_refl _,Gh.toR (.str ([45]++s10)) rfl,rfl,BU.h⟩
 replace hF:=q08 h11 hF
 refine st ?_
 refine WPU.skip ?_
 refine sr ?_
 refine sd ?_
 refine WPU.ret ?_
 refine st ?_
 have hr:=Option.some.inj hF
 subst hr
 exact ⟨.inr rfl,[.str s10],q0q rfl (q0o),.str s10,⟨[],0⟩,Nat.le_refl _,Gh.toR (.str s10) rfl,rfl,BU.h⟩
 rintro m2 _ _ ⟨z8,s9,hF,rfl,rfl⟩
 rcases m2 with _ | m2
 cases hF
 unfold q4s at hF
 refine sr ?_
 refine RS.q rfl (q02 rfl rfl (q61 _ _ _) rfl) ?_
 refine sd ?_
 refine WPU.condS (t:=(decide (z8 > 0))) rfl (fun h13=>?_) (fun h13=>?_)
 replace hF:=q09 h13 hF
 refine st ?_
 refine WPU.skip ?_
 refine st ?_
 refine WPU.block ?_
 refine st ?_
 obtain ⟨h15,hF⟩:=q0w hF
 refine sr ?_
 refine RS.q rfl (q02 rfl rfl (ix_rem _ (by decide)) rfl) ?_
 refine RS.q rfl (q02 rfl rfl (q2g _ _ _) rfl) ?_
 refine RS.q (u:=.int .u8 (IntKind.u8.wrap (IntKind.u64.wrap (48+(z8.tmod 10))))) rfl (op_conv rfl rfl (by simp only [convX,und80,und5]<;>rfl) rfl) ?_
 refine RS.q (u:=.sl 0 0 1 1) (σ':=⟨[(0,.row [.int .u8 (IntKind.u8.wrap (IntKind.u64.wrap (48+(z8.tmod 10))))] 5)],1⟩) rfl (q5c und81 inf5 rfl rfl rfl rfl rfl rfl rfl) (RS.step (u:=.str ([UInt8.ofNat ((IntKind.u8.wrap (IntKind.u64.wrap (48+(z8.tmod 10))))).toNat])) rfl (StepU.bstr (ns:=[(IntKind.u8.wrap (IntKind.u64.wrap (48+(z8.tmod 10))))]) Try.tb_ok rfl und81 und5 und9 (q35 rfl) rfl rfl rfl) rfl rfl (RS.mv rfl rfl rfl rfl (RS.q (u:=.str ([UInt8.ofNat ((IntKind.u8.wrap (IntKind.u64.wrap (48+(z8.tmod 10))))).toNat]++s9)) rfl (q1m rfl rfl (q97 h15) rfl) ?_)))
 refine se ?_
 refine RS.q rfl (q02 rfl rfl (ix_quo _ (by decide)) rfl) ?_
 refine sd ?_
 exact ⟨m2,_,_,Nat.lt_succ_self _,⟨(IntKind.u64.wrap (z8.tdiv 10)),([UInt8.ofNat ((IntKind.u8.wrap (IntKind.u64.wrap (48+(z8.tmod 10))))).toNat]++s9),hF,rfl,rfl⟩,(Nat.zero_le _),Gh.toC (n1:=0) ⟨rfl,rfl,rfl,trivial⟩ rfl (Nat.zero_le _) (by simp)⟩
 replace hF:=q08 h13 hF
 refine st ?_
 refine WPU.exit ?_
 refine st ?_
 exact ⟨_,_,⟨s9,hF,rfl,rfl⟩,(Nat.zero_le _),Gh.toC (n1:=0) ⟨rfl,rfl,trivial⟩ rfl (Nat.zero_le _) (by simp)⟩
 refine WPU.condS (t:=(decide (p1<0))) rfl (fun h3=>?_) (fun h3=>?_)
 replace hF:=q09 h3 hF
 refine sr ?_
 refine RS.q (u:=.int .u64 (IntKind.u64.wrap (0 - (IntKind.u64.wrap p1)))) rfl (qb6 rfl rfl rfl rfl) ?_
 refine sd ?_
 exact ⟨_,_,⟨(IntKind.u64.wrap (0 - (IntKind.u64.wrap p1))),hF,rfl,rfl⟩,(Nat.zero_le _),Gh.toC (n1:=0) ⟨rfl,rfl,trivial⟩ rfl (Nat.zero_le _) (by simp)⟩
 replace hF:=q08 h3 hF
 refine st ?_
 refine WPU.skip ?_
 refine st ?_
 exact ⟨_,_,⟨(IntKind.u64.wrap p1),hF,rfl,rfl⟩,(Nat.zero_le _),Gh.toC (n1:=0) ⟨rfl,rfl,trivial⟩ rfl (Nat.zero_le _) (by simp)⟩
theorem q88 (n:Nat) (p1:Int) (r:(List UInt8)) (hF:q5d n p1=some r) (σ:Sg):EvU Try.prog 49 [.int .i64 p1] σ (fun u σ'=>u = .str r∧σ'=σ) :=
 EvU.pure1C (qc8 n p1 r hF) σ
def q7k  (s22:List UInt8):Option ((List UInt8)) :=
 needO (s22.length+([41]).length≤9223372036854775807) (
 some (s22++[41]))
def q5r (p1:GDeriv) (self:GDeriv→Option ((List UInt8))):Nat→(List UInt8)→Int→Option ((List UInt8))
 | 0,_,_=>none
 | m2+1,s20,z21 =>
  cond (decide (z21<(p1.Kids.length:Int)))
   (needO (s20.length+([32]).length≤9223372036854775807) (
   bindO (idxO p1.Kids z21) fun x26 =>
   bindO (self x26) fun r28 =>
   needO ((s20++[32]).length+r28.length≤9223372036854775807) (
   (q5r p1 self m2) ((s20++[32])++r28) (IntKind.i64.wrap (z21+1)))))
   (q7k s20)
def q5q (p1:GDeriv) (n:Nat) (self:GDeriv→Option ((List UInt8))) (s3:List UInt8):Option ((List UInt8)) :=
 needO (s3.length+p1.Name.length≤9223372036854775807) (
 needO ((s3++p1.Name).length+([32]).length≤9223372036854775807) (
 bindO (q5d n p1.From) fun r6 =>
 needO (((s3++p1.Name)++[32]).length+r6.length≤9223372036854775807) (
 needO ((((s3++p1.Name)++[32])++r6).length+([32]).length≤9223372036854775807) (
 bindO (q5d n p1.To) fun r10 =>
 needO (((((s3++p1.Name)++[32])++r6)++[32]).length+r10.length≤9223372036854775807) (
 q5r p1 self n (((((s3++p1.Name)++[32])++r6)++[32])++r10) 0)))))
def q9y (n:Nat) (self:GDeriv→Option ((List UInt8))) (p1:GDeriv):Option ((List UInt8)) :=
 cond (p1.Kind == 1)
  (q5q p1 n self ([40,43]))
  (q5q p1 n self ([40]))
def q46:Nat→GDeriv→Option ((List UInt8))
 | 0,_=>none
 | n+1,p1=>q9y n (q46 n) p1
theorem q9x:∀ (n:Nat) (p1:GDeriv) (r:(List UInt8)),q46 n p1=some r→EvU Try.prog 32 [.agg (xGDeriv p1)] ⟨[],0⟩ (fun u _=>u = .str r∧Bel 0 u)
 | 0,p1,r,hF=>by cases hF
 | n+1,p1,r,hF=>by
  have ih:=q9x n
  have ihS:∀ (p1:GDeriv) (r:(List UInt8)),q46 n p1=some r→∀ σ,EvU Try.prog 32 [.agg (xGDeriv p1)] σ (fun u σ'=>u = .str r∧σ'=σ):=fun p1 r h σ=>EvU.pure1C (ih p1 r h) σ
  unfold q46 q9y at hF
  refine EvU.of_body Try.tb_ok fn32 rfl ?_
  refine WPU.ghost (tm':=fr 40 [(0,.agg (xGDeriv p1))]) (Gh.start (Nat.le_of_ble_eq_true rfl)) (Nat.zero_le _) ?_
  refine sr ?_
  refine RS.q (u:=.ptr 0 0 0) (σ':=⟨[(0,.row (xGDeriv p1) 37)],1⟩) rfl (q23 rfl rfl rfl) ?_
  refine se ?_
  refine se ?_
  refine RS.q (u:=.ptr 0 0 0) rfl (q06 und37 rfl (q00 inf3) rfl rfl rfl) (RS.q (u:=.int .i64 p1.Kind) rfl (q03 und3 rfl rfl rfl rfl) (RS.q rfl (q02 rfl rfl (q0c _ _ _) rfl) ?_))
  refine sd ?_
  refine WPU.joinK (fun tm σ=>∃ s3:List UInt8,q5q p1 n (q46 n) s3=some r∧tm=fr 40 [(1,.ptr 0 0 0),(3,.str s3)]∧σ=⟨[(0,.row (xGDeriv p1) 37)],1⟩) ?_ ?_
  rintro _ _ ⟨s3,hF,rfl,rfl⟩
  unfold q5q at hF
  refine st ?_
  obtain ⟨h4,hF⟩:=q0w hF
  obtain ⟨h5,hF⟩:=q0w hF
  obtain ⟨r6,h7,hF⟩:=q01 hF
  obtain ⟨h8,hF⟩:=q0w hF
  obtain ⟨h9,hF⟩:=q0w hF
  obtain ⟨r10,h11,hF⟩:=q01 hF
  obtain ⟨h12,hF⟩:=q0w hF
  refine WPU.drawE Try.tb_ok [] (by kernel_rfl) ?_
  refine RD.mv rfl rfl rfl rfl (RD.q (u:=.ptr 0 0 1) rfl (q06 und37 rfl (q00 inf9) rfl rfl rfl) (RD.q (u:=.str p1.Name) rfl (q03 und9 rfl rfl rfl rfl) (RD.q (u:=.str (s3++p1.Name)) rfl (q1m rfl rfl (q97 h4) rfl) (RD.q (u:=.str ((s3++p1.Name)++[32])) rfl (q1m rfl rfl (q97 h5) rfl) (RD.q (u:=.ptr 0 0 2) rfl (q06 und37 rfl (q00 inf3) rfl rfl rfl) (RD.q (u:=.int .i64 p1.From) rfl (q03 und3 rfl rfl rfl rfl) (RD.free (u:=.str r6) (args:=[.int .i64 p1.From]) rfl (q0a rfl rfl fn49 hb49 rfl rfl) (fun s=>q88 n p1.From r6 h7 s) rfl rfl ?_)))))))
  refine RD.q (u:=.str (((s3++p1.Name)++[32])++r6)) rfl (q1m rfl rfl (q97 h8) rfl) (RD.q (u:=.str ((((s3++p1.Name)++[32])++r6)++[32])) rfl (q1m rfl rfl (q97 h9) rfl) (RD.q (u:=.ptr 0 0 3) rfl (q06 und37 rfl (q00 inf3) rfl rfl rfl) (RD.q (u:=.int .i64 p1.To) rfl (q03 und3 rfl rfl rfl rfl) (RD.free (u:=.str r10) (args:=[.int .i64 p1.To]) rfl (q0a rfl rfl fn49 hb49 rfl rfl) (fun s=>q88 n p1.To r10 h11 s) rfl rfl (RD.q (u:=.str (((((s3++p1.Name)++[32])++r6)++[32])++r10)) rfl (q1m rfl rfl (q97 h12) rfl) (RD.as rfl rfl rfl rfl ?_))))))
  refine RD.done ⟨by kernel_rfl,trivial,?_⟩
  refine sr ?_
  refine sd ?_
  refine WPU.ghost (tm':=fr 40 [(1,.ptr 0 0 0),(3,.str (((((s3++p1.Name)++[32])++r6)++[32])++r10)),(4,.int .i64 0)]) (Gh.sub ⟨rfl,rfl,rfl,trivial⟩) (Nat.zero_le _) ?_
  refine WPU.loopK (fun m tm σ=>∃ s20:List UInt8,∃ z21:Int,q5r p1 (q46 n) m s20 z21=some r∧tm=fr 40 [(1,.ptr 0 0 0),(3,.str s20),(4,.int .i64 z21)]∧σ=⟨[(0,.row (xGDeriv p1) 37)],1⟩) (fun tm σ=>∃ s22:List UInt8,q7k s22=some r∧tm=fr 40 [(3,.str s22)]∧σ=⟨[(0,.row (xGDeriv p1) 37)],1⟩) n ⟨(((((s3++p1.Name)++[32])++r6)++[32])++r10),0,hF,rfl,rfl⟩ ?_ ?_
  rintro _ _ ⟨s22,hF,rfl,rfl⟩
  unfold q7k at hF
  refine st ?_
  obtain ⟨h23,hF⟩:=q0w hF
  refine sr ?_
  refine RS.q (u:=.str (s22++[41])) rfl (q1m rfl rfl (q97 h23) rfl) ?_
  refine sd ?_
  refine WPU.ret ?_
  refine st ?_
  have hr:=Option.some.inj hF
  subst hr
  exact ⟨.inr rfl,[.str (s22++[41])],q0q rfl (q0o),.str (s22++[41]),⟨[],0⟩,Nat.le_refl _,Gh.toR (.str (s22++[41])) rfl,rfl,BU.h⟩
  rintro m2 _ _ ⟨s20,z21,hF,rfl,rfl⟩
  rcases m2 with _ | m2
  cases hF
  unfold q5r at hF
  refine sr ?_
  refine RS.q (u:=.ptr 0 0 4) rfl (q06 und37 rfl (q00 inf35) rfl rfl rfl) (RS.q (u:=.isl false (List.map cGDeriv p1.Kids)) rfl (q03 und35 rfl rfl rfl rfl) (RS.q rfl (q0i rfl rfl rfl (q0b cGDeriv und35)) (RS.q rfl (q02 rfl rfl (q0z _ _ _) rfl) ?_)))
  refine sd ?_
  refine WPU.condS (t:=(decide (z21<(p1.Kids.length:Int)))) rfl (fun h24=>?_) (fun h24=>?_)
  replace hF:=q09 h24 hF
  refine st ?_
  refine WPU.skip ?_
  refine st ?_
  refine WPU.block ?_
  refine st ?_
  obtain ⟨h25,hF⟩:=q0w hF
  obtain ⟨x26,h27,hF⟩:=q01 hF
  obtain ⟨r28,h29,hF⟩:=q01 hF
  obtain ⟨h30,hF⟩:=q0w hF
  refine sr ?_
  refine RS.q (u:=.str (s20++[32])) rfl (q1m rfl rfl (q97 h25) rfl) (RS.q (u:=.ptr 0 0 4) rfl (q06 und37 rfl (q00 inf35) rfl rfl rfl) (RS.q (u:=.isl false (List.map cGDeriv p1.Kids)) rfl (q03 und35 rfl rfl rfl rfl) (RS.mv rfl rfl rfl rfl (RS.q (u:=.iptr (xGDeriv x26)) rfl (q0x rfl rfl (q0k cGDeriv und35 (q00 inf37) q0m h27 (q0v x26))) (RS.q (u:=.agg (xGDeriv x26)) rfl (q2c und37 rfl (q00 inf37) rfl rfl) (RS.call (u:=.str r28) (args:=[.agg (xGDeriv x26)]) rfl (q0a rfl rfl fn32 hb32 rfl rfl) (ihS x26 r28 h29 _) rfl rfl (RS.q (u:=.str ((s20++[32])++r28)) rfl (q1m rfl rfl (q97 h30) rfl) ?_)))))))
  refine se ?_
  refine RS.q rfl (q02 rfl rfl (q2g _ _ _) rfl) ?_
  refine sd ?_
  exact ⟨m2,_,_,Nat.lt_succ_self _,⟨((s20++[32])++r28),(IntKind.i64.wrap (z21+1)),hF,rfl,rfl⟩,(Nat.zero_le _),Gh.toC (n1:=1) ⟨rfl,rfl,rfl,trivial⟩ rfl (Nat.zero_le _) (by simp)⟩
  replace hF:=q08 h24 hF
  refine st ?_
  refine WPU.exit ?_
  refine st ?_
  exact ⟨_,_,⟨s20,hF,rfl,rfl⟩,(Nat.zero_le _),Gh.toC (n1:=1) ⟨rfl,trivial⟩ rfl (Nat.zero_le _) (by simp)⟩
  refine WPU.condS (t:=(p1.Kind == 1)) rfl (fun h2=>?_) (fun h2=>?_)
  replace hF:=q09 h2 hF
  refine sr ?_
  refine sd ?_
  exact ⟨_,_,⟨[40,43],hF,rfl,rfl⟩,(Nat.zero_le _),Gh.toC (n1:=1) ⟨rfl,rfl,trivial⟩ rfl (Nat.zero_le _) (by simp)⟩
  replace hF:=q08 h2 hF
  refine st ?_
  refine WPU.skip ?_
  refine st ?_
  exact ⟨_,_,⟨[40],hF,rfl,rfl⟩,(Nat.zero_le _),Gh.toC (n1:=1) ⟨rfl,rfl,trivial⟩ rfl (Nat.zero_le _) (by simp)⟩
theorem q96 (n:Nat) (p1:GDeriv) (r:(List UInt8)) (hF:q46 n p1=some r) (σ:Sg):EvU Try.prog 32 [.agg (xGDeriv p1)] σ (fun u σ'=>u = .str r∧σ'=σ) :=
 EvU.pure1C (q9x n p1 r hF) σ
end Go.Proofs
end
