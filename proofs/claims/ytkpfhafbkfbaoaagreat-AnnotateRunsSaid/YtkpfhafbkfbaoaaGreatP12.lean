/-
  Texts of the walk: A1z.
-/
import Derived.Test.YtkpfhafbkfbaoaaGreatP11
section
namespace Go.Proofs
open Go Go.Rx Go.Vx Tryz
set_option maxRecDepth 10000
set_option linter.unusedSimpArgs false
set_option linter.unusedVariables false
theorem ref46_Reject_0 (n:Nat) (p1:GSession) (r:GSession×Int) (hF:q8e n p1=some r):EvU Tryz.prog 40 [.agg (cGSession p1)] ⟨[],0⟩ (fun u _=>u = .tup [.agg (cGSession r.1),.int .i64 r.2]∧Bel 0 u):=by
 unfold q8e at hF
 refine EvU.of_body Tryz.tb_ok fn40 rfl ?_
 refine WPU.ghost (tm':=fr 13 [(0,.agg (cGSession p1))]) (Gh.start (Nat.le_of_ble_eq_true rfl)) (Nat.zero_le _) ?_
 refine sr ?_
 refine RS.q (u:=.ptr 0 0 0) (σ':=⟨[(0,.row (cGSession p1) 28)],1⟩) rfl (q2j rfl rfl rfl) (RS.q (u:=.ptr 1 0 0) (σ':=⟨[(1,.row [.nils,.nils,.int .i64 0] 28),(0,.row (cGSession p1) 28)],2⟩) rfl (q0v inf28 rfl rfl) ?_)
 refine se ?_
 refine RS.q (u:=.ptr 0 0 2) rfl (q0c und28 rfl (q01 inf3) rfl rfl rfl) (RS.q (u:=.int .i64 p1.State) rfl (q09 und3 rfl rfl rfl rfl) (RS.q rfl (q02 rfl rfl (q52 _ _ _) rfl) ?_))
 refine sd ?_
 refine WPU.condS (t:=(p1.State != 0)) rfl (fun h2=>?_) (fun h2=>?_)
 replace hF:=q05 h2 hF
 refine sr ?_
 refine RS.q (u:=.agg (cGSession p1)) rfl (q0a und28 rfl (q01 inf28) rfl rfl rfl) (RS.opn (u:=.junk) (σ':=⟨[(1,.row (cGSession p1) 28),(0,.row (cGSession p1) 28)],2⟩) rfl (q0d (q01 inf28) rfl rfl rfl rfl rfl rfl rfl rfl) rfl ?_)
 refine sd ?_
 refine WPU.ret ?_
 refine st ?_
 have hr:=Option.some.inj hF
 subst hr
 exact ⟨.inr rfl,[.agg (cGSession p1),.int .i64 15],q5f (q0a und28 rfl (q01 inf28) rfl rfl rfl) (q0l rfl (q0i)),.tup [.agg (cGSession p1),.int .i64 15],⟨[],0⟩,Nat.le_refl _,Gh.toR (.tup [.agg (cGSession p1),.int .i64 15]) rfl,rfl,BU.h⟩
 replace hF:=q04 h2 hF
 refine st ?_
 refine WPU.skip ?_
 refine sr ?_
 refine RS.q (u:=.ptr 0 0 0) rfl (q0c und28 rfl (q01 inf22) rfl rfl rfl) (RS.q (u:=.isl false (List.map cGDeriv p1.Readings)) rfl (q09 und22 rfl rfl rfl rfl) (RS.q (u:=.ptr 0 0 1) rfl (q0c und28 rfl (q01 inf26) rfl rfl rfl) (RS.q (u:=.isl false (List.map cGDecision p1.Decisions)) rfl (q09 und26 rfl rfl rfl rfl) (RS.q (u:=.agg [.isl false (List.map cGDeriv p1.Readings),.isl false (List.map cGDecision p1.Decisions),.int .i64 2]) rfl (q4d bd28 rfl rfl rfl) (RS.opn (u:=.junk) (σ':=⟨[(1,.row [.isl false (List.map cGDeriv p1.Readings),.isl false (List.map cGDecision p1.Decisions),.int .i64 2] 28),(0,.row (cGSession p1) 28)],2⟩) rfl (q0d (q01 inf28) rfl rfl rfl rfl rfl rfl rfl rfl) rfl ?_)))))
 refine sd ?_
 refine WPU.ret ?_
 refine st ?_
 have hr:=Option.some.inj hF
 subst hr
 exact ⟨.inr rfl,[.agg [.isl false (List.map cGDeriv p1.Readings),.isl false (List.map cGDecision p1.Decisions),.int .i64 2],.int .i64 0],q5f (q0a und28 rfl (q01 inf28) rfl rfl rfl) (q0l rfl (q0i)),.tup [.agg [.isl false (List.map cGDeriv p1.Readings),.isl false (List.map cGDecision p1.Decisions),.int .i64 2],.int .i64 0],⟨[],0⟩,Nat.le_refl _,Gh.toR (.tup [.agg [.isl false (List.map cGDeriv p1.Readings),.isl false (List.map cGDecision p1.Decisions),.int .i64 2],.int .i64 0]) rfl,rfl,BU.h⟩
theorem qi1 (n:Nat) (p1:GSession) (r:GSession×Int) (hF:q8e n p1=some r) (σ:Sg):EvU Tryz.prog 40 [.agg (cGSession p1)] σ (fun u σ'=>u = .tup [.agg (cGSession r.1),.int .i64 r.2]∧σ'=σ) :=
 EvU.pure1C (ref46_Reject_0 n p1 r hF) σ
end Go.Proofs
end
