/-
  GraphCanon, proved as it is said: whatever the input, the law returns true, and what it was handed reads as it did.
  The frame of the row's step is the guide's template; the walk was printed by a program (wip/gw), the plain law is told by the texts beside it.
-/
import Derived.Test.YtdpffcolmflpjaaRows
import Derived.WalkKit
import Derived.ProofKit
import Derived.OpenShut
import Derived.Test.YtdpffcolmflpjaaP17
namespace Go.Proofs.Ytdpffcolmflpjaa.graphCanon
open Go.ChangeShapes Go.WideShapes Go.ChangeAt Go.RowKit
set_option linter.unusedVariables false
set_option linter.unusedSimpArgs false
set_option maxRecDepth 20000

theorem own : ownKnob Try.prog.godebug = none := by kernel_rfl
theorem laid : laidOutB Try.prog = true := by kernel_rfl
theorem pu25 : Try.prog.underlying 25 = some (.struct #[⟨ "Nodes", 23, 0, false, "", "", 0⟩]) := by kernel_rfl
theorem ce25 : Try.prog.cellsOf 25 = 1 := by kernel_rfl
theorem pu23 : Try.prog.underlying 23 = some (.slice 43) := by kernel_rfl
theorem ce23 : Try.prog.cellsOf 23 = 1 := by kernel_rfl
theorem pu43 : Try.prog.underlying 43 = some (.struct #[⟨ "Type", 3, 0, false, "", "", 0⟩, ⟨ "Arcs", 41, 1, false, "", "", 8⟩]) := by kernel_rfl
theorem ce43 : Try.prog.cellsOf 43 = 2 := by kernel_rfl
theorem pu3 : Try.prog.underlying 3 = some (.int .i64) := by kernel_rfl
theorem ce3 : Try.prog.cellsOf 3 = 1 := by kernel_rfl
theorem pu41 : Try.prog.underlying 41 = some (.slice 45) := by kernel_rfl
theorem ce41 : Try.prog.cellsOf 41 = 1 := by kernel_rfl
theorem pu45 : Try.prog.underlying 45 = some (.struct #[⟨ "Feat", 3, 0, false, "", "", 0⟩, ⟨ "To", 3, 1, false, "", "", 8⟩]) := by kernel_rfl
theorem ce45 : Try.prog.cellsOf 45 = 2 := by kernel_rfl
theorem closed : Vx.closedTS Try.prog [25, 23, 43, 3, 41, 45] = true := by kernel_rfl
theorem of3 {n : Nat} {us : List Vx.U} (h : Vx.OfTy Try.prog n 3 us) : ∃ i, us = [.int .i64 i] := by
  cases n with
  | zero => exact h.elim
  | succ n => simp only [Vx.OfTy, pu3] at h; obtain ⟨i, rfl, _⟩ := h; exact ⟨i, rfl⟩
theorem of45 {n : Nat} {us : List Vx.U} (h : Vx.OfTy Try.prog n 45 us) : ∃ x : GArc, us = cGArc x := by
  cases n with
  | zero => exact h.elim
  | succ n =>
    simp only [Vx.OfTy, pu45, ce45] at h
    obtain ⟨hl, hf⟩ := h
    match us, hl with
    | [u0, u1], _ =>
      simp only [List.mem_cons, List.not_mem_nil, or_false, forall_eq_or_imp, forall_eq, ce3, List.drop, List.take] at hf
      obtain ⟨h0, h1⟩ := hf
      obtain ⟨a0, e0⟩ := of3 h0
      simp only [List.cons.injEq, and_true] at e0
      subst e0
      obtain ⟨a1, e1⟩ := of3 h1
      simp only [List.cons.injEq, and_true] at e1
      subst e1
      exact ⟨⟨a0, a1⟩, rfl⟩
theorem els41 {n : Nat} : ∀ {l : List (List Vx.U)}, (∀ c ∈ l, Vx.OfTy Try.prog n 45 c) → ∃ ks : List GArc, l = ks.map cGArc
  | [], _ => ⟨[], rfl⟩
  | c :: l, h => by
    obtain ⟨d, rfl⟩ := of45 (h c (by simp))
    obtain ⟨ks, rfl⟩ := els41 (l := l) fun x hx => h x (by simp [hx])
    exact ⟨d :: ks, rfl⟩
theorem of41 {n : Nat} {us : List Vx.U} (h : Vx.OfTy Try.prog n 41 us) : ∃ x : List GArc, us = [.isl false (x.map cGArc)] ∧ (x.length ≤ 9223372036854775807) := by
  cases n with
  | zero => exact h.elim
  | succ n =>
    simp only [Vx.OfTy, pu41] at h
    obtain ⟨l, hl, hlen, hall⟩ := h
    subst hl
    obtain ⟨ks, rfl⟩ := els41 hall
    exact ⟨ks, rfl, by simpa [maxLen] using hlen⟩
theorem of43 {n : Nat} {us : List Vx.U} (h : Vx.OfTy Try.prog n 43 us) : ∃ x : GNode, us = cGNode x ∧ ((x.Arcs.length ≤ 9223372036854775807)) := by
  cases n with
  | zero => exact h.elim
  | succ n =>
    simp only [Vx.OfTy, pu43, ce43] at h
    obtain ⟨hl, hf⟩ := h
    match us, hl with
    | [u0, u1], _ =>
      simp only [List.mem_cons, List.not_mem_nil, or_false, forall_eq_or_imp, forall_eq, ce3, ce41, List.drop, List.take] at hf
      obtain ⟨h0, h1⟩ := hf
      obtain ⟨a0, e0⟩ := of3 h0
      simp only [List.cons.injEq, and_true] at e0
      subst e0
      obtain ⟨a1, e1, k1⟩ := of41 h1
      simp only [List.cons.injEq, and_true] at e1
      subst e1
      exact ⟨⟨a0, a1⟩, rfl, k1⟩
theorem els23 {n : Nat} : ∀ {l : List (List Vx.U)}, (∀ c ∈ l, Vx.OfTy Try.prog n 43 c) → ∃ ks : List GNode, l = ks.map cGNode ∧ ∀ q ∈ ks, (q.Arcs.length ≤ 9223372036854775807)
  | [], _ => ⟨[], rfl, by simp⟩
  | c :: l, h => by
    obtain ⟨d, rfl, hk⟩ := of43 (h c (by simp))
    obtain ⟨ks, rfl, hks⟩ := els23 (l := l) fun x hx => h x (by simp [hx])
    exact ⟨d :: ks, rfl, by intro q hq; rcases List.mem_cons.1 hq with rfl | hq; exact hk; exact hks q hq⟩
theorem of23 {n : Nat} {us : List Vx.U} (h : Vx.OfTy Try.prog n 23 us) : ∃ x : List GNode, us = [.isl false (x.map cGNode)] ∧ (x.length ≤ 9223372036854775807 ∧ ∀ q ∈ x, (q.Arcs.length ≤ 9223372036854775807)) := by
  cases n with
  | zero => exact h.elim
  | succ n =>
    simp only [Vx.OfTy, pu23] at h
    obtain ⟨l, hl, hlen, hall⟩ := h
    subst hl
    obtain ⟨ks, rfl, hks⟩ := els23 hall
    exact ⟨ks, rfl, by simpa [maxLen] using hlen, hks⟩
theorem of25 {n : Nat} {us : List Vx.U} (h : Vx.OfTy Try.prog n 25 us) : ∃ x : GFS, us = cGFS x ∧ ((x.Nodes.length ≤ 9223372036854775807 ∧ ∀ q ∈ x.Nodes, (q.Arcs.length ≤ 9223372036854775807))) := by
  cases n with
  | zero => exact h.elim
  | succ n =>
    simp only [Vx.OfTy, pu25, ce25] at h
    obtain ⟨hl, hf⟩ := h
    match us, hl with
    | [u0], _ =>
      simp only [List.mem_cons, List.not_mem_nil, or_false, forall_eq_or_imp, forall_eq, ce23, List.drop, List.take] at hf
      have h0 := hf
      obtain ⟨a0, e0, k0⟩ := of23 h0
      simp only [List.cons.injEq, and_true] at e0
      subst e0
      exact ⟨⟨a0⟩, rfl, k0⟩
theorem arg25 {u : Vx.U} (h : Vx.OfArg Try.prog 25 u) : ∃ x : GFS, u = .agg (cGFS x) ∧ ((x.Nodes.length ≤ 9223372036854775807 ∧ ∀ q ∈ x.Nodes, (q.Arcs.length ≤ 9223372036854775807))) := by
  obtain ⟨n, us, h1, h2⟩ := h
  simp only [pu25] at h2
  subst h2
  obtain ⟨x, rfl, hk⟩ := of25 h1
  exact ⟨x, rfl, hk⟩
set_option maxRecDepth 100000 in
theorem lifted (os : Os) (started : os.Started) (H : Type) (enc : TypeId × Value → H) :
    ReturnsInHanded {} Try.checked os 9 .any (Rows.graphCanonSpec.pre6 enc Try.prog Try.f9 Rows.graphCanonRow.domain false) (Rows.graphCanonSpec.post enc Try.prog Try.f9 false true false false) := by
  refine returnsInHanded_of_change (C := Try.checked) own started (by kernel_rfl) Try.func9
    (ChangeSpec.witness6 (enc := enc) (C := Try.checked) false ⟨#[], #[.agg #[.slice none 0 0], .agg #[.slice none 0 0]], []⟩ 9 (by kernel_rfl) (by kernel_rfl) (by kernel_rfl) (by kernel_rfl)) ?_
  intro W base args ds gs before hval0 hW hcnd _
  have hval : ∀ (j : Nat) t v, Try.f9.params[j]? = some t → args[j]? = some v → Value.okWide Try.prog W .any base t v := hval0
  have hW' := hW
  obtain ⟨p, q, hA0, hV, rfl, hfz, hnd⟩ := hW
  have hA : DataW.TrodAll enc Try.prog W 0 (fun _ => true) true Try.f9.params.toList args.toList ds p := hA0
  rw [Try.params9] at hA hval
  obtain ⟨us, k1, k2, k3⟩ := Vx.args_rep closed (by decide) (fun j t v h1 h2 => hval j t v (by simpa using h1) (by simpa using h2)) hA
  obtain ⟨v0, vs0, d0, ds0, p0, q0, hargs0, rfl, rfl, h0, r0⟩ := trodAll_cons hA
  obtain ⟨v1, vs1, d1, ds1, p1, q1, hargs1, rfl, rfl, h1, r1⟩ := trodAll_cons r0
  obtain ⟨rfl, rfl, rfl⟩ := trodAll_nil r1
  obtain ⟨rfl, rfl⟩ := trodVars_none hV
  simp only [Vx.OfArgs] at k3
  obtain ⟨u0, us0, rfl, m0, u1, us1, rfl, m1, rfl⟩ := k3
  obtain ⟨X0, rfl, H0⟩ := arg25 m0
  obtain ⟨X1, rfl, H1⟩ := arg25 m1
  clear hA0 hval0
  refine (Vx.law_calls ((q8o _ X0 X1 true (canon_law X0 X1 (Nat.le_refl _))).mono fun u s h => h.1) k1 k2).mono fun e W' ⟨he, hg⟩ => ?_
  subst he
  exact ⟨_, rfl, Rx.law_post hW' laid (by kernel_rfl) hg rfl rfl Try.underlying4 rfl rfl rfl⟩
theorem over : Rows.graphCanonRow.holds Try.pinned (OpenSpec.ofChange Rows.graphCanonSpec) :=
  OpenClaim.holds_of_wide 9 Try.f9 rfl rfl rfl rfl rfl rfl rfl ⟨rfl, rfl, rfl, rfl, rfl⟩ rfl rfl rfl rfl rfl (by kernel_rfl) Try.func9 (by kernel_rfl)
    (of_decide_eq_true (by kernel_rfl)) (by unfold Func.isWrapper; first | (rw [if_pos (by decide +kernel)]; kernel_rfl) | (rw [if_neg (by decide +kernel)]; exact ⟨rfl, rfl⟩))
    (fun os started H enc _ => lifted os started H enc)
theorem proved : Rows.GraphCanonSaid :=
  over
#print axioms proved
end Go.Proofs.Ytdpffcolmflpjaa.graphCanon
