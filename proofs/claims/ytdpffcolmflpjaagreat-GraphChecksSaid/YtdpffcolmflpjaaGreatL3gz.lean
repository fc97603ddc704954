/-
  GraphChecks, proved as it is said: whatever the input, the law returns true, and what it was handed reads as it did.
  The frame of the row's step is the guide's template; the walk was printed by a program (wip/gw), the plain law is told by the texts beside it.
-/
import Derived.Test.YtdpffcolmflpjaaGreatRows
import Derived.WalkKit
import Derived.ProofKit
import Derived.OpenShut
import Derived.Test.YtdpffcolmflpjaaGreatP19
namespace Go.Proofs.YtdpffcolmflpjaaGreat.graphChecks
open Go.ChangeShapes Go.WideShapes Go.ChangeAt Go.RowKit
set_option linter.unusedVariables false
set_option linter.unusedSimpArgs false
set_option maxRecDepth 20000

theorem own : ownKnob Tryz.prog.godebug = none := by kernel_rfl
theorem laid : laidOutB Tryz.prog = true := by kernel_rfl
theorem pu22 : Tryz.prog.underlying 22 = some (.slice 69) := by kernel_rfl
theorem ce22 : Tryz.prog.cellsOf 22 = 1 := by kernel_rfl
theorem pu69 : Tryz.prog.underlying 69 = some (.struct #[⟨ "Name", 9, 0, false, "", "", 0⟩, ⟨ "Supers", 66, 1, false, "", "", 16⟩, ⟨ "Feats", 67, 2, false, "", "", 40⟩]) := by kernel_rfl
theorem ce69 : Tryz.prog.cellsOf 69 = 3 := by kernel_rfl
theorem pu9 : Tryz.prog.underlying 9 = some (.string) := by kernel_rfl
theorem ce9 : Tryz.prog.cellsOf 9 = 1 := by kernel_rfl
theorem pu66 : Tryz.prog.underlying 66 = some (.slice 9) := by kernel_rfl
theorem ce66 : Tryz.prog.cellsOf 66 = 1 := by kernel_rfl
theorem pu67 : Tryz.prog.underlying 67 = some (.slice 98) := by kernel_rfl
theorem ce67 : Tryz.prog.cellsOf 67 = 1 := by kernel_rfl
theorem pu98 : Tryz.prog.underlying 98 = some (.struct #[⟨ "Feat", 9, 0, false, "", "", 0⟩, ⟨ "Value", 9, 1, false, "", "", 16⟩]) := by kernel_rfl
theorem ce98 : Tryz.prog.cellsOf 98 = 2 := by kernel_rfl
theorem pu25 : Tryz.prog.underlying 25 = some (.struct #[⟨ "Nodes", 23, 0, false, "", "", 0⟩]) := by kernel_rfl
theorem ce25 : Tryz.prog.cellsOf 25 = 1 := by kernel_rfl
theorem pu23 : Tryz.prog.underlying 23 = some (.slice 40) := by kernel_rfl
theorem ce23 : Tryz.prog.cellsOf 23 = 1 := by kernel_rfl
theorem pu40 : Tryz.prog.underlying 40 = some (.struct #[⟨ "Type", 3, 0, false, "", "", 0⟩, ⟨ "Arcs", 38, 1, false, "", "", 8⟩]) := by kernel_rfl
theorem ce40 : Tryz.prog.cellsOf 40 = 2 := by kernel_rfl
theorem pu3 : Tryz.prog.underlying 3 = some (.int .i64) := by kernel_rfl
theorem ce3 : Tryz.prog.cellsOf 3 = 1 := by kernel_rfl
theorem pu38 : Tryz.prog.underlying 38 = some (.slice 72) := by kernel_rfl
theorem ce38 : Tryz.prog.cellsOf 38 = 1 := by kernel_rfl
theorem pu72 : Tryz.prog.underlying 72 = some (.struct #[⟨ "Feat", 3, 0, false, "", "", 0⟩, ⟨ "To", 3, 1, false, "", "", 8⟩]) := by kernel_rfl
theorem ce72 : Tryz.prog.cellsOf 72 = 2 := by kernel_rfl
theorem closed : Vx.closedTS Tryz.prog [22, 69, 9, 66, 67, 98, 25, 23, 40, 3, 38, 72] = true := by kernel_rfl
theorem of9 {n : Nat} {us : List Vx.U} (h : Vx.OfTy Tryz.prog n 9 us) : ∃ s, us = [.str s] := by
  cases n with
  | zero => exact h.elim
  | succ n => simp only [Vx.OfTy, pu9] at h; obtain ⟨i, rfl, _⟩ := h; exact ⟨i, rfl⟩
theorem els66 {n : Nat} : ∀ {l : List (List Vx.U)}, (∀ c ∈ l, Vx.OfTy Tryz.prog n 9 c) → ∃ ks : List (List UInt8), l = ks.map Vx.cS
  | [], _ => ⟨[], rfl⟩
  | c :: l, h => by
    obtain ⟨d, rfl⟩ := of9 (h c (by simp))
    obtain ⟨ks, rfl⟩ := els66 (l := l) fun x hx => h x (by simp [hx])
    exact ⟨d :: ks, rfl⟩
theorem of66 {n : Nat} {us : List Vx.U} (h : Vx.OfTy Tryz.prog n 66 us) : ∃ x : List (List UInt8), us = [.isl false (x.map Vx.cS)] ∧ (x.length ≤ 9223372036854775807) := by
  cases n with
  | zero => exact h.elim
  | succ n =>
    simp only [Vx.OfTy, pu66] at h
    obtain ⟨l, hl, hlen, hall⟩ := h
    subst hl
    obtain ⟨ks, rfl⟩ := els66 hall
    exact ⟨ks, rfl, by simpa [maxLen] using hlen⟩
theorem of98 {n : Nat} {us : List Vx.U} (h : Vx.OfTy Tryz.prog n 98 us) : ∃ x : q13, us = q0f x := by
  cases n with
  | zero => exact h.elim
  | succ n =>
    simp only [Vx.OfTy, pu98, ce98] at h
    obtain ⟨hl, hf⟩ := h
    match us, hl with
    | [u0, u1], _ =>
      simp only [List.mem_cons, List.not_mem_nil, or_false, forall_eq_or_imp, forall_eq, ce9, List.drop, List.take] at hf
      obtain ⟨h0, h1⟩ := hf
      obtain ⟨a0, e0⟩ := of9 h0
      simp only [List.cons.injEq, and_true] at e0
      subst e0
      obtain ⟨a1, e1⟩ := of9 h1
      simp only [List.cons.injEq, and_true] at e1
      subst e1
      exact ⟨⟨a0, a1⟩, rfl⟩
theorem els67 {n : Nat} : ∀ {l : List (List Vx.U)}, (∀ c ∈ l, Vx.OfTy Tryz.prog n 98 c) → ∃ ks : List q13, l = ks.map q0f
  | [], _ => ⟨[], rfl⟩
  | c :: l, h => by
    obtain ⟨d, rfl⟩ := of98 (h c (by simp))
    obtain ⟨ks, rfl⟩ := els67 (l := l) fun x hx => h x (by simp [hx])
    exact ⟨d :: ks, rfl⟩
theorem of67 {n : Nat} {us : List Vx.U} (h : Vx.OfTy Tryz.prog n 67 us) : ∃ x : List q13, us = [.isl false (x.map q0f)] ∧ (x.length ≤ 9223372036854775807) := by
  cases n with
  | zero => exact h.elim
  | succ n =>
    simp only [Vx.OfTy, pu67] at h
    obtain ⟨l, hl, hlen, hall⟩ := h
    subst hl
    obtain ⟨ks, rfl⟩ := els67 hall
    exact ⟨ks, rfl, by simpa [maxLen] using hlen⟩
theorem of69 {n : Nat} {us : List Vx.U} (h : Vx.OfTy Tryz.prog n 69 us) : ∃ x : q02, us = q03 x ∧ ((x.Supers.length ≤ 9223372036854775807) ∧ (x.Feats.length ≤ 9223372036854775807)) := by
  cases n with
  | zero => exact h.elim
  | succ n =>
    simp only [Vx.OfTy, pu69, ce69] at h
    obtain ⟨hl, hf⟩ := h
    match us, hl with
    | [u0, u1, u2], _ =>
      simp only [List.mem_cons, List.not_mem_nil, or_false, forall_eq_or_imp, forall_eq, ce66, ce67, ce9, List.drop, List.take] at hf
      obtain ⟨h0, h1, h2⟩ := hf
      obtain ⟨a0, e0⟩ := of9 h0
      simp only [List.cons.injEq, and_true] at e0
      subst e0
      obtain ⟨a1, e1, k1⟩ := of66 h1
      simp only [List.cons.injEq, and_true] at e1
      subst e1
      obtain ⟨a2, e2, k2⟩ := of67 h2
      simp only [List.cons.injEq, and_true] at e2
      subst e2
      exact ⟨⟨a0, a1, a2⟩, rfl, ⟨k1, k2⟩⟩
theorem els22 {n : Nat} : ∀ {l : List (List Vx.U)}, (∀ c ∈ l, Vx.OfTy Tryz.prog n 69 c) → ∃ ks : List q02, l = ks.map q03 ∧ ∀ q ∈ ks, (q.Supers.length ≤ 9223372036854775807) ∧ (q.Feats.length ≤ 9223372036854775807)
  | [], _ => ⟨[], rfl, by simp⟩
  | c :: l, h => by
    obtain ⟨d, rfl, hk⟩ := of69 (h c (by simp))
    obtain ⟨ks, rfl, hks⟩ := els22 (l := l) fun x hx => h x (by simp [hx])
    exact ⟨d :: ks, rfl, by intro q hq; rcases List.mem_cons.1 hq with rfl | hq; exact hk; exact hks q hq⟩
theorem of22 {n : Nat} {us : List Vx.U} (h : Vx.OfTy Tryz.prog n 22 us) : ∃ x : List q02, us = [.isl false (x.map q03)] ∧ (x.length ≤ 9223372036854775807 ∧ ∀ q ∈ x, (q.Supers.length ≤ 9223372036854775807) ∧ (q.Feats.length ≤ 9223372036854775807)) := by
  cases n with
  | zero => exact h.elim
  | succ n =>
    simp only [Vx.OfTy, pu22] at h
    obtain ⟨l, hl, hlen, hall⟩ := h
    subst hl
    obtain ⟨ks, rfl, hks⟩ := els22 hall
    exact ⟨ks, rfl, by simpa [maxLen] using hlen, hks⟩
theorem of3 {n : Nat} {us : List Vx.U} (h : Vx.OfTy Tryz.prog n 3 us) : ∃ i, us = [.int .i64 i] := by
  cases n with
  | zero => exact h.elim
  | succ n => simp only [Vx.OfTy, pu3] at h; obtain ⟨i, rfl, _⟩ := h; exact ⟨i, rfl⟩
theorem of72 {n : Nat} {us : List Vx.U} (h : Vx.OfTy Tryz.prog n 72 us) : ∃ x : q0m, us = q08 x := by
  cases n with
  | zero => exact h.elim
  | succ n =>
    simp only [Vx.OfTy, pu72, ce72] at h
    obtain ⟨hl, hf⟩ := h
    match us, hl with
    | [u0, u1], _ =>
      simp only [List.mem_cons, List.not_mem_nil, or_false, forall_eq_or_imp, forall_eq, ce3, List.drop, List.take] at hf
      obtain ⟨h0, h1⟩ := hf
      obtain ⟨a0, e0⟩ := of3 h0
      simp only [List.cons.injEq, and_true] at e0
      subst e0
      obtain ⟨a1, e1⟩ := of3 h1
      simp only [List.cons.injEq, and_true] at e1
      subst e1
      exact ⟨⟨a0, a1⟩, rfl⟩
theorem els38 {n : Nat} : ∀ {l : List (List Vx.U)}, (∀ c ∈ l, Vx.OfTy Tryz.prog n 72 c) → ∃ ks : List q0m, l = ks.map q08
  | [], _ => ⟨[], rfl⟩
  | c :: l, h => by
    obtain ⟨d, rfl⟩ := of72 (h c (by simp))
    obtain ⟨ks, rfl⟩ := els38 (l := l) fun x hx => h x (by simp [hx])
    exact ⟨d :: ks, rfl⟩
theorem of38 {n : Nat} {us : List Vx.U} (h : Vx.OfTy Tryz.prog n 38 us) : ∃ x : List q0m, us = [.isl false (x.map q08)] ∧ (x.length ≤ 9223372036854775807) := by
  cases n with
  | zero => exact h.elim
  | succ n =>
    simp only [Vx.OfTy, pu38] at h
    obtain ⟨l, hl, hlen, hall⟩ := h
    subst hl
    obtain ⟨ks, rfl⟩ := els38 hall
    exact ⟨ks, rfl, by simpa [maxLen] using hlen⟩
theorem of40 {n : Nat} {us : List Vx.U} (h : Vx.OfTy Tryz.prog n 40 us) : ∃ x : q0d, us = q01 x ∧ ((x.Arcs.length ≤ 9223372036854775807)) := by
  cases n with
  | zero => exact h.elim
  | succ n =>
    simp only [Vx.OfTy, pu40, ce40] at h
    obtain ⟨hl, hf⟩ := h
    match us, hl with
    | [u0, u1], _ =>
      simp only [List.mem_cons, List.not_mem_nil, or_false, forall_eq_or_imp, forall_eq, ce3, ce38, List.drop, List.take] at hf
      obtain ⟨h0, h1⟩ := hf
      obtain ⟨a0, e0⟩ := of3 h0
      simp only [List.cons.injEq, and_true] at e0
      subst e0
      obtain ⟨a1, e1, k1⟩ := of38 h1
      simp only [List.cons.injEq, and_true] at e1
      subst e1
      exact ⟨⟨a0, a1⟩, rfl, k1⟩
theorem els23 {n : Nat} : ∀ {l : List (List Vx.U)}, (∀ c ∈ l, Vx.OfTy Tryz.prog n 40 c) → ∃ ks : List q0d, l = ks.map q01 ∧ ∀ q ∈ ks, (q.Arcs.length ≤ 9223372036854775807)
  | [], _ => ⟨[], rfl, by simp⟩
  | c :: l, h => by
    obtain ⟨d, rfl, hk⟩ := of40 (h c (by simp))
    obtain ⟨ks, rfl, hks⟩ := els23 (l := l) fun x hx => h x (by simp [hx])
    exact ⟨d :: ks, rfl, by intro q hq; rcases List.mem_cons.1 hq with rfl | hq; exact hk; exact hks q hq⟩
theorem of23 {n : Nat} {us : List Vx.U} (h : Vx.OfTy Tryz.prog n 23 us) : ∃ x : List q0d, us = [.isl false (x.map q01)] ∧ (x.length ≤ 9223372036854775807 ∧ ∀ q ∈ x, (q.Arcs.length ≤ 9223372036854775807)) := by
  cases n with
  | zero => exact h.elim
  | succ n =>
    simp only [Vx.OfTy, pu23] at h
    obtain ⟨l, hl, hlen, hall⟩ := h
    subst hl
    obtain ⟨ks, rfl, hks⟩ := els23 hall
    exact ⟨ks, rfl, by simpa [maxLen] using hlen, hks⟩
theorem of25 {n : Nat} {us : List Vx.U} (h : Vx.OfTy Tryz.prog n 25 us) : ∃ x : GFS, us = cGFS x ∧ ((x.Nodes.length ≤ 9223372036854775807 ∧ ∀ q ∈ x.Nodes, (q.Arcs.length ≤ 9223372036854775807))) := by
  cases n with
  | zero => exact h.elim
  | succ n =>
    simp only [Vx.OfTy, pu25, ce25] at h
    obtain ⟨hl, hf⟩ := h
    match us, hl with
    | [u0], _ =>
      simp only [List.mem_cons, List.not_mem_nil, or_false, forall_eq_or_imp, forall_eq, ce23, List.drop, List.take] at hf
      have h0 := hf
      obtain ⟨a0, e0, k0⟩ := of23 h0
      simp only [List.cons.injEq, and_true] at e0
      subst e0
      exact ⟨⟨a0⟩, rfl, k0⟩
theorem arg22 {u : Vx.U} (h : Vx.OfArg Tryz.prog 22 u) : ∃ x : List q02, u = .isl false (List.map q03 x) ∧ (x.length ≤ 9223372036854775807 ∧ ∀ q ∈ x, (q.Supers.length ≤ 9223372036854775807) ∧ (q.Feats.length ≤ 9223372036854775807)) := by
  obtain ⟨n, us, h1, h2⟩ := h
  simp only [pu22] at h2
  obtain ⟨x, rfl, hk⟩ := of22 h1
  exact ⟨x, by first | exact h2 | simpa using h2 | simpa using h2.symm, hk⟩
theorem arg25 {u : Vx.U} (h : Vx.OfArg Tryz.prog 25 u) : ∃ x : GFS, u = .agg (cGFS x) ∧ ((x.Nodes.length ≤ 9223372036854775807 ∧ ∀ q ∈ x.Nodes, (q.Arcs.length ≤ 9223372036854775807))) := by
  obtain ⟨n, us, h1, h2⟩ := h
  simp only [pu25] at h2
  subst h2
  obtain ⟨x, rfl, hk⟩ := of25 h1
  exact ⟨x, rfl, hk⟩
set_option maxRecDepth 100000 in
theorem lifted (os : Os) (started : os.Started) (H : Type) (enc : TypeId × Value → H) :
    ReturnsInHanded {} Tryz.checked os 3 .any (Rows.graphChecksSpec.pre6 enc Tryz.prog Tryz.f3 Rows.graphChecksRow.domain false) (Rows.graphChecksSpec.post enc Tryz.prog Tryz.f3 false true false false) := by
  refine returnsInHanded_of_change (C := Tryz.checked) own started (by kernel_rfl) Tryz.func3
    (ChangeSpec.witness6 (enc := enc) (C := Tryz.checked) false ⟨#[], #[.slice none 0 0, .agg #[.slice none 0 0]], []⟩ 3 (by kernel_rfl) (by kernel_rfl) (by kernel_rfl) (by kernel_rfl)) ?_
  intro W base args ds gs before hval0 hW hcnd _
  have hval : ∀ (j : Nat) t v, Tryz.f3.params[j]? = some t → args[j]? = some v → Value.okWide Tryz.prog W .any base t v := hval0
  have hW' := hW
  obtain ⟨p, q, hA0, hV, rfl, hfz, hnd⟩ := hW
  have hA : DataW.TrodAll enc Tryz.prog W 0 (fun _ => true) true Tryz.f3.params.toList args.toList ds p := hA0
  rw [Tryz.params3] at hA hval
  obtain ⟨us, k1, k2, k3⟩ := Vx.args_rep closed (by decide) (fun j t v h1 h2 => hval j t v (by simpa using h1) (by simpa using h2)) hA
  obtain ⟨v0, vs0, d0, ds0, p0, q0, hargs0, rfl, rfl, h0, r0⟩ := trodAll_cons hA
  obtain ⟨v1, vs1, d1, ds1, p1, q1, hargs1, rfl, rfl, h1, r1⟩ := trodAll_cons r0
  obtain ⟨rfl, rfl, rfl⟩ := trodAll_nil r1
  obtain ⟨rfl, rfl⟩ := trodVars_none hV
  simp only [Vx.OfArgs] at k3
  obtain ⟨u0, us0, rfl, m0, u1, us1, rfl, m1, rfl⟩ := k3
  obtain ⟨X0, rfl, H0⟩ := arg22 m0
  obtain ⟨X1, rfl, H1⟩ := arg25 m1
  clear hA0 hval0
  refine (Vx.law_calls ((qgb _ X0 X1 true (qu3 X0 X1 (Nat.le_refl _))).mono fun u s h => h.1) k1 k2).mono fun e W' ⟨he, hg⟩ => ?_
  subst he
  exact ⟨_, rfl, Rx.law_post hW' laid (by kernel_rfl) hg rfl rfl Tryz.underlying4 rfl rfl rfl⟩
theorem over : Rows.graphChecksRow.holds Tryz.pinned (OpenSpec.ofChange Rows.graphChecksSpec) :=
  OpenClaim.holds_of_wide 3 Tryz.f3 rfl rfl rfl rfl rfl rfl rfl ⟨rfl, rfl, rfl, rfl, rfl⟩ rfl rfl rfl rfl rfl (by kernel_rfl) Tryz.func3 (by kernel_rfl)
    (of_decide_eq_true (by kernel_rfl)) (by unfold Func.isWrapper; first | (rw [if_pos (by decide +kernel)]; kernel_rfl) | (rw [if_neg (by decide +kernel)]; exact ⟨rfl, rfl⟩))
    (fun os started H enc _ => lifted os started H enc)
theorem proved : Rows.GraphChecksSaid :=
  over
#print axioms proved
end Go.Proofs.YtdpffcolmflpjaaGreat.graphChecks
