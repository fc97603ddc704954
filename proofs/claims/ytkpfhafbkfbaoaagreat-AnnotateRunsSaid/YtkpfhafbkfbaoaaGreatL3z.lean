/-
  AnnotateRuns, proved as it is said: whatever the input, the law returns true, and what it was handed reads as it did.
  The frame of the row's step is the guide's template; the walk was printed by a program (wip/gw), the plain law is told by the texts beside it.
-/
import Derived.Test.YtkpfhafbkfbaoaaGreatRows
import Derived.WalkKit
import Derived.ProofKit
import Derived.OpenShut
import Derived.Test.YtkpfhafbkfbaoaaGreatP16
namespace Go.Proofs.YtkpfhafbkfbaoaaGreat.annotateRuns
open Go.ChangeShapes Go.WideShapes Go.ChangeAt Go.RowKit
set_option linter.unusedVariables false
set_option linter.unusedSimpArgs false
set_option maxRecDepth 20000

theorem own : ownKnob Tryz.prog.godebug = none := by kernel_rfl
theorem laid : laidOutB Tryz.prog = true := by kernel_rfl
theorem pu22 : Tryz.prog.underlying 22 = some (.slice 43) := by kernel_rfl
theorem ce22 : Tryz.prog.cellsOf 22 = 1 := by kernel_rfl
theorem pu43 : Tryz.prog.underlying 43 = some (.struct #[⟨ "Kind", 3, 0, false, "", "", 0⟩, ⟨ "Name", 9, 1, false, "", "", 8⟩, ⟨ "From", 3, 2, false, "", "", 24⟩, ⟨ "To", 3, 3, false, "", "", 32⟩, ⟨ "Kids", 22, 4, false, "", "", 40⟩]) := by kernel_rfl
theorem ce43 : Tryz.prog.cellsOf 43 = 5 := by kernel_rfl
theorem pu3 : Tryz.prog.underlying 3 = some (.int .i64) := by kernel_rfl
theorem ce3 : Tryz.prog.cellsOf 3 = 1 := by kernel_rfl
theorem pu9 : Tryz.prog.underlying 9 = some (.string) := by kernel_rfl
theorem ce9 : Tryz.prog.cellsOf 9 = 1 := by kernel_rfl
theorem pu23 : Tryz.prog.underlying 23 = some (.slice 35) := by kernel_rfl
theorem ce23 : Tryz.prog.cellsOf 23 = 1 := by kernel_rfl
theorem pu35 : Tryz.prog.underlying 35 = some (.struct #[⟨ "Op", 5, 0, false, "", "", 0⟩, ⟨ "Prop", 33, 1, false, "", "", 8⟩, ⟨ "Yes", 4, 5, false, "", "", 48⟩]) := by kernel_rfl
theorem ce35 : Tryz.prog.cellsOf 35 = 6 := by kernel_rfl
theorem pu5 : Tryz.prog.underlying 5 = some (.int .u8) := by kernel_rfl
theorem ce5 : Tryz.prog.cellsOf 5 = 1 := by kernel_rfl
theorem pu33 : Tryz.prog.underlying 33 = some (.struct #[⟨ "Kind", 3, 0, false, "", "", 0⟩, ⟨ "Name", 9, 1, false, "", "", 8⟩, ⟨ "From", 3, 2, false, "", "", 24⟩, ⟨ "To", 3, 3, false, "", "", 32⟩]) := by kernel_rfl
theorem ce33 : Tryz.prog.cellsOf 33 = 4 := by kernel_rfl
theorem pu4 : Tryz.prog.underlying 4 = some (.bool) := by kernel_rfl
theorem ce4 : Tryz.prog.cellsOf 4 = 1 := by kernel_rfl
theorem closed : Vx.closedTS Tryz.prog [22, 43, 3, 9, 23, 35, 5, 33, 4] = true := by kernel_rfl
theorem of3 {n : Nat} {us : List Vx.U} (h : Vx.OfTy Tryz.prog n 3 us) : ∃ i, us = [.int .i64 i] := by
  cases n with
  | zero => exact h.elim
  | succ n => simp only [Vx.OfTy, pu3] at h; obtain ⟨i, rfl, _⟩ := h; exact ⟨i, rfl⟩
theorem of9 {n : Nat} {us : List Vx.U} (h : Vx.OfTy Tryz.prog n 9 us) : ∃ s, us = [.str s] := by
  cases n with
  | zero => exact h.elim
  | succ n => simp only [Vx.OfTy, pu9] at h; obtain ⟨i, rfl, _⟩ := h; exact ⟨i, rfl⟩
theorem kids_of {n : Nat} (hd : ∀ us, Vx.OfTy Tryz.prog n 43 us → ∃ d, us = cGDeriv d ∧ okG d) : ∀ {l : List (List Vx.U)}, (∀ c ∈ l, Vx.OfTy Tryz.prog n 43 c) → ∃ ks : List GDeriv, l = ks.map cGDeriv ∧ okGs ks
  | [], _ => ⟨[], rfl, by simp [okGs]⟩
  | c :: l, h => by
    obtain ⟨d, rfl, hk⟩ := hd c (h c (by simp))
    obtain ⟨ks, rfl, hks⟩ := kids_of hd (l := l) fun x hx => h x (by simp [hx])
    exact ⟨d :: ks, rfl, by simp only [okGs]; exact ⟨hk, hks⟩⟩
theorem rec_of : ∀ (s n : Nat), n < s → ∀ us, Vx.OfTy Tryz.prog n 43 us → ∃ d, us = cGDeriv d ∧ okG d
  | 0, n, hs, _, _ => by omega
  | s + 1, n, hs, us, h => by
    cases n with
    | zero => exact h.elim
    | succ n =>
      simp only [Vx.OfTy, pu43, ce43] at h
      obtain ⟨hl, hf⟩ := h
      match us, hl with
      | [u0, u1, u2, u3, u4], _ =>
        simp only [List.mem_cons, List.not_mem_nil, or_false, forall_eq_or_imp, forall_eq, ce22, ce3, ce9, List.drop, List.take] at hf
        obtain ⟨h0, h1, h2, h3, h4⟩ := hf
        obtain ⟨a0, e0⟩ := of3 h0
        obtain ⟨a1, e1⟩ := of9 h1
        obtain ⟨a2, e2⟩ := of3 h2
        obtain ⟨a3, e3⟩ := of3 h3
        simp only [List.cons.injEq, and_true] at e0 e1 e2 e3
        subst e0 e1 e2 e3
        cases n with
        | zero => exact h4.elim
        | succ n =>
          simp only [Vx.OfTy, pu22] at h4
          obtain ⟨l, hl, hlen, hall⟩ := h4
          simp only [List.cons.injEq, and_true] at hl
          subst hl
          obtain ⟨ks, rfl, hks⟩ := kids_of (fun us h => rec_of s n (by omega) us h) hall
          refine ⟨.mk a0 a1 a2 a3 ks, by rw [q0m]; rfl, ?_⟩
          simp only [okG]
          exact ⟨by simpa [maxLen] using hlen, hks⟩
theorem of43 {n : Nat} {us : List Vx.U} (h : Vx.OfTy Tryz.prog n 43 us) : ∃ d : GDeriv, us = cGDeriv d ∧ okG d := rec_of _ n (Nat.lt_succ_self _) us h
theorem of22 {n : Nat} {us : List Vx.U} (h : Vx.OfTy Tryz.prog n 22 us) : ∃ x : List GDeriv, us = [.isl false (x.map cGDeriv)] ∧ (x.length ≤ 9223372036854775807 ∧ okGs x) := by
  cases n with
  | zero => exact h.elim
  | succ n =>
    simp only [Vx.OfTy, pu22] at h
    obtain ⟨l, hl, hlen, hall⟩ := h
    subst hl
    obtain ⟨ks, rfl, hks⟩ := kids_of (fun us h => of43 h) hall
    exact ⟨ks, rfl, by simpa [maxLen] using hlen, hks⟩
theorem of5 {n : Nat} {us : List Vx.U} (h : Vx.OfTy Tryz.prog n 5 us) : ∃ i, us = [.int .u8 i] ∧ (0 ≤ i ∧ i ≤ 255) := by
  cases n with
  | zero => exact h.elim
  | succ n => simp only [Vx.OfTy, pu5] at h; obtain ⟨i, rfl, hw⟩ := h; exact ⟨i, rfl, by simpa [Lit.wf, IntKind.min, IntKind.max, IntKind.bits, IntKind.signed] using hw⟩
theorem of33 {n : Nat} {us : List Vx.U} (h : Vx.OfTy Tryz.prog n 33 us) : ∃ x : GProp, us = cGProp x := by
  cases n with
  | zero => exact h.elim
  | succ n =>
    simp only [Vx.OfTy, pu33, ce33] at h
    obtain ⟨hl, hf⟩ := h
    match us, hl with
    | [u0, u1, u2, u3], _ =>
      simp only [List.mem_cons, List.not_mem_nil, or_false, forall_eq_or_imp, forall_eq, ce3, ce9, List.drop, List.take] at hf
      obtain ⟨h0, h1, h2, h3⟩ := hf
      obtain ⟨a0, e0⟩ := of3 h0
      simp only [List.cons.injEq, and_true] at e0
      subst e0
      obtain ⟨a1, e1⟩ := of9 h1
      simp only [List.cons.injEq, and_true] at e1
      subst e1
      obtain ⟨a2, e2⟩ := of3 h2
      simp only [List.cons.injEq, and_true] at e2
      subst e2
      obtain ⟨a3, e3⟩ := of3 h3
      simp only [List.cons.injEq, and_true] at e3
      subst e3
      exact ⟨⟨a0, a1, a2, a3⟩, rfl⟩
theorem of4 {n : Nat} {us : List Vx.U} (h : Vx.OfTy Tryz.prog n 4 us) : ∃ s, us = [.bool s] := by
  cases n with
  | zero => exact h.elim
  | succ n => simp only [Vx.OfTy, pu4] at h; obtain ⟨i, rfl⟩ := h; exact ⟨i, rfl⟩
theorem of35 {n : Nat} {us : List Vx.U} (h : Vx.OfTy Tryz.prog n 35 us) : ∃ x : GStep, us = cGStep x ∧ ((0 ≤ x.Op ∧ x.Op ≤ 255)) := by
  cases n with
  | zero => exact h.elim
  | succ n =>
    simp only [Vx.OfTy, pu35, ce35] at h
    obtain ⟨hl, hf⟩ := h
    match us, hl with
    | [u0, u1, u2, u3, u4, u5], _ =>
      simp only [List.mem_cons, List.not_mem_nil, or_false, forall_eq_or_imp, forall_eq, ce33, ce4, ce5, List.drop, List.take] at hf
      obtain ⟨h0, h1, h2⟩ := hf
      obtain ⟨a0, e0, k0⟩ := of5 h0
      simp only [List.cons.injEq, and_true] at e0
      subst e0
      obtain ⟨a1, e1⟩ := of33 h1
      simp only [cGProp, List.cons.injEq, and_true] at e1
      obtain ⟨rfl, rfl, rfl, rfl⟩ := e1
      obtain ⟨a2, e2⟩ := of4 h2
      simp only [List.cons.injEq, and_true] at e2
      subst e2
      exact ⟨⟨a0, a1, a2⟩, rfl, k0⟩
theorem els23 {n : Nat} : ∀ {l : List (List Vx.U)}, (∀ c ∈ l, Vx.OfTy Tryz.prog n 35 c) → ∃ ks : List GStep, l = ks.map cGStep ∧ ∀ q ∈ ks, (0 ≤ q.Op ∧ q.Op ≤ 255)
  | [], _ => ⟨[], rfl, by simp⟩
  | c :: l, h => by
    obtain ⟨d, rfl, hk⟩ := of35 (h c (by simp))
    obtain ⟨ks, rfl, hks⟩ := els23 (l := l) fun x hx => h x (by simp [hx])
    exact ⟨d :: ks, rfl, by intro q hq; rcases List.mem_cons.1 hq with rfl | hq; exact hk; exact hks q hq⟩
theorem of23 {n : Nat} {us : List Vx.U} (h : Vx.OfTy Tryz.prog n 23 us) : ∃ x : List GStep, us = [.isl false (x.map cGStep)] ∧ (x.length ≤ 9223372036854775807 ∧ ∀ q ∈ x, (0 ≤ q.Op ∧ q.Op ≤ 255)) := by
  cases n with
  | zero => exact h.elim
  | succ n =>
    simp only [Vx.OfTy, pu23] at h
    obtain ⟨l, hl, hlen, hall⟩ := h
    subst hl
    obtain ⟨ks, rfl, hks⟩ := els23 hall
    exact ⟨ks, rfl, by simpa [maxLen] using hlen, hks⟩
theorem arg22 {u : Vx.U} (h : Vx.OfArg Tryz.prog 22 u) : ∃ x : List GDeriv, u = .isl false (List.map cGDeriv x) ∧ (x.length ≤ 9223372036854775807 ∧ okGs x) := by
  obtain ⟨n, us, h1, h2⟩ := h
  simp only [pu22] at h2
  obtain ⟨x, rfl, hk⟩ := of22 h1
  exact ⟨x, by first | exact h2 | simpa using h2 | simpa using h2.symm, hk⟩
theorem arg23 {u : Vx.U} (h : Vx.OfArg Tryz.prog 23 u) : ∃ x : List GStep, u = .isl false (List.map cGStep x) ∧ (x.length ≤ 9223372036854775807 ∧ ∀ q ∈ x, (0 ≤ q.Op ∧ q.Op ≤ 255)) := by
  obtain ⟨n, us, h1, h2⟩ := h
  simp only [pu23] at h2
  obtain ⟨x, rfl, hk⟩ := of23 h1
  exact ⟨x, by first | exact h2 | simpa using h2 | simpa using h2.symm, hk⟩
set_option maxRecDepth 100000 in
theorem lifted (os : Os) (started : os.Started) (H : Type) (enc : TypeId × Value → H) :
    ReturnsInHanded {} Tryz.checked os 3 .any (Rows.annotateRunsSpec.pre6 enc Tryz.prog Tryz.f3 Rows.annotateRunsRow.domain false) (Rows.annotateRunsSpec.post enc Tryz.prog Tryz.f3 false true false false) := by
  refine returnsInHanded_of_change (C := Tryz.checked) own started (by kernel_rfl) Tryz.func3
    (ChangeSpec.witness6 (enc := enc) (C := Tryz.checked) false ⟨#[], #[.slice none 0 0, .slice none 0 0], []⟩ 3 (by kernel_rfl) (by kernel_rfl) (by kernel_rfl) (by kernel_rfl)) ?_
  intro W base args ds gs before hval0 hW hcnd _
  have hval : ∀ (j : Nat) t v, Tryz.f3.params[j]? = some t → args[j]? = some v → Value.okWide Tryz.prog W .any base t v := hval0
  have hW' := hW
  obtain ⟨p, q, hA0, hV, rfl, hfz, hnd⟩ := hW
  have hA : DataW.TrodAll enc Tryz.prog W 0 (fun _ => true) true Tryz.f3.params.toList args.toList ds p := hA0
  rw [Tryz.params3] at hA hval
  obtain ⟨us, k1, k2, k3⟩ := Vx.args_rep closed (by decide) (fun j t v h1 h2 => hval j t v (by simpa using h1) (by simpa using h2)) hA
  obtain ⟨v0, vs0, d0, ds0, p0, q0, hargs0, rfl, rfl, h0, r0⟩ := trodAll_cons hA
  obtain ⟨v1, vs1, d1, ds1, p1, q1, hargs1, rfl, rfl, h1, r1⟩ := trodAll_cons r0
  obtain ⟨rfl, rfl, rfl⟩ := trodAll_nil r1
  obtain ⟨rfl, rfl⟩ := trodVars_none hV
  simp only [Vx.OfArgs] at k3
  obtain ⟨u0, us0, rfl, m0, u1, us1, rfl, m1, rfl⟩ := k3
  obtain ⟨X0, rfl, H0⟩ := arg22 m0
  obtain ⟨X1, rfl, H1⟩ := arg23 m1
  clear hA0 hval0
  refine (Vx.law_calls ((qcx _ X0 X1 true (runs_law H0.1 H0.2 X1 (Nat.le_refl _))).mono fun u s h => h.1) k1 k2).mono fun e W' ⟨he, hg⟩ => ?_
  subst he
  exact ⟨_, rfl, Rx.law_post hW' laid (by kernel_rfl) hg rfl rfl Tryz.underlying4 rfl rfl rfl⟩
theorem over : Rows.annotateRunsRow.holds Tryz.pinned (OpenSpec.ofChange Rows.annotateRunsSpec) :=
  OpenClaim.holds_of_wide 3 Tryz.f3 rfl rfl rfl rfl rfl rfl rfl ⟨rfl, rfl, rfl, rfl, rfl⟩ rfl rfl rfl rfl rfl (by kernel_rfl) Tryz.func3 (by kernel_rfl)
    (of_decide_eq_true (by kernel_rfl)) (by unfold Func.isWrapper; first | (rw [if_pos (by decide +kernel)]; kernel_rfl) | (rw [if_neg (by decide +kernel)]; exact ⟨rfl, rfl⟩))
    (fun os started H enc _ => lifted os started H enc)
theorem proved : Rows.AnnotateRunsSaid :=
  over
#print axioms proved
end Go.Proofs.YtkpfhafbkfbaoaaGreat.annotateRuns
