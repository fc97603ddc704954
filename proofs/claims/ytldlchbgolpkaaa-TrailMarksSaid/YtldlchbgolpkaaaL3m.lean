/-
  TrailMarks, proved as it is said: whatever the input, the law returns true, and what it was handed reads as it did.
  The frame of the row's step is the guide's template; the walk was printed by a program (wip/gw), the plain law is told by the texts beside it.
-/
import Derived.Test.YtldlchbgolpkaaaRows
import Derived.WalkKit
import Derived.ProofKit
import Derived.OpenShut
import Derived.Test.YtldlchbgolpkaaaP15
namespace Go.Proofs.Ytldlchbgolpkaaa.trailMarks
open Go.ChangeShapes Go.WideShapes Go.ChangeAt Go.RowKit
set_option linter.unusedVariables false
set_option linter.unusedSimpArgs false
set_option maxRecDepth 20000

theorem own : ownKnob Try.prog.godebug = none := by kernel_rfl
theorem laid : laidOutB Try.prog = true := by kernel_rfl
theorem pu22 : Try.prog.underlying 22 = some (.slice 3) := by kernel_rfl
theorem ce22 : Try.prog.cellsOf 22 = 1 := by kernel_rfl
theorem pu3 : Try.prog.underlying 3 = some (.int .i64) := by kernel_rfl
theorem ce3 : Try.prog.cellsOf 3 = 1 := by kernel_rfl
theorem closed : Vx.closedTS Try.prog [22, 3] = true := by kernel_rfl
theorem of3 {n : Nat} {us : List Vx.U} (h : Vx.OfTy Try.prog n 3 us) : ∃ i, us = [.int .i64 i] := by
  cases n with
  | zero => exact h.elim
  | succ n => simp only [Vx.OfTy, pu3] at h; obtain ⟨i, rfl, _⟩ := h; exact ⟨i, rfl⟩
theorem els22 {n : Nat} : ∀ {l : List (List Vx.U)}, (∀ c ∈ l, Vx.OfTy Try.prog n 3 c) → ∃ ks : List Int, l = ks.map (Vx.cI .i64)
  | [], _ => ⟨[], rfl⟩
  | c :: l, h => by
    obtain ⟨d, rfl⟩ := of3 (h c (by simp))
    obtain ⟨ks, rfl⟩ := els22 (l := l) fun x hx => h x (by simp [hx])
    exact ⟨d :: ks, rfl⟩
theorem of22 {n : Nat} {us : List Vx.U} (h : Vx.OfTy Try.prog n 22 us) : ∃ x : List Int, us = [.isl false (x.map (Vx.cI .i64))] ∧ (x.length ≤ 9223372036854775807) := by
  cases n with
  | zero => exact h.elim
  | succ n =>
    simp only [Vx.OfTy, pu22] at h
    obtain ⟨l, hl, hlen, hall⟩ := h
    subst hl
    obtain ⟨ks, rfl⟩ := els22 hall
    exact ⟨ks, rfl, by simpa [maxLen] using hlen⟩
theorem arg22 {u : Vx.U} (h : Vx.OfArg Try.prog 22 u) : ∃ x : List Int, u = .isl false (List.map (Vx.cI .i64) x) ∧ (x.length ≤ 9223372036854775807) := by
  obtain ⟨n, us, h1, h2⟩ := h
  simp only [pu22] at h2
  obtain ⟨x, rfl, hk⟩ := of22 h1
  exact ⟨x, by first | exact h2 | simpa using h2 | simpa using h2.symm, hk⟩
set_option maxRecDepth 100000 in
theorem lifted (os : Os) (started : os.Started) (H : Type) (enc : TypeId × Value → H) :
    ReturnsInHanded {} Try.checked os 3 .any (Rows.trailMarksSpec.pre6 enc Try.prog Try.f3 Rows.trailMarksRow.domain false) (Rows.trailMarksSpec.post enc Try.prog Try.f3 false true false false) := by
  refine returnsInHanded_of_change (C := Try.checked) own started (by kernel_rfl) Try.func3
    (ChangeSpec.witness6 (enc := enc) (C := Try.checked) false ⟨#[], #[.slice none 0 0], []⟩ 3 (by kernel_rfl) (by kernel_rfl) (by kernel_rfl) (by kernel_rfl)) ?_
  intro W base args ds gs before hval0 hW hcnd _
  have hval : ∀ (j : Nat) t v, Try.f3.params[j]? = some t → args[j]? = some v → Value.okWide Try.prog W .any base t v := hval0
  have hW' := hW
  obtain ⟨p, q, hA0, hV, rfl, hfz, hnd⟩ := hW
  have hA : DataW.TrodAll enc Try.prog W 0 (fun _ => true) true Try.f3.params.toList args.toList ds p := hA0
  rw [Try.params3] at hA hval
  obtain ⟨us, k1, k2, k3⟩ := Vx.args_rep closed (by decide) (fun j t v h1 h2 => hval j t v (by simpa using h1) (by simpa using h2)) hA
  obtain ⟨v0, vs0, d0, ds0, p0, q0, hargs0, rfl, rfl, h0, r0⟩ := trodAll_cons hA
  obtain ⟨rfl, rfl, rfl⟩ := trodAll_nil r0
  obtain ⟨rfl, rfl⟩ := trodVars_none hV
  simp only [Vx.OfArgs] at k3
  obtain ⟨u0, us0, rfl, m0, rfl⟩ := k3
  obtain ⟨X0, rfl, H0⟩ := arg22 m0
  clear hA0 hval0
  refine (Vx.law_calls ((law12_TrailMarks_0 _ X0 true (marks_law X0)).mono fun u s h => h.1) k1 k2).mono fun e W' ⟨he, hg⟩ => ?_
  subst he
  exact ⟨_, rfl, Rx.law_post hW' laid (by kernel_rfl) hg rfl rfl Try.underlying4 rfl rfl rfl⟩
theorem over : Rows.trailMarksRow.holds Try.pinned (OpenSpec.ofChange Rows.trailMarksSpec) :=
  OpenClaim.holds_of_wide 3 Try.f3 rfl rfl rfl rfl rfl rfl rfl ⟨rfl, rfl, rfl, rfl, rfl⟩ rfl rfl rfl rfl rfl (by kernel_rfl) Try.func3 (by kernel_rfl)
    (of_decide_eq_true (by kernel_rfl)) (by unfold Func.isWrapper; first | (rw [if_pos (by decide +kernel)]; kernel_rfl) | (rw [if_neg (by decide +kernel)]; exact ⟨rfl, rfl⟩))
    (fun os started H enc _ => lifted os started H enc)
theorem proved : Rows.TrailMarksSaid :=
  over
#print axioms proved
end Go.Proofs.Ytldlchbgolpkaaa.trailMarks
