/-
  EvaluateSums, proved as it is said: whatever the input, the law returns true, and what it was handed reads as it did.
  The frame of the row's step is the guide's template, by proof-skeleton.mjs; the walk is 'sums0'.
-/
import Derived.Test.YtcanbnholmlapaaRows
import Derived.WalkKit
import Derived.ProofKit
import Derived.OpenShut
import Derived.Test.YtcanbnholmlapaaRxQ
import Derived.Test.YtcanbnholmlapaaSumB
namespace Go.Proofs.Ytcanbnholmlapaa.evaluateSums
open Go.ChangeShapes Go.WideShapes Go.ChangeAt Go.RowKit
set_option linter.unusedVariables false

theorem own : ownKnob Try.prog.godebug = none := by kernel_rfl
theorem laid : laidOutB Try.prog = true := by kernel_rfl
theorem pu3 : Try.prog.underlying 3 = some (.int .i64) := by kernel_rfl
theorem pu5 : Try.prog.underlying 5 = some (.int .u8) := by kernel_rfl
theorem pu38 : Try.prog.underlying 38 = some (.slice 32) := by kernel_rfl
theorem pu32 : Try.prog.underlying 32 = some (.struct #[⟨ "Items", 3, 0, false, "", "", 0⟩, ⟨ "Exact", 3, 1, false, "", "", 8⟩, ⟨ "Gold", 3, 2, false, "", "", 16⟩, ⟨ "Test", 3, 3, false, "", "", 24⟩, ⟨ "Match", 3, 4, false, "", "", 32⟩, ⟨ "Crossing", 3, 5, false, "", "", 40⟩]) := by kernel_rfl
theorem ce3 : Try.prog.cellsOf 3 = 1 := by kernel_rfl
theorem ce32 : Try.prog.cellsOf 32 = 6 := by kernel_rfl
theorem closed : Vx.closedTS Try.prog [38, 32, 3, 5] = true := by kernel_rfl
theorem int_of {n : Nat} {us : List Vx.U} (h : Vx.OfTy Try.prog n 3 us) : ∃ i, us = [.int .i64 i] := by
  cases n with
  | zero => exact h.elim
  | succ n => simp only [Vx.OfTy, pu3] at h; obtain ⟨i, rfl, _⟩ := h; exact ⟨i, rfl⟩
theorem met_of {n : Nat} {us : List Vx.U} (h : Vx.OfTy Try.prog n 32 us) : ∃ m : Met, us = encM m := by
  cases n with
  | zero => exact h.elim
  | succ n =>
    simp only [Vx.OfTy, pu32, ce32] at h
    obtain ⟨hl, hf⟩ := h
    match us, hl with
    | [u0, u1, u2, u3, u4, u5], _ =>
      simp only [List.mem_cons, List.not_mem_nil, or_false, forall_eq_or_imp, forall_eq, ce3, List.drop, List.take] at hf
      obtain ⟨h0, h1, h2, h3, h4, h5⟩ := hf
      obtain ⟨a, ha⟩ := int_of h0
      obtain ⟨b, hb⟩ := int_of h1
      obtain ⟨c, hc⟩ := int_of h2
      obtain ⟨d, hd⟩ := int_of h3
      obtain ⟨e, he⟩ := int_of h4
      obtain ⟨f, hf⟩ := int_of h5
      simp only [List.cons.injEq, and_true] at ha hb hc hd he hf
      subst ha hb hc hd he hf
      exact ⟨⟨a, b, c, d, e, f⟩, rfl⟩
theorem mets_of {n : Nat} : ∀ {l : List (List Vx.U)}, (∀ c ∈ l, Vx.OfTy Try.prog n 32 c) → ∃ xs : List Met, l = xs.map encM
  | [], _ => ⟨[], rfl⟩
  | c :: l, h => by
    obtain ⟨m, rfl⟩ := met_of (h c (by simp))
    obtain ⟨xs, rfl⟩ := mets_of (l := l) fun d hd => h d (by simp [hd])
    exact ⟨m :: xs, rfl⟩
theorem args_of {us : List Vx.U} (h : Vx.OfArgs Try.prog [38, 5] us) : ∃ (xs : List Met) (k : Int), us = [.isl false (xs.map encM), .int .u8 k] ∧ xs.length ≤ 9223372036854775807 ∧ 0 ≤ k ∧ k ≤ 255 := by
  simp only [Vx.OfArgs] at h
  obtain ⟨u, us', rfl, ⟨n, cs, h1, h2⟩, v, us'', rfl, ⟨n', bs, h3, h4⟩, rfl⟩ := h
  simp only [pu38] at h2
  subst h2
  simp only [pu5] at h4
  subst h4
  cases n with
  | zero => exact h1.elim
  | succ n =>
    cases n' with
    | zero => exact h3.elim
    | succ n' =>
      simp only [Vx.OfTy, pu38] at h1
      simp only [Vx.OfTy, pu5] at h3
      obtain ⟨l, hl, hlen, hall⟩ := h1
      obtain ⟨i, hi, hw⟩ := h3
      obtain ⟨xs, rfl⟩ := mets_of hall
      simp only [List.cons.injEq, and_true] at hl hi
      subst hl hi
      have e1 : IntKind.u8.min = 0 := by decide
      have e2 : IntKind.u8.max = 255 := by decide
      simp only [Lit.wf, Bool.and_eq_true, decide_eq_true_eq, e1, e2] at hw
      exact ⟨xs, i, rfl, by simpa [maxLen] using hlen, hw.1, hw.2⟩

set_option maxRecDepth 100000 in
theorem lifted (os : Os) (started : os.Started) (H : Type) (enc : TypeId × Value → H) :
    ReturnsInHanded {} Try.checked os 5 .any (Rows.evaluateSumsSpec.pre6 enc Try.prog Try.f5 Rows.evaluateSumsRow.domain false) (Rows.evaluateSumsSpec.post enc Try.prog Try.f5 false true false false) := by
  refine returnsInHanded_of_change (C := Try.checked) own started (by kernel_rfl) Try.func5
    (ChangeSpec.witness6 (enc := enc) (C := Try.checked) false ⟨#[], #[.slice none 0 0, .int .u8 0], []⟩ 8 (by kernel_rfl) (by kernel_rfl) (by kernel_rfl) (by kernel_rfl)) ?_
  intro W base args ds gs before hval0 hW hcnd _
  have hval : ∀ (j : Nat) t v, Try.f5.params[j]? = some t → args[j]? = some v → Value.okWide Try.prog W .any base t v := hval0
  have hW' := hW
  obtain ⟨p, q, hA0, hV, rfl, hfz, hnd⟩ := hW
  have hA : DataW.TrodAll enc Try.prog W 0 (fun _ => true) true Try.f5.params.toList args.toList ds p := hA0
  rw [Try.params5] at hA hval
  obtain ⟨us, k1, k2, k3⟩ := Vx.args_rep closed (by decide) (fun j t v h1 h2 => hval j t v (by simpa using h1) (by simpa using h2)) hA
  obtain ⟨v0, vs0, d0, ds0, p0, q0, hargs, rfl, rfl, h0, r0⟩ := trodAll_cons hA
  obtain ⟨v1, vs1, d1, ds1, p1, q1, rfl, rfl, rfl, h1, r1⟩ := trodAll_cons r0
  obtain ⟨rfl, rfl, rfl⟩ := trodAll_nil r1
  obtain rfl : args = #[v0, v1] := by cases args; simp_all
  obtain ⟨rfl, rfl⟩ := trodVars_none hV
  obtain ⟨xs, k, rfl, hlen, hk1, hk2⟩ := args_of k3
  clear hA0 hval0
  refine (Vx.law_calls (sums0 xs k ⟨hk1, hk2⟩ hlen) k1 k2).mono fun e W' ⟨he, hg⟩ => ?_
  subst he
  exact ⟨_, rfl, Rx.law_post hW' laid (by kernel_rfl) hg rfl rfl Try.underlying4 rfl rfl rfl⟩

theorem over : Rows.evaluateSumsRow.holds Try.pinned (OpenSpec.ofChange Rows.evaluateSumsSpec) :=
  OpenClaim.holds_of_wide 5 Try.f5 rfl rfl rfl rfl rfl rfl rfl ⟨rfl, rfl, rfl, rfl, rfl⟩ rfl rfl rfl rfl rfl (by kernel_rfl) Try.func5 (by kernel_rfl)
    (of_decide_eq_true (by kernel_rfl)) (by unfold Func.isWrapper; first | (rw [if_pos (by decide +kernel)]; kernel_rfl) | (rw [if_neg (by decide +kernel)]; exact ⟨rfl, rfl⟩))
    (fun os started H enc _ => lifted os started H enc)

theorem proved : Rows.EvaluateSumsSaid :=
  over
#print axioms proved
end Go.Proofs.Ytcanbnholmlapaa.evaluateSums
