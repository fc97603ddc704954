/-
  The row's step of EvaluateLowest. The frame is the guide's template, by proof-skeleton.mjs; the walk is in Low.
-/
import Derived.Test.YtcanbnholmlapaaRows
import Derived.WalkKit
import Derived.ProofKit
import Derived.OpenShut
import Derived.Test.YtcanbnholmlapaaRxQ
import Derived.Test.YtcanbnholmlapaaLow
namespace Go.Proofs.Ytcanbnholmlapaa.evaluateLowest
open Go.ChangeShapes Go.WideShapes Go.ChangeAt Go.RowKit
set_option linter.unusedVariables false      -- a walk need not use every 'w<i>' (that an integer argument fits its kind)

theorem own : ownKnob Try.prog.godebug = none := by kernel_rfl

theorem laid : laidOutB Try.prog = true := by kernel_rfl

theorem walk (a0 a1 a2 : Int) (w0 : (Lit.int .i32 a0).wf = true) (w1 : (Lit.int .i32 a1).wf = true) (w2 : (Lit.int .i16 a2).wf = true) (w : World) :
    Calls Try.prog 7 #[.int .i32 a0, .int .i32 a1, .int .i16 a2] w fun e w' => e = .returned (.bool true) ∧ Below w.heap.size w w' := by
  have e1 : IntKind.i32.min = -2147483648 := by decide
  have e2 : IntKind.i32.max = 2147483647 := by decide
  have e3 : IntKind.i16.min = -32768 := by decide
  have e4 : IntKind.i16.max = 32767 := by decide
  simp only [Lit.wf, Bool.and_eq_true, decide_eq_true_eq, e1, e2, e3, e4] at w0 w1 w2
  by_cases h0 : a1 = 0
  · exact Rx.Ev.closed (law7_zero a0 a1 a2 h0 w0.1 w0.2 w1.1 w1.2 w2.1 w2.2) (fun _ => by simp [Rx.renL, Rx.ren]) (fun _ => by simp [Rx.ren]) w
  · by_cases hf : a2 = 0
    · exact Rx.Ev.closed (law7_f0 a0 a1 a2 h0 hf w0.1 w0.2 w1.1 w1.2 w2.1 w2.2) (fun _ => by simp [Rx.renL, Rx.ren]) (fun _ => by simp [Rx.ren]) w
    · exact Rx.Ev.closed (law7_f1 a0 a1 a2 h0 hf w0.1 w0.2 w1.1 w1.2 w2.1 w2.2) (fun _ => by simp [Rx.renL, Rx.ren]) (fun _ => by simp [Rx.ren]) w

/-! ### THE ROW's STEP: WRITTEN OUT: LEAVE IT -/
set_option maxRecDepth 100000 in
theorem lifted (os : Os) (started : os.Started) (H : Type) (enc : TypeId × Value → H) :
    ReturnsInHanded {} Try.checked os 7 .any (Rows.evaluateLowestSpec.pre6 enc Try.prog Try.f7 Rows.evaluateLowestRow.domain false) (Rows.evaluateLowestSpec.post enc Try.prog Try.f7 false true false false) := by
  refine returnsInHanded_of_change (C := Try.checked) own started (by kernel_rfl) Try.func7
    (ChangeSpec.witness6 (enc := enc) (C := Try.checked) false ⟨#[], #[.int .i32 0, .int .i32 0, .int .i16 0], []⟩ 8 (by kernel_rfl) (by kernel_rfl) (by kernel_rfl) (by kernel_rfl)) ?_
  intro W base args ds gs before hval0 hW hcnd _
  have hval : ∀ (j : Nat) t v, Try.f7.params[j]? = some t → args[j]? = some v → Value.okWide Try.prog W .any base t v := hval0
  have hW' := hW
  obtain ⟨p, q, hA0, hV, rfl, hfz, hnd⟩ := hW
  have hA : DataW.TrodAll enc Try.prog W 0 (fun _ => true) true Try.f7.params.toList args.toList ds p := hA0
  rw [Try.params7] at hA hval
  obtain ⟨v0, vs0, d0, ds0, p0, q0, hargs, rfl, rfl, h0, r0⟩ := trodAll_cons hA
  obtain ⟨v1, vs1, d1, ds1, p1, q1, rfl, rfl, rfl, h1, r1⟩ := trodAll_cons r0
  obtain ⟨v2, vs2, d2, ds2, p2, q2, rfl, rfl, rfl, h2, r2⟩ := trodAll_cons r1
  obtain ⟨rfl, rfl, rfl⟩ := trodAll_nil r2
  obtain rfl : args = #[v0, v1, v2] := by cases args; simp_all
  obtain ⟨rfl, rfl⟩ := trodVars_none hV
  obtain ⟨a0, rfl, rfl, rfl, w0⟩ := open_int Try.underlying21 (hval 0 21 v0 rfl rfl) h0
  obtain ⟨a1, rfl, rfl, rfl, w1⟩ := open_int Try.underlying21 (hval 1 21 v1 rfl rfl) h1
  obtain ⟨a2, rfl, rfl, rfl, w2⟩ := open_int Try.underlying47 (hval 2 47 v2 rfl rfl) h2
  clear hA0 hval0
  refine (walk a0 a1 a2 w0 w1 w2 W).mono fun e W' ⟨he, hg⟩ => ?_
  subst he
  exact ⟨_, rfl, Rx.law_post hW' laid (by kernel_rfl) hg rfl rfl Try.underlying4 rfl rfl rfl⟩

theorem over : Rows.evaluateLowestRow.holds Try.pinned (OpenSpec.ofChange Rows.evaluateLowestSpec) :=
  OpenClaim.holds_of_wide 7 Try.f7 rfl rfl rfl rfl rfl rfl rfl ⟨rfl, rfl, rfl, rfl, rfl⟩ rfl rfl rfl rfl rfl (by kernel_rfl) Try.func7 (by kernel_rfl)
    (of_decide_eq_true (by kernel_rfl)) (by unfold Func.isWrapper; first | (rw [if_pos (by decide +kernel)]; kernel_rfl) | (rw [if_neg (by decide +kernel)]; exact ⟨rfl, rfl⟩))
    (fun os started H enc _ => lifted os started H enc)

theorem proved : Rows.EvaluateLowestSaid :=
  over
#print axioms proved
end Go.Proofs.Ytcanbnholmlapaa.evaluateLowest
