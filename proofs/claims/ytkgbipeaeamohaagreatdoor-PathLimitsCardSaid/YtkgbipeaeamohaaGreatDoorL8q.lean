/-
  PathLimits, proved as it is said: whatever the input, the law returns true, and what it was handed reads as it did.
  The frame of the row's step is the guide's template; the walk was printed by a program (wip/gw), the plain law is told by the texts beside it.
-/
import Derived.Test.YtkgbipeaeamohaaGreatDoorCards
import Derived.Test.YtkgbipeaeamohaaGreatDoorTie
import Derived.ChangeSame
import Derived.ChangeVars
import Derived.LaidLaws
import Derived.LaidHandle
import Derived.MakeChecks
import Derived.Lib.LaidU8
import Derived.Lib.LaidIn
import Derived.SevenTiedAt
import Derived.Test.YtkgbipeaeamohaaGreatDoorRows
import Derived.WalkKit
import Derived.ProofKit
import Derived.OpenShut
import Derived.Test.YtkgbipeaeamohaaGreatDoorP18
namespace Go.Proofs.YtkgbipeaeamohaaGreatDoor.pathLimits
open Go.ChangeShapes Go.WideShapes Go.ChangeAt Go.RowKit
set_option linter.unusedVariables false
set_option linter.unusedSimpArgs false
set_option maxRecDepth 20000

theorem own : ownKnob Tryz.prog.godebug = none := by kernel_rfl
theorem laid : laidOutB Tryz.prog = true := by kernel_rfl
theorem pu5 : Tryz.prog.underlying 5 = some (.int .u8) := by kernel_rfl
theorem ce5 : Tryz.prog.cellsOf 5 = 1 := by kernel_rfl
theorem closed : Vx.closedTS Tryz.prog [5] = true := by kernel_rfl
theorem of5 {n : Nat} {us : List Vx.U} (h : Vx.OfTy Tryz.prog n 5 us) : ∃ i, us = [.int .u8 i] ∧ (0 ≤ i ∧ i ≤ 255) := by
  cases n with
  | zero => exact h.elim
  | succ n => simp only [Vx.OfTy, pu5] at h; obtain ⟨i, rfl, hw⟩ := h; exact ⟨i, rfl, by simpa [Lit.wf, IntKind.min, IntKind.max, IntKind.bits, IntKind.signed] using hw⟩
theorem arg5 {u : Vx.U} (h : Vx.OfArg Tryz.prog 5 u) : ∃ x : Int, u = .int .u8 x ∧ (0 ≤ x ∧ x ≤ 255) := by
  obtain ⟨n, us, h1, h2⟩ := h
  simp only [pu5] at h2
  obtain ⟨x, rfl, hk⟩ := of5 h1
  exact ⟨x, by first | exact h2 | simpa using h2 | simpa using h2.symm, hk⟩
noncomputable def laidWorld (os : Os) : World :=
  let w0 := World.holding Tryz.prog os ⟨#[], #[], []⟩
  let put (h : Array Obj) (g : Nat) (cs : Array Value) : Array Obj := h.modify g fun
    | .cells _ t frozen => .cells cs t frozen
    | o => o
  let h1 := put w0.heap 1 (Go.Lib.firstTab.map fun z => Value.int .u8 z).toArray
  let h2 := put h1 2 ((List.range 16).flatMap fun i => [Value.int .u8 (Go.Lib.accLo i), Value.int .u8 (Go.Lib.accHi i)]).toArray
  { w0 with heap := h2 }
theorem laid_met (os : Os) (args : Array Value) : laidMetH Tryz.prog Rows.pathLimitsRow.laid ((laidWorld os).forCall (fun _ _ => 0) ⟨#[], args, []⟩).memory := by
  rw [Go.MakeChecks.laidMetH_plain _ _ _ (by kernel_rfl)]
  exact (LaidIn.of_run (l := [("unicode/utf8.acceptRanges", Rows.laid_unicode_utf8_acceptRanges), ("unicode/utf8.first", Rows.laid_unicode_utf8_first)]) [1, 2] 8 (by kernel_rfl) (by kernel_rfl) (by kernel_rfl) (by kernel_rfl)).met
set_option maxRecDepth 100000 in
theorem lifted (os : Os) (started : os.Started) (H : Type) (enc : TypeId × Value → H) :
    ReturnsInHanded {} Tryz.checked os 8 .any (fun w args => (Rows.pathLimitsSpec.pre enc Tryz.prog Tryz.f8 Rows.pathLimitsRow.domain false w args ∧ laidMetH Tryz.prog Rows.pathLimitsRow.laid w) ∧ sizedMet enc Tryz.prog Tryz.f8 (OpenSpec.ofChange Rows.pathLimitsSpec) false w args) (Rows.pathLimitsSpec.post enc Tryz.prog Tryz.f8 false true false false) := by
  refine returnsInHanded_of_change_and (C := Tryz.checked) (X := fun w _ => laidMetH Tryz.prog Rows.pathLimitsRow.laid w) (fun _ _ _ hh h => h.of_heap hh) own started (by kernel_rfl) Tryz.func8
    (ChangeSpec.witness_at (enc := enc) (C := Tryz.checked) (os := os) (X := fun w _ => laidMetH Tryz.prog Rows.pathLimitsRow.laid w) false (laidWorld os) #[.int .u8 0] 8 rfl (by kernel_rfl) (by kernel_rfl) (by kernel_rfl) (by kernel_rfl) (by kernel_rfl) (laid_met os _)) ?_
  intro W base args ds gs before hval0 hW hcnd _ hL _
  have hval : ∀ (j : Nat) t v, Tryz.f8.params[j]? = some t → args[j]? = some v → Value.okWide Tryz.prog W .any base t v := hval0
  have hW' := hW
  obtain ⟨p, q, hA0, hV, rfl, hfz, hnd⟩ := hW
  have hA : DataW.TrodAll enc Tryz.prog W 0 (fun _ => true) true Tryz.f8.params.toList args.toList ds p := hA0
  rw [Tryz.params8] at hA hval
  obtain ⟨us, k1, k2, k3⟩ := Vx.args_rep closed (by decide) (fun j t v h1 h2 => hval j t v (by simpa using h1) (by simpa using h2)) hA
  obtain ⟨v0, vs0, d0, ds0, p0, q0, hargs0, rfl, rfl, h0, r0⟩ := trodAll_cons hA
  obtain ⟨rfl, rfl, rfl⟩ := trodAll_nil r0
  obtain ⟨rfl, rfl⟩ := trodVars_none hV
  simp only [Vx.OfArgs] at k3
  obtain ⟨u0, us0, rfl, m0, rfl⟩ := k3
  obtain ⟨X0, rfl, H0⟩ := arg5 m0
  clear hA0 hval0
  refine (Vx.law_calls ((qfk _ X0 true (qr4 H0 (Nat.le_refl _))).mono fun u s h => h.1) k1 k2).mono fun e W' ⟨he, hg⟩ => ?_
  subst he
  exact ⟨_, rfl, Rx.law_post hW' laid (by kernel_rfl) hg rfl rfl Tryz.underlying4 rfl rfl rfl⟩
theorem over : Rows.pathLimitsRow.holds Tryz.pinned (OpenSpec.ofChange Rows.pathLimitsSpec) :=
  OpenClaim.holds_of_wide 8 Tryz.f8 rfl rfl rfl rfl rfl rfl rfl ⟨rfl, rfl, rfl, rfl, rfl⟩ rfl rfl rfl rfl rfl (by kernel_rfl) Tryz.func8 (by kernel_rfl)
    (of_decide_eq_true (by kernel_rfl)) (by unfold Func.isWrapper; first | (rw [if_pos (by decide +kernel)]; kernel_rfl) | (rw [if_neg (by decide +kernel)]; exact ⟨rfl, rfl⟩))
    (fun os started H enc _ => lifted os started H enc)
theorem proved : Rows.PathLimitsCardSaid :=
  Claim7.holds_tied_plain_at .later [] [.data, .pinned] true Rows.pathLimitsCard.stood.harness Rows.pathLimitsCard.stood.looks
    over (fun _ h => by cases h) (by kernel_rfl) (fun _ h => by cases h) pathLimits_row_tie rfl ⟨rfl, rfl⟩ (by kernel_rfl) rfl
    (fun f fn hf hfn => by
      obtain rfl : f = 8 := Option.some.inj ((show Tryz.prog.funcNamed "grammarlab/grammarlablaw08.PathLimits" = some 8 by kernel_rfl).symm.trans hf) |>.symm
      obtain rfl : fn = Tryz.f8 := (Option.some.inj (Tryz.func8.symm.trans hfn)).symm
      refine ⟨by kernel_rfl, fun j t ht => ?_⟩
      rw [Tryz.params8] at ht
      have hall : ∀ t ∈ ([5] : List TypeId), Tryz.prog.wantsStandIn t = false := by
        intro t ht
        simp only [List.mem_cons, List.not_mem_nil, or_false] at ht
        rcases ht with rfl <;> kernel_rfl
      exact hall t (by
        have := List.mem_of_getElem? (l := ([5] : List TypeId)) (i := j) (by simpa using ht)
        exact this))
    (by kernel_rfl)
#print axioms proved
end Go.Proofs.YtkgbipeaeamohaaGreatDoor.pathLimits
