/-
  PathInverse, proved as it is said: whatever the input, the law returns true, and what it was handed reads as it did.
  The frame of the row's step is the guide's template; the walk was printed by a program (wip/gw), the plain law is told by the texts beside it.
-/
import Derived.Test.YtkgbipeaeamohaaGreatDoorCards
import Derived.Test.YtkgbipeaeamohaaGreatDoorTie
import Derived.ChangeSame
import Derived.ChangeVars
import Derived.LaidLaws
import Derived.LaidHandle
import Derived.MakeChecks
import Derived.Lib.LaidU8
import Derived.Lib.LaidIn
import Derived.SevenTiedAt
import Derived.Test.YtkgbipeaeamohaaGreatDoorRows
import Derived.WalkKit
import Derived.ProofKit
import Derived.OpenShut
import Derived.Test.YtkgbipeaeamohaaGreatDoorP20
namespace Go.Proofs.YtkgbipeaeamohaaGreatDoor.pathInverse
open Go.ChangeShapes Go.WideShapes Go.ChangeAt Go.RowKit
set_option linter.unusedVariables false
set_option linter.unusedSimpArgs false
set_option maxRecDepth 20000

theorem own : ownKnob Tryz.prog.godebug = none := by kernel_rfl
theorem laid : laidOutB Tryz.prog = true := by kernel_rfl
theorem pu33 : Tryz.prog.underlying 33 = some (.slice 3) := by kernel_rfl
theorem ce33 : Tryz.prog.cellsOf 33 = 1 := by kernel_rfl
theorem pu3 : Tryz.prog.underlying 3 = some (.int .i64) := by kernel_rfl
theorem ce3 : Tryz.prog.cellsOf 3 = 1 := by kernel_rfl
theorem pu24 : Tryz.prog.underlying 24 = some (.struct #[⟨ "Nodes", 22, 0, false, "", "", 0⟩]) := by kernel_rfl
theorem ce24 : Tryz.prog.cellsOf 24 = 1 := by kernel_rfl
theorem pu22 : Tryz.prog.underlying 22 = some (.slice 54) := by kernel_rfl
theorem ce22 : Tryz.prog.cellsOf 22 = 1 := by kernel_rfl
theorem pu54 : Tryz.prog.underlying 54 = some (.struct #[⟨ "Type", 3, 0, false, "", "", 0⟩, ⟨ "Arcs", 52, 1, false, "", "", 8⟩]) := by kernel_rfl
theorem ce54 : Tryz.prog.cellsOf 54 = 2 := by kernel_rfl
theorem pu52 : Tryz.prog.underlying 52 = some (.slice 66) := by kernel_rfl
theorem ce52 : Tryz.prog.cellsOf 52 = 1 := by kernel_rfl
theorem pu66 : Tryz.prog.underlying 66 = some (.struct #[⟨ "Feat", 3, 0, false, "", "", 0⟩, ⟨ "To", 3, 1, false, "", "", 8⟩]) := by kernel_rfl
theorem ce66 : Tryz.prog.cellsOf 66 = 2 := by kernel_rfl
theorem closed : Vx.closedTS Tryz.prog [33, 3, 24, 22, 54, 52, 66] = true := by kernel_rfl
theorem of3 {n : Nat} {us : List Vx.U} (h : Vx.OfTy Tryz.prog n 3 us) : ∃ i, us = [.int .i64 i] := by
  cases n with
  | zero => exact h.elim
  | succ n => simp only [Vx.OfTy, pu3] at h; obtain ⟨i, rfl, _⟩ := h; exact ⟨i, rfl⟩
theorem els33 {n : Nat} : ∀ {l : List (List Vx.U)}, (∀ c ∈ l, Vx.OfTy Tryz.prog n 3 c) → ∃ ks : List Int, l = ks.map (Vx.cI .i64)
  | [], _ => ⟨[], rfl⟩
  | c :: l, h => by
    obtain ⟨d, rfl⟩ := of3 (h c (by simp))
    obtain ⟨ks, rfl⟩ := els33 (l := l) fun x hx => h x (by simp [hx])
    exact ⟨d :: ks, rfl⟩
theorem of33 {n : Nat} {us : List Vx.U} (h : Vx.OfTy Tryz.prog n 33 us) : ∃ x : List Int, us = [.isl false (x.map (Vx.cI .i64))] ∧ (x.length ≤ 9223372036854775807) := by
  cases n with
  | zero => exact h.elim
  | succ n =>
    simp only [Vx.OfTy, pu33] at h
    obtain ⟨l, hl, hlen, hall⟩ := h
    subst hl
    obtain ⟨ks, rfl⟩ := els33 hall
    exact ⟨ks, rfl, by simpa [maxLen] using hlen⟩
theorem of66 {n : Nat} {us : List Vx.U} (h : Vx.OfTy Tryz.prog n 66 us) : ∃ x : q0f, us = q08 x := by
  cases n with
  | zero => exact h.elim
  | succ n =>
    simp only [Vx.OfTy, pu66, ce66] at h
    obtain ⟨hl, hf⟩ := h
    match us, hl with
    | [u0, u1], _ =>
      simp only [zI, List.not_mem_nil, or_false, forall_eq_or_imp, forall_eq, ce3, List.drop, List.take] at hf
      obtain ⟨h0, h1⟩ := hf
      obtain ⟨a0, e0⟩ := of3 h0
      simp only [List.cons.injEq, and_true] at e0
      subst e0
      obtain ⟨a1, e1⟩ := of3 h1
      simp only [List.cons.injEq, and_true] at e1
      subst e1
      exact ⟨⟨a0, a1⟩, rfl⟩
theorem els52 {n : Nat} : ∀ {l : List (List Vx.U)}, (∀ c ∈ l, Vx.OfTy Tryz.prog n 66 c) → ∃ ks : List q0f, l = ks.map q08
  | [], _ => ⟨[], rfl⟩
  | c :: l, h => by
    obtain ⟨d, rfl⟩ := of66 (h c (by simp))
    obtain ⟨ks, rfl⟩ := els52 (l := l) fun x hx => h x (by simp [hx])
    exact ⟨d :: ks, rfl⟩
theorem of52 {n : Nat} {us : List Vx.U} (h : Vx.OfTy Tryz.prog n 52 us) : ∃ x : List q0f, us = [.isl false (x.map q08)] ∧ (x.length ≤ 9223372036854775807) := by
  cases n with
  | zero => exact h.elim
  | succ n =>
    simp only [Vx.OfTy, pu52] at h
    obtain ⟨l, hl, hlen, hall⟩ := h
    subst hl
    obtain ⟨ks, rfl⟩ := els52 hall
    exact ⟨ks, rfl, by simpa [maxLen] using hlen⟩
theorem of54 {n : Nat} {us : List Vx.U} (h : Vx.OfTy Tryz.prog n 54 us) : ∃ x : q0a, us = q02 x ∧ ((x.Arcs.length ≤ 9223372036854775807)) := by
  cases n with
  | zero => exact h.elim
  | succ n =>
    simp only [Vx.OfTy, pu54, ce54] at h
    obtain ⟨hl, hf⟩ := h
    match us, hl with
    | [u0, u1], _ =>
      simp only [zI, List.not_mem_nil, or_false, forall_eq_or_imp, forall_eq, ce3, ce52, List.drop, List.take] at hf
      obtain ⟨h0, h1⟩ := hf
      obtain ⟨a0, e0⟩ := of3 h0
      simp only [List.cons.injEq, and_true] at e0
      subst e0
      obtain ⟨a1, e1, k1⟩ := of52 h1
      simp only [List.cons.injEq, and_true] at e1
      subst e1
      exact ⟨⟨a0, a1⟩, rfl, k1⟩
theorem els22 {n : Nat} : ∀ {l : List (List Vx.U)}, (∀ c ∈ l, Vx.OfTy Tryz.prog n 54 c) → ∃ ks : List q0a, l = ks.map q02 ∧ ∀ q ∈ ks, (q.Arcs.length ≤ 9223372036854775807)
  | [], _ => ⟨[], rfl, by simp⟩
  | c :: l, h => by
    obtain ⟨d, rfl, hk⟩ := of54 (h c (by simp))
    obtain ⟨ks, rfl, hks⟩ := els22 (l := l) fun x hx => h x (by simp [hx])
    exact ⟨d :: ks, rfl, by intro q hq; rcases zI.1 hq with rfl | hq; exact hk; exact hks q hq⟩
theorem of22 {n : Nat} {us : List Vx.U} (h : Vx.OfTy Tryz.prog n 22 us) : ∃ x : List q0a, us = [.isl false (x.map q02)] ∧ (x.length ≤ 9223372036854775807 ∧ ∀ q ∈ x, (q.Arcs.length ≤ 9223372036854775807)) := by
  cases n with
  | zero => exact h.elim
  | succ n =>
    simp only [Vx.OfTy, pu22] at h
    obtain ⟨l, hl, hlen, hall⟩ := h
    subst hl
    obtain ⟨ks, rfl, hks⟩ := els22 hall
    exact ⟨ks, rfl, by simpa [maxLen] using hlen, hks⟩
theorem of24 {n : Nat} {us : List Vx.U} (h : Vx.OfTy Tryz.prog n 24 us) : ∃ x : GFS, us = cGFS x ∧ ((x.Nodes.length ≤ 9223372036854775807 ∧ ∀ q ∈ x.Nodes, (q.Arcs.length ≤ 9223372036854775807))) := by
  cases n with
  | zero => exact h.elim
  | succ n =>
    simp only [Vx.OfTy, pu24, ce24] at h
    obtain ⟨hl, hf⟩ := h
    match us, hl with
    | [u0], _ =>
      simp only [zI, List.not_mem_nil, or_false, forall_eq_or_imp, forall_eq, ce22, List.drop, List.take] at hf
      have h0 := hf
      obtain ⟨a0, e0, k0⟩ := of22 h0
      simp only [List.cons.injEq, and_true] at e0
      subst e0
      exact ⟨⟨a0⟩, rfl, k0⟩
theorem arg24 {u : Vx.U} (h : Vx.OfArg Tryz.prog 24 u) : ∃ x : GFS, u = .agg (cGFS x) ∧ ((x.Nodes.length ≤ 9223372036854775807 ∧ ∀ q ∈ x.Nodes, (q.Arcs.length ≤ 9223372036854775807))) := by
  obtain ⟨n, us, h1, h2⟩ := h
  simp only [pu24] at h2
  subst h2
  obtain ⟨x, rfl, hk⟩ := of24 h1
  exact ⟨x, rfl, hk⟩
theorem arg33 {u : Vx.U} (h : Vx.OfArg Tryz.prog 33 u) : ∃ x : List Int, u = .isl false (List.map (Vx.cI .i64) x) ∧ (x.length ≤ 9223372036854775807) := by
  obtain ⟨n, us, h1, h2⟩ := h
  simp only [pu33] at h2
  obtain ⟨x, rfl, hk⟩ := of33 h1
  exact ⟨x, by first | exact h2 | simpa using h2 | simpa using h2.symm, hk⟩
noncomputable def laidWorld (os : Os) : World :=
  let w0 := World.holding Tryz.prog os ⟨#[], #[], []⟩
  let put (h : Array Obj) (g : Nat) (cs : Array Value) : Array Obj := h.modify g fun
    | .cells _ t frozen => .cells cs t frozen
    | o => o
  let h1 := put w0.heap 1 (Go.Lib.firstTab.map fun z => Value.int .u8 z).toArray
  let h2 := put h1 2 ((List.range 16).flatMap fun i => [Value.int .u8 (Go.Lib.accLo i), Value.int .u8 (Go.Lib.accHi i)]).toArray
  { w0 with heap := h2 }
theorem laid_met (os : Os) (args : Array Value) : laidMetH Tryz.prog Rows.pathInverseRow.laid ((laidWorld os).forCall (fun _ _ => 0) ⟨#[], args, []⟩).memory := by
  rw [Go.MakeChecks.laidMetH_plain _ _ _ (by kernel_rfl)]
  exact (LaidIn.of_run (l := [("unicode/utf8.acceptRanges", Rows.laid_unicode_utf8_acceptRanges), ("unicode/utf8.first", Rows.laid_unicode_utf8_first)]) [1, 2] 8 (by kernel_rfl) (by kernel_rfl) (by kernel_rfl) (by kernel_rfl)).met
set_option maxRecDepth 100000 in
theorem lifted (os : Os) (started : os.Started) (H : Type) (enc : TypeId × Value → H) :
    ReturnsInHanded {} Tryz.checked os 11 .any (fun w args => (Rows.pathInverseSpec.pre enc Tryz.prog Tryz.f11 Rows.pathInverseRow.domain false w args ∧ laidMetH Tryz.prog Rows.pathInverseRow.laid w) ∧ sizedMet enc Tryz.prog Tryz.f11 (OpenSpec.ofChange Rows.pathInverseSpec) false w args) (Rows.pathInverseSpec.post enc Tryz.prog Tryz.f11 false true false false) := by
  refine returnsInHanded_of_change_and (C := Tryz.checked) (X := fun w _ => laidMetH Tryz.prog Rows.pathInverseRow.laid w) (fun _ _ _ hh h => h.of_heap hh) own started (by kernel_rfl) Tryz.func11
    (ChangeSpec.witness_at (enc := enc) (C := Tryz.checked) (os := os) (X := fun w _ => laidMetH Tryz.prog Rows.pathInverseRow.laid w) false (laidWorld os) #[.slice none 0 0, .agg #[.slice none 0 0]] 11 rfl (by kernel_rfl) (by kernel_rfl) (by kernel_rfl) (by kernel_rfl) (by kernel_rfl) (laid_met os _)) ?_
  intro W base args ds gs before hval0 hW hcnd _ hL _
  have hval : ∀ (j : Nat) t v, Tryz.f11.params[j]? = some t → args[j]? = some v → Value.okWide Tryz.prog W .any base t v := hval0
  have hW' := hW
  obtain ⟨p, q, hA0, hV, rfl, hfz, hnd⟩ := hW
  have hA : DataW.TrodAll enc Tryz.prog W 0 (fun _ => true) true Tryz.f11.params.toList args.toList ds p := hA0
  rw [Tryz.params11] at hA hval
  obtain ⟨us, k1, k2, k3⟩ := Vx.args_rep closed (by decide) (fun j t v h1 h2 => hval j t v (by simpa using h1) (by simpa using h2)) hA
  obtain ⟨v0, vs0, d0, ds0, p0, q0, hargs0, rfl, rfl, h0, r0⟩ := trodAll_cons hA
  obtain ⟨v1, vs1, d1, ds1, p1, q1, hargs1, rfl, rfl, h1, r1⟩ := trodAll_cons r0
  obtain ⟨rfl, rfl, rfl⟩ := trodAll_nil r1
  obtain ⟨rfl, rfl⟩ := trodVars_none hV
  simp only [Vx.OfArgs] at k3
  obtain ⟨u0, us0, rfl, m0, u1, us1, rfl, m1, rfl⟩ := k3
  obtain ⟨X0, rfl, H0⟩ := arg33 m0
  obtain ⟨X1, rfl, H1⟩ := arg24 m1
  clear hA0 hval0
  refine (Vx.law_calls ((qhg _ X0 X1 true (qtg H0 X1 (zF _))).mono fun u s h => h.1) k1 k2).mono fun e W' ⟨he, hg⟩ => ?_
  subst he
  exact ⟨_, rfl, Rx.law_post hW' laid (by kernel_rfl) hg rfl rfl Tryz.underlying4 rfl rfl rfl⟩
theorem over : Rows.pathInverseRow.holds Tryz.pinned (OpenSpec.ofChange Rows.pathInverseSpec) :=
  OpenClaim.holds_of_wide 11 Tryz.f11 rfl rfl rfl rfl rfl rfl rfl ⟨rfl, rfl, rfl, rfl, rfl⟩ rfl rfl rfl rfl rfl (by kernel_rfl) Tryz.func11 (by kernel_rfl)
    (of_decide_eq_true (by kernel_rfl)) (by unfold Func.isWrapper; first | (rw [if_pos (by decide +kernel)]; kernel_rfl) | (rw [if_neg (by decide +kernel)]; exact ⟨rfl, rfl⟩))
    (fun os started H enc _ => lifted os started H enc)
theorem proved : Rows.PathInverseCardSaid :=
  Claim7.holds_tied_plain_at .later [] [.data, .pinned] true Rows.pathInverseCard.stood.harness Rows.pathInverseCard.stood.looks
    over (fun _ h => by cases h) (by kernel_rfl) (fun _ h => by cases h) pathInverse_row_tie rfl ⟨rfl, rfl⟩ (by kernel_rfl) rfl
    (fun f fn hf hfn => by
      obtain rfl : f = 11 := Option.some.inj ((show Tryz.prog.funcNamed "grammarlab/grammarlablaw08.PathInverse" = some 11 by kernel_rfl).symm.trans hf) |>.symm
      obtain rfl : fn = Tryz.f11 := (Option.some.inj (Tryz.func11.symm.trans hfn)).symm
      refine ⟨by kernel_rfl, fun j t ht => ?_⟩
      rw [Tryz.params11] at ht
      have hall : ∀ t ∈ ([33, 24] : List TypeId), Tryz.prog.wantsStandIn t = false := by
        intro t ht
        simp only [zI, List.not_mem_nil, or_false] at ht
        rcases ht with rfl | rfl <;> kernel_rfl
      exact hall t (by
        have := List.mem_of_getElem? (l := ([33, 24] : List TypeId)) (i := j) (by simpa using ht)
        exact this))
    (by kernel_rfl)
#print axioms proved
end Go.Proofs.YtkgbipeaeamohaaGreatDoor.pathInverse
