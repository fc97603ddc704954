/-
  PathParses, proved as it is said: whatever the input, the law returns true, and what it was handed reads as it did.
  The frame of the row's step is the guide's template; the walk was printed by a program (wip/gw), the plain law is told by the texts beside it.
-/
import Derived.Test.YtkgbipeaeamohaaGreatDoorCards
import Derived.Test.YtkgbipeaeamohaaGreatDoorTie
import Derived.ChangeSame
import Derived.ChangeVars
import Derived.LaidLaws
import Derived.LaidHandle
import Derived.MakeChecks
import Derived.Lib.LaidU8
import Derived.Lib.LaidIn
import Derived.SevenTiedAt
import Derived.Test.YtkgbipeaeamohaaGreatDoorRows
import Derived.WalkKit
import Derived.ProofKit
import Derived.OpenShut
import Derived.Test.YtkgbipeaeamohaaGreatDoorP19
namespace Go.Proofs.YtkgbipeaeamohaaGreatDoor.pathParses
open Go.ChangeShapes Go.WideShapes Go.ChangeAt Go.RowKit
set_option linter.unusedVariables false
set_option linter.unusedSimpArgs false
set_option maxRecDepth 20000

theorem own : ownKnob Tryz.prog.godebug = none := by kernel_rfl
theorem laid : laidOutB Tryz.prog = true := by kernel_rfl
theorem pu38 : Tryz.prog.underlying 38 = some (.slice 127) := by kernel_rfl
theorem ce38 : Tryz.prog.cellsOf 38 = 1 := by kernel_rfl
theorem pu127 : Tryz.prog.underlying 127 = some (.struct #[⟨ "Name", 9, 0, false, "", "", 0⟩, ⟨ "Supers", 80, 1, false, "", "", 16⟩, ⟨ "Feats", 125, 2, false, "", "", 40⟩]) := by kernel_rfl
theorem ce127 : Tryz.prog.cellsOf 127 = 3 := by kernel_rfl
theorem pu9 : Tryz.prog.underlying 9 = some (.string) := by kernel_rfl
theorem ce9 : Tryz.prog.cellsOf 9 = 1 := by kernel_rfl
theorem pu80 : Tryz.prog.underlying 80 = some (.slice 9) := by kernel_rfl
theorem ce80 : Tryz.prog.cellsOf 80 = 1 := by kernel_rfl
theorem pu125 : Tryz.prog.underlying 125 = some (.slice 162) := by kernel_rfl
theorem ce125 : Tryz.prog.cellsOf 125 = 1 := by kernel_rfl
theorem pu162 : Tryz.prog.underlying 162 = some (.struct #[⟨ "Feat", 9, 0, false, "", "", 0⟩, ⟨ "Value", 9, 1, false, "", "", 16⟩]) := by kernel_rfl
theorem ce162 : Tryz.prog.cellsOf 162 = 2 := by kernel_rfl
theorem closed : Vx.closedTS Tryz.prog [38, 127, 9, 80, 125, 162] = true := by kernel_rfl
theorem of9 {n : Nat} {us : List Vx.U} (h : Vx.OfTy Tryz.prog n 9 us) : ∃ s, us = [.str s] := by
  cases n with
  | zero => exact h.elim
  | succ n => simp only [Vx.OfTy, pu9] at h; obtain ⟨i, rfl, _⟩ := h; exact ⟨i, rfl⟩
theorem els80 {n : Nat} : ∀ {l : List (List Vx.U)}, (∀ c ∈ l, Vx.OfTy Tryz.prog n 9 c) → ∃ ks : List (List UInt8), l = ks.map Vx.cS
  | [], _ => ⟨[], rfl⟩
  | c :: l, h => by
    obtain ⟨d, rfl⟩ := of9 (h c (by simp))
    obtain ⟨ks, rfl⟩ := els80 (l := l) fun x hx => h x (by simp [hx])
    exact ⟨d :: ks, rfl⟩
theorem of80 {n : Nat} {us : List Vx.U} (h : Vx.OfTy Tryz.prog n 80 us) : ∃ x : List (List UInt8), us = [.isl false (x.map Vx.cS)] ∧ (x.length ≤ 9223372036854775807) := by
  cases n with
  | zero => exact h.elim
  | succ n =>
    simp only [Vx.OfTy, pu80] at h
    obtain ⟨l, hl, hlen, hall⟩ := h
    subst hl
    obtain ⟨ks, rfl⟩ := els80 hall
    exact ⟨ks, rfl, by simpa [maxLen] using hlen⟩
theorem of162 {n : Nat} {us : List Vx.U} (h : Vx.OfTy Tryz.prog n 162 us) : ∃ x : q0u, us = q0e x := by
  cases n with
  | zero => exact h.elim
  | succ n =>
    simp only [Vx.OfTy, pu162, ce162] at h
    obtain ⟨hl, hf⟩ := h
    match us, hl with
    | [u0, u1], _ =>
      simp only [List.mem_cons, List.not_mem_nil, or_false, forall_eq_or_imp, forall_eq, ce9, List.drop, List.take] at hf
      obtain ⟨h0, h1⟩ := hf
      obtain ⟨a0, e0⟩ := of9 h0
      simp only [List.cons.injEq, and_true] at e0
      subst e0
      obtain ⟨a1, e1⟩ := of9 h1
      simp only [List.cons.injEq, and_true] at e1
      subst e1
      exact ⟨⟨a0, a1⟩, rfl⟩
theorem els125 {n : Nat} : ∀ {l : List (List Vx.U)}, (∀ c ∈ l, Vx.OfTy Tryz.prog n 162 c) → ∃ ks : List q0u, l = ks.map q0e
  | [], _ => ⟨[], rfl⟩
  | c :: l, h => by
    obtain ⟨d, rfl⟩ := of162 (h c (by simp))
    obtain ⟨ks, rfl⟩ := els125 (l := l) fun x hx => h x (by simp [hx])
    exact ⟨d :: ks, rfl⟩
theorem of125 {n : Nat} {us : List Vx.U} (h : Vx.OfTy Tryz.prog n 125 us) : ∃ x : List q0u, us = [.isl false (x.map q0e)] ∧ (x.length ≤ 9223372036854775807) := by
  cases n with
  | zero => exact h.elim
  | succ n =>
    simp only [Vx.OfTy, pu125] at h
    obtain ⟨l, hl, hlen, hall⟩ := h
    subst hl
    obtain ⟨ks, rfl⟩ := els125 hall
    exact ⟨ks, rfl, by simpa [maxLen] using hlen⟩
theorem of127 {n : Nat} {us : List Vx.U} (h : Vx.OfTy Tryz.prog n 127 us) : ∃ x : q01, us = q02 x ∧ ((x.Supers.length ≤ 9223372036854775807) ∧ (x.Feats.length ≤ 9223372036854775807)) := by
  cases n with
  | zero => exact h.elim
  | succ n =>
    simp only [Vx.OfTy, pu127, ce127] at h
    obtain ⟨hl, hf⟩ := h
    match us, hl with
    | [u0, u1, u2], _ =>
      simp only [List.mem_cons, List.not_mem_nil, or_false, forall_eq_or_imp, forall_eq, ce125, ce80, ce9, List.drop, List.take] at hf
      obtain ⟨h0, h1, h2⟩ := hf
      obtain ⟨a0, e0⟩ := of9 h0
      simp only [List.cons.injEq, and_true] at e0
      subst e0
      obtain ⟨a1, e1, k1⟩ := of80 h1
      simp only [List.cons.injEq, and_true] at e1
      subst e1
      obtain ⟨a2, e2, k2⟩ := of125 h2
      simp only [List.cons.injEq, and_true] at e2
      subst e2
      exact ⟨⟨a0, a1, a2⟩, rfl, ⟨k1, k2⟩⟩
theorem els38 {n : Nat} : ∀ {l : List (List Vx.U)}, (∀ c ∈ l, Vx.OfTy Tryz.prog n 127 c) → ∃ ks : List q01, l = ks.map q02 ∧ ∀ q ∈ ks, (q.Supers.length ≤ 9223372036854775807) ∧ (q.Feats.length ≤ 9223372036854775807)
  | [], _ => ⟨[], rfl, by simp⟩
  | c :: l, h => by
    obtain ⟨d, rfl, hk⟩ := of127 (h c (by simp))
    obtain ⟨ks, rfl, hks⟩ := els38 (l := l) fun x hx => h x (by simp [hx])
    exact ⟨d :: ks, rfl, by intro q hq; rcases List.mem_cons.1 hq with rfl | hq; exact hk; exact hks q hq⟩
theorem of38 {n : Nat} {us : List Vx.U} (h : Vx.OfTy Tryz.prog n 38 us) : ∃ x : List q01, us = [.isl false (x.map q02)] ∧ (x.length ≤ 9223372036854775807 ∧ ∀ q ∈ x, (q.Supers.length ≤ 9223372036854775807) ∧ (q.Feats.length ≤ 9223372036854775807)) := by
  cases n with
  | zero => exact h.elim
  | succ n =>
    simp only [Vx.OfTy, pu38] at h
    obtain ⟨l, hl, hlen, hall⟩ := h
    subst hl
    obtain ⟨ks, rfl, hks⟩ := els38 hall
    exact ⟨ks, rfl, by simpa [maxLen] using hlen, hks⟩
theorem arg9 {u : Vx.U} (h : Vx.OfArg Tryz.prog 9 u) : ∃ x : List UInt8, u = .str x := by
  obtain ⟨n, us, h1, h2⟩ := h
  simp only [pu9] at h2
  obtain ⟨x, rfl⟩ := of9 h1
  exact ⟨x, by first | exact h2 | simpa using h2 | simpa using h2.symm⟩
theorem arg38 {u : Vx.U} (h : Vx.OfArg Tryz.prog 38 u) : ∃ x : List q01, u = .isl false (List.map q02 x) ∧ (x.length ≤ 9223372036854775807 ∧ ∀ q ∈ x, (q.Supers.length ≤ 9223372036854775807) ∧ (q.Feats.length ≤ 9223372036854775807)) := by
  obtain ⟨n, us, h1, h2⟩ := h
  simp only [pu38] at h2
  obtain ⟨x, rfl, hk⟩ := of38 h1
  exact ⟨x, by first | exact h2 | simpa using h2 | simpa using h2.symm, hk⟩
noncomputable def laidWorld (os : Os) : World :=
  let w0 := World.holding Tryz.prog os ⟨#[], #[], []⟩
  let put (h : Array Obj) (g : Nat) (cs : Array Value) : Array Obj := h.modify g fun
    | .cells _ t frozen => .cells cs t frozen
    | o => o
  let h1 := put w0.heap 1 (Go.Lib.firstTab.map fun z => Value.int .u8 z).toArray
  let h2 := put h1 2 ((List.range 16).flatMap fun i => [Value.int .u8 (Go.Lib.accLo i), Value.int .u8 (Go.Lib.accHi i)]).toArray
  { w0 with heap := h2 }
theorem laid_met (os : Os) (args : Array Value) : laidMetH Tryz.prog Rows.pathParsesRow.laid ((laidWorld os).forCall (fun _ _ => 0) ⟨#[], args, []⟩).memory := by
  rw [Go.MakeChecks.laidMetH_plain _ _ _ (by kernel_rfl)]
  exact (LaidIn.of_run (l := [("unicode/utf8.acceptRanges", Rows.laid_unicode_utf8_acceptRanges), ("unicode/utf8.first", Rows.laid_unicode_utf8_first)]) [1, 2] 8 (by kernel_rfl) (by kernel_rfl) (by kernel_rfl) (by kernel_rfl)).met
set_option maxRecDepth 100000 in
theorem lifted (os : Os) (started : os.Started) (H : Type) (enc : TypeId × Value → H) :
    ReturnsInHanded {} Tryz.checked os 6 .any (fun w args => (Rows.pathParsesSpec.pre enc Tryz.prog Tryz.f6 Rows.pathParsesRow.domain false w args ∧ laidMetH Tryz.prog Rows.pathParsesRow.laid w) ∧ sizedMet enc Tryz.prog Tryz.f6 (OpenSpec.ofChange Rows.pathParsesSpec) false w args) (Rows.pathParsesSpec.post enc Tryz.prog Tryz.f6 false true false false) := by
  refine returnsInHanded_of_change_and (C := Tryz.checked) (X := fun w _ => laidMetH Tryz.prog Rows.pathParsesRow.laid w) (fun _ _ _ hh h => h.of_heap hh) own started (by kernel_rfl) Tryz.func6
    (ChangeSpec.witness_at (enc := enc) (C := Tryz.checked) (os := os) (X := fun w _ => laidMetH Tryz.prog Rows.pathParsesRow.laid w) false (laidWorld os) #[.slice none 0 0, .string ⟨#[]⟩] 6 rfl (by kernel_rfl) (by kernel_rfl) (by kernel_rfl) (by kernel_rfl) (by kernel_rfl) (laid_met os _)) ?_
  intro W base args ds gs before hval0 hW hcnd _ hL _
  have hval : ∀ (j : Nat) t v, Tryz.f6.params[j]? = some t → args[j]? = some v → Value.okWide Tryz.prog W .any base t v := hval0
  have hW' := hW
  obtain ⟨p, q, hA0, hV, rfl, hfz, hnd⟩ := hW
  have hA : DataW.TrodAll enc Tryz.prog W 0 (fun _ => true) true Tryz.f6.params.toList args.toList ds p := hA0
  rw [Tryz.params6] at hA hval
  obtain ⟨us, k1, k2, k3⟩ := Vx.args_rep closed (by decide) (fun j t v h1 h2 => hval j t v (by simpa using h1) (by simpa using h2)) hA
  obtain ⟨v0, vs0, d0, ds0, p0, q0, hargs0, rfl, rfl, h0, r0⟩ := trodAll_cons hA
  obtain ⟨v1, vs1, d1, ds1, p1, q1, hargs1, rfl, rfl, h1, r1⟩ := trodAll_cons r0
  obtain ⟨rfl, rfl, rfl⟩ := trodAll_nil r1
  obtain ⟨rfl, rfl⟩ := trodVars_none hV
  simp only [Vx.OfArgs] at k3
  obtain ⟨u0, us0, rfl, m0, u1, us1, rfl, m1, rfl⟩ := k3
  obtain ⟨X0, rfl, H0⟩ := arg38 m0
  obtain ⟨X1, rfl⟩ := arg9 m1
  clear hA0 hval0
  refine (Vx.law_calls ((qg1 _ X0 X1 true (qsi X0 X1 (Nat.le_refl _))).mono fun u s h => h.1) k1 k2).mono fun e W' ⟨he, hg⟩ => ?_
  subst he
  exact ⟨_, rfl, Rx.law_post hW' laid (by kernel_rfl) hg rfl rfl Tryz.underlying4 rfl rfl rfl⟩
theorem over : Rows.pathParsesRow.holds Tryz.pinned (OpenSpec.ofChange Rows.pathParsesSpec) :=
  OpenClaim.holds_of_wide 6 Tryz.f6 rfl rfl rfl rfl rfl rfl rfl ⟨rfl, rfl, rfl, rfl, rfl⟩ rfl rfl rfl rfl rfl (by kernel_rfl) Tryz.func6 (by kernel_rfl)
    (of_decide_eq_true (by kernel_rfl)) (by unfold Func.isWrapper; first | (rw [if_pos (by decide +kernel)]; kernel_rfl) | (rw [if_neg (by decide +kernel)]; exact ⟨rfl, rfl⟩))
    (fun os started H enc _ => lifted os started H enc)
theorem proved : Rows.PathParsesCardSaid :=
  Claim7.holds_tied_plain_at .later [] [.data, .pinned] true Rows.pathParsesCard.stood.harness Rows.pathParsesCard.stood.looks
    over (fun _ h => by cases h) (by kernel_rfl) (fun _ h => by cases h) pathParses_row_tie rfl ⟨rfl, rfl⟩ (by kernel_rfl) rfl
    (fun f fn hf hfn => by
      obtain rfl : f = 6 := Option.some.inj ((show Tryz.prog.funcNamed "grammarlab/grammarlablaw08.PathParses" = some 6 by kernel_rfl).symm.trans hf) |>.symm
      obtain rfl : fn = Tryz.f6 := (Option.some.inj (Tryz.func6.symm.trans hfn)).symm
      refine ⟨by kernel_rfl, fun j t ht => ?_⟩
      rw [Tryz.params6] at ht
      have hall : ∀ t ∈ ([38, 9] : List TypeId), Tryz.prog.wantsStandIn t = false := by
        intro t ht
        simp only [List.mem_cons, List.not_mem_nil, or_false] at ht
        rcases ht with rfl | rfl <;> kernel_rfl
      exact hall t (by
        have := List.mem_of_getElem? (l := ([38, 9] : List TypeId)) (i := j) (by simpa using ht)
        exact this))
    (by kernel_rfl)
#print axioms proved
end Go.Proofs.YtkgbipeaeamohaaGreatDoor.pathParses
