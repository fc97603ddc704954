/-
  TrailUnifies, proved as it is said: whatever the input, the law returns true, and what it was handed reads as it did.
  The frame of the row's step is the guide's template; the walk was printed by a program (wip/gw), the plain law is told by the texts beside it.
-/
import Derived.Test.YtldlchbgolpkaaaGreatRows
import Derived.WalkKit
import Derived.ProofKit
import Derived.OpenShut
import Derived.Test.YtldlchbgolpkaaaGreatP18
namespace Go.Proofs.YtldlchbgolpkaaaGreat.trailUnifies
open Go.ChangeShapes Go.WideShapes Go.ChangeAt Go.RowKit
set_option linter.unusedVariables false
set_option linter.unusedSimpArgs false
set_option maxRecDepth 20000

theorem own : ownKnob Tryz.prog.godebug = none := by kernel_rfl
theorem laid : laidOutB Tryz.prog = true := by kernel_rfl
theorem pu22 : Tryz.prog.underlying 22 = some (.slice 138) := by kernel_rfl
theorem ce22 : Tryz.prog.cellsOf 22 = 1 := by kernel_rfl
theorem pu138 : Tryz.prog.underlying 138 = some (.struct #[⟨ "Name", 9, 0, false, "", "", 0⟩, ⟨ "Supers", 135, 1, false, "", "", 16⟩, ⟨ "Feats", 136, 2, false, "", "", 40⟩]) := by kernel_rfl
theorem ce138 : Tryz.prog.cellsOf 138 = 3 := by kernel_rfl
theorem pu9 : Tryz.prog.underlying 9 = some (.string) := by kernel_rfl
theorem ce9 : Tryz.prog.cellsOf 9 = 1 := by kernel_rfl
theorem pu135 : Tryz.prog.underlying 135 = some (.slice 9) := by kernel_rfl
theorem ce135 : Tryz.prog.cellsOf 135 = 1 := by kernel_rfl
theorem pu136 : Tryz.prog.underlying 136 = some (.slice 141) := by kernel_rfl
theorem ce136 : Tryz.prog.cellsOf 136 = 1 := by kernel_rfl
theorem pu141 : Tryz.prog.underlying 141 = some (.struct #[⟨ "Feat", 9, 0, false, "", "", 0⟩, ⟨ "Value", 9, 1, false, "", "", 16⟩]) := by kernel_rfl
theorem ce141 : Tryz.prog.cellsOf 141 = 2 := by kernel_rfl
theorem pu40 : Tryz.prog.underlying 40 = some (.struct #[⟨ "Nodes", 33, 0, false, "", "", 0⟩]) := by kernel_rfl
theorem ce40 : Tryz.prog.cellsOf 40 = 1 := by kernel_rfl
theorem pu33 : Tryz.prog.underlying 33 = some (.slice 78) := by kernel_rfl
theorem ce33 : Tryz.prog.cellsOf 33 = 1 := by kernel_rfl
theorem pu78 : Tryz.prog.underlying 78 = some (.struct #[⟨ "Type", 3, 0, false, "", "", 0⟩, ⟨ "Arcs", 76, 1, false, "", "", 8⟩]) := by kernel_rfl
theorem ce78 : Tryz.prog.cellsOf 78 = 2 := by kernel_rfl
theorem pu3 : Tryz.prog.underlying 3 = some (.int .i64) := by kernel_rfl
theorem ce3 : Tryz.prog.cellsOf 3 = 1 := by kernel_rfl
theorem pu76 : Tryz.prog.underlying 76 = some (.slice 98) := by kernel_rfl
theorem ce76 : Tryz.prog.cellsOf 76 = 1 := by kernel_rfl
theorem pu98 : Tryz.prog.underlying 98 = some (.struct #[⟨ "Feat", 3, 0, false, "", "", 0⟩, ⟨ "To", 3, 1, false, "", "", 8⟩]) := by kernel_rfl
theorem ce98 : Tryz.prog.cellsOf 98 = 2 := by kernel_rfl
theorem closed : Vx.closedTS Tryz.prog [22, 138, 9, 135, 136, 141, 40, 33, 78, 3, 76, 98] = true := by kernel_rfl
theorem of9 {n : Nat} {us : List Vx.U} (h : Vx.OfTy Tryz.prog n 9 us) : ∃ s, us = [.str s] := by
  cases n with
  | zero => exact h.elim
  | succ n => simp only [Vx.OfTy, pu9] at h; obtain ⟨i, rfl, _⟩ := h; exact ⟨i, rfl⟩
theorem els135 {n : Nat} : ∀ {l : List (List Vx.U)}, (∀ c ∈ l, Vx.OfTy Tryz.prog n 9 c) → ∃ ks : List (List UInt8), l = ks.map Vx.cS
  | [], _ => ⟨[], rfl⟩
  | c :: l, h => by
    obtain ⟨d, rfl⟩ := of9 (h c (by simp))
    obtain ⟨ks, rfl⟩ := els135 (l := l) fun x hx => h x (by simp [hx])
    exact ⟨d :: ks, rfl⟩
theorem of135 {n : Nat} {us : List Vx.U} (h : Vx.OfTy Tryz.prog n 135 us) : ∃ x : List (List UInt8), us = [.isl false (x.map Vx.cS)] ∧ (x.length ≤ 9223372036854775807) := by
  cases n with
  | zero => exact h.elim
  | succ n =>
    simp only [Vx.OfTy, pu135] at h
    obtain ⟨l, hl, hlen, hall⟩ := h
    subst hl
    obtain ⟨ks, rfl⟩ := els135 hall
    exact ⟨ks, rfl, by simpa [maxLen] using hlen⟩
theorem of141 {n : Nat} {us : List Vx.U} (h : Vx.OfTy Tryz.prog n 141 us) : ∃ x : q1k, us = q0n x := by
  cases n with
  | zero => exact h.elim
  | succ n =>
    simp only [Vx.OfTy, pu141, ce141] at h
    obtain ⟨hl, hf⟩ := h
    match us, hl with
    | [u0, u1], _ =>
      simp only [zI, List.not_mem_nil, or_false, forall_eq_or_imp, forall_eq, ce9, List.drop, List.take] at hf
      obtain ⟨h0, h1⟩ := hf
      obtain ⟨a0, e0⟩ := of9 h0
      simp only [List.cons.injEq, and_true] at e0
      subst e0
      obtain ⟨a1, e1⟩ := of9 h1
      simp only [List.cons.injEq, and_true] at e1
      subst e1
      exact ⟨⟨a0, a1⟩, rfl⟩
theorem els136 {n : Nat} : ∀ {l : List (List Vx.U)}, (∀ c ∈ l, Vx.OfTy Tryz.prog n 141 c) → ∃ ks : List q1k, l = ks.map q0n
  | [], _ => ⟨[], rfl⟩
  | c :: l, h => by
    obtain ⟨d, rfl⟩ := of141 (h c (by simp))
    obtain ⟨ks, rfl⟩ := els136 (l := l) fun x hx => h x (by simp [hx])
    exact ⟨d :: ks, rfl⟩
theorem of136 {n : Nat} {us : List Vx.U} (h : Vx.OfTy Tryz.prog n 136 us) : ∃ x : List q1k, us = [.isl false (x.map q0n)] ∧ (x.length ≤ 9223372036854775807) := by
  cases n with
  | zero => exact h.elim
  | succ n =>
    simp only [Vx.OfTy, pu136] at h
    obtain ⟨l, hl, hlen, hall⟩ := h
    subst hl
    obtain ⟨ks, rfl⟩ := els136 hall
    exact ⟨ks, rfl, by simpa [maxLen] using hlen⟩
theorem of138 {n : Nat} {us : List Vx.U} (h : Vx.OfTy Tryz.prog n 138 us) : ∃ x : q01, us = q03 x ∧ ((x.Supers.length ≤ 9223372036854775807) ∧ (x.Feats.length ≤ 9223372036854775807)) := by
  cases n with
  | zero => exact h.elim
  | succ n =>
    simp only [Vx.OfTy, pu138, ce138] at h
    obtain ⟨hl, hf⟩ := h
    match us, hl with
    | [u0, u1, u2], _ =>
      simp only [zI, List.not_mem_nil, or_false, forall_eq_or_imp, forall_eq, ce135, ce136, ce9, List.drop, List.take] at hf
      obtain ⟨h0, h1, h2⟩ := hf
      obtain ⟨a0, e0⟩ := of9 h0
      simp only [List.cons.injEq, and_true] at e0
      subst e0
      obtain ⟨a1, e1, k1⟩ := of135 h1
      simp only [List.cons.injEq, and_true] at e1
      subst e1
      obtain ⟨a2, e2, k2⟩ := of136 h2
      simp only [List.cons.injEq, and_true] at e2
      subst e2
      exact ⟨⟨a0, a1, a2⟩, rfl, ⟨k1, k2⟩⟩
theorem els22 {n : Nat} : ∀ {l : List (List Vx.U)}, (∀ c ∈ l, Vx.OfTy Tryz.prog n 138 c) → ∃ ks : List q01, l = ks.map q03 ∧ ∀ q ∈ ks, (q.Supers.length ≤ 9223372036854775807) ∧ (q.Feats.length ≤ 9223372036854775807)
  | [], _ => ⟨[], rfl, by simp⟩
  | c :: l, h => by
    obtain ⟨d, rfl, hk⟩ := of138 (h c (by simp))
    obtain ⟨ks, rfl, hks⟩ := els22 (l := l) fun x hx => h x (by simp [hx])
    exact ⟨d :: ks, rfl, by intro q hq; rcases zI.1 hq with rfl | hq; exact hk; exact hks q hq⟩
theorem of22 {n : Nat} {us : List Vx.U} (h : Vx.OfTy Tryz.prog n 22 us) : ∃ x : List q01, us = [.isl false (x.map q03)] ∧ (x.length ≤ 9223372036854775807 ∧ ∀ q ∈ x, (q.Supers.length ≤ 9223372036854775807) ∧ (q.Feats.length ≤ 9223372036854775807)) := by
  cases n with
  | zero => exact h.elim
  | succ n =>
    simp only [Vx.OfTy, pu22] at h
    obtain ⟨l, hl, hlen, hall⟩ := h
    subst hl
    obtain ⟨ks, rfl, hks⟩ := els22 hall
    exact ⟨ks, rfl, by simpa [maxLen] using hlen, hks⟩
theorem of3 {n : Nat} {us : List Vx.U} (h : Vx.OfTy Tryz.prog n 3 us) : ∃ i, us = [.int .i64 i] := by
  cases n with
  | zero => exact h.elim
  | succ n => simp only [Vx.OfTy, pu3] at h; obtain ⟨i, rfl, _⟩ := h; exact ⟨i, rfl⟩
theorem of98 {n : Nat} {us : List Vx.U} (h : Vx.OfTy Tryz.prog n 98 us) : ∃ x : q0f, us = q06 x := by
  cases n with
  | zero => exact h.elim
  | succ n =>
    simp only [Vx.OfTy, pu98, ce98] at h
    obtain ⟨hl, hf⟩ := h
    match us, hl with
    | [u0, u1], _ =>
      simp only [zI, List.not_mem_nil, or_false, forall_eq_or_imp, forall_eq, ce3, List.drop, List.take] at hf
      obtain ⟨h0, h1⟩ := hf
      obtain ⟨a0, e0⟩ := of3 h0
      simp only [List.cons.injEq, and_true] at e0
      subst e0
      obtain ⟨a1, e1⟩ := of3 h1
      simp only [List.cons.injEq, and_true] at e1
      subst e1
      exact ⟨⟨a0, a1⟩, rfl⟩
theorem els76 {n : Nat} : ∀ {l : List (List Vx.U)}, (∀ c ∈ l, Vx.OfTy Tryz.prog n 98 c) → ∃ ks : List q0f, l = ks.map q06
  | [], _ => ⟨[], rfl⟩
  | c :: l, h => by
    obtain ⟨d, rfl⟩ := of98 (h c (by simp))
    obtain ⟨ks, rfl⟩ := els76 (l := l) fun x hx => h x (by simp [hx])
    exact ⟨d :: ks, rfl⟩
theorem of76 {n : Nat} {us : List Vx.U} (h : Vx.OfTy Tryz.prog n 76 us) : ∃ x : List q0f, us = [.isl false (x.map q06)] ∧ (x.length ≤ 9223372036854775807) := by
  cases n with
  | zero => exact h.elim
  | succ n =>
    simp only [Vx.OfTy, pu76] at h
    obtain ⟨l, hl, hlen, hall⟩ := h
    subst hl
    obtain ⟨ks, rfl⟩ := els76 hall
    exact ⟨ks, rfl, by simpa [maxLen] using hlen⟩
theorem of78 {n : Nat} {us : List Vx.U} (h : Vx.OfTy Tryz.prog n 78 us) : ∃ x : q0j, us = q0a x ∧ ((x.Arcs.length ≤ 9223372036854775807)) := by
  cases n with
  | zero => exact h.elim
  | succ n =>
    simp only [Vx.OfTy, pu78, ce78] at h
    obtain ⟨hl, hf⟩ := h
    match us, hl with
    | [u0, u1], _ =>
      simp only [zI, List.not_mem_nil, or_false, forall_eq_or_imp, forall_eq, ce3, ce76, List.drop, List.take] at hf
      obtain ⟨h0, h1⟩ := hf
      obtain ⟨a0, e0⟩ := of3 h0
      simp only [List.cons.injEq, and_true] at e0
      subst e0
      obtain ⟨a1, e1, k1⟩ := of76 h1
      simp only [List.cons.injEq, and_true] at e1
      subst e1
      exact ⟨⟨a0, a1⟩, rfl, k1⟩
theorem els33 {n : Nat} : ∀ {l : List (List Vx.U)}, (∀ c ∈ l, Vx.OfTy Tryz.prog n 78 c) → ∃ ks : List q0j, l = ks.map q0a ∧ ∀ q ∈ ks, (q.Arcs.length ≤ 9223372036854775807)
  | [], _ => ⟨[], rfl, by simp⟩
  | c :: l, h => by
    obtain ⟨d, rfl, hk⟩ := of78 (h c (by simp))
    obtain ⟨ks, rfl, hks⟩ := els33 (l := l) fun x hx => h x (by simp [hx])
    exact ⟨d :: ks, rfl, by intro q hq; rcases zI.1 hq with rfl | hq; exact hk; exact hks q hq⟩
theorem of33 {n : Nat} {us : List Vx.U} (h : Vx.OfTy Tryz.prog n 33 us) : ∃ x : List q0j, us = [.isl false (x.map q0a)] ∧ (x.length ≤ 9223372036854775807 ∧ ∀ q ∈ x, (q.Arcs.length ≤ 9223372036854775807)) := by
  cases n with
  | zero => exact h.elim
  | succ n =>
    simp only [Vx.OfTy, pu33] at h
    obtain ⟨l, hl, hlen, hall⟩ := h
    subst hl
    obtain ⟨ks, rfl, hks⟩ := els33 hall
    exact ⟨ks, rfl, by simpa [maxLen] using hlen, hks⟩
theorem of40 {n : Nat} {us : List Vx.U} (h : Vx.OfTy Tryz.prog n 40 us) : ∃ x : GFS, us = qnu x ∧ ((x.Nodes.length ≤ 9223372036854775807 ∧ ∀ q ∈ x.Nodes, (q.Arcs.length ≤ 9223372036854775807))) := by
  cases n with
  | zero => exact h.elim
  | succ n =>
    simp only [Vx.OfTy, pu40, ce40] at h
    obtain ⟨hl, hf⟩ := h
    match us, hl with
    | [u0], _ =>
      simp only [zI, List.not_mem_nil, or_false, forall_eq_or_imp, forall_eq, ce33, List.drop, List.take] at hf
      have h0 := hf
      obtain ⟨a0, e0, k0⟩ := of33 h0
      simp only [List.cons.injEq, and_true] at e0
      subst e0
      exact ⟨⟨a0⟩, rfl, k0⟩
theorem arg22 {u : Vx.U} (h : Vx.OfArg Tryz.prog 22 u) : ∃ x : List q01, u = .isl false (List.map q03 x) ∧ (x.length ≤ 9223372036854775807 ∧ ∀ q ∈ x, (q.Supers.length ≤ 9223372036854775807) ∧ (q.Feats.length ≤ 9223372036854775807)) := by
  obtain ⟨n, us, h1, h2⟩ := h
  simp only [pu22] at h2
  obtain ⟨x, rfl, hk⟩ := of22 h1
  exact ⟨x, by first | exact h2 | simpa using h2 | simpa using h2.symm, hk⟩
theorem arg40 {u : Vx.U} (h : Vx.OfArg Tryz.prog 40 u) : ∃ x : GFS, u = .agg (qnu x) ∧ ((x.Nodes.length ≤ 9223372036854775807 ∧ ∀ q ∈ x.Nodes, (q.Arcs.length ≤ 9223372036854775807))) := by
  obtain ⟨n, us, h1, h2⟩ := h
  simp only [pu40] at h2
  subst h2
  obtain ⟨x, rfl, hk⟩ := of40 h1
  exact ⟨x, rfl, hk⟩
set_option maxRecDepth 100000 in
theorem lifted (os : Os) (started : os.Started) (H : Type) (enc : TypeId × Value → H) :
    ReturnsInHanded {} Tryz.checked os 6 .any (Rows.trailUnifiesSpec.pre6 enc Tryz.prog Tryz.f6 Rows.trailUnifiesRow.domain false) (Rows.trailUnifiesSpec.post enc Tryz.prog Tryz.f6 false true false false) := by
  refine returnsInHanded_of_change (C := Tryz.checked) own started (by kernel_rfl) Tryz.func6
    (ChangeSpec.witness6 (enc := enc) (C := Tryz.checked) false ⟨#[], #[.slice none 0 0, .agg #[.slice none 0 0], .agg #[.slice none 0 0]], []⟩ 6 (by kernel_rfl) (by kernel_rfl) (by kernel_rfl) (by kernel_rfl)) ?_
  intro W base args ds gs before hval0 hW hcnd _
  have hval : ∀ (j : Nat) t v, Tryz.f6.params[j]? = some t → args[j]? = some v → Value.okWide Tryz.prog W .any base t v := hval0
  have hW' := hW
  obtain ⟨p, q, hA0, hV, rfl, hfz, hnd⟩ := hW
  have hA : DataW.TrodAll enc Tryz.prog W 0 (fun _ => true) true Tryz.f6.params.toList args.toList ds p := hA0
  rw [Tryz.params6] at hA hval
  obtain ⟨us, k1, k2, k3⟩ := Vx.args_rep closed (by decide) (fun j t v h1 h2 => hval j t v (by simpa using h1) (by simpa using h2)) hA
  obtain ⟨v0, vs0, d0, ds0, p0, q0, hargs0, rfl, rfl, h0, r0⟩ := trodAll_cons hA
  obtain ⟨v1, vs1, d1, ds1, p1, q1, hargs1, rfl, rfl, h1, r1⟩ := trodAll_cons r0
  obtain ⟨v2, vs2, d2, ds2, p2, q2, hargs2, rfl, rfl, h2, r2⟩ := trodAll_cons r1
  obtain ⟨rfl, rfl, rfl⟩ := trodAll_nil r2
  obtain ⟨rfl, rfl⟩ := trodVars_none hV
  simp only [Vx.OfArgs] at k3
  obtain ⟨u0, us0, rfl, m0, u1, us1, rfl, m1, u2, us2, rfl, m2, rfl⟩ := k3
  obtain ⟨X0, rfl, H0⟩ := arg22 m0
  obtain ⟨X1, rfl, H1⟩ := arg40 m1
  obtain ⟨X2, rfl, H2⟩ := arg40 m2
  clear hA0 hval0
  refine (Vx.law_calls ((qh5 _ X0 X1 X2 true (qu8 X0 X1 X2 (zF _))).mono fun u s h => h.1) k1 k2).mono fun e W' ⟨he, hg⟩ => ?_
  subst he
  exact ⟨_, rfl, Rx.law_post hW' laid (by kernel_rfl) hg rfl rfl Tryz.underlying4 rfl rfl rfl⟩
theorem over : Rows.trailUnifiesRow.holds Tryz.pinned (OpenSpec.ofChange Rows.trailUnifiesSpec) :=
  OpenClaim.holds_of_wide 6 Tryz.f6 rfl rfl rfl rfl rfl rfl rfl ⟨rfl, rfl, rfl, rfl, rfl⟩ rfl rfl rfl rfl rfl (by kernel_rfl) Tryz.func6 (by kernel_rfl)
    (of_decide_eq_true (by kernel_rfl)) (by unfold Func.isWrapper; first | (rw [if_pos (by decide +kernel)]; kernel_rfl) | (rw [if_neg (by decide +kernel)]; exact ⟨rfl, rfl⟩))
    (fun os started H enc _ => lifted os started H enc)
theorem proved : Rows.TrailUnifiesSaid :=
  over
#print axioms proved
end Go.Proofs.YtldlchbgolpkaaaGreat.trailUnifies
