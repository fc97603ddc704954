/-
  ChartOrders, proved as it is said: whatever the input, the law returns true, and what it was handed reads as it did.
  The frame of the row's step is the guide's template; the walk was printed by a program (wip/gw), the plain law is told by the texts beside it.
-/
import Derived.Test.YtafbldphahfemaaRows
import Derived.WalkKit
import Derived.ProofKit
import Derived.OpenShut
import Derived.Test.YtafbldphahfemaaP17
namespace Go.Proofs.Ytafbldphahfemaa.chartOrders
open Go.ChangeShapes Go.WideShapes Go.ChangeAt Go.RowKit
set_option linter.unusedVariables false
set_option linter.unusedSimpArgs false
set_option maxRecDepth 20000

theorem own : ownKnob Try.prog.godebug = none := by kernel_rfl
theorem laid : laidOutB Try.prog = true := by kernel_rfl
theorem pu5 : Try.prog.underlying 5 = some (.int .u8) := by kernel_rfl
theorem ce5 : Try.prog.cellsOf 5 = 1 := by kernel_rfl
theorem pu22 : Try.prog.underlying 22 = some (.slice 42) := by kernel_rfl
theorem ce22 : Try.prog.cellsOf 22 = 1 := by kernel_rfl
theorem pu42 : Try.prog.underlying 42 = some (.struct #[⟨ "From", 3, 0, false, "", "", 0⟩, ⟨ "To", 3, 1, false, "", "", 8⟩, ⟨ "Unary", 3, 2, false, "", "", 16⟩, ⟨ "Kind", 3, 3, false, "", "", 24⟩, ⟨ "Name", 9, 4, false, "", "", 32⟩, ⟨ "Kids", 34, 5, false, "", "", 48⟩, ⟨ "Lex", 37, 6, false, "", "", 72⟩, ⟨ "FS", 40, 11, false, "", "", 136⟩]) := by kernel_rfl
theorem ce42 : Try.prog.cellsOf 42 = 12 := by kernel_rfl
theorem pu3 : Try.prog.underlying 3 = some (.int .i64) := by kernel_rfl
theorem ce3 : Try.prog.cellsOf 3 = 1 := by kernel_rfl
theorem pu9 : Try.prog.underlying 9 = some (.string) := by kernel_rfl
theorem ce9 : Try.prog.cellsOf 9 = 1 := by kernel_rfl
theorem pu34 : Try.prog.underlying 34 = some (.slice 3) := by kernel_rfl
theorem ce34 : Try.prog.cellsOf 34 = 1 := by kernel_rfl
theorem pu37 : Try.prog.underlying 37 = some (.struct #[⟨ "Kind", 3, 0, false, "", "", 0⟩, ⟨ "Name", 9, 1, false, "", "", 8⟩, ⟨ "From", 3, 2, false, "", "", 24⟩, ⟨ "To", 3, 3, false, "", "", 32⟩, ⟨ "Kids", 35, 4, false, "", "", 40⟩]) := by kernel_rfl
theorem ce37 : Try.prog.cellsOf 37 = 5 := by kernel_rfl
theorem pu35 : Try.prog.underlying 35 = some (.slice 37) := by kernel_rfl
theorem ce35 : Try.prog.cellsOf 35 = 1 := by kernel_rfl
theorem pu40 : Try.prog.underlying 40 = some (.struct #[⟨ "Nodes", 38, 0, false, "", "", 0⟩]) := by kernel_rfl
theorem ce40 : Try.prog.cellsOf 40 = 1 := by kernel_rfl
theorem pu38 : Try.prog.underlying 38 = some (.slice 62) := by kernel_rfl
theorem ce38 : Try.prog.cellsOf 38 = 1 := by kernel_rfl
theorem pu62 : Try.prog.underlying 62 = some (.struct #[⟨ "Type", 3, 0, false, "", "", 0⟩, ⟨ "Arcs", 60, 1, false, "", "", 8⟩]) := by kernel_rfl
theorem ce62 : Try.prog.cellsOf 62 = 2 := by kernel_rfl
theorem pu60 : Try.prog.underlying 60 = some (.slice 72) := by kernel_rfl
theorem ce60 : Try.prog.cellsOf 60 = 1 := by kernel_rfl
theorem pu72 : Try.prog.underlying 72 = some (.struct #[⟨ "Feat", 3, 0, false, "", "", 0⟩, ⟨ "To", 3, 1, false, "", "", 8⟩]) := by kernel_rfl
theorem ce72 : Try.prog.cellsOf 72 = 2 := by kernel_rfl
theorem closed : Vx.closedTS Try.prog [5, 22, 42, 3, 9, 34, 37, 35, 40, 38, 62, 60, 72] = true := by kernel_rfl
theorem of5 {n : Nat} {us : List Vx.U} (h : Vx.OfTy Try.prog n 5 us) : ∃ i, us = [.int .u8 i] ∧ (0 ≤ i ∧ i ≤ 255) := by
  cases n with
  | zero => exact h.elim
  | succ n => simp only [Vx.OfTy, pu5] at h; obtain ⟨i, rfl, hw⟩ := h; exact ⟨i, rfl, by simpa [Lit.wf, IntKind.min, IntKind.max, IntKind.bits, IntKind.signed] using hw⟩
theorem of3 {n : Nat} {us : List Vx.U} (h : Vx.OfTy Try.prog n 3 us) : ∃ i, us = [.int .i64 i] := by
  cases n with
  | zero => exact h.elim
  | succ n => simp only [Vx.OfTy, pu3] at h; obtain ⟨i, rfl, _⟩ := h; exact ⟨i, rfl⟩
theorem of9 {n : Nat} {us : List Vx.U} (h : Vx.OfTy Try.prog n 9 us) : ∃ s, us = [.str s] := by
  cases n with
  | zero => exact h.elim
  | succ n => simp only [Vx.OfTy, pu9] at h; obtain ⟨i, rfl, _⟩ := h; exact ⟨i, rfl⟩
theorem els34 {n : Nat} : ∀ {l : List (List Vx.U)}, (∀ c ∈ l, Vx.OfTy Try.prog n 3 c) → ∃ ks : List Int, l = ks.map (Vx.cI .i64)
  | [], _ => ⟨[], rfl⟩
  | c :: l, h => by
    obtain ⟨d, rfl⟩ := of3 (h c (by simp))
    obtain ⟨ks, rfl⟩ := els34 (l := l) fun x hx => h x (by simp [hx])
    exact ⟨d :: ks, rfl⟩
theorem of34 {n : Nat} {us : List Vx.U} (h : Vx.OfTy Try.prog n 34 us) : ∃ x : List Int, us = [.isl false (x.map (Vx.cI .i64))] ∧ (x.length ≤ 9223372036854775807) := by
  cases n with
  | zero => exact h.elim
  | succ n =>
    simp only [Vx.OfTy, pu34] at h
    obtain ⟨l, hl, hlen, hall⟩ := h
    subst hl
    obtain ⟨ks, rfl⟩ := els34 hall
    exact ⟨ks, rfl, by simpa [maxLen] using hlen⟩
theorem kids_of {n : Nat} (hd : ∀ us, Vx.OfTy Try.prog n 37 us → ∃ d, us = cGDeriv d ∧ okG d) : ∀ {l : List (List Vx.U)}, (∀ c ∈ l, Vx.OfTy Try.prog n 37 c) → ∃ ks : List GDeriv, l = ks.map cGDeriv ∧ okGs ks
  | [], _ => ⟨[], rfl, by simp [okGs]⟩
  | c :: l, h => by
    obtain ⟨d, rfl, hk⟩ := hd c (h c (by simp))
    obtain ⟨ks, rfl, hks⟩ := kids_of hd (l := l) fun x hx => h x (by simp [hx])
    exact ⟨d :: ks, rfl, by simp only [okGs]; exact ⟨hk, hks⟩⟩
theorem rec_of : ∀ (s n : Nat), n < s → ∀ us, Vx.OfTy Try.prog n 37 us → ∃ d, us = cGDeriv d ∧ okG d
  | 0, n, hs, _, _ => by omega
  | s + 1, n, hs, us, h => by
    cases n with
    | zero => exact h.elim
    | succ n =>
      simp only [Vx.OfTy, pu37, ce37] at h
      obtain ⟨hl, hf⟩ := h
      match us, hl with
      | [u0, u1, u2, u3, u4], _ =>
        simp only [List.mem_cons, List.not_mem_nil, or_false, forall_eq_or_imp, forall_eq, ce3, ce35, ce9, List.drop, List.take] at hf
        obtain ⟨h0, h1, h2, h3, h4⟩ := hf
        obtain ⟨a0, e0⟩ := of3 h0
        obtain ⟨a1, e1⟩ := of9 h1
        obtain ⟨a2, e2⟩ := of3 h2
        obtain ⟨a3, e3⟩ := of3 h3
        simp only [List.cons.injEq, and_true] at e0 e1 e2 e3
        subst e0 e1 e2 e3
        cases n with
        | zero => exact h4.elim
        | succ n =>
          simp only [Vx.OfTy, pu35] at h4
          obtain ⟨l, hl, hlen, hall⟩ := h4
          simp only [List.cons.injEq, and_true] at hl
          subst hl
          obtain ⟨ks, rfl, hks⟩ := kids_of (fun us h => rec_of s n (by omega) us h) hall
          refine ⟨.mk a0 a1 a2 a3 ks, by rw [q1f]; rfl, ?_⟩
          simp only [okG]
          exact ⟨by simpa [maxLen] using hlen, hks⟩
theorem of37 {n : Nat} {us : List Vx.U} (h : Vx.OfTy Try.prog n 37 us) : ∃ d : GDeriv, us = cGDeriv d ∧ okG d := rec_of _ n (Nat.lt_succ_self _) us h
theorem of72 {n : Nat} {us : List Vx.U} (h : Vx.OfTy Try.prog n 72 us) : ∃ x : GArc, us = cGArc x := by
  cases n with
  | zero => exact h.elim
  | succ n =>
    simp only [Vx.OfTy, pu72, ce72] at h
    obtain ⟨hl, hf⟩ := h
    match us, hl with
    | [u0, u1], _ =>
      simp only [List.mem_cons, List.not_mem_nil, or_false, forall_eq_or_imp, forall_eq, ce3, List.drop, List.take] at hf
      obtain ⟨h0, h1⟩ := hf
      obtain ⟨a0, e0⟩ := of3 h0
      simp only [List.cons.injEq, and_true] at e0
      subst e0
      obtain ⟨a1, e1⟩ := of3 h1
      simp only [List.cons.injEq, and_true] at e1
      subst e1
      exact ⟨⟨a0, a1⟩, rfl⟩
theorem els60 {n : Nat} : ∀ {l : List (List Vx.U)}, (∀ c ∈ l, Vx.OfTy Try.prog n 72 c) → ∃ ks : List GArc, l = ks.map cGArc
  | [], _ => ⟨[], rfl⟩
  | c :: l, h => by
    obtain ⟨d, rfl⟩ := of72 (h c (by simp))
    obtain ⟨ks, rfl⟩ := els60 (l := l) fun x hx => h x (by simp [hx])
    exact ⟨d :: ks, rfl⟩
theorem of60 {n : Nat} {us : List Vx.U} (h : Vx.OfTy Try.prog n 60 us) : ∃ x : List GArc, us = [.isl false (x.map cGArc)] ∧ (x.length ≤ 9223372036854775807) := by
  cases n with
  | zero => exact h.elim
  | succ n =>
    simp only [Vx.OfTy, pu60] at h
    obtain ⟨l, hl, hlen, hall⟩ := h
    subst hl
    obtain ⟨ks, rfl⟩ := els60 hall
    exact ⟨ks, rfl, by simpa [maxLen] using hlen⟩
theorem of62 {n : Nat} {us : List Vx.U} (h : Vx.OfTy Try.prog n 62 us) : ∃ x : GNode, us = cGNode x ∧ ((x.Arcs.length ≤ 9223372036854775807)) := by
  cases n with
  | zero => exact h.elim
  | succ n =>
    simp only [Vx.OfTy, pu62, ce62] at h
    obtain ⟨hl, hf⟩ := h
    match us, hl with
    | [u0, u1], _ =>
      simp only [List.mem_cons, List.not_mem_nil, or_false, forall_eq_or_imp, forall_eq, ce3, ce60, List.drop, List.take] at hf
      obtain ⟨h0, h1⟩ := hf
      obtain ⟨a0, e0⟩ := of3 h0
      simp only [List.cons.injEq, and_true] at e0
      subst e0
      obtain ⟨a1, e1, k1⟩ := of60 h1
      simp only [List.cons.injEq, and_true] at e1
      subst e1
      exact ⟨⟨a0, a1⟩, rfl, k1⟩
theorem els38 {n : Nat} : ∀ {l : List (List Vx.U)}, (∀ c ∈ l, Vx.OfTy Try.prog n 62 c) → ∃ ks : List GNode, l = ks.map cGNode ∧ ∀ q ∈ ks, (q.Arcs.length ≤ 9223372036854775807)
  | [], _ => ⟨[], rfl, by simp⟩
  | c :: l, h => by
    obtain ⟨d, rfl, hk⟩ := of62 (h c (by simp))
    obtain ⟨ks, rfl, hks⟩ := els38 (l := l) fun x hx => h x (by simp [hx])
    exact ⟨d :: ks, rfl, by intro q hq; rcases List.mem_cons.1 hq with rfl | hq; exact hk; exact hks q hq⟩
theorem of38 {n : Nat} {us : List Vx.U} (h : Vx.OfTy Try.prog n 38 us) : ∃ x : List GNode, us = [.isl false (x.map cGNode)] ∧ (x.length ≤ 9223372036854775807 ∧ ∀ q ∈ x, (q.Arcs.length ≤ 9223372036854775807)) := by
  cases n with
  | zero => exact h.elim
  | succ n =>
    simp only [Vx.OfTy, pu38] at h
    obtain ⟨l, hl, hlen, hall⟩ := h
    subst hl
    obtain ⟨ks, rfl, hks⟩ := els38 hall
    exact ⟨ks, rfl, by simpa [maxLen] using hlen, hks⟩
theorem of40 {n : Nat} {us : List Vx.U} (h : Vx.OfTy Try.prog n 40 us) : ∃ x : GFS, us = cGFS x ∧ ((x.Nodes.length ≤ 9223372036854775807 ∧ ∀ q ∈ x.Nodes, (q.Arcs.length ≤ 9223372036854775807))) := by
  cases n with
  | zero => exact h.elim
  | succ n =>
    simp only [Vx.OfTy, pu40, ce40] at h
    obtain ⟨hl, hf⟩ := h
    match us, hl with
    | [u0], _ =>
      simp only [List.mem_cons, List.not_mem_nil, or_false, forall_eq_or_imp, forall_eq, ce38, List.drop, List.take] at hf
      have h0 := hf
      obtain ⟨a0, e0, k0⟩ := of38 h0
      simp only [List.cons.injEq, and_true] at e0
      subst e0
      exact ⟨⟨a0⟩, rfl, k0⟩
theorem of42 {n : Nat} {us : List Vx.U} (h : Vx.OfTy Try.prog n 42 us) : ∃ x : GEdge, us = cGEdge x ∧ ((x.Kids.length ≤ 9223372036854775807) ∧ (okG x.Lex) ∧ ((x.FS.Nodes.length ≤ 9223372036854775807 ∧ ∀ q ∈ x.FS.Nodes, (q.Arcs.length ≤ 9223372036854775807)))) := by
  cases n with
  | zero => exact h.elim
  | succ n =>
    simp only [Vx.OfTy, pu42, ce42] at h
    obtain ⟨hl, hf⟩ := h
    match us, hl with
    | [u0, u1, u2, u3, u4, u5, u6, u7, u8, u9, u10, u11], _ =>
      simp only [List.mem_cons, List.not_mem_nil, or_false, forall_eq_or_imp, forall_eq, ce3, ce34, ce37, ce40, ce9, List.drop, List.take] at hf
      obtain ⟨h0, h1, h2, h3, h4, h5, h6, h7⟩ := hf
      obtain ⟨a0, e0⟩ := of3 h0
      simp only [List.cons.injEq, and_true] at e0
      subst e0
      obtain ⟨a1, e1⟩ := of3 h1
      simp only [List.cons.injEq, and_true] at e1
      subst e1
      obtain ⟨a2, e2⟩ := of3 h2
      simp only [List.cons.injEq, and_true] at e2
      subst e2
      obtain ⟨a3, e3⟩ := of3 h3
      simp only [List.cons.injEq, and_true] at e3
      subst e3
      obtain ⟨a4, e4⟩ := of9 h4
      simp only [List.cons.injEq, and_true] at e4
      subst e4
      obtain ⟨a5, e5, k5⟩ := of34 h5
      simp only [List.cons.injEq, and_true] at e5
      subst e5
      obtain ⟨a6, e6, k6⟩ := of37 h6
      rw [q1f] at e6; simp only [xGDeriv, List.cons.injEq, and_true] at e6
      obtain ⟨rfl, rfl, rfl, rfl, rfl⟩ := e6
      obtain ⟨a7, e7, k7⟩ := of40 h7
      simp only [cGFS, List.cons.injEq, and_true] at e7
      obtain ⟨rfl⟩ := e7
      exact ⟨⟨a0, a1, a2, a3, a4, a5, a6, a7⟩, rfl, ⟨k5, k6, k7⟩⟩
theorem els22 {n : Nat} : ∀ {l : List (List Vx.U)}, (∀ c ∈ l, Vx.OfTy Try.prog n 42 c) → ∃ ks : List GEdge, l = ks.map cGEdge ∧ ∀ q ∈ ks, (q.Kids.length ≤ 9223372036854775807) ∧ (okG q.Lex) ∧ ((q.FS.Nodes.length ≤ 9223372036854775807 ∧ ∀ qq ∈ q.FS.Nodes, (qq.Arcs.length ≤ 9223372036854775807)))
  | [], _ => ⟨[], rfl, by simp⟩
  | c :: l, h => by
    obtain ⟨d, rfl, hk⟩ := of42 (h c (by simp))
    obtain ⟨ks, rfl, hks⟩ := els22 (l := l) fun x hx => h x (by simp [hx])
    exact ⟨d :: ks, rfl, by intro q hq; rcases List.mem_cons.1 hq with rfl | hq; exact hk; exact hks q hq⟩
theorem of22 {n : Nat} {us : List Vx.U} (h : Vx.OfTy Try.prog n 22 us) : ∃ x : List GEdge, us = [.isl false (x.map cGEdge)] ∧ (x.length ≤ 9223372036854775807 ∧ ∀ q ∈ x, (q.Kids.length ≤ 9223372036854775807) ∧ (okG q.Lex) ∧ ((q.FS.Nodes.length ≤ 9223372036854775807 ∧ ∀ qq ∈ q.FS.Nodes, (qq.Arcs.length ≤ 9223372036854775807)))) := by
  cases n with
  | zero => exact h.elim
  | succ n =>
    simp only [Vx.OfTy, pu22] at h
    obtain ⟨l, hl, hlen, hall⟩ := h
    subst hl
    obtain ⟨ks, rfl, hks⟩ := els22 hall
    exact ⟨ks, rfl, by simpa [maxLen] using hlen, hks⟩
theorem arg5 {u : Vx.U} (h : Vx.OfArg Try.prog 5 u) : ∃ x : Int, u = .int .u8 x ∧ (0 ≤ x ∧ x ≤ 255) := by
  obtain ⟨n, us, h1, h2⟩ := h
  simp only [pu5] at h2
  obtain ⟨x, rfl, hk⟩ := of5 h1
  exact ⟨x, by first | exact h2 | simpa using h2 | simpa using h2.symm, hk⟩
theorem arg22 {u : Vx.U} (h : Vx.OfArg Try.prog 22 u) : ∃ x : List GEdge, u = .isl false (List.map cGEdge x) ∧ (x.length ≤ 9223372036854775807 ∧ ∀ q ∈ x, (q.Kids.length ≤ 9223372036854775807) ∧ (okG q.Lex) ∧ ((q.FS.Nodes.length ≤ 9223372036854775807 ∧ ∀ qq ∈ q.FS.Nodes, (qq.Arcs.length ≤ 9223372036854775807)))) := by
  obtain ⟨n, us, h1, h2⟩ := h
  simp only [pu22] at h2
  obtain ⟨x, rfl, hk⟩ := of22 h1
  exact ⟨x, by first | exact h2 | simpa using h2 | simpa using h2.symm, hk⟩
set_option maxRecDepth 100000 in
theorem lifted (os : Os) (started : os.Started) (H : Type) (enc : TypeId × Value → H) :
    ReturnsInHanded {} Try.checked os 7 .any (Rows.chartOrdersSpec.pre6 enc Try.prog Try.f7 Rows.chartOrdersRow.domain false) (Rows.chartOrdersSpec.post enc Try.prog Try.f7 false true false false) := by
  refine returnsInHanded_of_change (C := Try.checked) own started (by kernel_rfl) Try.func7
    (ChangeSpec.witness6 (enc := enc) (C := Try.checked) false ⟨#[], #[.int .u8 0, .slice none 0 0], []⟩ 7 (by kernel_rfl) (by kernel_rfl) (by kernel_rfl) (by kernel_rfl)) ?_
  intro W base args ds gs before hval0 hW hcnd _
  have hval : ∀ (j : Nat) t v, Try.f7.params[j]? = some t → args[j]? = some v → Value.okWide Try.prog W .any base t v := hval0
  have hW' := hW
  obtain ⟨p, q, hA0, hV, rfl, hfz, hnd⟩ := hW
  have hA : DataW.TrodAll enc Try.prog W 0 (fun _ => true) true Try.f7.params.toList args.toList ds p := hA0
  rw [Try.params7] at hA hval
  obtain ⟨us, k1, k2, k3⟩ := Vx.args_rep closed (by decide) (fun j t v h1 h2 => hval j t v (by simpa using h1) (by simpa using h2)) hA
  obtain ⟨v0, vs0, d0, ds0, p0, q0, hargs0, rfl, rfl, h0, r0⟩ := trodAll_cons hA
  obtain ⟨v1, vs1, d1, ds1, p1, q1, hargs1, rfl, rfl, h1, r1⟩ := trodAll_cons r0
  obtain ⟨rfl, rfl, rfl⟩ := trodAll_nil r1
  obtain ⟨rfl, rfl⟩ := trodVars_none hV
  simp only [Vx.OfArgs] at k3
  obtain ⟨u0, us0, rfl, m0, u1, us1, rfl, m1, rfl⟩ := k3
  obtain ⟨X0, rfl, H0⟩ := arg5 m0
  obtain ⟨X1, rfl, H1⟩ := arg22 m1
  clear hA0 hval0
  refine (Vx.law_calls ((q99 _ X0 X1 true (orders_law H0 (fun e he => (H1.2 e he).2.1) (Nat.le_refl _))).mono fun u s h => h.1) k1 k2).mono fun e W' ⟨he, hg⟩ => ?_
  subst he
  exact ⟨_, rfl, Rx.law_post hW' laid (by kernel_rfl) hg rfl rfl Try.underlying4 rfl rfl rfl⟩
theorem over : Rows.chartOrdersRow.holds Try.pinned (OpenSpec.ofChange Rows.chartOrdersSpec) :=
  OpenClaim.holds_of_wide 7 Try.f7 rfl rfl rfl rfl rfl rfl rfl ⟨rfl, rfl, rfl, rfl, rfl⟩ rfl rfl rfl rfl rfl (by kernel_rfl) Try.func7 (by kernel_rfl)
    (of_decide_eq_true (by kernel_rfl)) (by unfold Func.isWrapper; first | (rw [if_pos (by decide +kernel)]; kernel_rfl) | (rw [if_neg (by decide +kernel)]; exact ⟨rfl, rfl⟩))
    (fun os started H enc _ => lifted os started H enc)
theorem proved : Rows.ChartOrdersSaid :=
  over
#print axioms proved
end Go.Proofs.Ytafbldphahfemaa.chartOrders
