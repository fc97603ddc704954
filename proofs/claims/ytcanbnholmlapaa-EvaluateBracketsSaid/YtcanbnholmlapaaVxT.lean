/-
  VxT: the frame of a call: a contract over a small heap serves over a great one, under other names.
-/
import Derived.Test.YtcanbnholmlapaaVxR
namespace Go.Vx
open Go Go.Rx
set_option linter.unusedVariables false

mutual
def rU (π : Nat → Nat) : U → U
  | .ptr k st off => .ptr (π k) st off
  | .sl k off n c => .sl (π k) off n c
  | .vl k st off n => .vl (π k) st off n
  | .map k => .map (π k)
  | .iptr l => .iptr (rUL π l)
  | .isl t l => .isl t (rUR π l)
  | .fn f a b => .fn f (rUL π a) (rUL π b)
  | .agg l => .agg (rUL π l)
  | .tup l => .tup (rUL π l)
  | u => u
def rUL (π : Nat → Nat) : List U → List U
  | [] => []
  | u :: l => rU π u :: rUL π l
def rUR (π : Nat → Nat) : List (List U) → List (List U)
  | [] => []
  | c :: l => rUL π c :: rUR π l
end
theorem rUL_len (π : Nat → Nat) : ∀ l, (rUL π l).length = l.length
  | [] => rfl
  | u :: l => by simp [rUL, rUL_len π l]
theorem rUR_len (π : Nat → Nat) : ∀ l, (rUR π l).length = l.length
  | [] => rfl
  | u :: l => by simp [rUR, rUR_len π l]
theorem okC_r (π : Nat → Nat) (u : U) : okC (rU π u) = okC u := by cases u <;> simp [rU, okC]
theorem okL_r (π : Nat → Nat) : ∀ l, okL (rUL π l) = okL l
  | [] => rfl
  | u :: l => by simp [rUL, okL, okC_r, okL_r π l]
/-- the leaves below n go over under π, and what is read alone stays -/
structure Leaf (n : Nat) (π : Nat → Nat) (x y : Cx) : Prop where
  ptr : ∀ k st off v, k < n → Rel x (.ptr k st off) v → Rel y (.ptr (π k) st off) v
  sl : ∀ k off m c v, k < n → Rel x (.sl k off m c) v → Rel y (.sl (π k) off m c) v
  vl : ∀ k st off m v, k < n → Rel x (.vl k st off m) v → Rel y (.vl (π k) st off m) v
  map : ∀ k v, k < n → Rel x (.map k) v → Rel y (.map (π k)) v
  imm : ∀ i row e, lk x.s.h i = some (.inl (row, e, 1)) → lk y.s.h i = some (.inl (row, e, 1))
mutual
theorem Rel.leaf {n : Nat} {π : Nat → Nat} {x y : Cx} (h : Leaf n π x y) : (u : U) → (v : Value) → Bel n u → Rel x u v → Rel y (rU π u) v
  | .junk, v, _, _ => by simp [rU, Rel]
  | .bool b, v, _, hr => by simpa [rU, Rel] using hr
  | .int k z, v, _, hr => by simpa [rU, Rel] using hr
  | .str l, v, _, hr => by simpa [rU, Rel] using hr
  | .nilp, v, _, hr => by simpa [rU, Rel] using hr
  | .ptr k st off, v, hb, hr => h.ptr k st off v (by simpa [Bel] using hb) hr
  | .iptr l, v, hb, hr => by
    simp only [rU, Rel] at *
    obtain ⟨i, off, row, e, h1, h2, h3, h4⟩ := hr
    exact ⟨i, off, row, e, h1, h.imm _ _ _ h2, RelP.leaf h l _ (by simpa [Bel] using hb) h3, by rw [okL_r]; exact h4⟩
  | .nils, v, _, hr => by simpa [rU, Rel] using hr
  | .sl k off m c, v, hb, hr => h.sl k off m c v (by simpa [Bel] using hb) hr
  | .vl k st off m, v, hb, hr => h.vl k st off m v (by simpa [Bel] using hb) hr
  | .isl t l, v, hb, hr => by
    simp only [rU, Rel] at *
    rcases hr with ⟨rfl, hr⟩ | ⟨i, off, c, h1, h2, h3⟩
    · exact .inl ⟨rfl, hr⟩
    · rw [rUR_len]
      refine .inr ⟨i, off, c, h1, h2, ?_⟩
      rcases h3 with rfl | ⟨row, e, sz, g1, g2, g3⟩
      · exact .inl rfl
      · exact .inr ⟨row, e, sz, h.imm _ _ _ g1, RelR.leaf h l _ (by simpa [Bel] using hb) g2, g3⟩
  | .nilm, v, _, hr => by simpa [rU, Rel] using hr
  | .map k, v, hb, hr => h.map k v (by simpa [Bel] using hb) hr
  | .fn f a b, v, hb, hr => by
    simp only [rU, Rel] at *
    obtain ⟨va, vb, h1, h2, h3, h4, h5⟩ := hr
    simp only [Bel] at hb
    exact ⟨va, vb, h1, RelP.leaf h a _ hb.1 h2, by rw [rUL_len]; exact h3, RelP.leaf h b _ hb.2 h4, by rw [rUL_len]; exact h5⟩
  | .nilf, v, _, hr => by simpa [rU, Rel] using hr
  | .nili, v, _, hr => by simpa [rU, Rel] using hr
  | .agg l, v, hb, hr => by
    simp only [rU, Rel] at *
    obtain ⟨vs, h1, h2, h3, h4⟩ := hr
    exact ⟨vs, h1, RelP.leaf h l _ (by simpa [Bel] using hb) h2, by rw [rUL_len]; exact h3, by rw [okL_r]; exact h4⟩
  | .tup l, v, hb, hr => by
    simp only [rU, Rel] at *
    obtain ⟨vs, h1, h2, h3⟩ := hr
    exact ⟨vs, h1, RelP.leaf h l _ (by simpa [Bel] using hb) h2, by rw [rUL_len]; exact h3⟩
theorem RelP.leaf {n : Nat} {π : Nat → Nat} {x y : Cx} (h : Leaf n π x y) : (l : List U) → (vs : List Value) → BelL n l → RelP x l vs → RelP y (rUL π l) vs
  | [], vs, _, _ => by simp [rUL, RelP]
  | u :: l, [], _, hr => by simp [RelP] at hr
  | u :: l, v :: vs, hb, hr => by
    simp only [rUL, RelP, BelL] at *
    exact ⟨Rel.leaf h u v hb.1 hr.1, RelP.leaf h l vs hb.2 hr.2⟩
theorem RelR.leaf {n sz : Nat} {π : Nat → Nat} {x y : Cx} (h : Leaf n π x y) : (l : List (List U)) → (vs : List Value) → BelR n l → RelR x sz l vs → RelR y sz (rUR π l) vs
  | [], vs, _, _ => by simp [rUR, RelR]
  | c :: l, vs, hb, hr => by
    simp only [rUR, RelR, BelR] at *
    exact ⟨by rw [rUL_len]; exact hr.1, by rw [okL_r]; exact hr.2.1, RelP.leaf h c vs hb.1 hr.2.2.1, RelR.leaf h l _ hb.2 hr.2.2.2⟩
end

def rM (π : Nat → Nat) (e : ME) : ME := ⟨rU π e.key, rU π e.val, e.born⟩
def rB (π : Nat → Nat) : B → B
  | .row l e => .row (rUL π l) e
  | .vec l e sz st => .vec (rUL π l) e sz st
  | .map es cl => .map (es.map (rM π)) cl
theorem rB_st (π : Nat → Nat) (b : B) : (rB π b).st = b.st := by cases b <;> rfl
mutual
theorem rU_back {n : Nat} {π κ : Nat → Nat} (h : ∀ k, k < n → κ (π k) = k) : (u : U) → Bel n u → rU κ (rU π u) = u
  | .ptr k _ _, hb => by simp only [Bel] at hb; simp [rU, h k hb]
  | .sl k _ _ _, hb => by simp only [Bel] at hb; simp [rU, h k hb]
  | .vl k _ _ _, hb => by simp only [Bel] at hb; simp [rU, h k hb]
  | .map k, hb => by simp only [Bel] at hb; simp [rU, h k hb]
  | .iptr l, hb => by simp only [Bel] at hb; simp [rU, rUL_back h l hb]
  | .isl t l, hb => by simp only [Bel] at hb; simp [rU, rUR_back h l hb]
  | .fn f a b, hb => by simp only [Bel] at hb; simp [rU, rUL_back h a hb.1, rUL_back h b hb.2]
  | .agg l, hb => by simp only [Bel] at hb; simp [rU, rUL_back h l hb]
  | .tup l, hb => by simp only [Bel] at hb; simp [rU, rUL_back h l hb]
  | .junk, _ => rfl
  | .bool _, _ => rfl
  | .int _ _, _ => rfl
  | .str _, _ => rfl
  | .nilp, _ => rfl
  | .nils, _ => rfl
  | .nilm, _ => rfl
  | .nilf, _ => rfl
  | .nili, _ => rfl
theorem rUL_back {n : Nat} {π κ : Nat → Nat} (h : ∀ k, k < n → κ (π k) = k) : (l : List U) → BelL n l → rUL κ (rUL π l) = l
  | [], _ => rfl
  | u :: l, hb => by simp only [BelL] at hb; simp [rUL, rU_back h u hb.1, rUL_back h l hb.2]
theorem rUR_back {n : Nat} {π κ : Nat → Nat} (h : ∀ k, k < n → κ (π k) = k) : (l : List (List U)) → BelR n l → rUR κ (rUR π l) = l
  | [], _ => rfl
  | c :: l, hb => by simp only [BelR] at hb; simp [rUR, rUL_back h c hb.1, rUR_back h l hb.2]
end

theorem RelE.leaf {n : Nat} {π : Nat → Nat} {x y : Cx} (h : Leaf n π x y) {l : List U} {vs : List Value} (hb : BelL n l) (hr : RelE x l vs) : RelE y (rUL π l) vs := ⟨RelP.leaf h l vs hb hr.1, by rw [rUL_len]; exact hr.2⟩
theorem BOk.leaf {n : Nat} {π : Nat → Nat} {x y : Cx} (h : Leaf n π x y) {k j : Nat} {b : B} (hb : BelB n b) (hρ : y.ρ j = x.ρ k) (hl : ∀ i c, x.ρ k = some i → lk x.s.h i = some c → lk y.s.h i = some c) (hB : BOk x k b) : BOk y j (rB π b) := by
  cases b with
  | row l e =>
    obtain ⟨k1, i, l', e1, e2, e3⟩ := hB
    exact ⟨by rw [okL_r]; exact k1, i, l', by rw [hρ, e1], hl _ _ e1 e2, RelE.leaf h hb e3⟩
  | vec l e sz st =>
    obtain ⟨k1, k2, h3⟩ := hB
    refine ⟨by rw [okL_r]; exact k1, k2, ?_⟩
    rcases h3 with ⟨rfl, h4⟩ | ⟨i, l', e1, e2, e3⟩
    · exact .inl ⟨rfl, by rw [hρ, h4]⟩
    · exact .inr ⟨i, l', by rw [hρ, e1], hl _ _ e1 e2, RelE.leaf h hb e3⟩
  | map es cl =>
    obtain ⟨i, es', e1, e2, e3, e4⟩ := hB
    refine ⟨i, es', by rw [hρ, e1], hl _ _ e1 e2, by simpa using e3, fun j e he => ?_⟩
    simp only [List.getElem?_map] at he
    cases hj : es[j]? with
    | none => rw [hj] at he; cases he
    | some e0 =>
      rw [hj] at he
      simp only [Option.map_some, Option.some.injEq] at he
      subst he
      obtain ⟨v, q1, q2, q3, q4⟩ := e4 j e0 hj
      have hbe := hb e0 (List.mem_of_getElem? hj)
      exact ⟨v, q1, Rel.leaf h _ _ hbe.1 q2, Rel.leaf h _ _ hbe.2 q3, q4⟩

/-- the other way: leaves under π come back -/
structure Unleaf (n : Nat) (π : Nat → Nat) (x y : Cx) : Prop where
  ptr : ∀ k st off v, k < n → Rel x (.ptr (π k) st off) v → Rel y (.ptr k st off) v
  sl : ∀ k off m c v, k < n → Rel x (.sl (π k) off m c) v → Rel y (.sl k off m c) v
  vl : ∀ k st off m v, k < n → Rel x (.vl (π k) st off m) v → Rel y (.vl k st off m) v
  map : ∀ k v, k < n → Rel x (.map (π k)) v → Rel y (.map k) v
  imm : ∀ i row e, lk x.s.h i = some (.inl (row, e, 1)) → lk y.s.h i = some (.inl (row, e, 1))
mutual
theorem Rel.unleaf {n : Nat} {π : Nat → Nat} {x y : Cx} (h : Unleaf n π x y) : (u : U) → (v : Value) → Bel n u → Rel x (rU π u) v → Rel y u v
  | .junk, v, _, _ => by simp [Rel]
  | .bool b, v, _, hr => by simpa [rU, Rel] using hr
  | .int k z, v, _, hr => by simpa [rU, Rel] using hr
  | .str l, v, _, hr => by simpa [rU, Rel] using hr
  | .nilp, v, _, hr => by simpa [rU, Rel] using hr
  | .ptr k st off, v, hb, hr => h.ptr k st off v (by simpa [Bel] using hb) hr
  | .iptr l, v, hb, hr => by
    simp only [rU, Rel] at *
    obtain ⟨i, off, row, e, h1, h2, h3, h4⟩ := hr
    exact ⟨i, off, row, e, h1, h.imm _ _ _ h2, RelP.unleaf h l _ (by simpa [Bel] using hb) h3, by rw [okL_r] at h4; exact h4⟩
  | .nils, v, _, hr => by simpa [rU, Rel] using hr
  | .sl k off m c, v, hb, hr => h.sl k off m c v (by simpa [Bel] using hb) hr
  | .vl k st off m, v, hb, hr => h.vl k st off m v (by simpa [Bel] using hb) hr
  | .isl t l, v, hb, hr => by
    simp only [rU, Rel] at *
    rcases hr with ⟨h0, hr⟩ | ⟨i, off, c, h1, h2, h3⟩
    · exact .inl ⟨List.eq_nil_of_length_eq_zero (by rw [← rUR_len π, h0]; rfl), hr⟩
    · rw [rUR_len] at h1 h2
      refine .inr ⟨i, off, c, h1, h2, ?_⟩
      rcases h3 with h3 | ⟨row, e, sz, g1, g2, g3⟩
      · exact .inl (List.eq_nil_of_length_eq_zero (by rw [← rUR_len π, h3]; rfl))
      · rw [rUR_len] at g3
        exact .inr ⟨row, e, sz, h.imm _ _ _ g1, RelR.unleaf h l _ (by simpa [Bel] using hb) g2, g3⟩
  | .nilm, v, _, hr => by simpa [rU, Rel] using hr
  | .map k, v, hb, hr => h.map k v (by simpa [Bel] using hb) hr
  | .fn f a b, v, hb, hr => by
    simp only [rU, Rel] at *
    obtain ⟨va, vb, h1, h2, h3, h4, h5⟩ := hr
    simp only [Bel] at hb
    rw [rUL_len] at h3 h5
    exact ⟨va, vb, h1, RelP.unleaf h a _ hb.1 h2, h3, RelP.unleaf h b _ hb.2 h4, h5⟩
  | .nilf, v, _, hr => by simpa [rU, Rel] using hr
  | .nili, v, _, hr => by simpa [rU, Rel] using hr
  | .agg l, v, hb, hr => by
    simp only [rU, Rel] at *
    obtain ⟨vs, h1, h2, h3, h4⟩ := hr
    rw [rUL_len] at h3
    rw [okL_r] at h4
    exact ⟨vs, h1, RelP.unleaf h l _ (by simpa [Bel] using hb) h2, h3, h4⟩
  | .tup l, v, hb, hr => by
    simp only [rU, Rel] at *
    obtain ⟨vs, h1, h2, h3⟩ := hr
    rw [rUL_len] at h3
    exact ⟨vs, h1, RelP.unleaf h l _ (by simpa [Bel] using hb) h2, h3⟩
theorem RelP.unleaf {n : Nat} {π : Nat → Nat} {x y : Cx} (h : Unleaf n π x y) : (l : List U) → (vs : List Value) → BelL n l → RelP x (rUL π l) vs → RelP y l vs
  | [], vs, _, _ => by simp [RelP]
  | u :: l, [], _, hr => by simp [rUL, RelP] at hr
  | u :: l, v :: vs, hb, hr => by
    simp only [rUL, RelP, BelL] at *
    exact ⟨Rel.unleaf h u v hb.1 hr.1, RelP.unleaf h l vs hb.2 hr.2⟩
theorem RelR.unleaf {n sz : Nat} {π : Nat → Nat} {x y : Cx} (h : Unleaf n π x y) : (l : List (List U)) → (vs : List Value) → BelR n l → RelR x sz (rUR π l) vs → RelR y sz l vs
  | [], vs, _, _ => by simp [RelR]
  | c :: l, vs, hb, hr => by
    simp only [rUR, RelR, BelR] at *
    exact ⟨by rw [← rUL_len π]; exact hr.1, by rw [← okL_r π]; exact hr.2.1, RelP.unleaf h c vs hb.1 hr.2.2.1, RelR.unleaf h l _ hb.2 hr.2.2.2⟩
end
theorem RelE.unleaf {n : Nat} {π : Nat → Nat} {x y : Cx} (h : Unleaf n π x y) {l : List U} {vs : List Value} (hb : BelL n l) (hr : RelE x (rUL π l) vs) : RelE y l vs := ⟨RelP.unleaf h l vs hb hr.1, by rw [← rUL_len π]; exact hr.2⟩
theorem BOk.unleaf {n : Nat} {π : Nat → Nat} {x y : Cx} (h : Unleaf n π x y) {k j : Nat} {b : B} (hb : BelB n b) (hρ : y.ρ j = x.ρ k) (hl : ∀ i c, x.ρ k = some i → lk x.s.h i = some c → lk y.s.h i = some c) (hB : BOk x k (rB π b)) : BOk y j b := by
  cases b with
  | row l e =>
    obtain ⟨k1, i, l', e1, e2, e3⟩ := hB
    exact ⟨by rw [okL_r] at k1; exact k1, i, l', by rw [hρ, e1], hl _ _ e1 e2, RelE.unleaf h hb e3⟩
  | vec l e sz st =>
    obtain ⟨k1, k2, h3⟩ := hB
    rw [okL_r] at k1
    refine ⟨k1, k2, ?_⟩
    rcases h3 with ⟨h3, h4⟩ | ⟨i, l', e1, e2, e3⟩
    · exact .inl ⟨List.eq_nil_of_length_eq_zero (by rw [← rUL_len π, h3]; rfl), by rw [hρ, h4]⟩
    · exact .inr ⟨i, l', by rw [hρ, e1], hl _ _ e1 e2, RelE.unleaf h hb e3⟩
  | map es cl =>
    obtain ⟨i, es', e1, e2, e3, e4⟩ := hB
    refine ⟨i, es', by rw [hρ, e1], hl _ _ e1 e2, by simpa using e3, fun j e he => ?_⟩
    have hj : (es.map (rM π))[j]? = some (rM π e) := by simp [he]
    obtain ⟨v, q1, q2, q3, q4⟩ := e4 j _ hj
    have hbe := hb e (List.mem_of_getElem? he)
    exact ⟨v, q1, Rel.unleaf h _ _ hbe.1 q2, Rel.unleaf h _ _ hbe.2 q3, q4⟩

/- names in a list -/
def ix : List Nat → Nat → Nat → Option Nat
  | [], _, _ => none
  | a :: l, k, i => cond (Nat.beq a k) (some i) (ix l k (i + 1))
def nm : List Nat → Nat → Nat → Nat
  | [], nx, j => nx + j
  | a :: _, _, 0 => a
  | _ :: l, nx, j + 1 => nm l nx j
theorem nm_lt : ∀ (ns : List Nat) (nx j : Nat), j < ns.length → ∃ h : j < ns.length, nm ns nx j = ns[j]
  | a :: l, nx, 0, h => ⟨h, rfl⟩
  | a :: l, nx, j + 1, h => by
    obtain ⟨h', e⟩ := nm_lt l nx j (by simpa using h)
    exact ⟨h, by simp [nm, e]⟩
theorem nm_ge : ∀ (ns : List Nat) (nx j : Nat), ns.length ≤ j → nm ns nx j = nx + (j - ns.length)
  | [], nx, j, _ => by simp [nm]
  | a :: l, nx, 0, h => by simp at h
  | a :: l, nx, j + 1, h => by simp only [nm, nm_ge l nx j (by simpa using h)]; simp
theorem nm_inj {ns : List Nat} {nx : Nat} (hnd : ns.Nodup) (hlt : ∀ k ∈ ns, k < nx) {i j : Nat} (h : nm ns nx i = nm ns nx j) : i = j := by
  by_cases hi : i < ns.length
  · obtain ⟨_, e1⟩ := nm_lt ns nx i hi
    by_cases hj : j < ns.length
    · obtain ⟨_, e2⟩ := nm_lt ns nx j hj
      rw [e1, e2] at h
      exact (List.getElem_inj hnd).1 h
    · rw [e1, nm_ge ns nx j (by omega)] at h
      have := hlt _ (List.getElem_mem hi)
      omega
  · rw [nm_ge ns nx i (by omega)] at h
    by_cases hj : j < ns.length
    · obtain ⟨_, e2⟩ := nm_lt ns nx j hj
      rw [e2] at h
      have := hlt _ (List.getElem_mem hj)
      omega
    · rw [nm_ge ns nx j (by omega)] at h
      omega
def hasN : List Nat → Nat → Bool
  | [], _ => false
  | a :: l, k => cond (Nat.beq a k) true (hasN l k)
theorem hasN_iff : ∀ (l : List Nat) (k : Nat), hasN l k = true ↔ k ∈ l
  | [], k => by simp [hasN]
  | a :: l, k => by
    simp only [hasN, beq_eq, List.mem_cons]
    by_cases e : a = k
    · simp [e]
    · have : ¬ k = a := fun h => e h.symm
      simp [e, this, hasN_iff l k]
/-- the rows of the callee under the caller's names, and the caller's others -/
def renH (ns : List Nat) (nx : Nat) : List (Nat × B) → List (Nat × B)
  | [] => []
  | (j, b) :: h => (nm ns nx j, rB (nm ns nx) b) :: renH ns nx h
def dropH (ns : List Nat) : List (Nat × B) → List (Nat × B)
  | [] => []
  | (k, b) :: h => cond (hasN ns k) (dropH ns h) ((k, b) :: dropH ns h)
theorem gt_renH {ns : List Nat} {nx : Nat} (hi : ∀ i j, nm ns nx i = nm ns nx j → i = j) : ∀ (h : List (Nat × B)) (j : Nat), gt (renH ns nx h) (nm ns nx j) = (gt h j).map (rB (nm ns nx))
  | [], j => by simp [renH, gt]
  | (i, b) :: h, j => by
    simp only [renH, gt_cons, gt_renH hi h j]
    by_cases e : i = j
    · simp [e]
    · have : ¬ nm ns nx i = nm ns nx j := fun h => e (hi _ _ h)
      simp [e, this]
theorem gt_renH_none {ns : List Nat} {nx : Nat} : ∀ (h : List (Nat × B)) (k : Nat), (∀ j, nm ns nx j ≠ k) → gt (renH ns nx h) k = none
  | [], k, _ => by simp [renH, gt]
  | (i, b) :: h, k, hk => by simp [renH, gt_cons, hk i, gt_renH_none h k hk]
theorem gt_dropH (ns : List Nat) : ∀ (h : List (Nat × B)) (k : Nat), gt (dropH ns h) k = if k ∈ ns then none else gt h k
  | [], k => by simp [dropH, gt]
  | (j, b) :: h, k => by
    have ih := gt_dropH ns h k
    simp only [dropH]
    cases hj : hasN ns j with
    | true =>
      have hj' := (hasN_iff ns j).1 hj
      simp only [cond_true, ih, gt_cons]
      by_cases e : j = k
      · subst e; simp [hj']
      · simp [e]
    | false =>
      have hj' : ¬ j ∈ ns := fun h => by rw [(hasN_iff ns j).2 h] at hj; cases hj
      simp only [cond_false, gt_cons, ih]
      by_cases e : j = k
      · subst e; simp [hj']
      · simp [e]
theorem gt_append (a b : List (Nat × B)) (k : Nat) : gt (a ++ b) k = match gt a k with | some c => some c | none => gt b k := by
  induction a with
  | nil => simp [gt]
  | cons p a ih =>
    obtain ⟨j, c⟩ := p
    simp only [List.cons_append, gt_cons, ih]
    by_cases e : j = k <;> simp [e]
def frS (ns : List Nat) (σ σ0 : Sg) : Sg := ⟨renH ns σ.nx σ0.h ++ dropH ns σ.h, σ.nx + (σ0.nx - ns.length)⟩
mutual
theorem rid : (u : U) → rU id u = u
  | .ptr k _ _ => by simp [rU]
  | .sl k _ _ _ => by simp [rU]
  | .vl k _ _ _ => by simp [rU]
  | .map k => by simp [rU]
  | .iptr l => by simp [rU, ridL l]
  | .isl t l => by simp [rU, ridR l]
  | .fn f a b => by simp [rU, ridL a, ridL b]
  | .agg l => by simp [rU, ridL l]
  | .tup l => by simp [rU, ridL l]
  | .junk => rfl
  | .bool _ => rfl
  | .int _ _ => rfl
  | .str _ => rfl
  | .nilp => rfl
  | .nils => rfl
  | .nilm => rfl
  | .nilf => rfl
  | .nili => rfl
theorem ridL : (l : List U) → rUL id l = l
  | [] => rfl
  | u :: l => by simp [rUL, rid u, ridL l]
theorem ridR : (l : List (List U)) → rUR id l = l
  | [] => rfl
  | c :: l => by simp [rUR, ridL c, ridR l]
end
theorem BOk.belB {x : Cx} {k : Nat} {b : B} (h : BOk x k b) : BelB x.σ.nx b := by
  cases b with
  | row l e => obtain ⟨_, _, _, _, _, e3⟩ := h; exact e3.bel
  | vec l e sz st =>
    obtain ⟨_, _, h3⟩ := h
    rcases h3 with ⟨rfl, _⟩ | ⟨_, _, _, _, e3⟩
    · simp [BelB, BelL]
    · exact e3.bel
  | map es cl =>
    obtain ⟨_, es', _, _, e3⟩ := h
    intro e he
    obtain ⟨j, hj, rfl⟩ := List.getElem_of_mem he
    obtain ⟨v, _, q2, q3, _⟩ := e3.2 j _ (List.getElem?_eq_getElem hj)
    exact ⟨Rel.bel _ _ q2, Rel.bel _ _ q3⟩
theorem BOk.keep {x y : Cx} {k : Nat} {b : B} (h : BOk x k b) (hm : Ke x.σ.nx x y) (hρ : y.ρ k = x.ρ k) (hl : ∀ i c, x.ρ k = some i → lk x.s.h i = some c → lk y.s.h i = some c) : BOk y k b := by
  cases b with
  | row l e => obtain ⟨k1, i, l', e1, e2, e3⟩ := h; exact ⟨k1, i, l', by rw [hρ, e1], hl _ _ e1 e2, hm.E e3.bel e3⟩
  | vec l e sz st =>
    obtain ⟨k1, k2, h3⟩ := h
    refine ⟨k1, k2, ?_⟩
    rcases h3 with ⟨h3, h4⟩ | ⟨i, l', e1, e2, e3⟩
    · exact .inl ⟨h3, by rw [hρ, h4]⟩
    · exact .inr ⟨i, l', by rw [hρ, e1], hl _ _ e1 e2, hm.E e3.bel e3⟩
  | map es cl =>
    obtain ⟨i, es', e1, e2, e3⟩ := h
    refine ⟨i, es', by rw [hρ, e1], hl _ _ e1 e2, e3.1, fun j e he => ?_⟩
    obtain ⟨v, q1, q2, q3, q4⟩ := e3.2 j e he
    exact ⟨v, q1, hm _ _ (Rel.bel _ _ q2) q2, hm _ _ (Rel.bel _ _ q3) q3, q4⟩
theorem BOk.row_at {x : Cx} {k i : Nat} {b : B} (h : BOk x k b) (hi : x.ρ k = some i) : ∃ c, lk x.s.h i = some c := by
  cases b with
  | row l e => obtain ⟨_, i', l', e1, e2, _⟩ := h; rw [hi] at e1; cases e1; exact ⟨_, e2⟩
  | vec l e sz st =>
    obtain ⟨_, _, h3⟩ := h
    rcases h3 with ⟨_, h4⟩ | ⟨i', l', e1, e2, _⟩
    · rw [hi] at h4; cases h4
    · rw [hi] at e1; cases e1; exact ⟨_, e2⟩
  | map es cl => obtain ⟨i', es', e1, e2, _⟩ := h; rw [hi] at e1; cases e1; exact ⟨_, e2⟩

/-- THE FRAME OF A CALL -/
theorem EvU.frame {P : Program} {f : FuncId} {args : List U} {h0 : List (Nat × B)} {R : U → Sg → Prop} (ns : List Nat) (h : EvU P f args ⟨h0, ns.length⟩ R) (σ : Sg) (hnd : ns.Nodup) (hlt : ∀ k ∈ ns, k < σ.nx) (ha : BelL ns.length args)
    (hsub : ∀ k b, gt h0 k = some b → k < ns.length ∧ BelB ns.length b ∧ gt σ.h (nm ns σ.nx k) = some (rB (nm ns σ.nx) b)) :
    EvU P f (rUL (nm ns σ.nx) args) σ (fun u σ' => ∃ u0 σ0, R u0 σ0 ∧ ns.length ≤ σ0.nx ∧ u = rU (nm ns σ.nx) u0 ∧ σ' = frS ns σ σ0) := fun F x vs m w cargs hx hh hfr he hfit hargs => by
  subst hx
  have hinj : ∀ i j, nm ns x.σ.nx i = nm ns x.σ.nx j → i = j := fun i j h => nm_inj hnd hlt h
  have hmem : ∀ k, k ∈ ns → ∃ j, j < ns.length ∧ nm ns x.σ.nx j = k := fun k hk => by
    obtain ⟨j, hj, e⟩ := List.getElem_of_mem hk
    exact ⟨j, hj, by rw [(nm_lt ns x.σ.nx j hj).2, e]⟩
  have hnlt : ∀ j, j < ns.length → nm ns x.σ.nx j < x.σ.nx := fun j hj => by
    rw [(nm_lt ns x.σ.nx j hj).2]; exact hlt _ (List.getElem_mem hj)
  let x0 : Cx := ⟨fun k => if k < ns.length then x.ρ (nm ns x.σ.nx k) else none, ⟨h0, ns.length⟩, x.s⟩
  have hρ0 : ∀ k, k < ns.length → x0.ρ k = x.ρ (nm ns x.σ.nx k) := fun k hk => by simp [x0, hk]
  have href : ∀ k st (p : Option Nat → Prop), k < ns.length → Ref x (nm ns x.σ.nx k) st p → Ref x0 k st p := fun k st p hk ⟨_, h2⟩ => ⟨hk, fun b hb => by
    obtain ⟨_, _, hg⟩ := hsub k b hb
    have := h2 _ hg
    rw [rB_st] at this
    rw [hρ0 k hk]
    exact this⟩
  have hun : Unleaf ns.length (nm ns x.σ.nx) x x0 := {
    ptr := fun k st off v hk hr => by simp only [Rel] at *; exact ⟨hr.1, href k st _ hk hr.2⟩
    sl := fun k off m c v hk hr => by simp only [Rel] at *; exact ⟨hr.1, href k 0 _ hk hr.2⟩
    map := fun k v hk hr => by simp only [Rel] at *; exact ⟨hr.1, href k 0 _ hk hr.2⟩
    vl := fun k st off m v hk hr => by
      simp only [Rel] at *
      obtain ⟨g1, g2, g3⟩ := hr
      refine ⟨g1, hk, fun b hb => ?_⟩
      obtain ⟨_, _, hg⟩ := hsub k b hb
      obtain ⟨g4, g5⟩ := g3 _ hg
      rw [rB_st] at g4 g5
      refine ⟨g4, fun e => ?_⟩
      obtain ⟨l, e', sz, e7, e8⟩ := g5 e
      rw [hρ0 k hk]
      cases b with
      | vec l0 e0 sz0 st0 => simp only [rB, B.vec.injEq] at e7; obtain ⟨_, rfl, rfl, rfl⟩ := e7; exact ⟨l0, _, _, rfl, e8⟩
      | row _ _ => simp [rB] at e7
      | map _ _ => simp [rB] at e7
    imm := fun i row e hl => hl }
  have hh0 : HRel x0 := ⟨fun k b hb => by
      obtain ⟨h1, h2, h3⟩ := hsub k b hb
      exact ⟨h1, BOk.unleaf hun h2 (hρ0 k h1) (fun i c _ hl => hl) (hh.ok _ _ h3).2⟩,
    fun k k' b b' i hb hb' hi hi' => by
      obtain ⟨h1, h2, h3⟩ := hsub k b hb
      obtain ⟨h1', h2', h3'⟩ := hsub k' b' hb'
      rw [hρ0 k h1] at hi
      rw [hρ0 k' h1'] at hi'
      exact hinj _ _ (hh.inj _ _ _ _ i h3 h3' hi hi'),
    hh.bd⟩
  let F0 : Nat → Blk → Prop := fun i b => lk x.s.h i = some b ∧ ∀ k c, gt h0 k = some c → x.ρ (nm ns x.σ.nx k) ≠ some i
  have hfr0 : Fr F0 x0 := fun i b hF => ⟨hF.1, fun k c hc => by
    rw [hρ0 k (hsub k c hc).1]; exact hF.2 k c hc⟩
  refine (h F0 x0 vs m w cargs rfl hh0 hfr0 (RelE.unleaf hun ha he) hfit hargs).mono ?_
  rintro e w₁ ⟨y0, m₁, u0, v, cv, rfl, hR, hadv, hrel, hhy, hfry, hru, hke, hnx⟩
  have hnx' : ns.length ≤ y0.σ.nx := hnx
  have himg : ∀ k, k < x.σ.nx → ¬ k ∈ ns → ∀ j, nm ns x.σ.nx j ≠ k := fun k hk hn j e => by
    by_cases hj : j < ns.length
    · obtain ⟨_, e1⟩ := nm_lt ns x.σ.nx j hj
      rw [e1] at e
      exact hn (e ▸ List.getElem_mem hj)
    · rw [nm_ge ns x.σ.nx j (by omega)] at e
      omega
  let inv : Nat → Option Nat := fun k => if k < x.σ.nx then ix ns k 0 else some (ns.length + (k - x.σ.nx))
  let y : Cx := ⟨fun k => if k ∈ ns ∨ x.σ.nx ≤ k then (match inv k with | some j => y0.ρ j | none => none) else x.ρ k, frS ns x.σ y0.σ, y0.s⟩
  have hixg : ∀ (l : List Nat) (j i : Nat), l.Nodup → (hj : j < l.length) → ix l l[j] i = some (i + j) := by
    intro l
    induction l with
    | nil => intro j i _ hj; simp at hj
    | cons a l ih =>
      intro j i hnd hj
      cases j with
      | zero => simp [ix, beq_eq]
      | succ j =>
        have hne : ¬ a = l[j]'(by simpa using hj) := fun h => (List.nodup_cons.1 hnd).1 (h ▸ List.getElem_mem _)
        simp only [List.getElem_cons_succ, ix, beq_eq, hne, decide_false, cond_false]
        rw [ih j (i + 1) (List.nodup_cons.1 hnd).2 (by simpa using hj)]
        congr 1; omega
  have hinv : ∀ j, inv (nm ns x.σ.nx j) = some j := fun j => by
    by_cases hj : j < ns.length
    · have h1 := hnlt j hj
      obtain ⟨_, e1⟩ := nm_lt ns x.σ.nx j hj
      simp only [inv, h1, if_true]
      rw [e1, hixg ns j 0 hnd hj]; simp
    · have e1 := nm_ge ns x.σ.nx j (by omega)
      have h1 : ¬ nm ns x.σ.nx j < x.σ.nx := by omega
      simp only [inv, h1, if_false, Option.some.injEq]
      omega
  have hρy : ∀ j, y.ρ (nm ns x.σ.nx j) = y0.ρ j := fun j => by
    have h1 : nm ns x.σ.nx j ∈ ns ∨ x.σ.nx ≤ nm ns x.σ.nx j := by
      by_cases hj : j < ns.length
      · obtain ⟨_, e1⟩ := nm_lt ns x.σ.nx j hj
        exact .inl (by rw [e1]; exact List.getElem_mem hj)
      · rw [nm_ge ns x.σ.nx j (by omega)]; exact .inr (by omega)
    simp only [y, h1, if_true, hinv]
  have hρn : ∀ k, k < x.σ.nx → ¬ k ∈ ns → y.ρ k = x.ρ k := fun k hk hn => by
    have h1 : ¬ (k ∈ ns ∨ x.σ.nx ≤ k) := by rintro (h | h); exact hn h; omega
    simp only [y, h1, if_false]
  have hgy : ∀ j, gt y.σ.h (nm ns x.σ.nx j) = (gt y0.σ.h j).map (rB (nm ns x.σ.nx)) := fun j => by
    show gt (renH ns x.σ.nx y0.σ.h ++ dropH ns x.σ.h) _ = _
    rw [gt_append, gt_renH hinj]
    cases hg : gt y0.σ.h j with
    | some b => rfl
    | none =>
      simp only [Option.map_none]
      rw [gt_dropH]
      split
      · rfl
      · rename_i hn
        cases hg2 : gt x.σ.h (nm ns x.σ.nx j) with
        | none => rfl
        | some b =>
          have := (hh.ok _ _ hg2).1
          exact absurd rfl (himg _ this hn j)
  have hgn : ∀ k, k < x.σ.nx → ¬ k ∈ ns → gt y.σ.h k = gt x.σ.h k := fun k hk hn => by
    show gt (renH ns x.σ.nx y0.σ.h ++ dropH ns x.σ.h) _ = _
    rw [gt_append, gt_renH_none _ _ (himg k hk hn), gt_dropH, if_neg hn]
  have hcase : ∀ k b, gt y.σ.h k = some b → (∃ j b0, k = nm ns x.σ.nx j ∧ gt y0.σ.h j = some b0 ∧ b = rB (nm ns x.σ.nx) b0) ∨ (k < x.σ.nx ∧ ¬ k ∈ ns ∧ gt x.σ.h k = some b) := fun k b hb => by
    by_cases hk : ∃ j, nm ns x.σ.nx j = k
    · obtain ⟨j, rfl⟩ := hk
      rw [hgy] at hb
      cases hg : gt y0.σ.h j with
      | none => rw [hg] at hb; cases hb
      | some b0 => rw [hg] at hb; simp at hb; exact .inl ⟨j, b0, rfl, hg, hb.symm⟩
    · have hk' : ∀ j, nm ns x.σ.nx j ≠ k := fun j e => hk ⟨j, e⟩
      have hlt' : k < x.σ.nx := by
        rcases Nat.lt_or_ge k x.σ.nx with h | h
        · exact h
        · exact absurd (by rw [nm_ge ns x.σ.nx _ (by omega)]; omega) (hk' (ns.length + (k - x.σ.nx)))
      have hn : ¬ k ∈ ns := fun h => by
        obtain ⟨j, _, e⟩ := hmem k h
        exact hk' j e
      rw [hgn k hlt' hn] at hb
      exact .inr ⟨hlt', hn, hb⟩
  have hself : ∀ k, k < x.σ.nx → k ∈ ns ∨ ¬ k ∈ ns := fun k _ => Classical.em _
  have hynx : y.σ.nx = x.σ.nx + (y0.σ.nx - ns.length) := rfl
  have hnmlt : ∀ j, j < y0.σ.nx → nm ns x.σ.nx j < y.σ.nx := fun j hj => by
    rw [hynx]
    by_cases hj' : j < ns.length
    · have := hnlt j hj'; omega
    · rw [nm_ge ns x.σ.nx j (by omega)]; omega
  have hrefy : ∀ k st (p : Option Nat → Prop), Ref y0 k st p → Ref y (nm ns x.σ.nx k) st p := fun k st p ⟨h1, h2⟩ => ⟨hnmlt k h1, fun b hb => by
    rw [hgy] at hb
    cases hg : gt y0.σ.h k with
    | none => rw [hg] at hb; cases hb
    | some b0 =>
      rw [hg] at hb
      simp only [Option.map_some, Option.some.injEq] at hb
      subst hb
      rw [rB_st, hρy]
      exact h2 _ hg⟩
  have hleaf : Leaf y0.σ.nx (nm ns x.σ.nx) y0 y := {
    ptr := fun k st off v _ hr => by simp only [Rel] at *; exact ⟨hr.1, hrefy k st _ hr.2⟩
    sl := fun k off m c v _ hr => by simp only [Rel] at *; exact ⟨hr.1, hrefy k 0 _ hr.2⟩
    map := fun k v _ hr => by simp only [Rel] at *; exact ⟨hr.1, hrefy k 0 _ hr.2⟩
    vl := fun k st off m v _ hr => by
      simp only [Rel] at *
      obtain ⟨g1, g2, g3⟩ := hr
      refine ⟨g1, hnmlt k g2, fun b hb => ?_⟩
      rw [hgy] at hb
      cases hg : gt y0.σ.h k with
      | none => rw [hg] at hb; cases hb
      | some b0 =>
        rw [hg] at hb
        simp only [Option.map_some, Option.some.injEq] at hb
        subst hb
        rw [rB_st, hρy]
        obtain ⟨g4, g5⟩ := g3 _ hg
        refine ⟨g4, fun e => ?_⟩
        obtain ⟨l, e', sz, rfl, e8⟩ := g5 e
        exact ⟨_, e', sz, rfl, e8⟩
    imm := fun i row e hl => hl }
  have himm : ∀ i row e, lk x.s.h i = some (.inl (row, e, 1)) → lk y.s.h i = some (.inl (row, e, 1)) := fun i row e hl =>
    (hfry i _ ⟨hl, fun k c hc hρ => (hh.ok _ _ (hsub k c hc).2.2).2.not1 hρ hl⟩).1
  have hrefx : ∀ k st (p : Option Nat → Prop), ¬ k ∈ ns → Ref x k st p → Ref y k st p := fun k st p hn ⟨h1, h2⟩ => ⟨by rw [hynx]; omega, fun b hb => by
    rw [hgn k h1 hn] at hb
    rw [hρn k h1 hn]
    exact h2 b hb⟩
  have hkeL : Leaf x.σ.nx id x y := {
    ptr := fun k st off v hk hr => by
      by_cases hn : k ∈ ns
      · obtain ⟨j, hj, rfl⟩ := hmem k hn
        exact hleaf.ptr j st off v (by omega) (hke (.ptr j st off) v (by simpa [Bel, x0] using hj) (hun.ptr j st off v hj hr))
      · simp only [Rel] at *; exact ⟨hr.1, hrefx k st _ hn hr.2⟩
    sl := fun k off m c v hk hr => by
      by_cases hn : k ∈ ns
      · obtain ⟨j, hj, rfl⟩ := hmem k hn
        exact hleaf.sl j off m c v (by omega) (hke (.sl j off m c) v (by simpa [Bel, x0] using hj) (hun.sl j off m c v hj hr))
      · simp only [Rel] at *; exact ⟨hr.1, hrefx k 0 _ hn hr.2⟩
    map := fun k v hk hr => by
      by_cases hn : k ∈ ns
      · obtain ⟨j, hj, rfl⟩ := hmem k hn
        exact hleaf.map j v (by omega) (hke (.map j) v (by simpa [Bel, x0] using hj) (hun.map j v hj hr))
      · simp only [Rel] at *; exact ⟨hr.1, hrefx k 0 _ hn hr.2⟩
    vl := fun k st off m v hk hr => by
      by_cases hn : k ∈ ns
      · obtain ⟨j, hj, rfl⟩ := hmem k hn
        exact hleaf.vl j st off m v (by omega) (hke (.vl j st off m) v (by simpa [Bel, x0] using hj) (hun.vl j st off m v hj hr))
      · simp only [Rel, id] at *
        obtain ⟨g1, g2, g3⟩ := hr
        refine ⟨g1, by rw [hynx]; omega, fun b hb => ?_⟩
        rw [hgn k g2 hn] at hb
        rw [hρn k g2 hn]
        exact g3 b hb
    imm := himm }
  have hid : ∀ u, rU id u = u ∧ True := fun u => ⟨(rid u), trivial⟩
  have hkexy : Ke x.σ.nx x y := fun u v hb hr => by
    have := Rel.leaf hkeL u v hb hr
    rwa [(hid u).1] at this
  have hrowF : ∀ k b i c, gt x.σ.h k = some b → ¬ k ∈ ns → x.ρ k = some i → lk x.s.h i = some c → F0 i c := fun k b i c hb hn hi hl => ⟨hl, fun j d hd hρ => by
    obtain ⟨h1, _, h3⟩ := hsub j d hd
    have := hh.inj _ _ _ _ i h3 hb hρ hi
    have h5 : nm ns x.σ.nx j ∈ ns := by rw [(nm_lt ns x.σ.nx j h1).2]; exact List.getElem_mem h1
    exact hn (this ▸ h5)⟩
  refine ⟨y, m₁, rU (nm ns x.σ.nx) u0, v, cv, rfl, ⟨u0, y0.σ, hR, hnx', rfl, rfl⟩, hadv, hrel, ⟨fun k b hb => ?_, fun k k' b b' i hb hb' hi hi' => ?_, hhy.bd⟩, fun i b hF => ?_, Rel.leaf hleaf u0 v (Rel.bel u0 v hru) hru, hkexy, by rw [hynx]; omega⟩
  · rcases hcase k b hb with ⟨j, b0, rfl, hg, rfl⟩ | ⟨h1, h2, h3⟩
    · obtain ⟨g1, g2⟩ := hhy.ok j b0 hg
      exact ⟨hnmlt j g1, BOk.leaf hleaf (g2.belB) (hρy j) (fun i c _ hl => hl) g2⟩
    · exact ⟨by rw [hynx]; omega, (hh.ok k b h3).2.keep hkexy (hρn k h1 h2) fun i c hi hl => (hfry i c (hrowF k b i c h3 h2 hi hl)).1⟩
  · have mixed : ∀ k k' b b0 (j : Nat), k = nm ns x.σ.nx j → gt y0.σ.h j = some b0 → y.ρ k = some i → k' < x.σ.nx → ¬ k' ∈ ns → gt x.σ.h k' = some b → y.ρ k' = some i → False := fun k k' b b0 j e hg hi h1 h2 h3 hi' => by
      subst e
      rw [hρy] at hi
      rw [hρn k' h1 h2] at hi'
      obtain ⟨c, hc⟩ := (hh.ok k' b h3).2.row_at hi'
      exact (hfry i c (hrowF k' b i c h3 h2 hi' hc)).2 j b0 hg hi
    rcases hcase k b hb with ⟨j, b0, e1, hg, _⟩ | ⟨h1, h2, h3⟩
    · rcases hcase k' b' hb' with ⟨j', b0', e1', hg', _⟩ | ⟨h1', h2', h3'⟩
      · subst e1 e1'
        rw [hρy] at hi hi'
        rw [hhy.inj j j' b0 b0' i hg hg' hi hi']
      · exact (mixed k k' b' b0 j e1 hg hi h1' h2' h3' hi').elim
    · rcases hcase k' b' hb' with ⟨j', b0', e1', hg', _⟩ | ⟨h1', h2', h3'⟩
      · exact (mixed k' k b b0' j' e1' hg' hi' h1 h2 h3 hi).elim
      · rw [hρn k h1 h2] at hi
        rw [hρn k' h1' h2'] at hi'
        exact hh.inj k k' b b' i h3 h3' hi hi'
  · obtain ⟨h1, h2⟩ := hfr i b hF
    have hF0 : F0 i b := ⟨h1, fun k c hc => h2 _ _ (hsub k c hc).2.2⟩
    refine ⟨(hfry i b hF0).1, fun k c hc => ?_⟩
    rcases hcase k c hc with ⟨j, b0, rfl, hg, _⟩ | ⟨g1, g2, g3⟩
    · rw [hρy]; exact (hfry i b hF0).2 j b0 hg
    · rw [hρn k g1 g2]; exact h2 k c g3
/-- only what a name stands for matters -/
theorem Gh.same {n0 : Nat} {tm : List U} {σ : Sg} (h' : List (Nat × B)) (hg : ∀ k, gt h' k = gt σ.h k) : Gh n0 tm σ tm ⟨h', σ.nx⟩ := fun F x tv hx hr hf he => by
  subst hx
  have hmo : Mo x.σ.nx x ⟨x.ρ, ⟨h', x.σ.nx⟩, x.s⟩ := ⟨fun k _ h2 => ⟨h2, fun b hb => ⟨b, by rw [← hg]; exact hb, Nat.le_refl _, fun _ => ⟨rfl, fun l e sz st h => ⟨l, h⟩⟩⟩⟩, fun _ _ _ h => h⟩
  refine ⟨⟨x.ρ, ⟨h', x.σ.nx⟩, x.s⟩, fun m w hf => Adv.refl hf, rfl, ⟨fun k b hb => ?_, fun k k' b b' i hb hb' => ?_, hr.bd⟩, fun i b hF => ?_, hmo.ke.E he.bel he, fun u v hb hr => hmo.ke u v (Rel.bel u v hr) hr⟩
  · have hb' : gt x.σ.h k = some b := by rw [← hg]; exact hb
    obtain ⟨h1, h2⟩ := hr.ok k b hb'
    exact ⟨h1, h2.mono hmo rfl fun _ _ _ h => h⟩
  · exact hr.inj k k' b b' i (by rw [← hg]; exact hb) (by rw [← hg]; exact hb')
  · obtain ⟨h1, h2⟩ := hf i b hF
    exact ⟨h1, fun k c hc => h2 k c (by rw [← hg]; exact hc)⟩
end Go.Vx
