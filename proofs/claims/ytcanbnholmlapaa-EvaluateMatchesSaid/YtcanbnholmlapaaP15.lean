/-
  Texts of the walk: MpA E8 E9 E10.
-/
import Derived.Test.YtcanbnholmlapaaP14
section
namespace Go.Vx
open Go Go.Rx
set_option linter.unusedVariables false
section
variable {K V : Type} [DecidableEq K]
def aget (k : K) : List (K × V × Nat) → Option V
  | [] => none
  | e :: es => if k = e.1 then some e.2.1 else aget k es
variable {eq : K → K → Bool} (he : ∀ a b, eq a b = true ↔ a = b)
include he
omit [DecidableEq K] in
theorem eq_f {a b : K} (h : ¬ a = b) : eq a b = false := by
  cases h' : eq a b with
  | false => rfl
  | true => exact absurd ((he a b).1 h') h
theorem find_get (k : K) : ∀ (es : List (K × V × Nat)) (i : Nat), (mFindL eq k es i).map (fun x => x.2.1) = aget k es
  | [], i => rfl
  | e :: es, i => by
    simp only [mFindL, aget]
    by_cases h : k = e.1
    · rw [(he k e.1).2 h, if_pos h]; rfl
    · rw [eq_f he h, if_neg h]; exact find_get k es (i + 1)
theorem mGet_get (m : MapL K V) (k : K) : mGet eq m k = aget k m.es := find_get he k m.es 0
theorem get_set (k : K) (v : V) : ∀ {es : List (K × V × Nat)} {i j : Nat} {q : V × Nat}, mFindL eq k es i = some (j, q) → i ≤ j ∧ ∀ x, aget x (mSetL v es (j - i)) = if x = k then some v else aget x es
  | [], i, j, q, h => by cases h
  | e :: es, i, j, q, h => by
    simp only [mFindL] at h
    by_cases hk : k = e.1
    · rw [(he k e.1).2 hk] at h
      simp only [cond_true, Option.some.injEq, Prod.mk.injEq] at h
      obtain ⟨rfl, _⟩ := h
      refine ⟨Nat.le_refl _, fun x => ?_⟩
      simp only [Nat.sub_self, mSetL, aget, hk]
      split <;> rfl
    · rw [eq_f he hk] at h
      simp only [cond_false] at h
      obtain ⟨h1, h2⟩ := get_set k v h
      refine ⟨by omega, fun x => ?_⟩
      rw [show j - i = (j - (i + 1)) + 1 by omega]
      simp only [mSetL, aget, h2]
      by_cases hx : x = e.1
      · have : ¬ x = k := fun h => hk (h ▸ hx)
        simp [hx]
        intro h; exact absurd h.symm hk
      · simp [hx]
omit he [DecidableEq K] in
theorem set_keys (v : V) : ∀ (es : List (K × V × Nat)) (i : Nat), (mSetL v es i).map (fun e => e.1) = es.map (fun e => e.1) ∧ (mSetL v es i).map (fun e => e.2.2) = es.map (fun e => e.2.2)
  | [], i => by simp [mSetL]
  | e :: es, 0 => by simp [mSetL]
  | e :: es, i + 1 => by simp [mSetL, set_keys v es i]
omit he in
theorem get_none {k : K} : ∀ {es : List (K × V × Nat)}, k ∉ es.map (fun e => e.1) → aget k es = none
  | [], _ => rfl
  | e :: es, h => by
    simp only [List.map_cons, List.mem_cons, not_or] at h
    simp only [aget, h.1, if_false]
    exact get_none h.2
theorem get_del (k : K) : ∀ {es : List (K × V × Nat)} {i j : Nat} {q : V × Nat}, (es.map (fun e => e.1)).Nodup → mFindL eq k es i = some (j, q) → i ≤ j ∧ ∀ x, aget x (mDelL es (j - i)) = if x = k then none else aget x es
  | [], i, j, q, _, h => by cases h
  | e :: es, i, j, q, hn, h => by
    simp only [mFindL] at h
    simp only [List.map_cons, List.nodup_cons] at hn
    by_cases hk : k = e.1
    · rw [(he k e.1).2 hk] at h
      simp only [cond_true, Option.some.injEq, Prod.mk.injEq] at h
      obtain ⟨rfl, _⟩ := h
      refine ⟨Nat.le_refl _, fun x => ?_⟩
      simp only [Nat.sub_self, mDelL, aget]
      by_cases hx : x = k
      · rw [if_pos hx, hx, hk]; exact get_none hn.1
      · have : ¬ x = e.1 := fun h => hx (h.trans hk.symm)
        simp [hx, this]
    · rw [eq_f he hk] at h
      simp only [cond_false] at h
      obtain ⟨h1, h2⟩ := get_del k hn.2 h
      refine ⟨by omega, fun x => ?_⟩
      rw [show j - i = (j - (i + 1)) + 1 by omega]
      simp only [mDelL, aget, h2]
      by_cases hx : x = e.1
      · have : ¬ x = k := fun h => hk (h ▸ hx)
        simp [hx]
        intro h; exact absurd h.symm hk
      · simp [hx]
omit he [DecidableEq K] in
theorem del_sub : ∀ (es : List (K × V × Nat)) (i : Nat), (mDelL es i).Sublist es
  | [], i => by simp [mDelL]
  | e :: es, 0 => by simp [mDelL]
  | e :: es, i + 1 => by simp [mDelL, del_sub es i]
omit he in
theorem get_app (x k : K) (v : V) (b : Nat) : ∀ es : List (K × V × Nat), aget x (es ++ [(k, v, b)]) = if aget x es = none then (if x = k then some v else none) else aget x es
  | [] => by simp [aget]
  | e :: es => by
    simp only [List.cons_append, aget]
    by_cases hx : x = e.1
    · simp [hx]
    · simp only [hx, if_false]; exact get_app x k v b es
omit he [DecidableEq K] in
theorem born_last (v : V) (k : K) (b : Nat) : ∀ (es : List (K × V × Nat)) (i : Nat), (∀ e ∈ es, e.2.2 < b) → mBornL (b : Int) (es ++ [(k, v, b)]) i = some (i + es.length)
  | [], i, _ => by simp [mBornL]
  | e :: es, i, h => by
    have h1 := h e (by simp)
    have : decide ((e.2.2 : Int) = (b : Int)) = false := by rw [decide_eq_false_iff_not]; omega
    simp only [List.cons_append, mBornL, this, cond_false]
    rw [born_last v k b es (i + 1) fun e he => h e (by simp [he]), List.length_cons]
    congr 1; omega
omit he [DecidableEq K] in
theorem set_last (v z : V) (k : K) (b : Nat) : ∀ es : List (K × V × Nat), mSetL v (es ++ [(k, z, b)]) es.length = es ++ [(k, v, b)]
  | [] => rfl
  | e :: es => by simp only [List.cons_append, List.length_cons, mSetL, set_last v z k b es]
omit he [DecidableEq K] in
theorem born_at (k : K) : ∀ {es : List (K × V × Nat)} {i j : Nat} {v : V} {b : Nat}, (es.map (fun e => e.2.2)).Nodup → mFindL eq k es i = some (j, v, b) → mBornL (b : Int) es i = some j ∧ b ∈ es.map (fun e => e.2.2)
  | [], i, j, v, b, _, h => by cases h
  | e :: es, i, j, v, b, hn, h => by
    simp only [mFindL] at h
    simp only [List.map_cons, List.nodup_cons] at hn
    cases hk : eq k e.1 with
    | true =>
      rw [hk] at h
      simp only [cond_true, Option.some.injEq, Prod.mk.injEq] at h
      obtain ⟨rfl, _, rfl⟩ := h
      simp [mBornL]
    | false =>
      rw [hk] at h
      simp only [cond_false] at h
      obtain ⟨h1, h2⟩ := born_at k hn.2 h
      have : ¬ (e.2.2 : Int) = (b : Int) := fun h => hn.1 (by have : e.2.2 = b := by omega
                                                              rw [this]; exact h2)
      simp only [mBornL, this, decide_false, cond_false]
      exact ⟨h1, by simp only [List.map_cons, List.mem_cons]; exact Or.inr h2⟩
structure MInv (m : MapL K V) : Prop where
  keys : (m.es.map (fun e => e.1)).Nodup
  borns : (m.es.map (fun e => e.2.2)).Nodup
  lt : ∀ e ∈ m.es, e.2.2 < m.cl
omit he [DecidableEq K] in
theorem MInv.new : MInv (mNew : MapL K V) := ⟨by simp [mNew], by simp [mNew], by simp [mNew]⟩
omit he in
theorem get_new (k : K) : aget k (mNew : MapL K V).es = none := rfl
omit he in
theorem MInv.app {m : MapL K V} (h : MInv m) {k : K} (hf : aget k m.es = none) (v : V) : MInv (⟨m.es ++ [(k, v, m.cl)], m.cl + 1⟩ : MapL K V) := by
  refine ⟨?_, ?_, ?_⟩
  · simp only [List.map_append, List.map_cons, List.map_nil]
    rw [List.nodup_append]
    refine ⟨h.keys, by simp, ?_⟩
    intro a ha b hb hab
    simp only [List.mem_singleton] at hb
    subst hab hb
    clear h
    generalize m.es = es at *
    induction es with
    | nil => simp at ha
    | cons e es ih =>
      simp only [aget] at hf
      by_cases hx : a = e.1
      · simp [hx] at hf
      · simp only [hx, if_false] at hf
        simp only [List.map_cons, List.mem_cons, hx, false_or] at ha
        exact ih ha hf
  · simp only [List.map_append, List.map_cons, List.map_nil]
    rw [List.nodup_append]
    refine ⟨h.borns, by simp, ?_⟩
    intro a ha b hb hab
    simp only [List.mem_singleton] at hb
    obtain ⟨e, he, rfl⟩ := List.mem_map.1 ha
    have := h.lt e he
    omega
  · intro e he
    rcases List.mem_append.1 he with he | he
    · have := h.lt e he; simp only; omega
    · simp only [List.mem_singleton] at he; subst he; simp
omit he [DecidableEq K] in
theorem MInv.set {m : MapL K V} (h : MInv m) (v : V) (i : Nat) : MInv (⟨mSetL v m.es i, m.cl⟩ : MapL K V) := by
  obtain ⟨h1, h2⟩ := set_keys v m.es i
  refine ⟨by simp only [h1]; exact h.keys, by simp only [h2]; exact h.borns, fun e he => ?_⟩
  have : e.2.2 ∈ (mSetL v m.es i).map (fun e => e.2.2) := List.mem_map.2 ⟨e, he, rfl⟩
  rw [h2] at this
  obtain ⟨e', g1, g2⟩ := List.mem_map.1 this
  have := h.lt e' g1
  simp only at g2 ⊢
  omega
theorem upd_ok {m : MapL K V} (h : MInv m) (k : K) (v : V) : MInv (mUpd eq m k v) ∧ ∀ x, aget x (mUpd eq m k v).es = if x = k then some v else aget x m.es := by
  unfold mUpd
  cases hf : mFindL eq k m.es 0 with
  | none =>
    have hg : aget k m.es = none := by rw [← find_get he k m.es 0, hf]; rfl
    refine ⟨h.app hg v, fun x => ?_⟩
    simp only [get_app]
    by_cases hx : x = k
    · simp [hx, hg]
    · simp only [hx, if_false]; split <;> simp_all
  | some q =>
    obtain ⟨j, q⟩ := q
    have := (get_set he k v hf).2
    exact ⟨h.set v j, fun x => by simpa using this x⟩
theorem del_ok {m : MapL K V} (h : MInv m) (k : K) : MInv (mDel eq m k) ∧ ∀ x, aget x (mDel eq m k).es = if x = k then none else aget x m.es := by
  unfold mDel
  cases hf : mFindL eq k m.es 0 with
  | none =>
    have hg : aget k m.es = none := by rw [← find_get he k m.es 0, hf]; rfl
    refine ⟨h, fun x => ?_⟩
    by_cases hx : x = k
    · simp [hx, hg]
    · simp [hx]
  | some q =>
    obtain ⟨j, q⟩ := q
    have := (get_del he k h.keys hf).2
    have hs := del_sub m.es j
    exact ⟨⟨(hs.map _).nodup h.keys, (hs.map _).nodup h.borns, fun e he => h.lt e (hs.subset he)⟩, fun x => by simpa using this x⟩
theorem ent_ok {m : MapL K V} (h : MInv m) (z : V) (k : K) (v : V) : ∃ m', mEntS (mEntM eq z m k) ((mEntV eq z m k).2 : Int) v = some m' ∧ MInv m' ∧ ∀ x, aget x m'.es = if x = k then some v else aget x m.es := by
  unfold mEntM mEntV
  cases hf : mFindL eq k m.es 0 with
  | none =>
    have hg : aget k m.es = none := by rw [← find_get he k m.es 0, hf]; rfl
    refine ⟨⟨m.es ++ [(k, v, m.cl)], m.cl + 1⟩, ?_, h.app hg v, fun x => ?_⟩
    · simp only [mEntS, born_last z k m.cl m.es 0 h.lt, Nat.zero_add, set_last]
    · simp only [get_app]
      by_cases hx : x = k
      · simp [hx, hg]
      · simp only [hx, if_false]; split <;> simp_all
  | some q =>
    obtain ⟨j, v0, b⟩ := q
    have := (get_set he k v hf).2
    refine ⟨⟨mSetL v m.es j, m.cl⟩, ?_, h.set v j, fun x => by simpa using this x⟩
    simp only [mEntS, (born_at k h.borns hf).1]
end
end Go.Vx
end
section
namespace Go.Proofs
open Go Go.Rx Go.Vx Go.Sort
set_option linter.unusedVariables false
instance : DecidableEq GBracket := fun x y => decidable_of_iff (eqGBracket x y = true) (eqB_iff x y)
def crs (x y : GBracket) : Bool := decide ((x.From < y.From ∧ y.From < x.To ∧ x.To < y.To) ∨ (y.From < x.From ∧ x.From < y.To ∧ y.To < x.To))
theorem cross_eq (n : Nat) (x y : GBracket) : evaluate_cross n x y = some (crs x y) := by
  simp only [evaluate_cross, crs]
  by_cases h1 : x.From < y.From <;> by_cases h2 : y.From < x.To <;> by_cases h3 : x.To < y.To <;> by_cases h4 : y.From < x.From <;> by_cases h5 : x.From < y.To <;> by_cases h6 : y.To < x.To <;> simp [h1, h2, h3, h4, h5, h6] <;> omega
theorem match1_eq (n : Nat) (y x : GBracket) : evaluate_Match_1 n y x = some (crs x y) := by simp [evaluate_Match_1, cross_eq]
theorem index_L {l : List GBracket} (hl : l.length ≤ 9223372036854775807) {x : GBracket} {n : Nat} : ∀ (m i : Nat), l.length - i < m → i ≤ l.length → ∃ z, slices_IndexFunc_Bracket_Match_1_L1 l x (evaluate_Match_1 n) m i = some z ∧ decide (z ≥ 0) = (l.drop i).any (crs x)
  | 0, i, hm, _ => by omega
  | m + 1, i, hm, hi => by
    unfold slices_IndexFunc_Bracket_Match_1_L1
    by_cases hlt : i < l.length
    · obtain ⟨y, hy, _⟩ := get_of hlt
      have e1 : decide ((i : Int) < (l.length : Int)) = true := by simp; omega
      simp only [e1, cond_true, idxO_nat, hy, bindO_s, match1_eq, drop_cons' hy, List.any_cons]
      cases hc : crs x y with
      | true => exact ⟨i, rfl, by simp⟩
      | false =>
        rw [wr1 hlt hl, cond_false, Bool.false_or]
        exact index_L hl m (i + 1) (by omega) (by omega)
    · have e1 : decide ((i : Int) < (l.length : Int)) = false := by simp; omega
      have : l.drop i = [] := List.drop_eq_nil_of_le (by omega)
      simp only [e1, cond_false, slices_IndexFunc_Bracket_Match_1_K1, this]
      exact ⟨-1, rfl, by simp⟩
theorem contains_ok {l : List GBracket} (hl : l.length ≤ 9223372036854775807) (x : GBracket) {n m : Nat} (hn : l.length < m) : slices_ContainsFunc_Bracket_Match_1 (evaluate_Match_1 n) m l x = some (l.any (crs x)) := by
  obtain ⟨z, h1, h2⟩ := index_L hl (x := x) (n := n) m 0 (by omega) (by omega)
  rw [Int.ofNat_zero] at h1
  simp only [slices_ContainsFunc_Bracket_Match_1, slices_IndexFunc_Bracket_Match_1, h1, bindO_s, h2, List.drop_zero]
theorem or_eq {n : Nat} (hn : 5 ≤ n) (a b c d : Int) : ∃ z, cmp_Or_int n [a, b, c, d] = some z ∧ (z = 0 ↔ a = 0 ∧ b = 0 ∧ c = 0 ∧ d = 0) := by
  obtain ⟨m, rfl⟩ : ∃ m, n = m + 5 := ⟨n - 5, by omega⟩
  have w0 : IntKind.i64.wrap ((0 : Int) + 1) = 1 := by rw [wr (by omega) (by omega)]; rfl
  have w1 : IntKind.i64.wrap ((1 : Int) + 1) = 2 := by rw [wr (by omega) (by omega)]; rfl
  have w2 : IntKind.i64.wrap ((2 : Int) + 1) = 3 := by rw [wr (by omega) (by omega)]; rfl
  have w3 : IntKind.i64.wrap ((3 : Int) + 1) = 4 := by rw [wr (by omega) (by omega)]; rfl
  have i0 : idxO [a, b, c, d] 0 = some a := rfl
  have i1 : idxO [a, b, c, d] 1 = some b := rfl
  have i2 : idxO [a, b, c, d] 2 = some c := rfl
  have i3 : idxO [a, b, c, d] 3 = some d := rfl
  have k0 : decide ((0 : Int) < (([a, b, c, d] : List Int).length : Int)) = true := by simp
  have k1 : decide ((1 : Int) < (([a, b, c, d] : List Int).length : Int)) = true := by simp
  have k2 : decide ((2 : Int) < (([a, b, c, d] : List Int).length : Int)) = true := by simp
  have k3 : decide ((3 : Int) < (([a, b, c, d] : List Int).length : Int)) = true := by simp
  have k4 : decide ((4 : Int) < (([a, b, c, d] : List Int).length : Int)) = false := by simp
  simp only [cmp_Or_int, cmp_Or_int_L1, cmp_Or_int_K1, w0, w1, w2, w3, i0, i1, i2, i3, k0, k1, k2, k3, k4, cond_true, cond_false, bindO_s]
  by_cases ha : a = 0
  · by_cases hb : b = 0
    · by_cases hc : c = 0
      · by_cases hd : d = 0
        · simp [ha, hb, hc, hd]
        · have : (d != 0) = true := by simpa using hd
          simp [ha, hb, hc, hd, this]
      · have : (c != 0) = true := by simpa using hc
        simp [ha, hb, hc, this]
    · have : (b != 0) = true := by simpa using hb
      simp [ha, hb, this]
  · have : (a != 0) = true := by simpa using ha
    simp [ha, this]
theorem cmpK_L {p q : List GDeriv} (hp : p.length ≤ 9223372036854775807) {f : GDeriv → GDeriv → Option Int} (hf : ∀ x ∈ p, ∀ y ∈ q, ∃ c, f x y = some c ∧ (c = 0 ↔ x = y)) : ∀ (m i : Nat), p.length - i < m → i ≤ p.length → i ≤ q.length → ∃ c, slices_CompareFunc_Deriv_Compare_L1 p q f m i = some c ∧ (c = 0 ↔ p.drop i = q.drop i)
  | 0, i, hm, _, _ => by omega
  | m + 1, i, hm, hi, hj => by
    unfold slices_CompareFunc_Deriv_Compare_L1
    by_cases hlt : i < p.length
    · obtain ⟨x, hx, hxm⟩ := get_of hlt
      have e1 : decide ((i : Int) < (p.length : Int)) = true := by simp; omega
      simp only [e1, cond_true, idxO_nat, hx, bindO_s]
      by_cases hlq : i < q.length
      · obtain ⟨y, hy, hym⟩ := get_of hlq
        have e2 : decide ((i : Int) ≥ (q.length : Int)) = false := by simp; omega
        obtain ⟨c, h1, h2⟩ := hf x hxm y hym
        simp only [e2, cond_false, hy, bindO_s, h1, drop_cons' hx, drop_cons' hy, List.cons.injEq]
        by_cases hc : c = 0
        · obtain ⟨c', g1, g2⟩ := cmpK_L hp hf m (i + 1) (by omega) (by omega) (by omega)
          have : (c != 0) = false := by simpa using hc
          simp only [this, cond_false, wr1 hlt hp]
          exact ⟨c', g1, by rw [g2]; simp [h2.1 hc]⟩
        · have : (c != 0) = true := by simpa using hc
          simp only [this, cond_true]
          exact ⟨c, rfl, by simp [hc]; intro h; exact absurd (h2.2 h) hc⟩
      · have e2 : decide ((i : Int) ≥ (q.length : Int)) = true := by simp; omega
        have : q.drop i = [] := List.drop_eq_nil_of_le (by omega)
        simp only [e2, cond_true, this, drop_cons' hx]
        exact ⟨1, rfl, by simp⟩
    · have e1 : decide ((i : Int) < (p.length : Int)) = false := by simp; omega
      have h0 : p.drop i = [] := List.drop_eq_nil_of_le (by omega)
      simp only [e1, cond_false, slices_CompareFunc_Deriv_Compare_K1, h0]
      by_cases hlq : p.length < q.length
      · have e2 : decide ((p.length : Int) < (q.length : Int)) = true := by simp; omega
        simp only [e2, cond_true]
        refine ⟨-1, rfl, ?_⟩
        have : ¬ [] = q.drop i := fun h => by
          have := List.drop_eq_nil_iff.1 h.symm
          omega
        simp only [this, iff_false]; omega
      · have e2 : decide ((p.length : Int) < (q.length : Int)) = false := by simp; omega
        have : q.drop i = [] := List.drop_eq_nil_of_le (by omega)
        simp only [e2, cond_false, this]
        exact ⟨0, rfl, by simp⟩
theorem cmp3_zero (a b : Int) : (if a < b then (-1 : Int) else if b < a then 1 else 0) = 0 ↔ a = b := by
  by_cases h : a < b
  · simp [h]; omega
  · by_cases h' : b < a
    · simp [h, h']; omega
    · simp [h, h']; omega
theorem cmp3_str (a b : List UInt8) : (if bytesLt a b then (-1 : Int) else if bytesLt b a then 1 else 0) = 0 ↔ a = b := by
  cases h : bytesLt a b with
  | true => simp; intro e; subst e; rw [bytesLt_irrefl] at h; cases h
  | false =>
    cases h' : bytesLt b a with
    | true => simp; intro e; subst e; rw [bytesLt_irrefl] at h'; cases h'
    | false => simp; exact bytesLt_total a b h h'
theorem deriv_ext (d e : GDeriv) : (d.From = e.From ∧ d.To = e.To ∧ d.Kind = e.Kind ∧ d.Name = e.Name) ∧ d.Kids = e.Kids ↔ d = e := by
  cases d; cases e
  simp only [GDeriv.From, GDeriv.To, GDeriv.Kind, GDeriv.Name, GDeriv.Kids, GDeriv.mk.injEq]
  constructor
  · rintro ⟨⟨rfl, rfl, rfl, rfl⟩, rfl⟩; simp
  · rintro ⟨rfl, rfl, rfl, rfl, rfl⟩; simp
theorem cmpD_ok : ∀ (s : Nat) (d e : GDeriv), SizeOf.sizeOf d < s → okG d → ∀ n, SizeOf.sizeOf d + 10 ≤ n → ∃ c, deriv_Compare n d e = some c ∧ (c = 0 ↔ d = e)
  | 0, d, e, hs, _, _, _ => by omega
  | s + 1, d, e, hs, hok, n, hn => by
    have hk := kids_lt d
    cases n with
    | zero => omega
    | succ n =>
      simp only [deriv_Compare, deriv_Compare_b, cmpInt_eq, cmpStr_eq, bindO_s]
      obtain ⟨z, h1, h2⟩ := or_eq (n := n) (by omega) (if d.From < e.From then (-1 : Int) else if e.From < d.From then 1 else 0) (if d.To < e.To then (-1 : Int) else if e.To < d.To then 1 else 0) (if d.Kind < e.Kind then (-1 : Int) else if e.Kind < d.Kind then 1 else 0) (if bytesLt d.Name e.Name then (-1 : Int) else if bytesLt e.Name d.Name then 1 else 0)
      rw [cmp3_zero, cmp3_zero, cmp3_zero, cmp3_str] at h2
      simp only [h1, bindO_s]
      by_cases hz : z = 0
      · have : (z != 0) = false := by simpa using hz
        obtain ⟨c, g1, g2⟩ := cmpK_L (p := d.Kids) (q := e.Kids) (okG_len hok) (f := deriv_Compare n) (fun x hx y hy => by
          have := kid_lt d hx
          exact cmpD_ok s x y (by omega) (okG_kid hok hx) n (by omega)) n 0 (by omega) (by omega) (by omega)
        rw [Int.ofNat_zero] at g1
        simp only [this, cond_false, slices_CompareFunc_Deriv_Compare, g1, bindO_s]
        refine ⟨c, rfl, ?_⟩
        rw [g2, ← deriv_ext]
        simp [h2.1 hz]
      · have : (z != 0) = true := by simpa using hz
        simp only [this, cond_true]
        refine ⟨z, rfl, ?_⟩
        rw [← deriv_ext, h2]
        constructor
        · intro h; exact absurd (h2.2 h) hz
        · intro h; exact h.1
def meet : (GBracket → Nat) → List GBracket → Nat
  | _, [] => 0
  | c, x :: l => if 0 < c x then meet (fun y => if y = x then c y - 1 else c y) l + 1 else meet c l
def crossing (A : List GBracket) (B : List GBracket) : Nat := (B.filter fun x => A.any (crs x)).length
theorem meet_le : ∀ (c : GBracket → Nat) (l : List GBracket), meet c l ≤ l.length
  | _, [] => by simp [meet]
  | c, x :: l => by
    simp only [meet, List.length_cons]
    split
    · have := meet_le (fun y => if y = x then c y - 1 else c y) l; omega
    · have := meet_le c l; omega
def Holds (m : MapL GBracket Int) (c : GBracket → Nat) : Prop := MInv m ∧ ∀ x, (aget x m.es).getD 0 = (c x : Int)
theorem match_L3 {n : Nat} {A B : List GBracket} {z : Int} (hA : A.length ≤ 1000) (hB : B.length ≤ 1000) (hn : A.length < n) : ∀ (m i : Nat) (w : MapL GBracket Int) (a b : Nat) (c : GBracket → Nat), B.length - i < m → i ≤ B.length → Holds w c → (∀ x, c x ≤ 1000) → a ≤ i → b ≤ i →
    evaluate_Match_L3 n A B z m i w a b = some ⟨1, z, A.length, B.length, ((a + meet c (B.drop i) : Nat) : Int), ((b + crossing A (B.drop i) : Nat) : Int)⟩
  | 0, i, w, a, b, c, hm, _, _, _, _, _ => by omega
  | m + 1, i, w, a, b, c, hm, hi, hw, hc, ha, hb => by
    unfold evaluate_Match_L3
    by_cases hlt : i < B.length
    · obtain ⟨x, hx, _⟩ := get_of hlt
      have e1 : decide ((i : Int) < (B.length : Int)) = true := by simp; omega
      have hg : (mGet eqGBracket w x).getD 0 = (c x : Int) := by rw [mGet_get eqB_iff]; exact hw.2 x
      have key : ∀ (w' : MapL GBracket Int) (a' : Nat) (c' : GBracket → Nat), Holds w' c' → (∀ x, c' x ≤ 1000) → a' ≤ i + 1 → a' + meet c' (B.drop (i + 1)) = a + meet c (B.drop i) →
          evaluate_Match_J4 n A i b (evaluate_Match_L3 n A B z m) x w' a' = some ⟨1, z, A.length, B.length, ((a + meet c (B.drop i) : Nat) : Int), ((b + crossing A (B.drop i) : Nat) : Int)⟩ := by
        intro w' a' c' hw' hc' ha' hs
        simp only [evaluate_Match_J4, evaluate_Match_J5, contains_ok (l := A) (by omega) x hn, bindO_s, wr1 hlt (show B.length ≤ 9223372036854775807 by omega)]
        have hcr : crossing A (B.drop i) = (if A.any (crs x) = true then 1 else 0) + crossing A (B.drop (i + 1)) := by
          rw [drop_cons' hx]
          simp only [crossing, List.filter_cons]
          split <;> simp; omega
        cases hcx : A.any (crs x) with
        | true =>
          rw [cond_true, show IntKind.i64.wrap ((b : Int) + 1) = ((b + 1 : Nat) : Int) by rw [wr (by omega) (by omega)]; omega]
          rw [match_L3 hA hB hn m (i + 1) w' a' (b + 1) c' (by omega) (by omega) hw' hc' ha' (by omega), hs, hcr, hcx, if_pos rfl]
          congr 3; omega
        | false =>
          rw [cond_false, match_L3 hA hB hn m (i + 1) w' a' b c' (by omega) (by omega) hw' hc' ha' (by omega), hs, hcr, hcx]
          simp
      have hcx := hc x
      simp only [e1, cond_true, idxO_nat, hx, bindO_s, hg, evaluate_Match_J6]
      have wa : IntKind.i64.wrap ((a : Int) + 1) = ((a + 1 : Nat) : Int) := by rw [wr (by omega) (by omega)]; omega
      by_cases h1 : c x > 1
      · have e2 : decide ((c x : Int) > 1) = true := by rw [decide_eq_true_eq]; omega
        rw [e2, cond_true, wa, show IntKind.i64.wrap ((c x : Int) - 1) = ((c x - 1 : Nat) : Int) by rw [wr (by omega) (by omega)]; omega]
        obtain ⟨u1, u2⟩ := upd_ok (V := Int) eqB_iff hw.1 x ((c x - 1 : Nat) : Int)
        refine key _ (a + 1) (fun y => if y = x then c y - 1 else c y) ⟨u1, fun y => ?_⟩ (fun y => ?_) (by omega) ?_
        · rw [u2]
          by_cases hy : y = x
          · subst hy; simp
          · simp only [hy, if_false]; exact hw.2 y
        · have := hc y; split <;> omega
        · rw [drop_cons' hx]
          simp only [meet, show 0 < c x by omega, if_true]; omega
      · have e2 : decide ((c x : Int) > 1) = false := by rw [decide_eq_false_iff_not]; omega
        rw [e2, cond_false]
        by_cases h2 : c x = 1
        · have e3 : ((c x : Int) == 1) = true := by rw [beq_iff_eq]; omega
          rw [e3, cond_true, wa]
          obtain ⟨u1, u2⟩ := del_ok (V := Int) eqB_iff hw.1 x
          refine key _ (a + 1) (fun y => if y = x then c y - 1 else c y) ⟨u1, fun y => ?_⟩ (fun y => ?_) (by omega) ?_
          · rw [u2]
            by_cases hy : y = x
            · subst hy; simp [h2]
            · simp only [hy, if_false]; exact hw.2 y
          · have := hc y; split <;> omega
          · rw [drop_cons' hx]
            simp only [meet, show 0 < c x by omega, if_true]; omega
        · have e3 : ((c x : Int) == 1) = false := by
            cases h : ((c x : Int) == 1) with
            | false => rfl
            | true => rw [beq_iff_eq] at h; omega
          rw [e3, cond_false]
          refine key w a c hw hc (by omega) ?_
          rw [drop_cons' hx]
          simp only [meet, show ¬ 0 < c x by omega, if_false]
    · have e1 : decide ((i : Int) < (B.length : Int)) = false := by simp; omega
      have : B.drop i = [] := List.drop_eq_nil_of_le (by omega)
      simp only [e1, cond_false, evaluate_Match_K3, this]
      simp [meet, crossing]
theorem match_L2 {n : Nat} {A B : List GBracket} {z : Int} (hA : A.length ≤ 1000) (hB : B.length ≤ 1000) (hn : A.length < n) (hn2 : B.length < n) : ∀ (m i : Nat) (w : MapL GBracket Int), A.length - i < m → i ≤ A.length → Holds w (fun x => (A.take i).count x) →
    evaluate_Match_L2 n A B z m i w = some ⟨1, z, A.length, B.length, (meet (fun x => A.count x) B : Int), (crossing A B : Int)⟩
  | 0, i, w, hm, _, _ => by omega
  | m + 1, i, w, hm, hi, hw => by
    unfold evaluate_Match_L2
    by_cases hlt : i < A.length
    · obtain ⟨x, hx, _⟩ := get_of hlt
      have e1 : decide ((i : Int) < (A.length : Int)) = true := by simp; omega
      have hg : (mGet eqGBracket w x).getD 0 = ((A.take i).count x : Int) := by rw [mGet_get eqB_iff]; exact hw.2 x
      have hcl : (A.take i).count x ≤ 1000 := by
        have := List.count_le_length (a := x) (l := A.take i)
        simp at this; omega
      rw [e1, cond_true, idxO_nat, hx, bindO_s, hg, show IntKind.i64.wrap (((A.take i).count x : Int) + 1) = (((A.take i).count x + 1 : Nat) : Int) by rw [wr (by omega) (by omega)]; omega]
      obtain ⟨w', g1, g2, g3⟩ := ent_ok (V := Int) eqB_iff hw.1 0 x (((A.take i).count x + 1 : Nat) : Int)
      rw [g1, bindO_s, wr1 hlt (by omega)]
      refine match_L2 hA hB hn hn2 m (i + 1) w' (by omega) (by omega) ⟨g2, fun y => ?_⟩
      rw [g3, take_snoc hx]
      simp only [List.count_append]
      by_cases hy : y = x
      · subst hy; simp
      · have : ¬ x = y := fun h => hy h.symm
        simp only [hy, if_false, hw.2 y]
        simp [this]
    · have e1 : decide ((i : Int) < (A.length : Int)) = false := by simp; omega
      have ht : A.take i = A := List.take_of_length_le (by omega)
      rw [ht] at hw
      simp only [e1, cond_false, evaluate_Match_K2]
      have := match_L3 (n := n) (A := A) (B := B) (z := z) hA hB hn n 0 w 0 0 (fun x => A.count x) (by omega) (by omega) hw (fun x => by
        have := List.count_le_length (a := x) (l := A); omega) (by omega) (by omega)
      simpa using this
theorem Match_ok {d e : GDeriv} (hd : okG d) (he : okG e) (h1 : nodes d ≤ 1000) (h2 : nodes e ≤ 1000) {n : Nat} (hn : SizeOf.sizeOf d + SizeOf.sizeOf e + 1001 ≤ n) :
    ∃ z, evaluate_Match n d e = some ⟨1, z, (srtB (brs d)).length, (srtB (brs e)).length, (meet (fun x => (srtB (brs d)).count x) (srtB (brs e)) : Int), (crossing (srtB (brs d)) (srtB (brs e)) : Int)⟩ ∧ ((d = e ∧ z = 1) ∨ (¬ d = e ∧ z = 0)) := by
  have l1 : (srtB (brs d)).length ≤ 1000 := by have := brs_len d; rw [srtB_len]; omega
  have l2 : (srtB (brs e)).length ≤ 1000 := by have := brs_len e; rw [srtB_len]; omega
  have hk1 := brs_len d
  have hk2 := brs_len e
  obtain ⟨c, g1, g2⟩ := cmpD_ok _ d e (Nat.lt_succ_self _) hd n (by omega)
  simp only [evaluate_Match, Brackets_ok hd (show SizeOf.sizeOf d ≤ n by omega) h1, Brackets_ok he (show SizeOf.sizeOf e ≤ n by omega) h2, bindO_s, g1, evaluate_Match_J1]
  have key : ∀ z, evaluate_Match_L2 n (srtB (brs d)) (srtB (brs e)) z n 0 mNew = some ⟨1, z, (srtB (brs d)).length, (srtB (brs e)).length, (meet (fun x => (srtB (brs d)).count x) (srtB (brs e)) : Int), (crossing (srtB (brs d)) (srtB (brs e)) : Int)⟩ := fun z => by
    have := match_L2 (n := n) (A := srtB (brs d)) (B := srtB (brs e)) (z := z) l1 l2 (by omega) (by omega) n 0 mNew (by omega) (by omega) ⟨MInv.new, fun x => by simp [get_new]⟩
    simpa using this
  by_cases hc : c = 0
  · have : (c == 0) = true := by simpa using hc
    rw [this, cond_true, key]
    exact ⟨1, rfl, Or.inl ⟨g2.1 hc, rfl⟩⟩
  · have : (c == 0) = false := by simpa using hc
    rw [this, cond_false, key]
    exact ⟨0, rfl, Or.inr ⟨fun h => hc (g2.2 h), rfl⟩⟩
end Go.Proofs
end
section
namespace Go.Proofs
open Go Go.Rx Go.Vx Go.Sort
set_option linter.unusedVariables false
def apart (x y : GDeriv) : Prop := ¬ (x.From < y.To ∧ y.From < x.To)
theorem nested_T2 {z : Int} {rc : Int → Option Bool} {x : GDeriv} {l : List GDeriv} (hl : l.length ≤ 9223372036854775807) : ∀ (m i : Nat), i ≤ l.length → law50_nested_L2 z rc x l m i = some true → (∀ y ∈ l.drop i, apart x y) ∧ rc (IntKind.i64.wrap (z + 1)) = some true
  | 0, i, _, h => by cases h
  | m + 1, i, hi, h => by
    unfold law50_nested_L2 at h
    by_cases hlt : i < l.length
    · obtain ⟨y, hy, _⟩ := get_of hlt
      have e1 : decide ((i : Int) < (l.length : Int)) = true := by simp; omega
      simp only [e1, cond_true, idxO_nat, hy, bindO_s, wr1 hlt hl] at h
      have hap : apart x y ∧ law50_nested_L2 z rc x l m ((i + 1 : Nat) : Int) = some true := by
        unfold apart
        by_cases h1 : x.From < y.To
        · by_cases h2 : y.From < x.To
          · simp [h1, h2] at h
          · simp only [h1, h2, decide_true, decide_false, cond_true, cond_false, bindO_s] at h
            exact ⟨fun h => h2 h.2, h⟩
        · simp only [h1, decide_false, cond_false, bindO_s] at h
          exact ⟨fun h => h1 h.1, h⟩
      obtain ⟨g1, g2⟩ := nested_T2 hl m (i + 1) (by omega) hap.2
      refine ⟨fun w hw => ?_, g2⟩
      rw [drop_cons' hy] at hw
      rcases List.mem_cons.1 hw with rfl | hw
      · exact hap.1
      · exact g1 w hw
    · have e1 : decide ((i : Int) < (l.length : Int)) = false := by simp; omega
      have h0 : l.drop i = [] := List.drop_eq_nil_of_le (by omega)
      simp only [e1, cond_false, law50_nested_K2] at h
      exact ⟨fun y hy => by (rw [h0] at hy; cases hy), h⟩
theorem nested_T1 {d : GDeriv} (hl : d.Kids.length ≤ 9223372036854775807) {n : Nat} {self : GDeriv → Option Bool} : ∀ (m i : Nat), i ≤ d.Kids.length → law50_nested_L1 d n self m i = some true →
    ∀ j x, i ≤ j → d.Kids[j]? = some x → d.From ≤ x.From ∧ x.To ≤ d.To ∧ self x = some true ∧ ∀ y ∈ d.Kids.take j, apart x y
  | 0, i, _, h => by cases h
  | m + 1, i, hi, h => by
    unfold law50_nested_L1 at h
    by_cases hlt : i < d.Kids.length
    · obtain ⟨x, hx, hmem⟩ := get_of hlt
      have e1 : decide ((i : Int) < (d.Kids.length : Int)) = true := by simp; omega
      have hcut : cutO d.Kids 0 (i : Int) = some (d.Kids.take i) := by
        unfold cutO
        rw [if_pos ⟨by omega, by omega, by omega⟩]; simp
      simp only [e1, cond_true, idxO_nat, hx, bindO_s, hcut] at h
      by_cases h1 : x.From < d.From
      · simp [h1] at h
      · by_cases h2 : x.To > d.To
        · simp [h1, h2] at h
        · simp only [h1, h2, decide_false, cond_false] at h
          cases hs : self x with
          | none => rw [hs] at h; simp [bindO] at h
          | some q =>
            rw [hs] at h
            cases q with
            | false => simp [bindO_s] at h
            | true =>
              simp only [bindO_s, Bool.not_true, cond_false] at h
              have hlen : (d.Kids.take i).length = i := by simp; omega
              obtain ⟨g1, g2⟩ := nested_T2 (l := d.Kids.take i) (by omega) n 0 (by omega) h
              rw [wr1 hlt hl] at g2
              intro j y hj hy
              by_cases he : j = i
              · subst he
                rw [hx] at hy; cases hy
                exact ⟨by omega, by omega, hs, by simpa using g1⟩
              · exact nested_T1 hl m (i + 1) (by omega) g2 j y (by omega) hy
    · intro j x hj hx
      have := (List.getElem?_eq_some_iff.1 hx).1
      omega
theorem mem_brsL {b : GBracket} : ∀ {l : List GDeriv}, b ∈ brsL l → ∃ (j : Nat) (x : GDeriv), l[j]? = some x ∧ b ∈ brs x
  | [], h => by simp [brsL] at h
  | d :: l, h => by
    simp only [brsL] at h
    rcases List.mem_append.1 h with h | h
    · exact ⟨0, d, rfl, h⟩
    · obtain ⟨j, x, h1, h2⟩ := mem_brsL h
      exact ⟨j + 1, x, by simpa using h1, h2⟩
def Lam (d : GDeriv) : Prop := d.From < d.To ∧ (∀ b ∈ brs d, d.From ≤ b.From ∧ b.From < b.To ∧ b.To ≤ d.To) ∧ ∀ x ∈ brs d, ∀ y ∈ brs d, crs x y = false
theorem crs_f {x y : GBracket} (h : ¬ ((x.From < y.From ∧ y.From < x.To ∧ x.To < y.To) ∨ (y.From < x.From ∧ x.From < y.To ∧ y.To < x.To))) : crs x y = false := by simp only [crs, h, decide_false]
theorem nested_lam : ∀ (s : Nat) (d : GDeriv), SizeOf.sizeOf d < s → okG d → ∀ n, law50_nested n d = some true → Lam d
  | 0, d, hs, _, _, _ => by omega
  | s + 1, d, hs, hok, n, h => by
    cases n with
    | zero => cases h
    | succ n =>
      simp only [law50_nested, law50_nested_b] at h
      by_cases h0 : d.From ≥ d.To
      · simp [h0] at h
      · simp only [h0, decide_false, cond_false] at h
        have hT := nested_T1 (okG_len hok) n 0 (by omega) h
        have kid : ∀ j x, d.Kids[j]? = some x → d.From ≤ x.From ∧ x.To ≤ d.To ∧ Lam x ∧ ∀ y ∈ d.Kids.take j, apart x y := fun j x hx => by
          obtain ⟨a1, a2, a3, a4⟩ := hT j x (by omega) hx
          have hmem : x ∈ d.Kids := List.mem_of_getElem? hx
          have := kid_lt d hmem
          exact ⟨a1, a2, nested_lam s x (by omega) (okG_kid hok hmem) n a3, a4⟩
        have span : ∀ b ∈ brsL d.Kids, d.From ≤ b.From ∧ b.From < b.To ∧ b.To ≤ d.To := fun b hb => by
          obtain ⟨j, x, hx, hbx⟩ := mem_brsL hb
          obtain ⟨a1, a2, a3, _⟩ := kid j x hx
          have := a3.2.1 b hbx
          omega
        have pair : ∀ x ∈ brsL d.Kids, ∀ y ∈ brsL d.Kids, crs x y = false := fun x hx y hy => by
          obtain ⟨i, u, hu, hxu⟩ := mem_brsL hx
          obtain ⟨j, v, hv, hyv⟩ := mem_brsL hy
          obtain ⟨_, _, a3, a4⟩ := kid i u hu
          obtain ⟨_, _, b3, b4⟩ := kid j v hv
          have c1 := a3.2.1 x hxu
          have c2 := b3.2.1 y hyv
          rcases Nat.lt_trichotomy i j with h | h | h
          · have := b4 u (List.mem_of_getElem? (i := i) (by rw [List.getElem?_take_of_lt h]; exact hu))
            unfold apart at this
            exact crs_f (by omega)
          · subst h
            rw [hu] at hv; cases hv
            exact a3.2.2 x hxu y hyv
          · have := a4 v (List.mem_of_getElem? (i := j) (by rw [List.getElem?_take_of_lt h]; exact hv))
            unfold apart at this
            exact crs_f (by omega)
        have own : ∀ b ∈ (if d.Kind = 2 then [(⟨d.Name, d.From, d.To⟩ : GBracket)] else []), b.From = d.From ∧ b.To = d.To := fun b hb => by
          split at hb
          · simp at hb; subst hb; exact ⟨rfl, rfl⟩
          · cases hb
        refine ⟨by omega, fun b hb => ?_, fun x hx y hy => ?_⟩
        · rw [brs_eq] at hb
          rcases List.mem_append.1 hb with hb | hb
          · have := own b hb; omega
          · exact span b hb
        · rw [brs_eq] at hx hy
          rcases List.mem_append.1 hx with hx | hx
          · have hx' := own x hx
            rcases List.mem_append.1 hy with hy | hy
            · have hy' := own y hy
              exact crs_f (by omega)
            · have hy' := span y hy
              exact crs_f (by omega)
          · have hx' := span x hx
            rcases List.mem_append.1 hy with hy | hy
            · have hy' := own y hy
              exact crs_f (by omega)
            · exact pair x hx y hy
theorem valid_L {p : List GDeriv} (hp : p.length ≤ 9223372036854775807) {n : Nat} (hn : ∀ d ∈ p, okG d ∧ SizeOf.sizeOf d ≤ n) : ∀ (m i : Nat), p.length - i < m → i ≤ p.length → ∃ b, law50_valid_L1 p n m i = some b ∧ (b = true → ∀ d ∈ p.drop i, nodes d ≤ 40 ∧ Lam d)
  | 0, i, hm, _ => by omega
  | m + 1, i, hm, hi => by
    unfold law50_valid_L1
    by_cases hlt : i < p.length
    · obtain ⟨d, hd, hmem⟩ := get_of hlt
      obtain ⟨hok, hs⟩ := hn d hmem
      have e1 : decide ((i : Int) < (p.length : Int)) = true := by simp; omega
      obtain ⟨c, g1, g2, g3, g4⟩ := count_ok _ d (Nat.lt_succ_self _) hok n hs 40 (by omega) (by omega)
      obtain ⟨q, hq⟩ := nested_ok _ d (Nat.lt_succ_self _) hok n hs
      simp only [e1, cond_true, idxO_nat, hd, bindO_s, g1, hq]
      by_cases h40 : c > 40
      · simp [h40]
      · have hc : c = nodes d := g4 (by omega)
        cases q with
        | false => simp [h40]
        | true =>
          simp only [h40, decide_false, cond_false, Bool.not_true, bindO_s, wr1 hlt hp]
          obtain ⟨b, k1, k2⟩ := valid_L hp hn m (i + 1) (by omega) (by omega)
          refine ⟨b, k1, fun hb e he => ?_⟩
          rw [drop_cons' hd] at he
          rcases List.mem_cons.1 he with rfl | he
          · exact ⟨by omega, nested_lam _ _ (Nat.lt_succ_self _) hok n hq⟩
          · exact k2 hb e he
    · have e1 : decide ((i : Int) < (p.length : Int)) = false := by simp; omega
      have h0 : p.drop i = [] := List.drop_eq_nil_of_le (by omega)
      simp only [e1, cond_false, law50_valid_K1]
      exact ⟨true, rfl, fun _ d hd => by rw [h0] at hd; cases hd⟩
theorem valid_ok {p : List GDeriv} (hp : p.length ≤ 9223372036854775807) {n : Nat} (hn : ∀ d ∈ p, okG d ∧ SizeOf.sizeOf d ≤ n) (hl : p.length < n) : ∃ b, law50_valid n p = some b ∧ (b = true → ∀ d ∈ p, nodes d ≤ 40 ∧ Lam d) := by
  have := valid_L hp hn n 0 (by omega) (by omega)
  simpa [law50_valid] using this
end Go.Proofs
end
section
namespace Go.Proofs
open Go Go.Rx Go.Vx Go.Sort
set_option linter.unusedVariables false
def dec1 (c : GBracket → Nat) (x : GBracket) : GBracket → Nat := fun y => if y = x then c y - 1 else c y
def inc1 (c : GBracket → Nat) (x : GBracket) : GBracket → Nat := fun y => if y = x then c y + 1 else c y
theorem meet_cons (c : GBracket → Nat) (x : GBracket) (l : List GBracket) : meet c (x :: l) = if 0 < c x then meet (dec1 c x) l + 1 else meet c l := rfl
theorem dec_inc (c : GBracket → Nat) (x : GBracket) : dec1 (inc1 c x) x = c := by
  funext y; simp only [dec1, inc1]; by_cases h : y = x <;> simp [h]
theorem dec_inc_ne (c : GBracket → Nat) {x y : GBracket} (h : ¬ y = x) : dec1 (inc1 c x) y = inc1 (dec1 c y) x := by
  funext z; simp only [dec1, inc1]
  by_cases h1 : z = x
  · subst h1
    have : ¬ z = y := fun e => h e.symm
    simp [this]
  · by_cases h2 : z = y
    · subst h2; simp [h1]
    · simp [h1, h2]
theorem meet_inc (x : GBracket) : ∀ (l : List GBracket) (c : GBracket → Nat), meet (inc1 c x) l = if x ∈ l then meet c (l.erase x) + 1 else meet c l
  | [], c => by simp [meet]
  | y :: l, c => by
    rw [meet_cons]
    by_cases h : y = x
    · subst h
      rw [dec_inc]
      simp [inc1]
    · have hx : ¬ x = y := fun e => h e.symm
      have e1 : inc1 c x y = c y := by simp [inc1, h]
      have e2 : (y :: l).erase x = y :: l.erase x := by rw [List.erase_cons_tail]; simpa using h
      rw [e1, dec_inc_ne c h, meet_inc x l, meet_inc x l, e2, meet_cons, meet_cons]
      have e3 : (x ∈ y :: l) ↔ x ∈ l := by simp [hx]
      by_cases hm : x ∈ l
      · simp only [e3, hm, if_true]
        split <;> omega
      · simp only [e3, hm, if_false]
theorem count_cons_inc (x : GBracket) (A : List GBracket) : (fun y => (x :: A).count y) = inc1 (fun y => A.count y) x := by
  funext y
  simp only [inc1, List.count_cons]
  by_cases h : y = x
  · subst h; simp
  · have : ¬ x = y := fun e => h e.symm
    simp [h, this]
theorem count_erase_dec (x : GBracket) (A : List GBracket) : (fun y => (A.erase x).count y) = dec1 (fun y => A.count y) x := by
  funext y
  simp only [dec1]
  by_cases h : y = x
  · subst h; simp [List.count_erase_self]
  · have : ¬ x = y := fun e => h e.symm
    simp only [h, if_false]
    rw [List.count_erase_of_ne]
    exact h
theorem meet_symm : ∀ (A B : List GBracket), meet (fun y => A.count y) B = meet (fun y => B.count y) A
  | [], B => by
    have : ∀ (l : List GBracket), meet (fun y => ([] : List GBracket).count y) l = 0 := by
      intro l
      induction l with
      | nil => rfl
      | cons x l ih => rw [meet_cons]; simpa using ih
    rw [this]; rfl
  | x :: A, B => by
    rw [count_cons_inc, meet_inc, meet_cons]
    by_cases h : x ∈ B
    · have h' : 0 < B.count x := List.count_pos_iff.2 h
      simp only [h, h', if_true]
      rw [meet_symm A (B.erase x), count_erase_dec]
    · have h' : ¬ 0 < B.count x := fun e => h (List.count_pos_iff.1 e)
      simp only [h, h', if_false]
      exact meet_symm A B
theorem div_L1 : ∀ (m x y : Nat), y < m → ref50_divisor_L1 m x y = some ((Nat.gcd x y : Nat) : Int)
  | 0, x, y, h => by omega
  | m + 1, x, y, h => by
    unfold ref50_divisor_L1
    by_cases h0 : y = 0
    · subst h0; simp [ref50_divisor_K1]
    · have e1 : decide ((y : Int) > 0) = true := by simp; omega
      have e2 : ¬ (y : Int) = 0 := by omega
      rw [e1, cond_true, needO_of e2, Int.tmod_eq_emod_of_nonneg (by omega), show ((x : Int) % (y : Int)) = ((x % y : Nat) : Int) from rfl, div_L1 m y (x % y) (by have := Nat.mod_lt x (show 0 < y by omega); omega)]
      rw [Nat.gcd_comm x y, Nat.gcd_rec y x, Nat.gcd_comm]
theorem red_L2 (a b : Int) : ∀ (m x y : Nat), y < m → evaluate_Reduce_L2 a b m x y = evaluate_Reduce_K2 a b ((Nat.gcd x y : Nat) : Int)
  | 0, x, y, h => by omega
  | m + 1, x, y, h => by
    unfold evaluate_Reduce_L2
    by_cases h0 : y = 0
    · subst h0; simp
    · have e1 : ((y : Int) != 0) = true := by simpa using h0
      have e2 : ¬ (y : Int) = 0 := by omega
      rw [e1, cond_true, needO_of e2, Int.tmod_eq_emod_of_nonneg (by omega), show ((x : Int) % (y : Int)) = ((x % y : Nat) : Int) from rfl, red_L2 a b m y (x % y) (by have := Nat.mod_lt x (show 0 < y by omega); omega)]
      rw [Nat.gcd_comm x y, Nat.gcd_rec y x, Nat.gcd_comm]
theorem eqz_f {p : Nat} (h : ¬ p = 0) : ((p : Int) == 0) = false := by
  cases h' : ((p : Int) == 0) with
  | false => rfl
  | true => rw [beq_iff_eq] at h'; omega
theorem part_both {a b : Nat} (ha : a ≤ 1000) (hb : b ≤ 1000) {n : Nat} (hn : 1001 ≤ n) : ∃ r : GRatio, evaluate_part n a b = some r ∧ ref50_part n a b = some r ∧ (a ≤ b → 0 ≤ r.Num ∧ 1 ≤ r.Den ∧ r.Num ≤ r.Den) := by
  by_cases h0 : b = 0
  · subst h0
    exact ⟨⟨1, 1⟩, by simp [evaluate_part], by simp [ref50_part], fun _ => by simp⟩
  · have a1 := eqz_f h0
    have a2 : decide ((a : Int) < -4611686018427387904) = false := by rw [decide_eq_false_iff_not]; omega
    have a3 : decide ((a : Int) > 4611686018427387904) = false := by rw [decide_eq_false_iff_not]; omega
    have a2' : decide ((b : Int) < -4611686018427387904) = false := by rw [decide_eq_false_iff_not]; omega
    have a3' : decide ((b : Int) > 4611686018427387904) = false := by rw [decide_eq_false_iff_not]; omega
    have a4 : decide ((b : Int) < 0) = false := by rw [decide_eq_false_iff_not]; omega
    have a5 : IntKind.i64.wrap (0 - (a : Int)) = -(a : Int) := by rw [wr (by omega) (by omega)]; omega
    have a6 : (if (-(a : Int)) > (a : Int) then (-(a : Int)) else (a : Int)) = a := by split <;> omega
    have hg : 0 < Nat.gcd a b := Nat.gcd_pos_of_pos_right _ (by omega)
    have hg' : ¬ ((Nat.gcd a b : Nat) : Int) = 0 := by omega
    have t1 : (a : Int).tdiv ((Nat.gcd a b : Nat) : Int) = ((a / Nat.gcd a b : Nat) : Int) := by rw [Int.tdiv_eq_ediv_of_nonneg (by omega)]; rfl
    have t2 : (b : Int).tdiv ((Nat.gcd a b : Nat) : Int) = ((b / Nat.gcd a b : Nat) : Int) := by rw [Int.tdiv_eq_ediv_of_nonneg (by omega)]; rfl
    have l1 : a / Nat.gcd a b ≤ a := Nat.div_le_self _ _
    have l2 : b / Nat.gcd a b ≤ b := Nat.div_le_self _ _
    have wn : ∀ q : Nat, q ≤ 1000 → IntKind.i64.wrap (q : Int) = (q : Int) := fun q hq => wr (by omega) (by omega)
    have w1 := wn (a / Nat.gcd a b) (by omega)
    have w2 := wn (b / Nat.gcd a b) (by omega)
    refine ⟨⟨((a / Nat.gcd a b : Nat) : Int), ((b / Nat.gcd a b : Nat) : Int)⟩, ?_, ?_, fun hab => ?_⟩
    · simp only [evaluate_part, a1, cond_false, evaluate_Reduce, a2, a3, a2', a3', a4, bindO_s, evaluate_Reduce_J1, a5, a6, red_L2 (a : Int) (b : Int) n a b (by omega), evaluate_Reduce_K2, needO_of hg', t1, t2, w1, w2]
    · simp only [ref50_part, a1, cond_false, ref50_Reduce, a2, a3, a2', a3', a4, bindO_s, ref50_Reduce_J1, a5, a6, ref50_divisor, div_L1 n a b (by omega), needO_of hg', t1, t2, w1, w2]
    · have h1 : 0 < b / Nat.gcd a b := Nat.div_pos (Nat.le_of_dvd (by omega) (Nat.gcd_dvd_right a b)) hg
      have h2 : a / Nat.gcd a b ≤ b / Nat.gcd a b := Nat.div_le_div_right hab
      simp only
      exact ⟨Int.natCast_nonneg _, Int.ofNat_le.2 h1, Int.ofNat_le.2 h2⟩
theorem crosses_eq (n : Nat) (x y : GBracket) : ref50_crosses n x y = some (crs x y) := by
  simp only [ref50_crosses, crs]
  by_cases h1 : x.From < y.From <;> by_cases h2 : y.From < x.To <;> by_cases h3 : x.To < y.To <;> by_cases h4 : y.From < x.From <;> by_cases h5 : x.From < y.To <;> by_cases h6 : y.To < x.To <;> simp [h1, h2, h3, h4, h5, h6] <;> omega
theorem common_L {A B : List GBracket} (hA : A.length ≤ 1000) (hB : B.length ≤ 1000) (aA : Asc ltB A) (aB : Asc ltB B) {n : Nat} : ∀ (m i k a : Nat), (A.length - i) + (B.length - k) < m → i ≤ A.length → k ≤ B.length → a + (A.length - i) + (B.length - k) ≤ 3000 →
    ref50_common_L1 A B n m a i k = some ((a + meet (fun y => (A.drop i).count y) (B.drop k) : Nat) : Int)
  | 0, i, k, a, h, _, _, _ => by omega
  | m + 1, i, k, a, h, hi, hk, ha => by
    unfold ref50_common_L1
    by_cases h1 : i < A.length
    · have e1 : decide ((i : Int) < (A.length : Int)) = true := by simp; omega
      obtain ⟨x, hx, hxm⟩ := get_of h1
      by_cases h2 : k < B.length
      · obtain ⟨y, hy, hym⟩ := get_of h2
        have e2 : decide ((k : Int) < (B.length : Int)) = true := by simp; omega
        have dA := drop_cons' hx
        have dB := drop_cons' hy
        have sA : Asc ltB (x :: A.drop (i + 1)) := by rw [← dA]; exact List.Pairwise.sublist (List.drop_sublist i A) aA
        have sB : Asc ltB (y :: B.drop (k + 1)) := by rw [← dB]; exact List.Pairwise.sublist (List.drop_sublist k B) aB
        have pA := (List.pairwise_cons.1 sA).1
        have pB := (List.pairwise_cons.1 sB).1
        simp only [e1, e2, cond_true, bindO_s, idxO_nat, hx, hy, ref50_common_J2, ref50_common_J3, before_eq, wr1 h1 (show A.length ≤ 9223372036854775807 by omega), wr1 h2 (show B.length ≤ 9223372036854775807 by omega)]
        cases hq : eqGBracket x y with
        | true =>
          have hxy := (eqB_iff x y).1 hq
          subst hxy
          rw [cond_true, show IntKind.i64.wrap ((a : Int) + 1) = ((a + 1 : Nat) : Int) by rw [wr (by omega) (by omega)]; omega, common_L hA hB aA aB m (i + 1) (k + 1) (a + 1) (by omega) (by omega) (by omega) (by omega), dA, dB]
          have hm : meet (fun y => (x :: A.drop (i + 1)).count y) (x :: B.drop (k + 1)) = meet (fun y => (A.drop (i + 1)).count y) (B.drop (k + 1)) + 1 := by
            rw [count_cons_inc, meet_cons, dec_inc, if_pos]; simp [inc1]
          rw [hm]
          congr 2; omega
        | false =>
          have hne : ¬ x = y := fun h => by rw [(eqB_iff x y).2 h] at hq; cases hq
          rw [cond_false]
          cases hlt : ltB x y with
          | true =>
            rw [cond_true, common_L hA hB aA aB m (i + 1) k a (by omega) (by omega) (by omega) (by omega), dA, count_cons_inc, meet_inc, if_neg]
            rw [dB]
            intro hmem
            rcases List.mem_cons.1 hmem with h | h
            · exact hne h
            · have := pB x h
              rw [hlt] at this; cases this
          | false =>
            have hlt' : ltB y x = true := by
              cases h : ltB y x with
              | true => rfl
              | false => exact absurd (ltB_total x y hlt h) hne
            rw [cond_false, common_L hA hB aA aB m i (k + 1) a (by omega) (by omega) (by omega) (by omega), dB, meet_cons, if_neg]
            rw [dA]
            intro hmem
            rcases List.mem_cons.1 (List.count_pos_iff.1 hmem) with h | h
            · exact hne h.symm
            · have := pA y h
              rw [hlt'] at this; cases this
      · have e2 : decide ((k : Int) < (B.length : Int)) = false := by simp; omega
        have d0 : B.drop k = [] := List.drop_eq_nil_of_le (by omega)
        simp only [e1, e2, cond_true, cond_false, bindO_s, ref50_common_K1, d0, meet]
        rfl
    · have e1 : decide ((i : Int) < (A.length : Int)) = false := by simp; omega
      have d0 : A.drop i = [] := List.drop_eq_nil_of_le (by omega)
      simp only [e1, cond_false, bindO_s, ref50_common_K1, d0]
      rw [meet_symm]
      rfl
theorem common_ok {A B : List GBracket} (hA : A.length ≤ 1000) (hB : B.length ≤ 1000) (aA : Asc ltB A) (aB : Asc ltB B) {n : Nat} (hn : A.length + B.length < n) : ref50_common n A B = some (meet (fun y => A.count y) B : Int) := by
  have := common_L hA hB aA aB (n := n) n 0 0 0 (by omega) (by omega) (by omega) (by omega)
  simpa [ref50_common] using this
theorem equal_L {p q : GDeriv} (hl : p.Kids.length ≤ 9223372036854775807) (hq : p.Kids.length = q.Kids.length) {self : GDeriv → GDeriv → Option Bool} (hf : ∀ x ∈ p.Kids, ∀ y ∈ q.Kids, ∃ b, self x y = some b ∧ (b = true ↔ x = y)) : ∀ (m i : Nat), p.Kids.length - i < m → i ≤ p.Kids.length → ∃ b, ref50_Equal_L1 p q self m i = some b ∧ (b = true ↔ p.Kids.drop i = q.Kids.drop i)
  | 0, i, hm, _ => by omega
  | m + 1, i, hm, hi => by
    unfold ref50_Equal_L1
    by_cases hlt : i < p.Kids.length
    · obtain ⟨x, hx, hxm⟩ := get_of hlt
      obtain ⟨y, hy, hym⟩ := get_of (show i < q.Kids.length by omega)
      have e1 : decide ((i : Int) < (p.Kids.length : Int)) = true := by simp; omega
      obtain ⟨b, h1, h2⟩ := hf x hxm y hym
      simp only [e1, cond_true, idxO_nat, hx, hy, bindO_s, h1, drop_cons' hx, drop_cons' hy, List.cons.injEq, wr1 hlt hl]
      cases b with
      | false =>
        refine ⟨false, rfl, ?_⟩
        constructor
        · intro h; cases h
        · intro h; exact h2.2 h.1
      | true =>
        obtain ⟨b', g1, g2⟩ := equal_L hl hq hf m (i + 1) (by omega) (by omega)
        refine ⟨b', by simpa using g1, ?_⟩
        rw [g2]; simp [h2.1 rfl]
    · have e1 : decide ((i : Int) < (p.Kids.length : Int)) = false := by simp; omega
      have d1 : p.Kids.drop i = [] := List.drop_eq_nil_of_le (by omega)
      have d2 : q.Kids.drop i = [] := List.drop_eq_nil_of_le (by omega)
      simp only [e1, cond_false, ref50_Equal_K1, d1, d2]
      exact ⟨true, rfl, by simp⟩
theorem equal_ok : ∀ (s : Nat) (d e : GDeriv), SizeOf.sizeOf d < s → okG d → ∀ n, SizeOf.sizeOf d ≤ n → ∃ b, ref50_Equal n d e = some b ∧ (b = true ↔ d = e)
  | 0, d, e, hs, _, _, _ => by omega
  | s + 1, d, e, hs, hok, n, hn => by
    have hk := kids_lt d
    cases n with
    | zero => omega
    | succ n =>
      simp only [ref50_Equal, ref50_Equal_b]
      have no : ¬ d = e → ∃ b, (some false : Option Bool) = some b ∧ (b = true ↔ d = e) := fun h => ⟨false, rfl, by simp [h]⟩
      by_cases h1 : d.Kind = e.Kind
      · have e1 : (d.Kind != e.Kind) = false := by simp [h1]
        cases h2 : bytesEq d.Name e.Name with
        | false =>
          simp only [e1, cond_false, Bool.not_false, cond_true, bindO_s]
          exact no fun h => by subst h; rw [bytesEq_refl] at h2; cases h2
        | true =>
          have h2' := (bytesEq_iff _ _).1 h2
          by_cases h3 : d.From = e.From
          · have e3 : (d.From != e.From) = false := by simp [h3]
            by_cases h4 : d.To = e.To
            · have e4 : (d.To != e.To) = false := by simp [h4]
              by_cases h5 : d.Kids.length = e.Kids.length
              · have e5 : ((d.Kids.length : Int) != (e.Kids.length : Int)) = false := by simp [h5]
                simp only [e1, e3, e4, e5, Bool.not_true, cond_false, bindO_s]
                obtain ⟨b, g1, g2⟩ := equal_L (p := d) (q := e) (okG_len hok) h5 (self := ref50_Equal n) (fun x hx y hy => by
                  have := kid_lt d hx
                  exact equal_ok s x y (by omega) (okG_kid hok hx) n (by omega)) n 0 (by omega) (by omega)
                rw [Int.ofNat_zero] at g1
                refine ⟨b, g1, ?_⟩
                rw [g2, ← deriv_ext]
                simp [h1, h2', h3, h4]
              · have e5 : ((d.Kids.length : Int) != (e.Kids.length : Int)) = true := by simp; omega
                simp only [e1, e3, e4, e5, Bool.not_true, cond_false, cond_true, bindO_s]
                exact no fun h => h5 (by rw [h])
            · have e4 : (d.To != e.To) = true := by simpa using h4
              simp only [e1, e3, e4, Bool.not_true, cond_false, cond_true, bindO_s]
              exact no fun h => h4 (by rw [h])
          · have e3 : (d.From != e.From) = true := by simpa using h3
            simp only [e1, e3, Bool.not_true, cond_false, cond_true, bindO_s]
            exact no fun h => h3 (by rw [h])
      · have e1 : (d.Kind != e.Kind) = true := by simpa using h1
        simp only [e1, cond_true, bindO_s]
        exact no fun h => h1 (by rw [h])
theorem refm_L3 {A B : List GBracket} (hA : A.length ≤ 1000) {n : Nat} {i c : Nat} {x : GBracket} (hx : B[i]? = some x) {rc : Int → Int → Option GMetrics} : ∀ (m k : Nat) (b : Bool), A.length - k < m → k ≤ A.length →
    ref50_Match_L3 n A B i c rc m b k = ref50_Match_K3 i c rc (b || (A.drop k).any (crs x))
  | 0, k, b, h, _ => by omega
  | m + 1, k, b, h, hk => by
    unfold ref50_Match_L3
    by_cases h1 : k < A.length
    · obtain ⟨y, hy, _⟩ := get_of h1
      have e1 : decide ((k : Int) < (A.length : Int)) = true := by simp; omega
      rw [e1, cond_true, drop_cons' hy, List.any_cons, wr1 h1 (by omega)]
      cases b with
      | true =>
        rw [cond_true, bindO_s, refm_L3 hA hx m (k + 1) true (by omega) (by omega)]
        simp
      | false =>
        simp only [cond_false, idxO_nat, hx, hy, bindO_s, crosses_eq]
        rw [refm_L3 hA hx m (k + 1) _ (by omega) (by omega)]
        simp
    · have e1 : decide ((k : Int) < (A.length : Int)) = false := by simp; omega
      have d0 : A.drop k = [] := List.drop_eq_nil_of_le (by omega)
      simp only [e1, cond_false, d0, List.any_nil, Bool.or_false]
theorem refm_L2 {A B : List GBracket} (hA : A.length ≤ 1000) (hB : B.length ≤ 1000) {n : Nat} (hn : A.length < n) {M z : Int} : ∀ (m i c : Nat), B.length - i < m → i ≤ B.length → c ≤ i →
    ref50_Match_L2 n A B M z m i c = some ⟨1, z, A.length, B.length, M, ((c + crossing A (B.drop i) : Nat) : Int)⟩
  | 0, i, c, h, _, _ => by omega
  | m + 1, i, c, h, hi, hc => by
    unfold ref50_Match_L2
    by_cases h1 : i < B.length
    · obtain ⟨x, hx, _⟩ := get_of h1
      have e1 : decide ((i : Int) < (B.length : Int)) = true := by simp; omega
      have h3 := refm_L3 (B := B) hA (n := n) (i := i) (c := c) hx (rc := ref50_Match_L2 n A B M z m) n 0 false (by omega) (by omega)
      rw [Int.ofNat_zero] at h3
      rw [e1, cond_true, h3]
      have hcr : crossing A (B.drop i) = (if A.any (crs x) = true then 1 else 0) + crossing A (B.drop (i + 1)) := by
        rw [drop_cons' hx]
        simp only [crossing, List.filter_cons]
        split <;> simp; omega
      simp only [Bool.false_or, List.drop_zero, ref50_Match_K3, ref50_Match_J4, wr1 h1 (show B.length ≤ 9223372036854775807 by omega)]
      cases hq : A.any (crs x) with
      | true =>
        rw [cond_true, show IntKind.i64.wrap ((c : Int) + 1) = ((c + 1 : Nat) : Int) by rw [wr (by omega) (by omega)]; omega, refm_L2 hA hB hn m (i + 1) (c + 1) (by omega) (by omega) (by omega), hcr, hq, if_pos rfl]
        congr 3; omega
      | false =>
        rw [cond_false, refm_L2 hA hB hn m (i + 1) c (by omega) (by omega) (by omega), hcr, hq]
        simp
    · have e1 : decide ((i : Int) < (B.length : Int)) = false := by simp; omega
      have d0 : B.drop i = [] := List.drop_eq_nil_of_le (by omega)
      simp only [e1, cond_false, ref50_Match_K2, d0]
      simp [crossing]
theorem refMatch_ok {d e : GDeriv} (hd : okG d) (he : okG e) (h1 : nodes d ≤ 1000) (h2 : nodes e ≤ 1000) {n : Nat} (hn : SizeOf.sizeOf d + SizeOf.sizeOf e + 3001 ≤ n) :
    ∃ z, ref50_Match n d e = some ⟨1, z, (srtB (brs d)).length, (srtB (brs e)).length, (meet (fun x => (srtB (brs d)).count x) (srtB (brs e)) : Int), (crossing (srtB (brs d)) (srtB (brs e)) : Int)⟩ ∧ ((d = e ∧ z = 1) ∨ (¬ d = e ∧ z = 0)) := by
  obtain ⟨r, r1, r2, r3⟩ := refB_ok _ d (Nat.lt_succ_self _) hd n (by omega) h1
  obtain ⟨q, q1, q2, q3⟩ := refB_ok _ e (Nat.lt_succ_self _) he n (by omega) h2
  have l1 : r.length ≤ 1000 := by have := brs_len d; rw [r2.length_eq]; omega
  have l2 : q.length ≤ 1000 := by have := brs_len e; rw [q2.length_eq]; omega
  rw [srtB_of r2 r3, srtB_of q2 q3]
  obtain ⟨b, g1, g2⟩ := equal_ok _ d e (Nat.lt_succ_self _) hd n (by omega)
  have hc := common_ok l1 l2 r3 q3 (n := n) (by omega)
  have hL := fun z => refm_L2 (A := r) (B := q) l1 l2 (n := n) (by omega) (M := (meet (fun x => r.count x) q : Int)) (z := z) n 0 0 (by omega) (by omega) (by omega)
  simp only [ref50_Match, r1, q1, bindO_s, hc, g1, ref50_Match_J1]
  simp only [Int.ofNat_zero, List.drop_zero, Nat.zero_add] at hL
  cases b with
  | true => exact ⟨1, by rw [cond_true]; exact hL 1, .inl ⟨g2.1 rfl, rfl⟩⟩
  | false => exact ⟨0, by rw [cond_false]; exact hL 0, .inr ⟨fun h => (by have := g2.2 h; cases this), rfl⟩⟩
theorem matches_law {d e : GDeriv} (hd : okG d) (he : okG e) {n : Nat} (hn : SizeOf.sizeOf d + SizeOf.sizeOf e + 3001 ≤ n) : law50_EvaluateMatches n d e = some true := by
  obtain ⟨b, h1, h2⟩ := valid_ok (p := [d, e]) (by simp) (n := n) (fun x hx => by
    simp only [List.mem_cons, List.not_mem_nil, or_false] at hx
    rcases hx with rfl | rfl
    · exact ⟨hd, by omega⟩
    · exact ⟨he, by omega⟩) (by simp; omega)
  simp only [law50_EvaluateMatches, h1, bindO_s, law50_exampleHolds]
  cases b with
  | false => simp
  | true =>
    obtain ⟨n1, _⟩ := h2 rfl d (by simp)
    obtain ⟨n2, _⟩ := h2 rfl e (by simp)
    obtain ⟨z, g1, g2⟩ := Match_ok hd he (by omega) (by omega) (n := n) (by omega)
    obtain ⟨z', g1', g2'⟩ := refMatch_ok hd he (by omega) (by omega) hn
    have hzz : z = z' := by
      rcases g2 with ⟨h, rfl⟩ | ⟨h, rfl⟩
      · rcases g2' with ⟨_, rfl⟩ | ⟨h', _⟩
        · rfl
        · exact absurd h h'
      · rcases g2' with ⟨h', rfl⟩ | ⟨_, rfl⟩
        · exact absurd h' h
        · rfl
    subst hzz
    have l1 : (srtB (brs d)).length ≤ 40 := by have := brs_len d; rw [srtB_len]; omega
    have l2 : (srtB (brs e)).length ≤ 40 := by have := brs_len e; rw [srtB_len]; omega
    have hml := meet_le (fun y => (srtB (brs d)).count y) (srtB (brs e))
    simp only [g1, g1', bindO_s]
    generalize meet (fun y => (srtB (brs d)).count y) (srtB (brs e)) = M at *
    generalize crossing (srtB (brs d)) (srtB (brs e)) = C at *
    generalize (srtB (brs d)).length = L1 at *
    generalize (srtB (brs e)).length = L2 at *
    obtain ⟨r, r1, r2, _⟩ := part_both (a := M) (b := L1) (by omega) (by omega) (n := n) (by omega)
    obtain ⟨q, q1, q2, _⟩ := part_both (a := M) (b := L2) (by omega) (by omega) (n := n) (by omega)
    have em : ∀ x : GMetrics, eqGMetrics x x = true := fun x => by simp [eqGMetrics]
    have er : ∀ x : GRatio, eqGRatio x x = true := fun x => by simp [eqGRatio]
    simp only [Bool.not_true, cond_false, em, cond_true, evaluate_Recall, ref50_Recall, evaluate_Precision, ref50_Precision, r1, r2, q1, q2, bindO_s, er]
end Go.Proofs
end
