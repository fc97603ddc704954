/-
  VxE: slice expressions, indices, lengths; all the operations that leave the heap as it is.
-/
import Derived.Test.YtcanbnholmlapaaVxD
namespace Go.Vx
open Go Go.Rx
set_option linter.unusedVariables false

theorem bound1_mono {v : Value} {y y' n : Nat} (h : bound1 v y = some n) (hy : y ≤ y') : bound1 v y' = some n ∧ n ≤ y := by
  unfold bound1 at *
  cases v with
  | int k i =>
    simp only at *
    cases h1 : inR i (y + 1) with
    | false => simp [h1] at h
    | true =>
      simp only [h1, cond_true, Option.some.injEq] at h
      obtain ⟨a, b⟩ := inR_true h1
      have : inR i (y' + 1) = true := by
        unfold inR
        cases i with
        | ofNat k => simp at b ⊢; omega
        | negSucc k => omega
      exact ⟨by simp [this, h], by omega⟩
  | _ => simp at h
theorem bounds_n {n c : Nat} {lo hi : Option Value} {l h m : Nat} (hb : boundsX n n lo hi none = some (l, h, m)) (hc : n ≤ c) : boundsX n c lo hi none = some (l, h, c) ∧ l ≤ h ∧ h ≤ n ∧ m = n := by
  unfold boundsX at *
  simp only at *
  cases hi with
  | none =>
    simp only at *
    cases lo with
    | none => simp only [Option.some.injEq, Prod.mk.injEq] at hb ⊢; obtain ⟨rfl, rfl, rfl⟩ := hb; simp
    | some v =>
      simp only at *
      cases h1 : bound1 v n with
      | none => simp [h1] at hb
      | some k => simp only [h1, Option.some.injEq, Prod.mk.injEq] at hb ⊢; obtain ⟨rfl, rfl, rfl⟩ := hb; simp [(bound1_mono h1 (Nat.le_refl _)).2]
  | some w =>
    simp only at *
    cases h2 : bound1 w n with
    | none => simp [h2] at hb
    | some k2 =>
      obtain ⟨e2, e3⟩ := bound1_mono h2 hc
      simp only [h2, e2] at hb ⊢
      cases lo with
      | none => simp only [Option.some.injEq, Prod.mk.injEq] at hb ⊢; obtain ⟨rfl, rfl, rfl⟩ := hb; simp [e3]
      | some v =>
        simp only at *
        cases h1 : bound1 v k2 with
        | none => simp [h1] at hb
        | some k => simp only [h1, Option.some.injEq, Prod.mk.injEq] at hb ⊢; obtain ⟨rfl, rfl, rfl⟩ := hb; simp [(bound1_mono h1 (Nat.le_refl _)).2, e3]
theorem bounds_m {n : Nat} {lo hi : Option Value} {vm : Value} {l h m : Nat} (hb : boundsX n n lo hi (some vm) = some (l, h, m)) : bound1 vm n = some m ∧ l ≤ h ∧ h ≤ m ∧ m ≤ n ∧ ∀ c, m ≤ c → boundsX n c lo hi (some vm) = some (l, h, m) := by
  unfold boundsX at *
  simp only at *
  cases h0 : bound1 vm n with
  | none => simp [h0] at hb
  | some k0 =>
    simp only [h0] at hb
    have e0 := (bound1_mono h0 (Nat.le_refl _)).2
    have grow : ∀ c, k0 ≤ c → bound1 vm c = some k0 := fun c hc => by
      unfold bound1 at *
      cases vm with
      | int k i =>
        simp only at *
        cases h1 : inR i (n + 1) with
        | false => simp [h1] at h0
        | true =>
          simp only [h1, cond_true, Option.some.injEq] at h0
          obtain ⟨a, b⟩ := inR_true h1
          have : inR i (c + 1) = true := by
            unfold inR
            cases i with
            | ofNat k => simp at h0 ⊢; omega
            | negSucc k => omega
          simp [this, h0]
      | _ => simp at h0
    cases hi with
    | none => simp at hb
    | some w =>
      simp only at *
      cases h2 : bound1 w k0 with
      | none => simp [h2] at hb
      | some k2 =>
        have e3 := (bound1_mono h2 (Nat.le_refl _)).2
        simp only [h2] at hb
        cases lo with
        | none =>
          simp only [Option.some.injEq, Prod.mk.injEq] at hb
          obtain ⟨rfl, rfl, rfl⟩ := hb
          exact ⟨rfl, by omega, e3, e0, fun c hc => by simp [grow c hc, h2]⟩
        | some v =>
          simp only at *
          cases h1 : bound1 v k2 with
          | none => simp [h1] at hb
          | some k =>
            simp only [h1, Option.some.injEq, Prod.mk.injEq] at hb
            obtain ⟨rfl, rfl, rfl⟩ := hb
            exact ⟨rfl, (bound1_mono h1 (Nat.le_refl _)).2, e3, e0, fun c hc => by simp [grow c hc, h2, h1]⟩
theorem bounds_c {n c : Nat} {lo hi mx : Option Value} {l h m : Nat} (hb : boundsX n c lo hi mx = some (l, h, m)) : l ≤ h ∧ m ≤ c := by
  unfold boundsX at hb
  cases mx with
  | none =>
    simp only at hb
    cases hi with
    | none =>
      simp only at hb
      cases lo with
      | none => simp only [Option.some.injEq, Prod.mk.injEq] at hb; omega
      | some v =>
        simp only at hb
        cases h1 : bound1 v n with
        | none => simp [h1] at hb
        | some k => simp only [h1, Option.some.injEq, Prod.mk.injEq] at hb; have := (bound1_mono h1 (Nat.le_refl _)).2; omega
    | some w =>
      simp only at hb
      cases h2 : bound1 w c with
      | none => simp [h2] at hb
      | some k2 =>
        simp only [h2] at hb
        cases lo with
        | none => simp only [Option.some.injEq, Prod.mk.injEq] at hb; omega
        | some v =>
          simp only at hb
          cases h1 : bound1 v k2 with
          | none => simp [h1] at hb
          | some k => simp only [h1, Option.some.injEq, Prod.mk.injEq] at hb; have := (bound1_mono h1 (Nat.le_refl _)).2; omega
  | some vm =>
    simp only at hb
    cases h0 : bound1 vm c with
    | none => simp [h0] at hb
    | some k0 =>
      have e0 := (bound1_mono h0 (Nat.le_refl _)).2
      simp only [h0] at hb
      cases hi with
      | none => simp at hb
      | some w =>
        simp only at hb
        cases h2 : bound1 w k0 with
        | none => simp [h2] at hb
        | some k2 =>
          simp only [h2] at hb
          cases lo with
          | none => simp only [Option.some.injEq, Prod.mk.injEq] at hb; omega
          | some v =>
            simp only at hb
            cases h1 : bound1 v k2 with
            | none => simp [h1] at hb
            | some k => simp only [h1, Option.some.injEq, Prod.mk.injEq] at hb; have := (bound1_mono h1 (Nat.le_refl _)).2; omega

theorem bounds_h {n c : Nat} {lo hi mx : Option Value} {l h m : Nat} (hb : boundsX n c lo hi mx = some (l, h, m)) (hn : n ≤ c) : h ≤ m := by
  unfold boundsX at hb
  cases mx with
  | none =>
    simp only at hb
    cases hi with
    | none =>
      simp only at hb
      cases lo with
      | none => simp only [Option.some.injEq, Prod.mk.injEq] at hb; omega
      | some v =>
        simp only at hb
        cases h1 : bound1 v n with
        | none => simp [h1] at hb
        | some k => simp only [h1, Option.some.injEq, Prod.mk.injEq] at hb; omega
    | some w =>
      simp only at hb
      cases h2 : bound1 w c with
      | none => simp [h2] at hb
      | some k2 =>
        have := (bound1_mono h2 (Nat.le_refl _)).2
        simp only [h2] at hb
        cases lo with
        | none => simp only [Option.some.injEq, Prod.mk.injEq] at hb; omega
        | some v =>
          simp only at hb
          cases h1 : bound1 v k2 with
          | none => simp [h1] at hb
          | some k => simp only [h1, Option.some.injEq, Prod.mk.injEq] at hb; omega
  | some vm =>
    simp only at hb
    cases h0 : bound1 vm c with
    | none => simp [h0] at hb
    | some k0 =>
      simp only [h0] at hb
      cases hi with
      | none => simp at hb
      | some w =>
        simp only at hb
        cases h2 : bound1 w k0 with
        | none => simp [h2] at hb
        | some k2 =>
          have := (bound1_mono h2 (Nat.le_refl _)).2
          simp only [h2] at hb
          cases lo with
          | none => simp only [Option.some.injEq, Prod.mk.injEq] at hb; omega
          | some v =>
            simp only at hb
            cases h1 : bound1 v k2 with
            | none => simp [h1] at hb
            | some k => simp only [h1, Option.some.injEq, Prod.mk.injEq] at hb; omega

theorem relR_get {x : Cx} {sz : Nat} : ∀ {l : List (List U)} {vs : List Value}, RelR x sz l vs → ∀ (i : Nat) (c : List U), l[i]? = some c → c.length = sz ∧ okL c = true ∧ RelP x c (vs.drop (i * sz))
  | [], vs, h, i, c, hc => by simp at hc
  | d :: l, vs, h, i, c, hc => by
    simp only [RelR] at h
    cases i with
    | zero => simp at hc; subst hc; exact ⟨h.1, h.2.1, by simpa using h.2.2.1⟩
    | succ i =>
      simp at hc
      have := relR_get h.2.2.2 i c hc
      rw [List.drop_drop] at this
      rw [Nat.succ_mul, Nat.add_comm]; exact this
theorem relR_of {x : Cx} {sz : Nat} : ∀ {l : List (List U)} {vs : List Value}, (∀ (i : Nat) (c : List U), l[i]? = some c → c.length = sz ∧ okL c = true ∧ RelP x c (vs.drop (i * sz))) → RelR x sz l vs
  | [], vs, h => by simp [RelR]
  | d :: l, vs, h => by
    simp only [RelR]
    have h0 := h 0 d rfl
    refine ⟨h0.1, h0.2.1, by simpa using h0.2.2, relR_of fun i c hc => ?_⟩
    have := h (i + 1) c (by simpa using hc)
    rw [List.drop_drop]
    rw [Nat.succ_mul, Nat.add_comm] at this; exact this
theorem cutL_get {α : Type} (l : List α) (a h i : Nat) : (cutL l a h)[i]? = if a + i < h then l[a + i]? else none := by
  unfold cutL
  rw [List.getElem?_drop, List.getElem?_take]
theorem cutL_len {α : Type} {l : List α} {a h : Nat} (hh : h ≤ l.length) : (cutL l a h).length = h - a := by simp [cutL]; omega
theorem relR_cut {x : Cx} {sz a h : Nat} {l : List (List U)} {vs : List Value} (hr : RelR x sz l vs) : RelR x sz (cutL l a h) (vs.drop (a * sz)) := by
  refine relR_of fun i c hc => ?_
  rw [cutL_get] at hc
  split at hc
  · have := relR_get hr _ _ hc
    rw [List.drop_drop]
    rw [Nat.add_mul] at this; exact this
  · cases hc
theorem all_sz {l : List (List U)} {sz : Nat} (h : (l.all fun c => Nat.beq c.length sz) = true) : ∀ c ∈ l, c.length = sz := fun c hc => by
  have := List.all_eq_true.1 h c hc
  simpa [beq_eq] using this
theorem relR_sz {x : Cx} {sz sz' : Nat} {l : List (List U)} {vs : List Value} (hr : RelR x sz l vs) (hne : l ≠ []) (h : (l.all fun c => Nat.beq c.length sz') = true) : sz = sz' := by
  cases l with
  | nil => exact absurd rfl hne
  | cons c l => rw [← (relR_get hr 0 c rfl).1]; exact all_sz h c (by simp)
theorem relR_len {x : Cx} {sz : Nat} : ∀ {l : List (List U)} {vs : List Value}, RelR x sz l vs → l.length * sz ≤ vs.length
  | [], vs, h => by simp
  | d :: l, vs, h => by
    simp only [RelR] at h
    have h1 := RelP.len h.2.2.1
    have h2 := relR_len h.2.2.2
    rw [List.length_drop] at h2
    rw [List.length_cons, Nat.succ_mul]
    omega
theorem relR_flat {x : Cx} {sz : Nat} : ∀ {l : List (List U)} {vs : List Value}, RelR x sz l vs → RelE x l.flatten (vs.take (l.length * sz)) ∧ okL l.flatten = true
  | [], vs, h => by simpa [okL] using RelE.nil x
  | d :: l, vs, h => by
    have hlen := relR_len h
    simp only [RelR] at h
    obtain ⟨h1, h2, h3, h4⟩ := h
    obtain ⟨g1, g2⟩ := relR_flat h4
    refine ⟨?_, by simpa using okL_append h2 g2⟩
    have e : vs.take ((d :: l).length * sz) = vs.take d.length ++ (vs.drop sz).take (l.length * sz) := by
      rw [List.length_cons, Nat.succ_mul, Nat.add_comm, List.take_add, h1]
    rw [e, List.flatten_cons]
    exact h3.takeE.append g1

def SliceSim (T : Tb) (x : Cx) (t : TypeId) (u : U) (va : Value) (lo hi mx : Option Value) : Prop :=
  (∃ v, sliceX T t va lo hi mx = some v ∧ Rel x u v) ∨ (sliceX T t va lo hi mx = none ∧ ∃ v, sliceR T x.s t va lo hi mx = some v ∧ Rel x u v) ∨
  (sliceX T t va lo hi mx = none ∧ sliceR T x.s t va lo hi mx = none ∧ ∃ v, sliceE T x.s t va lo hi mx = some (v, (bump x).s) ∧ Rel (bump x) u v)
theorem blt_of {a b : Nat} (h : a < b) : Nat.blt a b = true := Nat.ble_eq_true_of_le h
theorem blt_not {a b : Nat} (h : ¬ a < b) : Nat.blt a b = false := by
  cases hb : Nat.blt a b with
  | false => rfl
  | true => exact absurd (blt_true hb) h

/-- slice expressions over a capacity that is named -/
theorem slice_named {T : Tb} {x : Cx} {t e : TypeId} {sz : Nat} (hd : T.und t = some (.slice e)) (hs : sizeX T e = some sz) (hsz : 0 < sz) {i off n d : Nat} {row : List Value} (hn : 0 < n) (hoff : off = d * sz) (hcap : capRow x.s i sz = some row)
    (hlen : off + n * sz ≤ row.length) {lo hi : Option Value} {l h m : Nat} (hb : boundsX n n lo hi none = some (l, h, m)) :
    let va := Value.slice (some ⟨i, off, none⟩) n (capBase + d)
    sliceX T t va lo hi none = none ∧ (if l < h ∨ l = 0 then sliceR T x.s t va lo hi none = some (.slice (some ⟨i, (d + l) * sz, none⟩) (h - l) (capBase + (d + l)))
      else sliceR T x.s t va lo hi none = none ∧ sliceE T x.s t va lo hi none = some (.slice (some ⟨x.s.nx, 0, none⟩) 0 capBase, (bump x).s)) := by
  have hc : Nat.blt (capBase + d) capBase = false := blt_not (by omega)
  obtain ⟨n', rfl⟩ : ∃ q, n = q + 1 := ⟨n - 1, by omega⟩
  have hcd : capD (capBase + d) = d := by simp [capD]
  have hbig : n' + 1 ≤ (row.length - off) / sz := by
    rw [Nat.le_div_iff_mul_le hsz]; omega
  obtain ⟨b1, b2, b3, _⟩ := bounds_n hb hbig
  have hble : Nat.ble (off + h * sz) row.length = true := Nat.ble_eq_true_of_le (by
    have : h * sz ≤ (n' + 1) * sz := Nat.mul_le_mul_right _ b3
    omega)
  refine ⟨by simp [sliceX, hd, hc, emptyS], ?_⟩
  have hbeq : Nat.beq off (d * sz) = true := by simp [hoff]
  have hpos : Nat.blt 0 sz = true := blt_of hsz
  cases l with
  | zero =>
    simp only [or_true, if_true]
    simp only [sliceR, hd, hc, cond_false, hs, hcap, hcd, hbeq, cond_true, hpos, b1, hble]
    simp [hoff]
  | succ l =>
    by_cases hlt : l + 1 < h
    · simp only [hlt, true_or, if_true]
      simp only [sliceR, hd, hc, cond_false, hs, hcap, hcd, hbeq, cond_true, hpos, b1, hble, blt_of hlt]
      simp [hoff, Nat.add_mul, Nat.add_assoc]
    · have : ¬ (l + 1 < h ∨ l + 1 = 0) := by omega
      simp only [this, if_false]
      simp only [sliceR, sliceE, hd, hc, cond_false, hs, hcap, hcd, hbeq, cond_true, hpos, b1, hble, blt_not hlt]
      simp [bump]
theorem slice_named_m {T : Tb} {x : Cx} {t e : TypeId} {sz : Nat} (hd : T.und t = some (.slice e)) (hs : sizeX T e = some sz) (hsz : 0 < sz) {i off n d : Nat} {row : List Value} (hn : 0 < n) (hoff : off = d * sz) (hcap : capRow x.s i sz = some row)
    (hlen : off + n * sz ≤ row.length) {lo hi : Option Value} {vm : Value} {l h m : Nat} (hb : boundsX n n lo hi (some vm) = some (l, h, m)) (hm : m < capBase) :
    let va := Value.slice (some ⟨i, off, none⟩) n (capBase + d)
    sliceX T t va lo hi (some vm) = none ∧ sliceR T x.s t va lo hi (some vm) = some (.slice (some (cond (Nat.beq m l) ⟨i, off, none⟩ ⟨i, off + l * sz, none⟩)) (h - l) (m - l)) := by
  have hc : Nat.blt (capBase + d) capBase = false := blt_not (by omega)
  obtain ⟨n', rfl⟩ : ∃ q, n = q + 1 := ⟨n - 1, by omega⟩
  have hcd : capD (capBase + d) = d := by simp [capD]
  have hbig : n' + 1 ≤ (row.length - off) / sz := by
    rw [Nat.le_div_iff_mul_le hsz]; omega
  obtain ⟨b0, b1, b2, b3, b4⟩ := bounds_m hb
  have hb0 := (bound1_mono b0 hbig).1
  have hble : Nat.ble (off + m * sz) row.length = true := Nat.ble_eq_true_of_le (by
    have : m * sz ≤ (n' + 1) * sz := Nat.mul_le_mul_right _ b3
    omega)
  refine ⟨by simp [sliceX, hd, hc, emptyS], ?_⟩
  have hbeq : Nat.beq off (d * sz) = true := by simp [hoff]
  have hpos : Nat.blt 0 sz = true := blt_of hsz
  simp only [sliceR, hd, hc, cond_false, hs, hcap, hcd, hbeq, cond_true, hpos, hb0, hble, b4 m (Nat.le_refl _), blt_of hm]

theorem capRow_vec {s : S} {i sz : Nat} {l : List Value} {e : TypeId} (h : lk s.h i = some (.inl (l, e, sz + 2))) : capRow s i sz = some l := by simp [capRow, h]
theorem capRow_imm {s : S} {i sz : Nat} {l : List Value} (h : lk s.h i = some (.inl (l, sz + 1, 1))) : capRow s i sz = some l := by simp [capRow, h]
theorem rel_sl {x : Cx} {k off n c off' n' c' i : Nat} {v : Value} (hr : Rel x (.sl k off n c) v) (hi : x.ρ k = some i) (hc : c' < capBase) (hn : n' ≤ c') : Rel x (.sl k off' n' c') (.slice (some ⟨i, off', none⟩) n' c') := by
  simp only [Rel] at *
  exact ⟨rfl, hr.2.1, fun b hb => ⟨(hr.2.2 b hb).1, fun _ => ⟨i, hi, rfl, hc, hn⟩⟩⟩
theorem rel_ptr {x : Cx} {k st off off' i : Nat} {v : Value} (hr : Rel x (.ptr k st off) v) (hi : x.ρ k = some i) : Rel x (.ptr k st off') (.pointer (some ⟨i, off', none⟩)) := by
  simp only [Rel] at *
  exact ⟨rfl, hr.2.1, fun b hb => ⟨(hr.2.2 b hb).1, fun _ => ⟨i, hi, rfl⟩⟩⟩
theorem rel_vl {x : Cx} {k st off n off' n' sz : Nat} {l : List U} {e : TypeId} {v v' : Value} (hr : Rel x (.vl k st off n) v) (hb : gt x.σ.h k = some (.vec l e sz st)) (h1 : v'.oneCell' = true) (h : VlOk off' n' v' sz (x.ρ k)) : Rel x (.vl k st off' n') v' := by
  simp only [Rel] at *
  refine ⟨h1, hr.2.1, fun b hb' => ⟨(hr.2.2 b hb').1, fun _ => ?_⟩⟩
  rw [hb] at hb'; cases hb'
  exact ⟨l, e, sz, rfl, h⟩
theorem cap0 : Nat.blt 0 capBase = true := blt_of (by simp [capBase])
theorem bounds_zero {lo hi mx : Option Value} {l h m : Nat} (hb : boundsX 0 0 lo hi mx = some (l, h, m)) : l = 0 ∧ h = 0 ∧ m = 0 := by
  cases mx with
  | none => obtain ⟨_, b2, b3, b4⟩ := bounds_n hb (Nat.le_refl _); omega
  | some vm => obtain ⟨_, b2, b3, b4, _⟩ := bounds_m hb; omega
theorem rel_cut {x : Cx} {sz i off off' a h c : Nat} {t : Bool} {l : List (List U)} {row : List Value} {e : TypeId} (hg : lk x.s.h i = some (.inl (row, e, 1))) (hr : RelR x sz l (row.drop off)) (hh : h ≤ l.length) (hoff : a < h → off' = off + a * sz)
    (ht : t = true → c = h - a ∧ c < capBase) (hc : a < h → (c < capBase ∧ h - a ≤ c) ∨ (capBase ≤ c ∧ e = sz + 1 ∧ 0 < sz ∧ off' = capD c * sz)) : Rel x (.isl t (cutL l a h)) (.slice (some ⟨i, off', none⟩) (h - a) c) := by
  have hlen := cutL_len (a := a) hh
  simp only [Rel]
  refine .inr ⟨i, off', c, by rw [hlen], by rw [hlen]; exact ht, ?_⟩
  by_cases hlt : a < h
  · have e1 : row.drop off' = (row.drop off).drop (a * sz) := by rw [List.drop_drop, hoff hlt]
    have hcut := relR_cut (a := a) (h := h) hr
    rw [← e1] at hcut
    refine .inr ⟨row, e, sz, hg, hcut, ?_⟩
    rw [hlen]
    rcases hc hlt with hc | ⟨c1, c2, c3, c4⟩
    · exact .inl hc
    · refine .inr ⟨c1, c2, c3, c4, ?_⟩
      have := relR_len hcut
      rw [hlen, List.length_drop] at this
      have hpos : 0 < (h - a) * sz := Nat.mul_pos (by omega) c3
      omega
  · exact .inl (List.eq_nil_of_length_eq_zero (by rw [hlen]; omega))
theorem slice_isl {T : Tb} {x : Cx} {t e : TypeId} {sz : Nat} (hd : T.und t = some (.slice e)) (hs : sizeX T e = some sz) {tt : Bool} {l : List (List U)} {u : U} {va : Value} {lo hi mx : Option Value} (hall : (l.all fun c => Nat.beq c.length sz) = true) {a h m : Nat}
    (hb : boundsX l.length l.length lo hi mx = some (a, h, m)) (hu : match mx with
      | some _ => m < capBase ∧ u = .isl (Nat.beq m h) (cutL l a h)
      | none => u = .isl (cond tt (Nat.beq h l.length) false) (cutL l a h)) (ha : Rel x (.isl tt l) va) : SliceSim T x t u va lo hi mx := by
  simp only [Rel] at ha
  rcases ha with ⟨rfl, rfl | ⟨r, rfl⟩⟩ | ⟨i, off, c, rfl, ht, hrow⟩
  · obtain ⟨rfl, rfl, rfl⟩ := bounds_zero hb
    refine .inl ⟨.slice none 0 0, by simp only [List.length_nil] at hb; simp [sliceX, hd, hb, hs, cap0], ?_⟩
    cases mx with
    | none => simp only at hu; subst hu; simp [Rel, cutL]
    | some vm => simp only at hu; rw [hu.2]; simp [Rel, cutL]
  · obtain ⟨rfl, rfl, rfl⟩ := bounds_zero hb
    refine .inl ⟨.chan (some r), by simp only [List.length_nil] at hb; simp [sliceX, hd, hb, hs], ?_⟩
    cases mx with
    | none => simp only at hu; subst hu; simp [Rel, cutL]
    | some vm => simp only at hu; rw [hu.2]; simp [Rel, cutL]
  · by_cases hne : l = []
    · subst hne
      obtain ⟨rfl, rfl, rfl⟩ := bounds_zero hb
      simp only [List.length_nil] at hb ht
      have fin : ∀ (t' : Bool) (off' c' : Nat), (t' = true → c' = 0) → Rel x (.isl t' (cutL [] 0 0)) (.slice (some ⟨i, off', none⟩) 0 c') := fun t' off' c' h1 => by
        simp only [Rel]
        exact .inr ⟨i, off', c', by simp [cutL], fun h => by rw [h1 h]; simp [cutL, capBase], .inl (by simp [cutL])⟩
      by_cases hc : c < capBase
      · cases mx with
        | none =>
          simp only [List.length_nil] at hu
          subst hu
          obtain ⟨b1, _⟩ := bounds_n hb (Nat.zero_le c)
          have ht' : (cond tt (Nat.beq 0 0) false = true) → c = 0 := fun h => (ht (by cases tt <;> simp_all)).1
          cases hml : Nat.beq c 0 with
          | true => exact .inl ⟨_, by simp only [List.length_nil, sliceX, hd, blt_of hc, cond_true, b1, hs, hml] <;> rfl, fin _ off c ht'⟩
          | false => exact .inl ⟨_, by simp only [List.length_nil, sliceX, hd, blt_of hc, cond_true, cond_false, b1, hs, hml] <;> rfl, fin _ _ c ht'⟩
        | some vm =>
          simp only at hu
          obtain ⟨_, _, _, _, b4⟩ := bounds_m hb
          rw [hu.2]
          exact .inl ⟨_, by simp only [List.length_nil, sliceX, hd, blt_of hc, cond_true, b4 c (Nat.zero_le _), hs] <;> rfl, fin _ off 0 (fun _ => rfl)⟩
      · cases mx with
        | none =>
          simp only [List.length_nil] at hu
          subst hu
          exact .inl ⟨_, by simp only [List.length_nil, sliceX, hd, blt_not hc, cond_false, emptyS, hb, hs] <;> rfl, fin _ off c (fun h => absurd (ht (by cases tt <;> simp_all)).2 hc)⟩
        | some vm =>
          simp only at hu
          rw [hu.2]
          exact .inl ⟨_, by simp only [List.length_nil, sliceX, hd, blt_not hc, cond_false, emptyS, hb, hs] <;> rfl, fin _ off 0 (fun _ => rfl)⟩
    · rcases hrow with hrow | ⟨row, e', sz', g1, g2, g3⟩
      · exact absurd hrow hne
      · have hsz := relR_sz g2 hne hall
        subst hsz
        have hpos : 0 < l.length := by cases l <;> simp_all
        rcases g3 with ⟨hc, hlc⟩ | ⟨hc, he, hz, hoff, hlen⟩
        · cases mx with
          | none =>
            simp only at hu
            subst hu
            obtain ⟨b1, b2, b3, b4⟩ := bounds_n hb hlc
            have ht' : (cond tt (Nat.beq h l.length) false = true) → c - a = h - a ∧ c - a < capBase := fun hh => by
              cases tt with
              | false => simp at hh
              | true => simp at hh; have := (ht rfl).1; omega
            cases hml : Nat.beq c a with
            | true =>
              have : c = a := by simpa [beq_eq] using hml
              exact .inl ⟨_, by simp only [sliceX, hd, blt_of hc, cond_true, b1, hs, hml] <;> rfl, rel_cut g1 g2 b3 (fun h1 => by omega) ht' (fun h1 => by omega)⟩
            | false => exact .inl ⟨_, by simp only [sliceX, hd, blt_of hc, cond_true, cond_false, b1, hs, hml] <;> rfl, rel_cut g1 g2 b3 (fun h1 => rfl) ht' (fun h1 => .inl (by omega))⟩
          | some vm =>
            simp only at hu
            rw [hu.2]
            obtain ⟨b0, b1, b2, b3, b4⟩ := bounds_m hb
            have ht' : Nat.beq m h = true → m - a = h - a ∧ m - a < capBase := fun hh => by simp at hh; omega
            cases hml : Nat.beq m a with
            | true =>
              have : m = a := by simpa [beq_eq] using hml
              exact .inl ⟨_, by simp only [sliceX, hd, blt_of hc, cond_true, b4 c (by omega), hs, hml] <;> rfl, rel_cut g1 g2 (by omega) (fun h1 => by omega) ht' (fun h1 => by omega)⟩
            | false => exact .inl ⟨_, by simp only [sliceX, hd, blt_of hc, cond_true, cond_false, b4 c (by omega), hs, hml] <;> rfl, rel_cut g1 g2 (by omega) (fun h1 => rfl) ht' (fun h1 => .inl (by omega))⟩
        · obtain ⟨d, rfl⟩ : ∃ d, c = capBase + d := ⟨c - capBase, by omega⟩
          have hcd : capD (capBase + d) = d := by simp [capD]
          rw [hcd] at hoff
          subst he
          have htt : tt = false := by
            cases tt with
            | false => rfl
            | true => exact absurd (ht rfl).2 (by omega)
          subst htt
          cases mx with
          | none =>
            simp only [cond_false] at hu
            subst hu
            obtain ⟨b1, b2, b3, b4⟩ := bounds_n hb (Nat.le_refl _)
            obtain ⟨s1, s2⟩ := slice_named hd hs hz (i := i) (n := l.length) (d := d) hpos hoff (capRow_imm g1) hlen hb
            split at s2
            · exact .inr (.inl ⟨s1, _, s2, rel_cut g1 g2 b3 (fun _ => by rw [hoff, Nat.add_mul]) (fun h => by cases h) (fun _ => .inr ⟨by omega, rfl, hz, by simp [capD]⟩)⟩)
            · refine .inr (.inr ⟨s1, s2.1, _, s2.2, ?_⟩)
              have hn : (cutL l a h) = [] := List.eq_nil_of_length_eq_zero (by rw [cutL_len b3]; omega)
              rw [hn]
              simp only [Rel]
              exact .inr ⟨x.s.nx, 0, capBase, rfl, (fun h => by cases h), .inl trivial⟩
          | some vm =>
            simp only at hu
            rw [hu.2]
            obtain ⟨b0, b1, b2, b3, b4⟩ := bounds_m hb
            obtain ⟨s1, s2⟩ := slice_named_m hd hs hz (i := i) (n := l.length) (d := d) hpos hoff (capRow_imm g1) hlen hb hu.1
            have ht' : Nat.beq m h = true → m - a = h - a ∧ m - a < capBase := fun hh => by simp at hh; omega
            cases hml : Nat.beq m a with
            | true =>
              have : m = a := by simpa [beq_eq] using hml
              rw [hml, cond_true] at s2
              exact .inr (.inl ⟨s1, _, s2, rel_cut g1 g2 (by omega) (fun h1 => by omega) ht' (fun h1 => by omega)⟩)
            | false =>
              rw [hml, cond_false] at s2
              exact .inr (.inl ⟨s1, _, s2, rel_cut g1 g2 (by omega) (fun h1 => rfl) ht' (fun h1 => .inl (by omega))⟩)
theorem slice_sim {T : Tb} {x : Cx} (hx : HRel x) {t : TypeId} {a u : U} {va : Value} {lo hi mx : Option Value} (h : sliceU T x.σ t a lo hi mx = some u) (ha : Rel x a va) : SliceSim T x t u va lo hi mx := by
  unfold sliceU at h
  cases hd : T.und t with
  | none => simp [hd] at h
  | some d =>
  cases d with
  | string =>
    simp only [hd] at h
    cases a with
    | str s =>
      cases mx with
      | some _ => simp at h
      | none =>
        simp only at h
        cases hb : boundsX s.length s.length lo hi none with
        | none => simp [hb] at h
        | some q =>
          obtain ⟨l, hh, m⟩ := q
          simp only [hb, Option.some.injEq] at h
          subst h
          simp only [Rel] at ha
          subst ha
          exact .inl ⟨.string ⟨((s.take hh).drop l).toArray⟩, by simp [sliceX, hd, hb], by simp [Rel, cutL]⟩
    | _ => simp at h
  | slice e =>
    simp only [hd] at h
    cases hs : sizeX T e with
    | none => simp [hs] at h
    | some sz =>
      simp only [hs] at h
      cases a with
      | nils =>
        simp only at h
        simp only [Rel] at ha
        subst ha
        cases hb : boundsX 0 0 lo hi mx with
        | none => simp [hb] at h
        | some q =>
          obtain ⟨l, hh, m⟩ := q
          simp only [hb, Option.some.injEq] at h
          subst h
          obtain ⟨rfl, rfl, rfl⟩ := bounds_zero hb
          exact .inl ⟨.slice none 0 0, by simp [sliceX, hd, hb, hs, cap0], by simp [Rel]⟩
      | sl k off n c =>
        simp only at h
        cases hl : live x.σ k 0 with
        | false => simp [hl] at h
        | true =>
          simp only [hl, cond_true] at h
          cases hb : boundsX n c lo hi mx with
          | none => simp [hb] at h
          | some q =>
            obtain ⟨l, hh, m⟩ := q
            simp only [hb, Option.some.injEq] at h
            subst h
            obtain ⟨i, hi', rfl, hc, hnc⟩ := live_sl hl ha
            obtain ⟨_, hmc⟩ := bounds_c hb
            have hhm := bounds_h hb hnc
            cases hml : Nat.beq m l with
            | true => exact .inl ⟨_, by simp only [sliceX, hd, blt_of hc, cond_true, hb, hs, hml] <;> rfl, rel_sl ha hi' (by omega) (by omega)⟩
            | false => exact .inl ⟨_, by simp only [sliceX, hd, blt_of hc, cond_true, cond_false, hb, hs, hml] <;> rfl, rel_sl ha hi' (by omega) (by omega)⟩
      | vl k st off n =>
        simp only at h
        cases hv : vecOf x.σ k st with
        | none => simp [hv] at h
        | some q =>
          obtain ⟨r, e', sz'⟩ := q
          obtain ⟨hg, hl⟩ := vecOf_some hv
          simp only [hv, beq_eq] at h
          by_cases hz : sz' = sz
          · subst hz
            simp only [decide_true, cond_true] at h
            cases mx with
            | some _ => simp at h
            | none =>
              simp only at h
              cases hb : boundsX n n lo hi none with
              | none => simp [hb] at h
              | some q =>
                obtain ⟨l, hh, m⟩ := q
                simp only [hb] at h
                split at h
                · rename_i hlen
                  simp only [Option.some.injEq] at h
                  subst h
                  obtain ⟨l0, e0, sz0, hg', hvl⟩ := live_vl hl ha
                  have hgg : (some (B.vec r e' sz' st)) = some (.vec l0 e0 sz0 st) := hg.symm.trans hg'
                  cases hgg
                  obtain ⟨_, k1, k2, h3⟩ := hx.ok k _ hg
                  have zero : ∀ o c, n = 0 → va = .slice o 0 c → (∀ a, o = some a → a.spot = none) → (o = none → c = 0) → ∃ o' c', sliceX T t va lo hi none = some (.slice o' 0 c') ∧ (c = 0 → c' = 0) ∧ (∀ a, o' = some a → a.spot = none) ∧ (o = none → o' = none) ∧ (∀ a, o = some a → ∃ a', o' = some a') ∧ (¬ c < capBase → o' = o ∧ c' = c) := by
                    rintro o c rfl rfl hsp ho
                    obtain ⟨b1, b2, b3, b4⟩ := bounds_n hb (Nat.zero_le c)
                    obtain rfl : hh = 0 := by omega
                    obtain rfl : l = 0 := by omega
                    by_cases hc : c < capBase
                    · cases o with
                      | none => exact ⟨none, c, by simp [sliceX, hd, blt_of hc, b1, hs], by simp, by simp, by simp, by simp, fun hn => absurd hc hn⟩
                      | some a =>
                        cases hml : Nat.beq c 0 with
                        | true => exact ⟨some a, c, by simp only [sliceX, hd, blt_of hc, b1, hs, hml, cond_true, Nat.sub_zero], by simp, by simpa using hsp a rfl, by simp, by simp, fun hn => absurd hc hn⟩
                        | false => exact ⟨some ⟨a.block, a.off + 0 * sz', none⟩, c, by simp only [sliceX, hd, blt_of hc, b1, hs, hml, cond_true, cond_false, Nat.sub_zero], by simp, by simp, by simp, by simp, fun hn => absurd hc hn⟩
                    · cases o with
                      | none => exact absurd (by rw [ho rfl]; simp [capBase]) hc
                      | some a =>
                        obtain rfl : m = 0 := by omega
                        exact ⟨some a, c, by simp only [sliceX, hd, blt_not hc, cond_false, emptyS, hb, hs], by simp, by simpa using hsp a rfl, by simp, by simp, fun _ => ⟨rfl, rfl⟩⟩
                  have hl0 : n = 0 → l = 0 ∧ hh = 0 := fun hn0 => by
                    obtain ⟨b1, b2, b3, b4⟩ := bounds_n hb (Nat.le_refl _); omega
                  rcases h3 with ⟨hr0, hρ⟩ | ⟨i, l', e1, e2, e3⟩
                  · rw [hρ] at hvl
                    obtain ⟨rfl, rfl, o, rfl, hsp⟩ := hvl
                    obtain ⟨rfl, rfl⟩ := hl0 rfl
                    obtain ⟨o', c', q1, q2, q3, q4, q5, q6⟩ := zero o 0 rfl rfl hsp (fun _ => rfl)
                    rw [q2 rfl] at q1
                    exact .inl ⟨_, q1, rel_vl ha hg rfl (by rw [hρ]; exact ⟨rfl, rfl, o', rfl, q3⟩)⟩
                  · rw [e1] at hvl
                    rcases hvl with ⟨h0, rfl, a, c, rfl, hsp⟩ | rfl
                    · obtain ⟨rfl, rfl⟩ := hl0 rfl
                      obtain ⟨o', c', q1, q2, q3, q4, q5, q6⟩ := zero (some a) c rfl rfl (by simpa using hsp) (by simp)
                      obtain ⟨a', rfl⟩ := q5 a rfl
                      exact .inl ⟨_, q1, rel_vl ha hg rfl (by rw [e1]; exact .inl ⟨by omega, rfl, a', c', rfl, q3 a' rfl⟩)⟩
                    · by_cases hn : n = 0
                      · subst hn
                        obtain ⟨rfl, rfl⟩ := hl0 rfl
                        obtain ⟨o', c', q1, q2, q3, q4, q5, q6⟩ := zero (some ⟨i, off * sz', none⟩) (capBase + off) rfl rfl (by simp) (by simp)
                        obtain ⟨rfl, rfl⟩ := q6 (by omega)
                        exact .inl ⟨_, q1, rel_vl ha hg rfl (by rw [e1]; exact .inr rfl)⟩
                      · have := slice_named hd hs k2 (i := i) (n := n) (d := off) (by omega) rfl (capRow_vec e2) (by rw [← e3.2, ← Nat.add_mul]; exact hlen) hb
                        obtain ⟨s1, s2⟩ := this
                        split at s2
                        · exact .inr (.inl ⟨s1, _, s2, rel_vl ha hg rfl (by rw [e1]; exact .inr rfl)⟩)
                        · rename_i hlt
                          obtain ⟨b1, b2, b3, b4⟩ := bounds_n hb (Nat.le_refl _)
                          refine .inr (.inr ⟨s1, s2.1, _, s2.2, ?_⟩)
                          have hb' := bump_rel ha
                          have hz0 : hh - l = 0 := by omega
                          rw [hz0]
                          exact rel_vl (x := bump x) hb' hg rfl (by show VlOk _ _ _ _ (x.ρ k); rw [e1]; exact .inl ⟨by omega, rfl, _, _, rfl, rfl⟩)
                · cases h
          · simp [hz] at h
      | isl tt l =>
        simp only at h
        split at h
        · rename_i hall
          cases hb : boundsX l.length l.length lo hi mx with
          | none => simp [hb] at h
          | some q =>
            obtain ⟨a, hh, m⟩ := q
            simp only [hb] at h
            refine slice_isl hd hs (tt := tt) hall hb ?_ ha
            cases mx with
            | none => simp only [Option.some.injEq] at h ⊢; exact h.symm
            | some vm =>
              simp only at h ⊢
              split at h
              · rename_i hm; simp only [Option.some.injEq] at h; exact ⟨hm, h.symm⟩
              · cases h
        · cases h
      | _ => simp at h
  | _ => simp [hd] at h
end Go.Vx
