/-
  The plain law of EvaluateSums: sums of fields from 0 to 2^50, at most 30 of them, in any order and grouping.
-/
import Derived.Test.YtcanbnholmlapaaSumA
namespace Go.Proofs
open Go Go.Rx Go.Vx
def okI (x : Int) : Prop := 0 ≤ x ∧ x ≤ 1125899906842624
def okM (m : Met) : Prop := okI m.a ∧ okI m.b ∧ okI m.c ∧ okI m.d ∧ okI m.e ∧ okI m.f
theorem within_okI (n : Int) : okI (within n) := by unfold okI within; split <;> split <;> omega
theorem limited_okM (m : Met) : okM (limited m) := ⟨within_okI _, within_okI _, within_okI _, within_okI _, within_okI _, within_okI _⟩
def exM (l : List Met) : Met := ⟨(l.map Met.a).sum, (l.map Met.b).sum, (l.map Met.c).sum, (l.map Met.d).sum, (l.map Met.e).sum, (l.map Met.f).sum⟩
theorem sum_bd (l : List Int) (h : ∀ x ∈ l, okI x) : 0 ≤ l.sum ∧ l.sum ≤ l.length * 1125899906842624 := by
  induction l with
  | nil => simp
  | cons x l ih =>
    have h1 := h x (by simp)
    have h2 := ih fun y hy => h y (by simp [hy])
    unfold okI at h1
    simp only [List.sum_cons, List.length_cons]
    push_cast
    omega
theorem snoc_sum (l : List Int) (x : Int) : (l ++ [x]).sum = l.sum + x := by
  induction l with
  | nil => simp
  | cons y l ih => simp only [List.cons_append, List.sum_cons, ih]; omega
theorem rev_sum (l : List Int) : l.reverse.sum = l.sum := by
  induction l with
  | nil => rfl
  | cons x l ih => rw [List.reverse_cons, snoc_sum, ih, List.sum_cons]; omega
theorem app_sum (a b : List Int) : (a ++ b).sum = a.sum + b.sum := by
  induction a with
  | nil => simp
  | cons x l ih => simp only [List.cons_append, List.sum_cons, ih]; omega
theorem field_bd (g : Met → Int) (l : List Met) (hg : ∀ m, okM m → okI (g m)) (h : ∀ m ∈ l, okM m) : 0 ≤ (l.map g).sum ∧ (l.map g).sum ≤ l.length * 1125899906842624 := by
  have := sum_bd (l.map g) fun x hx => by
    obtain ⟨m, h1, rfl⟩ := List.mem_map.1 hx
    exact hg m (h m h1)
  simpa using this
theorem sumM_eq : ∀ (n : Nat) (l : List Met), l.length = n → n ≤ 60 → (∀ m ∈ l, okM m) → sumM l = exM l
  | 0, l, hl, hn, h => by
    have : l = [] := List.eq_nil_of_length_eq_zero hl
    subst this; rfl
  | n + 1, l, hl, hn, h => by
    have hne : l ≠ [] := by intro e; subst e; simp at hl
    have e : l = l.dropLast ++ [l.getLast hne] := (List.dropLast_concat_getLast hne).symm
    have hd : l.dropLast.length = n := by simp [hl]
    have hm : ∀ m ∈ l.dropLast, okM m := fun m hm => h m (List.dropLast_subset l hm)
    have hx := h _ (List.getLast_mem hne)
    have ih := sumM_eq n l.dropLast hd (by omega) hm
    generalize l.getLast hne = x at e hx
    generalize l.dropLast = d at e hd hm ih
    subst e
    have b1 := field_bd Met.a d (fun _ h => h.1) hm
    have b2 := field_bd Met.b d (fun _ h => h.2.1) hm
    have b3 := field_bd Met.c d (fun _ h => h.2.2.1) hm
    have b4 := field_bd Met.d d (fun _ h => h.2.2.2.1) hm
    have b5 := field_bd Met.e d (fun _ h => h.2.2.2.2.1) hm
    have b6 := field_bd Met.f d (fun _ h => h.2.2.2.2.2) hm
    obtain ⟨x1, x2, x3, x4, x5, x6⟩ := hx
    unfold okI at x1 x2 x3 x4 x5 x6
    have hs : sumM (d ++ [x]) = addM (sumM d) x := by simp [sumM, List.foldl_append]
    rw [hs, ih]
    have hdl : (d.length : Int) ≤ 60 := by omega
    have w : ∀ s y : Int, 0 ≤ s → s ≤ d.length * 1125899906842624 → 0 ≤ y → y ≤ 1125899906842624 → IntKind.i64.wrap (s + y) = s + y := fun s y h1 h2 h3 h4 => wrap_i64 (by omega) (by omega)
    simp only [addM, exM, List.map_append, List.map_cons, List.map_nil, snoc_sum]
    rw [w _ _ b1.1 b1.2 x1.1 x1.2, w _ _ b2.1 b2.2 x2.1 x2.2, w _ _ b3.1 b3.2 x3.1 x3.2, w _ _ b4.1 b4.2 x4.1 x4.2, w _ _ b5.1 b5.2 x5.1 x5.2, w _ _ b6.1 b6.2 x6.1 x6.2]
theorem sum_back (l : List Met) (hl : l.length ≤ 30) (h : ∀ m ∈ l, okM m) : sumM l.reverse = sumM l := by
  rw [sumM_eq _ l rfl (by omega) h, sumM_eq _ l.reverse rfl (by simp; omega) (by simpa using h)]
  simp only [exM, List.map_reverse, rev_sum]
theorem sum_two (l : List Met) (k : Nat) (hl : l.length ≤ 30) (h : ∀ m ∈ l, okM m) : sumM [sumM (l.take k), sumM (l.drop k)] = sumM l := by
  have h1 : ∀ m ∈ l.take k, okM m := fun m hm => h m (List.mem_of_mem_take hm)
  have h2 : ∀ m ∈ l.drop k, okM m := fun m hm => h m (List.mem_of_mem_drop hm)
  rw [sumM_eq _ l rfl (by omega) h, sumM_eq _ (l.take k) rfl (by simp; omega) h1, sumM_eq _ (l.drop k) rfl (by simp; omega) h2]
  have e : ∀ g : Met → Int, (l.map g).sum = ((l.take k).map g).sum + ((l.drop k).map g).sum := fun g => by
    rw [← app_sum, ← List.map_append, List.take_append_drop]
  have w : ∀ g : Met → Int, (∀ m, okM m → okI (g m)) → IntKind.i64.wrap (IntKind.i64.wrap (0 + ((l.take k).map g).sum) + ((l.drop k).map g).sum) = (l.map g).sum := fun g hg => by
    have b := field_bd g l hg h
    have b1 := field_bd g (l.take k) hg h1
    have b2 := field_bd g (l.drop k) hg h2
    have hlen : (l.length : Int) ≤ 30 := by omega
    rw [e g] at b ⊢
    rw [wrap_i64 (x := 0 + ((l.take k).map g).sum) (by omega) (by omega), wrap_i64 (by omega) (by omega)]
    omega
  simp only [sumM, List.foldl_cons, List.foldl_nil, addM, zeroM, exM]
  rw [w _ (fun _ h => h.1), w _ (fun _ h => h.2.1), w _ (fun _ h => h.2.2.1), w _ (fun _ h => h.2.2.2.1), w _ (fun _ h => h.2.2.2.2.1), w _ (fun _ h => h.2.2.2.2.2)]
end Go.Proofs
