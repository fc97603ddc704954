/-
  The order of brackets, and slices.SortFunc by it: a row of its own becomes the sorted list.
-/
import Derived.Test.YtcanbnholmlapaaE2
namespace Go.Proofs
open Go Go.Rx Go.Vx Go.Shelf Go.Sort
set_option linter.unusedVariables false
set_option maxRecDepth 10000

theorem bytesEq_refl : ∀ a : List UInt8, bytesEq a a = true
  | [] => rfl
  | x :: a => by simp [bytesEq, bytesEq_refl a]
theorem bytesEq_iff : ∀ a b : List UInt8, bytesEq a b = true ↔ a = b
  | [], [] => by simp [bytesEq]
  | [], _ :: _ => by simp [bytesEq]
  | _ :: _, [] => by simp [bytesEq]
  | x :: a, y :: b => by
    have h : (x.toNat = y.toNat) ↔ x = y := UInt8.toNat_inj
    simp only [bytesEq, beq_eq]
    by_cases e : x = y
    · subst e; simp [bytesEq_iff a b]
    · simp [e, mt h.1 e]
theorem blt_iff (a b : Nat) : Nat.blt a b = true ↔ a < b := by
  unfold Nat.blt
  rw [Nat.ble_eq]; exact Iff.rfl
theorem blt_iff' (a b : Nat) : Nat.blt a b = decide (a < b) := by
  rw [Bool.eq_iff_iff, blt_iff]; simp
theorem bytesLt_irrefl : ∀ a : List UInt8, bytesLt a a = false
  | [] => rfl
  | x :: a => by simp [bytesLt, blt_iff', bytesLt_irrefl a]
theorem bytesLt_trans : ∀ a b c : List UInt8, bytesLt a b = true → bytesLt b c = true → bytesLt a c = true
  | _, [], _, h, _ => by simp [bytesLt] at h
  | _, _ :: _, [], _, h => by simp [bytesLt] at h
  | [], _ :: _, _ :: _, _, _ => by simp [bytesLt]
  | x :: a, y :: b, z :: c, h1, h2 => by
    simp only [bytesLt, blt_iff', beq_eq] at *
    by_cases h : x.toNat < y.toNat
    · by_cases h' : y.toNat < z.toNat
      · have : x.toNat < z.toNat := by omega
        simp [this]
      · simp only [h', decide_false, cond_false] at h2
        by_cases e : y.toNat = z.toNat
        · have : x.toNat < z.toNat := by omega
          simp [this]
        · simp [e] at h2
    · simp only [h, decide_false, cond_false] at h1
      by_cases e : x.toNat = y.toNat
      · simp only [e, decide_true, cond_true] at h1
        by_cases h' : y.toNat < z.toNat
        · simp [e, h']
        · simp only [h', decide_false, cond_false] at h2
          by_cases e' : y.toNat = z.toNat
          · simp only [e', decide_true, cond_true] at h2
            have := bytesLt_trans a b c h1 h2
            simp [e, e', this]
          · simp [e'] at h2
      · simp [e] at h1
theorem bytesLt_total : ∀ a b : List UInt8, bytesLt a b = false → bytesLt b a = false → a = b
  | [], [], _, _ => rfl
  | [], _ :: _, h, _ => by simp [bytesLt] at h
  | _ :: _, [], _, h => by simp [bytesLt] at h
  | x :: a, y :: b, h1, h2 => by
    simp only [bytesLt, blt_iff', beq_eq] at *
    by_cases h : x.toNat < y.toNat
    · simp [h] at h1
    · by_cases h' : y.toNat < x.toNat
      · simp [h'] at h2
      · have e : x.toNat = y.toNat := by omega
        simp only [e, Nat.lt_irrefl, decide_false, cond_false, decide_true, cond_true] at h1 h2
        rw [bytesLt_total a b h1 h2, UInt8.toNat_inj.1 e]
theorem swo_of {α : Type} {lt : α → α → Bool} (h1 : ∀ x, lt x x = false) (h2 : ∀ x y z, lt x y = true → lt y z = true → lt x z = true) (h3 : ∀ x y, lt x y = false → lt y x = false → x = y) : SWO lt where
  irrefl := h1
  trans := h2
  ntrans := fun x y z hxy hyz => by
    cases hxz : lt x z with
    | false => rfl
    | true =>
      cases hyx : lt y x with
      | true => have := h2 y x z hyx hxz; rw [hyz] at this; cases this
      | false => have := h3 x y hxy hyx; subst this; rw [hxz] at hyz; cases hyz
def ltB (x y : GBracket) : Bool := if x.From ≠ y.From then decide (x.From < y.From) else if x.To ≠ y.To then decide (x.To < y.To) else bytesLt x.Name y.Name
theorem ltB_irrefl (x : GBracket) : ltB x x = false := by simp [ltB, bytesLt_irrefl]
theorem ltB_trans (x y z : GBracket) (h1 : ltB x y = true) (h2 : ltB y z = true) : ltB x z = true := by
  simp only [ltB] at *
  by_cases a : x.From = y.From
  · simp only [a, ne_eq, not_true_eq_false, if_false] at h1 ⊢
    by_cases b : y.From = z.From
    · simp only [b, ne_eq, not_true_eq_false, if_false] at h2 ⊢
      by_cases c : x.To = y.To
      · simp only [c, not_true_eq_false, if_false] at h1 ⊢
        by_cases d : y.To = z.To
        · simp only [d, not_true_eq_false, if_false] at h2 ⊢
          exact bytesLt_trans _ _ _ h1 h2
        · simpa [d] using h2
      · simp only [c, not_false_eq_true, if_true, decide_eq_true_eq] at h1
        by_cases d : y.To = z.To
        · have : ¬ x.To = z.To := by omega
          simp only [this, not_false_eq_true, if_true, decide_eq_true_eq]; omega
        · simp only [d, not_false_eq_true, if_true, decide_eq_true_eq] at h2
          have : ¬ x.To = z.To := by omega
          simp only [this, not_false_eq_true, if_true, decide_eq_true_eq]; omega
    · simpa [b] using h2
  · simp only [a, ne_eq, not_false_eq_true, if_true, decide_eq_true_eq] at h1
    by_cases b : y.From = z.From
    · have : ¬ x.From = z.From := by omega
      simp only [this, ne_eq, not_false_eq_true, if_true, decide_eq_true_eq]; omega
    · simp only [b, ne_eq, not_false_eq_true, if_true, decide_eq_true_eq] at h2
      have : ¬ x.From = z.From := by omega
      simp only [this, ne_eq, not_false_eq_true, if_true, decide_eq_true_eq]; omega
theorem ltB_total (x y : GBracket) (h1 : ltB x y = false) (h2 : ltB y x = false) : x = y := by
  simp only [ltB] at *
  by_cases a : x.From = y.From
  · simp only [a, ne_eq, not_true_eq_false, if_false] at h1 h2
    by_cases c : x.To = y.To
    · simp only [c, not_true_eq_false, if_false] at h1 h2
      have := bytesLt_total _ _ h1 h2
      cases x; cases y; simp_all
    · have c' : ¬ y.To = x.To := fun h => c h.symm
      simp only [c, c', not_false_eq_true, if_true, decide_eq_false_iff_not] at h1 h2
      omega
  · have a' : ¬ y.From = x.From := fun h => a h.symm
    simp only [a, a', ne_eq, not_false_eq_true, if_true, decide_eq_false_iff_not] at h1 h2
    omega
/-- what compare answers -/
def ccB (x y : GBracket) : Int := if ltB x y then -1 else if ltB y x then 1 else 0
theorem cmpInt_eq (n : Nat) (a b : Int) : cmp_Compare_int n a b = some (if a < b then -1 else if b < a then 1 else 0) := by
  simp only [cmp_Compare_int, cmp_isNaN_int, bindO_s, bne_self_eq_false, cond_false]
  by_cases h : a < b
  · simp [h]
  · by_cases h' : b < a
    · simp [h, h']
    · simp [h, h']
theorem cmpStr_eq (n : Nat) (a b : List UInt8) : cmp_Compare_string n a b = some (if bytesLt a b then -1 else if bytesLt b a then 1 else 0) := by
  simp only [cmp_Compare_string, cmp_isNaN_string, bindO_s, bytesEq_refl, Bool.not_true, cond_false]
  cases h : bytesLt a b with
  | true => simp
  | false =>
    cases h' : bytesLt b a with
    | true =>
      have : bytesEq a b = false := by
        cases he : bytesEq a b with
        | false => rfl
        | true => have := (bytesEq_iff a b).1 he; subst this; rw [h] at h'; cases h'
      simp [this]
    | false => have := bytesLt_total a b h h'; subst this; simp [bytesEq_refl]
theorem compare_eq (n : Nat) (x y : GBracket) : evaluate_compare n x y = some (ccB x y) := by
  simp only [evaluate_compare, cmpInt_eq, cmpStr_eq, bindO_s, ccB, ltB]
  by_cases a : x.From = y.From
  · by_cases b : x.To = y.To
    · simp [a, b]
    · have b' : ¬ y.To = x.To := fun h => b h.symm
      by_cases c : x.To < y.To
      · simp [a, b, c]
      · have d : y.To < x.To := by omega
        have e : ¬ x.To < y.To := by omega
        simp [a, b, b', d, e]
  · have a' : ¬ y.From = x.From := fun h => a h.symm
    by_cases c : x.From < y.From
    · simp [a, c]
    · have d : y.From < x.From := by omega
      simp [a, a', c, d]
theorem ltOf_ccB : ltOf ccB = ltB := by
  funext x y
  simp only [ltOf, ccB]
  rcases bool_tf (ltB x y) with h | h
  · simp [h]
  · rcases bool_tf (ltB y x) with h' | h' <;> simp [h, h']
theorem swoB : SWO (ltOf ccB) := by rw [ltOf_ccB]; exact swo_of ltB_irrefl ltB_trans ltB_total
/-- the sorted list -/
def srtB (l : List GBracket) : List GBracket := srt ltB l
theorem srtB_len (l : List GBracket) : (srtB l).length = l.length := (srt_perm ltB l).length_eq
def vB (x : GBracket) : List Value := [.string ⟨⟨x.Name⟩⟩, .int .i64 x.From, .int .i64 x.To]
theorem srtB_ok (xs : List GBracket) (hlen : xs.length < 4611686018427387904) (σ : Sg) {K t : Nat} (hK : Nat.blt K σ.nx = true) (hg : gt σ.h K = some (.vec (List.map cGBracket xs).flatten 53 3 t)) :
    EvU Try.prog 30 [.vl K t 0 xs.length, .fn (.func 31) [] []] σ (fun u σ' => u = .tup [] ∧ σ' = ⟨ug σ.h K (.vec (List.map cGBracket (srtB xs)).flatten 53 3 t), σ.nx⟩) := by
  by_cases hne : xs = []
  · subst hne
    have h0 := slices_SortFunc_Bracket_compare_0 (fun x y => some (ccB x y)) (fun a0 a1 r h => by
        have := evaluate_compare_0 0 a0 a1 r (by rw [compare_eq]; exact h)
        exact this) 1 () rfl
    have h1 := EvU.view0 (args' := [.vl K t 0 ([] : List GBracket).length, .fn (.func 31) [] []]) (σ := σ) h0 (by simp [BelL, Bel, BelR]) (Gh.trans (Gh.fz K (.vec (List.map cGBracket ([] : List GBracket)).flatten 53 3 t) 3 hg (by simp) rfl rfl) (Gh.eqv (by
        simp only [fzL_cons, fzL_nil, fz_vl len_cGBracket, fz_fn]) rfl))
    refine h1.mono ?_
    rintro u σ' ⟨rfl, rfl⟩
    refine ⟨rfl, ?_⟩
    have : ug σ'.h K (.vec (List.map cGBracket (srtB [])).flatten 53 3 t) = σ'.h := by
      have hu : ∀ (h : List (Nat × B)) (b : B), gt h K = some b → ug h K b = h := by
        intro h
        induction h with
        | nil => intro b hb; simp [gt] at hb
        | cons p h ih =>
          obtain ⟨j, c⟩ := p
          intro b hb
          simp only [gt, ug, beq_eq] at hb ⊢
          by_cases e : j = K
          · simp [e] at hb; simp [e, hb]
          · simp only [e, decide_false, cond_false] at hb ⊢; rw [ih b hb]
      exact hu _ _ hg
    rw [this]
  · have h := EvU.srtT (P := Try.prog) (f := 30) (g := 31) (enc := vB) (encU := cGBracket) (k := 3) (fun _ => rfl) (by omega) (fun x => rfl) (fun x => rfl) (fun m x => by simp [vB, renL, ren]) (cf := ccB) swoB (by rw [ltOf_ccB]; exact ltB_total)
      (fun blk off cap d w h1 h2 h3 => AnyQ.slices_SortFunc Try.sortB 3 Try.isAgg53 Try.sizeOf53 vB (fun _ => rfl) (fun x v hv => by
          simp only [vB, List.mem_cons, List.not_mem_nil, or_false] at hv
          rcases hv with rfl | rfl | rfl <;> rfl) ccB swoB 31 #[] blk off cap d w (enters_of Try.func31 (by kernel_rfl) rfl) (fun m os dk hs x y => by
          have hg := EvU.grows (P := Try.prog) (g := 31) (args := [.agg (cGBracket x), .agg (cGBracket y)]) (vs := [.agg (vB x).toArray, .agg (vB y).toArray]) (u := .int .i64 (ccB x y)) (cv := .int .i64 (ccB x y)) ((evaluate_compare_0 0 x y (ccB x y) (compare_eq 0 x y)).mono fun u s h => h.1) rfl rfl (fun m => by simp [renL, ren, vB]) (fun m => by simp [ren]) (sortWorldK vB 3 w blk off m dk os)
          exact hg) h1 h2 h3) (σ := σ) (K := K) (st := t) (e := 53) xs hne hlen hg
    refine h.mono ?_
    rintro u σ' ⟨rfl, rfl⟩
    exact ⟨rfl, by rw [ltOf_ccB]; rfl⟩
end Go.Proofs
