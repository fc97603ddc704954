/-
  The brackets of a derivation, gathered and sorted, are those of the reference; EvaluateBrackets says yes.
-/
import Derived.Test.YtcanbnholmlapaaE5
namespace Go.Proofs
open Go Go.Rx Go.Vx Go.Sort
set_option linter.unusedVariables false

mutual
def brs : GDeriv → List GBracket
  | .mk k nm a b ks => (if k = 2 then [⟨nm, a, b⟩] else []) ++ brsL ks
def brsL : List GDeriv → List GBracket
  | [] => []
  | d :: l => brs d ++ brsL l
end
theorem brs_eq (d : GDeriv) : brs d = (if d.Kind = 2 then [⟨d.Name, d.From, d.To⟩] else []) ++ brsL d.Kids := by cases d; simp only [brs]; rfl
mutual
theorem brs_len : ∀ d : GDeriv, (brs d).length ≤ nodes d
  | .mk k nm a b ks => by
    have := brsL_len ks
    simp only [brs, nodes, List.length_append]
    split <;> simp <;> omega
theorem brsL_len : ∀ l : List GDeriv, (brsL l).length ≤ nodesL l
  | [] => by simp [brsL]
  | d :: l => by
    have := brs_len d
    have := brsL_len l
    simp only [brsL, nodesL, List.length_append]; omega
end
theorem drop_cons' {α : Type} {l : List α} {i : Nat} {x : α} (h : l[i]? = some x) : l.drop i = x :: l.drop (i + 1) := by
  have hlt : i < l.length := (List.getElem?_eq_some_iff.1 h).1
  rw [List.drop_eq_getElem_cons hlt]
  congr 1
  rw [List.getElem?_eq_getElem hlt] at h
  exact Option.some.inj h
theorem nodesL_drop {l : List GDeriv} {i : Nat} {x : GDeriv} (h : l[i]? = some x) : nodesL (l.drop i) = nodes x + nodesL (l.drop (i + 1)) := by rw [drop_cons' h]; simp [nodesL]
/- gather -/
theorem gather_L {d : GDeriv} (hl : d.Kids.length ≤ 9223372036854775807) {self : List GBracket → GDeriv → Option (List GBracket)} (hself : ∀ x ∈ d.Kids, ∀ l, l.length + nodes x ≤ 1000 → self l x = some (l ++ brs x)) :
    ∀ (m i : Nat) (l : List GBracket), d.Kids.length - i < m → i ≤ d.Kids.length → l.length + nodesL (d.Kids.drop i) ≤ 1000 → evaluate_gather_L2 d self m i l = some (l ++ brsL (d.Kids.drop i))
  | 0, i, l, hm, _, _ => by omega
  | m + 1, i, l, hm, hi, hb => by
    unfold evaluate_gather_L2
    by_cases hlt : i < d.Kids.length
    · obtain ⟨x, hx, hmem⟩ := get_of hlt
      have e1 : decide ((i : Int) < (d.Kids.length : Int)) = true := by simp; omega
      rw [nodesL_drop hx] at hb
      have hbl := brs_len x
      simp only [e1, cond_true, idxO_nat, hx, bindO_s, hself x hmem l (by omega)]
      rw [wr1 hlt hl, gather_L hl hself m (i + 1) (l ++ brs x) (by omega) (by omega) (by simp; omega), drop_cons' hx]
      simp [brsL]
    · have e1 : decide ((i : Int) < (d.Kids.length : Int)) = false := by simp; omega
      simp only [e1, cond_false, evaluate_gather_K2]
      have : d.Kids.drop i = [] := List.drop_eq_nil_of_le (by omega)
      simp [this, brsL]
theorem gather_ok : ∀ (s : Nat) (d : GDeriv), SizeOf.sizeOf d < s → okG d → ∀ n, SizeOf.sizeOf d ≤ n → ∀ l, l.length + nodes d ≤ 1000 → evaluate_gather n l d = some (l ++ brs d)
  | 0, d, hs, _, _, _, _, _ => by omega
  | s + 1, d, hs, hok, n, hn, l, hb => by
    have hk := kids_lt d
    cases n with
    | zero => omega
    | succ n =>
      have hnd := nodes_eq d
      have hg : ∀ l : List GBracket, l.length + nodesL d.Kids ≤ 1000 → evaluate_gather_J1 d n (evaluate_gather n) l = some (l ++ brsL d.Kids) := fun l hb' => by
        have := gather_L (okG_len hok) (self := evaluate_gather n) (fun x hx l hb => by
          have := kid_lt d hx
          exact gather_ok s x (by omega) (okG_kid hok hx) n (by omega) l hb) n 0 l (by omega) (by omega) (by simpa using hb')
        simp only [evaluate_gather_J1]
        simpa using this
      simp only [evaluate_gather, evaluate_gather_b]
      rw [brs_eq]
      by_cases h2 : d.Kind = 2
      · simp only [h2, beq_self_eq_true, cond_true, if_true]
        rw [needO_of (by omega), hg _ (by simp; omega)]
        simp
      · have : (d.Kind == 2) = false := by simpa using h2
        simp only [this, cond_false, h2, if_false, List.nil_append]
        exact hg l (by omega)
/- put -/
theorem before_eq (n : Nat) (x y : GBracket) : ref50_before n x y = some (ltB x y) := by
  simp only [ref50_before, ltB]
  by_cases a : x.From = y.From
  · by_cases b : x.To = y.To
    · simp [a, b]
    · have h : (x.To != y.To) = true := by simpa using b
      simp [a, b, h]
  · have h : (x.From != y.From) = true := by simpa using a
    simp [a, h]
theorem put_L {l : List GBracket} {x : GBracket} (hl : l.length ≤ 1000) {n : Nat} : ∀ (m i : Nat), i ≤ l.length → i < m → (∀ y ∈ l.drop i, ltB x y = true) →
    ∃ k, k ≤ l.length ∧ ref50_put_L1 l x n m i = some (l.take k ++ [x] ++ l.drop k) ∧ (∀ y ∈ l.drop k, ltB x y = true) ∧ (∀ j y, k = j + 1 → l[j]? = some y → ltB x y = false)
  | 0, i, _, hm, _ => by omega
  | m + 1, i, hi, hm, hd => by
    have out : ref50_put_K1 l x i = some (l.take i ++ [x] ++ l.drop i) := by
      have c1 : cutO l 0 (i : Int) = some (l.take i) := by unfold cutO; rw [if_pos ⟨by omega, by omega, by omega⟩]; simp
      have c2 : cutO l (i : Int) (l.length : Int) = some (l.drop i) := by unfold cutO; rw [if_pos ⟨by omega, by omega, by omega⟩]; simp
      have l1 : (l.take i).length = i := by simp; omega
      simp only [ref50_put_K1, c1, c2, bindO_s]
      rw [needO_of (by omega), needO_of (by omega), needO_of (by simp; omega)]
    unfold ref50_put_L1
    cases i with
    | zero =>
      have e1 : decide (((0 : Nat) : Int) > 0) = false := by simp
      simp only [e1, cond_false, bindO_s]
      exact ⟨0, by omega, out, hd, fun j y h => by omega⟩
    | succ j =>
      have e1 : decide (((j + 1 : Nat) : Int) > 0) = true := by rw [decide_eq_true_eq]; omega
      obtain ⟨y, hy, _⟩ := get_of (l := l) (i := j) (by omega)
      have w1 : IntKind.i64.wrap (((j + 1 : Nat) : Int) - 1) = (j : Int) := by rw [wr (by omega) (by omega)]; omega
      simp only [e1, cond_true, w1, idxO_nat, hy, bindO_s, before_eq]
      rcases bool_tf (ltB x y) with h | h
      · simp only [h, cond_true]
        refine put_L hl m j (by omega) (by omega) fun z hz => ?_
        rw [drop_cons' hy] at hz
        rcases List.mem_cons.1 hz with rfl | hz
        · exact h
        · exact hd z hz
      · simp only [h, cond_false]
        exact ⟨j + 1, hi, out, hd, fun j' y' e hy' => by
          have : j' = j := by omega
          subst this; rw [hy] at hy'; cases hy'; exact h⟩
theorem swoL : SWO ltB := swo_of ltB_irrefl ltB_trans ltB_total
theorem put_ok {l : List GBracket} {x : GBracket} (hl : l.length ≤ 1000) {n : Nat} (hn : l.length < n) (ha : Asc ltB l) : ∃ r, ref50_put n l x = some r ∧ r.Perm (l ++ [x]) ∧ Asc ltB r := by
  obtain ⟨k, h0, h1, h2, h3⟩ := put_L (x := x) hl (n := n) n l.length (Nat.le_refl _) hn (by simp)
  refine ⟨_, h1, ?_, ?_⟩
  · have : l = l.take k ++ l.drop k := by simp
    have h5 : (l.take k ++ [x] ++ l.drop k).Perm (l.take k ++ l.drop k ++ [x]) := by
      rw [List.append_assoc, List.append_assoc]
      exact (List.perm_append_comm).append_left _
    rwa [← this] at h5
  · unfold Asc at ha ⊢
    have hsplit : l = l.take k ++ l.drop k := by simp
    rw [hsplit, List.pairwise_append] at ha
    obtain ⟨a1, a2, a3⟩ := ha
    have hpre : ∀ y ∈ l.take k, ltB x y = false := by
      cases k with
      | zero => intro y hy; simp at hy
      | succ j =>
        obtain ⟨z, hz, _⟩ := get_of (l := l) (i := j) (by omega)
        have hzx := h3 j z rfl hz
        intro y hy
        rw [take_snoc hz] at hy a1
        rcases List.mem_append.1 hy with hy | hy
        · rw [List.pairwise_append] at a1
          exact swoL.ntrans x z y hzx (a1.2.2 y hy z (by simp))
        · simp at hy; subst hy; exact hzx
    rw [List.append_assoc, List.pairwise_append]
    refine ⟨a1, ?_, ?_⟩
    · rw [List.singleton_append, List.pairwise_cons]
      refine ⟨fun z hz => ?_, a2⟩
      cases hzx : ltB z x with
      | false => rfl
      | true => have := ltB_trans x z x (h2 z hz) hzx; rw [ltB_irrefl] at this; cases this
    · intro y hy z hz
      rw [List.singleton_append] at hz
      rcases List.mem_cons.1 hz with rfl | hz
      · exact hpre y hy
      · exact a3 y hy z hz
/- the reference's brackets -/
theorem refB_L3 {n : Nat} {z : Int} {rc : List GBracket → Int → Option (List GBracket)} {r : List GBracket} (hr : r.length ≤ 9223372036854775807) : ∀ (m i : Nat) (l : List GBracket), r.length - i < m → i ≤ r.length → l.length + (r.length - i) ≤ 1000 → 1001 ≤ n → Asc ltB l →
    ∃ out, out.Perm (l ++ r.drop i) ∧ Asc ltB out ∧ ref50_Brackets_L3 n z rc r m l i = rc out (IntKind.i64.wrap (z + 1))
  | 0, i, l, hm, _, _, _, _ => by omega
  | m + 1, i, l, hm, hi, hb, hn, ha => by
    unfold ref50_Brackets_L3
    by_cases hlt : i < r.length
    · obtain ⟨x, hx, _⟩ := get_of hlt
      have e1 : decide ((i : Int) < (r.length : Int)) = true := by simp; omega
      obtain ⟨q, q1, q2, q3⟩ := put_ok (l := l) (x := x) (by omega) (n := n) (by omega) ha
      simp only [e1, cond_true, idxO_nat, hx, bindO_s, q1]
      have hql := q2.length_eq
      simp at hql
      obtain ⟨out, o1, o2, o3⟩ := refB_L3 (z := z) (rc := rc) hr m (i + 1) q (by omega) (by omega) (by omega) hn q3
      refine ⟨out, ?_, o2, ?_⟩
      · rw [drop_cons' hx]
        have := o1.trans (q2.append_right (r.drop (i + 1)))
        simpa using this
      · rw [wr1 hlt hr]; exact o3
    · have e1 : decide ((i : Int) < (r.length : Int)) = false := by simp; omega
      simp only [e1, cond_false, ref50_Brackets_K3]
      have : r.drop i = [] := List.drop_eq_nil_of_le (by omega)
      exact ⟨l, by simp [this], ha, rfl⟩
theorem refB_L2 {d : GDeriv} (hl : d.Kids.length ≤ 9223372036854775807) {n : Nat} (hn : 1001 ≤ n) {self : GDeriv → Option (List GBracket)} (hself : ∀ x ∈ d.Kids, nodes x ≤ 1000 → ∃ r, self x = some r ∧ r.Perm (brs x)) :
    ∀ (m i : Nat) (l : List GBracket), d.Kids.length - i < m → i ≤ d.Kids.length → l.length + nodesL (d.Kids.drop i) ≤ 1000 → Asc ltB l → ∃ out, ref50_Brackets_L2 d n self m l i = some out ∧ out.Perm (l ++ brsL (d.Kids.drop i)) ∧ Asc ltB out
  | 0, i, l, hm, _, _, _ => by omega
  | m + 1, i, l, hm, hi, hb, ha => by
    unfold ref50_Brackets_L2
    by_cases hlt : i < d.Kids.length
    · obtain ⟨x, hx, hmem⟩ := get_of hlt
      have e1 : decide ((i : Int) < (d.Kids.length : Int)) = true := by simp; omega
      rw [nodesL_drop hx] at hb
      have hbl := brs_len x
      obtain ⟨r, r1, r2⟩ := hself x hmem (by omega)
      have hrl := r2.length_eq
      simp only [e1, cond_true, idxO_nat, hx, bindO_s, r1]
      obtain ⟨out, o1, o2, o3⟩ := refB_L3 (n := n) (z := (i : Int)) (rc := ref50_Brackets_L2 d n self m) (r := r) (by omega) n 0 l (by omega) (by omega) (by omega) hn ha
      have ol := o1.length_eq
      simp at ol
      rw [wr1 hlt hl] at o3
      obtain ⟨out2, p1, p2, p3⟩ := refB_L2 hl hn hself m (i + 1) out (by omega) (by omega) (by omega) o2
      refine ⟨out2, by rw [← p1, ← o3]; rfl, ?_, p3⟩
      rw [drop_cons' hx]
      have h1 : (out ++ brsL (d.Kids.drop (i + 1))).Perm (l ++ brs x ++ brsL (d.Kids.drop (i + 1))) := by
        refine List.Perm.append_right _ ?_
        have := o1
        simp at this
        exact this.trans (r2.append_left l)
      have := p2.trans h1
      simpa [brsL] using this
    · have e1 : decide ((i : Int) < (d.Kids.length : Int)) = false := by simp; omega
      simp only [e1, cond_false, ref50_Brackets_K2]
      have : d.Kids.drop i = [] := List.drop_eq_nil_of_le (by omega)
      exact ⟨l, rfl, by simp [this, brsL], ha⟩
theorem refB_ok : ∀ (s : Nat) (d : GDeriv), SizeOf.sizeOf d < s → okG d → ∀ n, SizeOf.sizeOf d + 1001 ≤ n → nodes d ≤ 1000 → ∃ r, ref50_Brackets n d = some r ∧ r.Perm (brs d) ∧ Asc ltB r
  | 0, d, hs, _, _, _, _ => by omega
  | s + 1, d, hs, hok, n, hn, hb => by
    have hk := kids_lt d
    cases n with
    | zero => omega
    | succ n =>
      have hnd := nodes_eq d
      have hg : ∀ l : List GBracket, l.length + nodesL d.Kids ≤ 1000 → Asc ltB l → ∃ r, ref50_Brackets_J1 d n (ref50_Brackets n) l = some r ∧ r.Perm (l ++ brsL d.Kids) ∧ Asc ltB r := fun l hb' ha => by
        have := refB_L2 (okG_len hok) (n := n) (by omega) (self := ref50_Brackets n) (fun x hx hnx => by
          have := kid_lt d hx
          obtain ⟨r, r1, r2, _⟩ := refB_ok s x (by omega) (okG_kid hok hx) n (by omega) hnx
          exact ⟨r, r1, r2⟩) n 0 l (by omega) (by omega) (by simpa using hb') ha
        simp only [ref50_Brackets_J1]
        simpa using this
      simp only [ref50_Brackets, ref50_Brackets_b]
      rw [brs_eq]
      by_cases h2 : d.Kind = 2
      · simp only [h2, beq_self_eq_true, cond_true, if_true]
        rw [needO_of (by simp)]
        exact hg _ (by simp; omega) (by simp [Asc])
      · have : (d.Kind == 2) = false := by simpa using h2
        simp only [this, cond_false, h2, if_false, List.nil_append]
        have := hg [] (by simp; omega) (by simp [Asc])
        simpa using this
/- the same -/
theorem eqB_iff (x y : GBracket) : eqGBracket x y = true ↔ x = y := by
  cases x; cases y
  simp [eqGBracket, bytesEq_iff]
theorem same_L {l : List GBracket} (hl : l.length ≤ 9223372036854775807) : ∀ (m i : Nat), l.length - i < m → i ≤ l.length → law50_sameBrackets_L1 l l m i = some true
  | 0, i, hm, _ => by omega
  | m + 1, i, hm, hi => by
    unfold law50_sameBrackets_L1
    by_cases hlt : i < l.length
    · obtain ⟨x, hx, _⟩ := get_of hlt
      have e1 : decide ((i : Int) < (l.length : Int)) = true := by simp; omega
      have e2 : eqGBracket x x = true := (eqB_iff x x).2 rfl
      simp only [e1, cond_true, idxO_nat, hx, bindO_s, e2, Bool.not_true, cond_false]
      rw [wr1 hlt hl]
      exact same_L hl m (i + 1) (by omega) (by omega)
    · have e1 : decide ((i : Int) < (l.length : Int)) = false := by simp; omega
      simp only [e1, cond_false, law50_sameBrackets_K1]
theorem same_ok {l : List GBracket} (hl : l.length ≤ 9223372036854775807) {n : Nat} (hn : l.length < n) : law50_sameBrackets n l l = some true := by
  have := same_L hl n 0 (by omega) (by omega)
  simp only [law50_sameBrackets, bne_self_eq_false, cond_false]
  simpa using this
theorem srtB_of {l r : List GBracket} (hp : r.Perm l) (ha : Asc ltB r) : srtB l = r := asc_unique ltB_total (srt_asc swoL l) ha ((srt_perm ltB l).trans hp.symm)
theorem Brackets_ok {d : GDeriv} (hok : okG d) {n : Nat} (hn : SizeOf.sizeOf d ≤ n) (hb : nodes d ≤ 1000) : evaluate_Brackets n d = some (srtB (brs d)) := by
  have := brs_len d
  simp only [evaluate_Brackets]
  rw [gather_ok _ d (Nat.lt_succ_self _) hok n hn [] (by simpa using hb), bindO_s, needO_of (by simp; omega)]
  simp
/-- THE LAW -/
theorem brackets_law {d : GDeriv} (hok : okG d) {n : Nat} (hn : SizeOf.sizeOf d + 1001 ≤ n) : law50_EvaluateBrackets n d = some true := by
  obtain ⟨b, h1, h2⟩ := valid1 hok (n := n) (by omega) (by omega)
  simp only [law50_EvaluateBrackets, h1, bindO_s, law50_exampleHolds]
  cases b with
  | false => simp
  | true =>
    have hnd := h2 rfl
    obtain ⟨r, r1, r2, r3⟩ := refB_ok _ d (Nat.lt_succ_self _) hok n hn (by omega)
    have hl := r2.length_eq
    have hbl := brs_len d
    rw [Brackets_ok hok (by omega) (by omega), srtB_of r2 r3]
    simp only [bindO_s, r1, same_ok (l := r) (by omega) (n := n) (by omega)]
    simp
end Go.Proofs
