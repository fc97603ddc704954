/-
  What the plain functions of EvaluateBrackets come to: the law says yes.
-/
import Derived.Test.YtcanbnholmlapaaE4
namespace Go.Proofs
open Go Go.Rx Go.Vx Go.Sort
set_option linter.unusedVariables false

theorem len_lt_sizeOf {α : Type} [SizeOf α] : ∀ l : List α, l.length < SizeOf.sizeOf l
  | [] => by simp
  | x :: l => by have := len_lt_sizeOf l; simp; omega
theorem kid_lt (d : GDeriv) {x : GDeriv} (h : x ∈ d.Kids) : SizeOf.sizeOf x < SizeOf.sizeOf d := by
  cases d with
  | mk a b c e ks =>
    have := List.sizeOf_lt_of_mem h
    simp only [GDeriv.Kids] at this
    simp only [GDeriv.mk.sizeOf_spec]
    omega
theorem kids_lt (d : GDeriv) : d.Kids.length + 1 < SizeOf.sizeOf d := by
  cases d with
  | mk a b c e ks =>
    have := len_lt_sizeOf ks
    simp only [GDeriv.Kids, GDeriv.mk.sizeOf_spec]
    omega
mutual
def okG : GDeriv → Prop
  | .mk _ _ _ _ ks => ks.length ≤ 9223372036854775807 ∧ okGs ks
def okGs : List GDeriv → Prop
  | [] => True
  | d :: l => okG d ∧ okGs l
end
theorem okGs_mem : ∀ {l : List GDeriv}, okGs l → ∀ d ∈ l, okG d
  | [], _, d, h => by cases h
  | e :: l, h, d, hd => by
    simp only [okGs] at h
    rcases List.mem_cons.1 hd with rfl | hd
    · exact h.1
    · exact okGs_mem h.2 d hd
theorem okG_len {d : GDeriv} (h : okG d) : d.Kids.length ≤ 9223372036854775807 := by cases d; simp only [okG] at h; exact h.1
theorem okG_kid {d : GDeriv} (h : okG d) {x : GDeriv} (hx : x ∈ d.Kids) : okG x := by cases d; simp only [okG] at h; exact okGs_mem h.2 x hx
mutual
def nodes : GDeriv → Nat
  | .mk _ _ _ _ ks => 1 + nodesL ks
def nodesL : List GDeriv → Nat
  | [] => 0
  | d :: l => nodes d + nodesL l
end
theorem nodes_eq (d : GDeriv) : nodes d = 1 + nodesL d.Kids := by cases d; simp [nodes, GDeriv.Kids]
theorem nodesL_app : ∀ a b : List GDeriv, nodesL (a ++ b) = nodesL a + nodesL b
  | [], b => by simp [nodesL]
  | d :: a, b => by simp [nodesL, nodesL_app a b]; omega
theorem nodesL_take {l : List GDeriv} {i : Nat} {x : GDeriv} (h : l[i]? = some x) : nodesL (l.take (i + 1)) = nodesL (l.take i) + nodes x := by
  rw [List.take_add_one, h, nodesL_app]; simp [nodesL]
theorem take_snoc {α : Type} {l : List α} {i : Nat} {x : α} (h : l[i]? = some x) : l.take (i + 1) = l.take i ++ [x] := by rw [List.take_add_one, h]; rfl
theorem wr {z : Int} (h1 : -9223372036854775808 ≤ z) (h2 : z ≤ 9223372036854775807) : IntKind.i64.wrap z = z := wrap_i64 (by omega) (by omega)
theorem wr1 {i len : Nat} (h : i < len) (hl : len ≤ 9223372036854775807) : IntKind.i64.wrap ((i : Int) + 1) = ((i + 1 : Nat) : Int) := by rw [wr (by omega) (by omega)]; simp
theorem get_of {α : Type} {l : List α} {i : Nat} (h : i < l.length) : ∃ x, l[i]? = some x ∧ x ∈ l := ⟨l[i], by simp [h], by simp⟩

/- count -/
theorem count_L {d : GDeriv} (hl : d.Kids.length ≤ 9223372036854775807) {lim : Int} (h0 : 0 ≤ lim) (h1 : lim ≤ 40) {self : GDeriv → Int → Option Int}
    (hself : ∀ x ∈ d.Kids, ∀ q : Int, 0 ≤ q → q ≤ 40 → ∃ c, self x q = some c ∧ 1 ≤ c ∧ c ≤ q + 1 ∧ (c ≤ q → c = nodes x)) :
    ∀ (m i : Nat) (acc : Int), d.Kids.length - i < m → i ≤ d.Kids.length → 1 ≤ acc → acc ≤ lim + 1 → (acc ≤ lim → acc = 1 + nodesL (d.Kids.take i)) →
      ∃ c, law50_count_L1 d lim self m acc i = some c ∧ 1 ≤ c ∧ c ≤ lim + 1 ∧ (c ≤ lim → c = 1 + nodesL d.Kids)
  | 0, i, acc, hm, _, _, _, _ => by omega
  | m + 1, i, acc, hm, hi, ha, hb, hc => by
    unfold law50_count_L1
    by_cases hlt : i < d.Kids.length
    · obtain ⟨x, hx, hmem⟩ := get_of hlt
      have e1 : decide ((i : Int) < (d.Kids.length : Int)) = true := by simp; omega
      by_cases hal : acc ≤ lim
      · simp only [e1, cond_true, bindO_s, hal, decide_true, idxO_nat, hx]
        rw [wr (by omega) (by omega)]
        obtain ⟨c, g1, g2, g3, g4⟩ := hself x hmem (lim - acc) (by omega) (by omega)
        rw [g1, bindO_s, wr (by omega) (by omega), wr1 hlt hl]
        refine count_L hl h0 h1 hself m (i + 1) (acc + c) (by omega) (by omega) (by omega) (by omega) fun h => ?_
        rw [nodesL_take hx, g4 (by omega), hc hal]
        omega
      · simp only [e1, cond_true, bindO_s, hal, decide_false, cond_false, law50_count_K1]
        exact ⟨acc, rfl, ha, hb, fun h => absurd h hal⟩
    · have e1 : decide ((i : Int) < (d.Kids.length : Int)) = false := by simp; omega
      simp only [e1, cond_false, bindO_s, law50_count_K1]
      refine ⟨acc, rfl, ha, hb, fun h => ?_⟩
      have : i = d.Kids.length := by omega
      rw [hc h, this, List.take_length]
theorem count_ok : ∀ (s : Nat) (d : GDeriv), SizeOf.sizeOf d < s → okG d → ∀ n, SizeOf.sizeOf d ≤ n → ∀ lim : Int, 0 ≤ lim → lim ≤ 40 → ∃ c, law50_count n d lim = some c ∧ 1 ≤ c ∧ c ≤ lim + 1 ∧ (c ≤ lim → c = nodes d)
  | 0, d, hs, _, _, _, _, _, _ => by omega
  | s + 1, d, hs, hok, n, hn, lim, h0, h1 => by
    have hk := kids_lt d
    cases n with
    | zero => omega
    | succ n =>
      obtain ⟨c, g1, g2, g3, g4⟩ := count_L (okG_len hok) h0 h1 (self := law50_count n) (fun x hx q q0 q1 => by
        have := kid_lt d hx
        exact count_ok s x (by omega) (okG_kid hok hx) n (by omega) q q0 q1) n 0 1 (by omega) (by omega) (by omega) (by omega) (fun _ => by simp [nodesL])
      refine ⟨c, ?_, g2, g3, fun h => ?_⟩
      · simp only [law50_count, law50_count_b]; simpa using g1
      · rw [nodes_eq, g4 h]; simp
/- nested: it answers -/
theorem nested_L2 {z : Int} {rc : Int → Option Bool} (hrc : ∃ b, rc (IntKind.i64.wrap (z + 1)) = some b) {x : GDeriv} {l : List GDeriv} (hl : l.length ≤ 9223372036854775807) : ∀ (m i : Nat), l.length - i < m → i ≤ l.length → ∃ b, law50_nested_L2 z rc x l m i = some b
  | 0, i, hm, _ => by omega
  | m + 1, i, hm, hi => by
    unfold law50_nested_L2
    by_cases hlt : i < l.length
    · obtain ⟨y, hy, _⟩ := get_of hlt
      have e1 : decide ((i : Int) < (l.length : Int)) = true := by simp; omega
      simp only [e1, cond_true, idxO_nat, hy, bindO_s]
      rw [wr1 hlt hl]
      obtain ⟨b, hb⟩ := nested_L2 hrc hl m (i + 1) (by omega) (by omega)
      rcases bool_tf (decide (x.From < y.To)) with h | h
      · rcases bool_tf (decide (y.From < x.To)) with h' | h'
        · simp [h, h']
        · simp only [h, h', cond_true, cond_false, bindO_s]; exact ⟨b, hb⟩
      · simp only [h, cond_false, bindO_s]; exact ⟨b, hb⟩
    · have e1 : decide ((i : Int) < (l.length : Int)) = false := by simp; omega
      simp only [e1, cond_false, law50_nested_K2]
      exact hrc
theorem nested_L1 {d : GDeriv} (hl : d.Kids.length ≤ 9223372036854775807) {n : Nat} (hn : d.Kids.length < n) {self : GDeriv → Option Bool} (hself : ∀ x ∈ d.Kids, ∃ b, self x = some b) : ∀ (m i : Nat), d.Kids.length - i < m → i ≤ d.Kids.length → ∃ b, law50_nested_L1 d n self m i = some b
  | 0, i, hm, _ => by omega
  | m + 1, i, hm, hi => by
    unfold law50_nested_L1
    by_cases hlt : i < d.Kids.length
    · obtain ⟨x, hx, hmem⟩ := get_of hlt
      have e1 : decide ((i : Int) < (d.Kids.length : Int)) = true := by simp; omega
      simp only [e1, cond_true, idxO_nat, hx, bindO_s]
      obtain ⟨b, hb⟩ := nested_L1 hl hn hself m (i + 1) (by omega) (by omega)
      have hcut : cutO d.Kids 0 (i : Int) = some (d.Kids.take i) := by
        unfold cutO
        rw [if_pos ⟨by omega, by omega, by omega⟩]; simp
      have hin : ∃ b, bindO (cutO d.Kids 0 (i : Int)) (fun l22 => law50_nested_L2 i (law50_nested_L1 d n self m) x l22 n 0) = some b := by
        rw [hcut, bindO_s]
        have hlen : (d.Kids.take i).length = i := by simp; omega
        exact nested_L2 (l := d.Kids.take i) ⟨b, by rw [wr1 hlt hl]; exact hb⟩ (by omega) n 0 (by omega) (by omega)
      obtain ⟨b', hb'⟩ := hin
      obtain ⟨q, hq⟩ := hself x hmem
      rcases bool_tf (decide (x.From < d.From)) with h | h
      · simp [h]
      · rcases bool_tf (decide (x.To > d.To)) with h' | h'
        · simp [h, h']
        · simp only [h, h', cond_false, hq, bindO_s]
          cases q with
          | false => simp
          | true => simp only [Bool.not_true, cond_false]; exact ⟨b', hb'⟩
    · have e1 : decide ((i : Int) < (d.Kids.length : Int)) = false := by simp; omega
      simp only [e1, cond_false, law50_nested_K1]
      exact ⟨true, rfl⟩
theorem nested_ok : ∀ (s : Nat) (d : GDeriv), SizeOf.sizeOf d < s → okG d → ∀ n, SizeOf.sizeOf d ≤ n → ∃ b, law50_nested n d = some b
  | 0, d, hs, _, _, _ => by omega
  | s + 1, d, hs, hok, n, hn => by
    have hk := kids_lt d
    cases n with
    | zero => omega
    | succ n =>
      simp only [law50_nested, law50_nested_b]
      rcases bool_tf (decide (d.From ≥ d.To)) with h | h
      · simp [h]
      · simp only [h, cond_false]
        have := nested_L1 (okG_len hok) (n := n) (by omega) (self := law50_nested n) (fun x hx => by
          have := kid_lt d hx
          exact nested_ok s x (by omega) (okG_kid hok hx) n (by omega)) n 0 (by omega) (by omega)
        simpa using this
theorem valid1 {d : GDeriv} (hok : okG d) {n : Nat} (hn : SizeOf.sizeOf d ≤ n) (hn2 : 2 ≤ n) : ∃ b, law50_valid n [d] = some b ∧ (b = true → nodes d ≤ 40) := by
  obtain ⟨c, g1, g2, g3, g4⟩ := count_ok _ d (Nat.lt_succ_self _) hok n hn 40 (by omega) (by omega)
  obtain ⟨q, hq⟩ := nested_ok _ d (Nat.lt_succ_self _) hok n hn
  obtain ⟨m, rfl⟩ : ∃ m, n = m + 2 := ⟨n - 2, by omega⟩
  have w1 : IntKind.i64.wrap ((0 : Int) + 1) = 1 := by rw [wr (by omega) (by omega)]; rfl
  have e1 : decide ((0 : Int) < (([d] : List GDeriv).length : Int)) = true := by simp
  have e2 : idxO [d] 0 = some d := rfl
  have e3 : decide ((1 : Int) < (([d] : List GDeriv).length : Int)) = false := by simp
  unfold law50_valid law50_valid_L1
  simp only [e1, cond_true, e2, bindO_s, g1, hq]
  by_cases h40 : c > 40
  · simp [h40]
  · have : c = nodes d := g4 (by omega)
    cases q with
    | false => simp [h40]
    | true =>
      simp only [h40, decide_false, cond_false, Bool.not_true, bindO_s, w1]
      unfold law50_valid_L1
      simp only [e3, cond_false, law50_valid_K1]
      exact ⟨true, rfl, fun _ => by omega⟩
end Go.Proofs
