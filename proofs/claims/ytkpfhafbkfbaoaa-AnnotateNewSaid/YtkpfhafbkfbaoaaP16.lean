/-
  Texts of the walk: A6 A7 A8 A9.
-/
import Derived.Test.YtkpfhafbkfbaoaaP15
section
namespace Go.Proofs
open Go Go.Rx Go.Vx Go.Sort
set_option linter.unusedVariables false
set_option linter.unusedSimpArgs false
theorem nodesL_drop {l : List GDeriv} {i : Nat} {x : GDeriv} (h : l[i]? = some x) : nodesL (l.drop i) = nodes x + nodesL (l.drop (i + 1)) := by rw [drop_cons' h]; simp [nodesL]
theorem Nodes_L {d : GDeriv} (hl : d.Kids.length ≤ 9223372036854775807) {most : Int} (h1 : 1 ≤ most) (h2 : most ≤ 61) {self : GDeriv → Int → Option Int}
    (hself : ∀ x ∈ d.Kids, ∀ q : Int, 1 ≤ q → q ≤ 61 → ∃ c, self x q = some c ∧ 1 ≤ c ∧ c ≤ q ∧ (c < q → c = nodes x)) : ∀ (m i : Nat) (z : Int), d.Kids.length - i < m → i ≤ d.Kids.length → 1 ≤ z → z ≤ most →
    ∃ c, q02x d most self m z i = some c ∧ 1 ≤ c ∧ c ≤ most ∧ (c < most → c = z + nodesL (d.Kids.drop i))
  | 0, i, z, hm, _, _, _ => by omega
  | m + 1, i, z, hm, hi, hz1, hz2 => by
    unfold q02x
    by_cases hlt : i < d.Kids.length
    · obtain ⟨x, hx, hxm⟩ := get_of hlt
      rw [dlt hlt, cond_true, bindO_s]
      by_cases hz : z < most
      · obtain ⟨c, k1, k2, k3, k4⟩ := hself x hxm (most - z) (by omega) (by omega)
        simp only [hz, decide_true, cond_true, idxO_nat, hx, bindO_s, wr (show -9223372036854775808 ≤ most - z by omega) (by omega), k1, wr (show -9223372036854775808 ≤ z + c by omega) (by omega), wr1 hlt hl]
        obtain ⟨c', q1, q2, q3, q4⟩ := Nodes_L hl h1 h2 hself m (i + 1) (z + c) (by omega) (by omega) (by omega) (by omega)
        refine ⟨c', q1, q2, q3, fun h => ?_⟩
        have := q4 h
        rw [nodesL_drop hx]
        by_cases hc : c < most - z
        · have := k4 hc; omega
        · have : z + c = most := by omega
          omega
      · simp only [hz, decide_false, cond_false, q03o]
        exact ⟨z, rfl, hz1, hz2, fun h => by omega⟩
    · simp only [dnlt hlt, cond_false, bindO_s, q03o, drop_nil' hlt]
      exact ⟨z, rfl, hz1, hz2, fun _ => by simp [nodesL]⟩
theorem Nodes_ok : ∀ (s : Nat) (d : GDeriv), SizeOf.sizeOf d < s → okG d → ∀ n, SizeOf.sizeOf d ≤ n → ∀ most : Int, 1 ≤ most → most ≤ 61 → ∃ c, ref37_Nodes n d most = some c ∧ 1 ≤ c ∧ c ≤ most ∧ (c < most → c = nodes d)
  | 0, d, hs, _, _, _, _, _, _ => by omega
  | s + 1, d, hs, hok, n, hn, most, h1, h2 => by
    have hk := kids_lt d
    cases n with
    | zero => omega
    | succ n =>
      obtain ⟨c, q1, q2, q3, q4⟩ := Nodes_L (d := d) (okG_len hok) h1 h2 (self := ref37_Nodes n) (fun x hx q h1 h2 => by
        have := kid_lt d hx
        exact Nodes_ok s x (by omega) (okG_kid hok hx) n (by omega) q h1 h2) n 0 1 (by omega) (by omega) (by omega) h1
      rw [Int.ofNat_zero] at q1
      refine ⟨c, by simp only [ref37_Nodes, ref37_Nodes_b, q1], q2, q3, fun h => ?_⟩
      have := q4 h
      rw [nodes_eq]; simp at this; omega
def own (d : GDeriv) : List GProp := if d.Kind = 0 then [⟨0, d.Name, d.From, d.To⟩] else if d.Kind = 1 then [⟨1, d.Name, d.From, d.To⟩] else if d.Kind = 2 then [⟨2, d.Name, d.From, d.To⟩, ⟨3, [], d.From, d.To⟩] else []
mutual
def props : GDeriv → List GProp
  | .mk a b c e ks => own (.mk a b c e ks) ++ propsL ks
def propsL : List GDeriv → List GProp
  | [] => []
  | d :: l => props d ++ propsL l
end
theorem eqP_iff (x y : GProp) : eqGProp x y = true ↔ x = y := by
  cases x; cases y
  simp only [eqGProp, Bool.and_eq_true, beq_iff_eq, bytesEq_iff, GProp.mk.injEq]
instance : DecidableEq GProp := fun x y => decidable_of_iff (eqGProp x y = true) (eqP_iff x y)
def nxt (c : GProp) : List GProp → List GProp
  | [] => []
  | y :: l => if y = c then nxt y l else y :: nxt y l
structure Lt (l : List GDeriv) (n : Nat) : Prop where
  len : l.length ≤ 6
  sum : nodesL l ≤ 60
  ok : ∀ d ∈ l, okG d
  fuel : ∀ d ∈ l, SizeOf.sizeOf d + 1001 ≤ n
  n1 : 1001 ≤ n
def fits1 (d : GDeriv) (x : GDecision) : Bool := decide (x.Propx ∈ props d) == x.Yes
def agree (d : GDeriv) (ds : List GDecision) : Bool := ds.all (fits1 d)
def remF : List GDeriv → List GDecision → Nat → List Int
  | [], _, _ => []
  | d :: l, ds, i => (if agree d ds then [(i : Int)] else []) ++ remF l ds (i + 1)
def rem (l : List GDeriv) (ds : List GDecision) : List Int := remF l ds 0
theorem natz {k : Nat} : ((k : Int) == 0) = decide (k = 0) := by rw [Bool.eq_iff_iff]; simp
theorem len0 {α : Type} (l : List α) : ((l.length : Int) == 0) = decide (l.length = 0) := natz
theorem eqD_iff (x y : GDecision) : eqGDecision x y = true ↔ x = y := by
  obtain ⟨p, a⟩ := x
  obtain ⟨q, b⟩ := y
  have := eqP_iff p q
  simp only [eqGProp] at this
  simp only [eqGDecision, GDecision.mk.injEq]
  rw [Bool.and_eq_true, this]; simp
instance : DecidableEq GDecision := fun x y => decidable_of_iff (eqGDecision x y = true) (eqD_iff x y)
theorem eqD_dec (x y : GDecision) : eqGDecision x y = decide (x = y) := by rw [Bool.eq_iff_iff, eqD_iff]; simp
theorem SameDecisions_L {a b : List GDecision} (hl : a.length ≤ 9223372036854775807) (he : a.length = b.length) : ∀ (m i : Nat), a.length - i < m → i ≤ a.length → q016 a b m i = some (decide (a.drop i = b.drop i))
  | 0, i, hm, _ => by omega
  | m + 1, i, hm, hi => by
    unfold q016
    by_cases hlt : i < a.length
    · obtain ⟨x, hx, _⟩ := get_of hlt
      obtain ⟨y, hy, _⟩ := get_of (show i < b.length by omega)
      simp only [dlt hlt, cond_true, idxO_nat, hx, hy, bindO_s, eqD_dec, wr1 hlt hl, drop_cons' hx, drop_cons' hy, List.cons.injEq]
      by_cases h : x = y
      · simp only [h, decide_true, Bool.not_true, cond_false, true_and]
        exact SameDecisions_L hl he m (i + 1) (by omega) (by omega)
      · simp [h]
    · have h2 : ¬ i < b.length := by omega
      simp only [dnlt hlt, cond_false, q01q, drop_nil' hlt, drop_nil' h2]; simp
theorem SameDecisions_ok {a b : List GDecision} (hl : a.length ≤ 9223372036854775807) {n : Nat} (hn : a.length < n) : q01j n a b = some (decide (a = b)) := by
  unfold q01j
  by_cases h : a.length = b.length
  · have e : ((a.length : Int) != (b.length : Int)) = false := by simp [h]
    have := SameDecisions_L hl h n 0 (by omega) (by omega)
    rw [e, cond_false]
    simpa using this
  · have e : ((a.length : Int) != (b.length : Int)) = true := by simp; omega
    have : ¬ a = b := fun e => h (by rw [e])
    simp [e, this]
end Go.Proofs
end
section
namespace Go.Proofs
open Go Go.Rx Go.Vx Go.Sort
set_option linter.unusedVariables false
set_option linter.unusedSimpArgs false
structure Inv (R : List GDeriv) (k : Nat) (s : GSession) : Prop where
  rd : s.Readings = R
  len : s.Decisions.length ≤ k
  some : rem R s.Decisions ≠ []
  one : s.State = 1 → (rem R s.Decisions).length = 1
end Go.Proofs
end
section
namespace Go.Proofs
open Go Go.Rx Go.Vx Go.Sort
set_option linter.unusedVariables false
set_option linter.unusedSimpArgs false
instance : DecidableEq GDeriv := fun x y => decidable_of_iff (ccD x y = 0) ccD_zero
theorem Light_L {l : List GDeriv} (hl : l.length ≤ 9223372036854775807) {n : Nat} (hn : ∀ d ∈ l, okG d ∧ SizeOf.sizeOf d ≤ n) : ∀ (m i : Nat) (z : Int), l.length - i < m → i ≤ l.length → 0 ≤ z → z ≤ 200 → ∃ b, q02w l 50 n m z i = some b ∧ (b = true → z + nodesL (l.drop i) ≤ 50)
  | 0, i, z, hm, _, _, _ => by omega
  | m + 1, i, z, hm, hi, h0, h1 => by
    unfold q02w
    by_cases hlt : i < l.length
    · obtain ⟨x, hx, hxm⟩ := get_of hlt
      rw [dlt hlt, cond_true, bindO_s]
      by_cases hz : z ≤ 50
      · obtain ⟨hok, hs⟩ := hn x hxm
        obtain ⟨c, k1, k2, k3, k4⟩ := Nodes_ok _ x (Nat.lt_succ_self _) hok n hs 51 (by omega) (by omega)
        have w : IntKind.i64.wrap ((50 : Int) + 1) = 51 := by rw [wr (by omega) (by omega)]; rfl
        simp only [hz, decide_true, cond_true, idxO_nat, hx, bindO_s, w, k1, wr (show -9223372036854775808 ≤ z + c by omega) (by omega), wr1 hlt hl]
        obtain ⟨b, q1, q2⟩ := Light_L hl hn m (i + 1) (z + c) (by omega) (by omega) (by omega) (by omega)
        refine ⟨b, q1, fun hb => ?_⟩
        have := q2 hb
        rw [nodesL_drop hx]
        have hc : c < 51 := by omega
        have := k4 hc
        omega
      · simp only [hz, decide_false, cond_false, q03r]
        exact ⟨false, rfl, fun h => by cases h⟩
    · simp only [dnlt hlt, cond_false, bindO_s, q03r, drop_nil' hlt, nodesL]
      exact ⟨_, rfl, fun h => by simp at h; simp; exact h⟩
theorem light_ok {l : List GDeriv} (hl : l.length ≤ 9223372036854775807) {n : Nat} (hn : ∀ d ∈ l, okG d ∧ SizeOf.sizeOf d + 1001 ≤ n) (hn1 : 1001 ≤ n) (hll : l.length < n) : ∃ b, law46_light n l = some b ∧ (b = true → Lt l n ∧ l.length ≤ 5) := by
  unfold law46_light
  by_cases h6 : (l.length : Int) ≤ 5
  · obtain ⟨b, h1, h2⟩ := Light_L hl (n := n) (fun d hd => ⟨(hn d hd).1, by have := (hn d hd).2; omega⟩) n 0 0 (by omega) (by omega) (by omega) (by omega)
    rw [Int.ofNat_zero] at h1
    simp only [h6, decide_true, cond_true, ref37_Light, h1, bindO_s]
    refine ⟨b, rfl, fun h => ?_⟩
    have := h2 h
    simp at this
    exact ⟨⟨by omega, by omega, fun d hd => (hn d hd).1, fun d hd => (hn d hd).2, hn1⟩, by omega⟩
  · simp only [h6, decide_false, cond_false, bindO_s]
    exact ⟨false, rfl, fun h => by cases h⟩
def nxtD (c : GDeriv) : List GDeriv → List GDeriv
  | [] => []
  | y :: l => if y = c then nxtD y l else y :: nxtD y l
theorem ccD_eq0 (x y : GDeriv) (h : ccD x y = 0) : x = y := ccD_zero.1 h
theorem dedup_nxtD : ∀ (l : List GDeriv) (x : GDeriv), dedup ccD (x :: l) = x :: nxtD x l
  | [], x => by simp [dedup, nxtD]
  | y :: l, x => by
    simp only [dedup, nxtD, dedup_nxtD l y]
    by_cases h : y = x
    · subst h
      simp [cmpD_ok.self y]
    · have : ¬ ccD x y = 0 := fun e => h (ccD_zero.1 e).symm
      simp [h, this]
theorem compactD_L2 {p : List GDeriv} (hp : p.length ≤ 1000) {f : GDeriv → GDeriv → Option Bool} (hf : ∀ a ∈ p, ∀ b ∈ p, f a b = some (decide (a = b))) {k0 : Nat} (hk0 : k0 ≤ p.length) : ∀ (m k j : Nat) (L : List GDeriv) (c : GDeriv), p.length - (k0 + j) < m → 1 ≤ j → k0 + j ≤ p.length → k + 1 ≤ k0 + j → L.length = p.length → L.drop (k0 + j - 1) = p.drop (k0 + j - 1) → p[k0 + j - 1]? = some c →
    q000 p f k0 m k j L = some (L.take k ++ nxtD c (p.drop (k0 + j)))
  | 0, k, j, L, c, hm, _, _, _, _, _, _ => by omega
  | m + 1, k, j, L, c, hm, hj, hjl, hk, hL, hd, hc => by
    have hcm := List.mem_of_getElem? hc
    have get : ∀ q, k0 + j - 1 ≤ q → L[q]? = p[q]? := fun q hq => by
      have := congrArg (fun l : List GDeriv => l[q - (k0 + j - 1)]?) hd
      simpa [List.getElem?_drop, show k0 + j - 1 + (q - (k0 + j - 1)) = q by omega] using this
    unfold q000
    by_cases hlt : k0 + j < p.length
    · obtain ⟨x, hx, hxm⟩ := get_of hlt
      have e1 : decide ((j : Int) < (((p.length - (k0 : Int).toNat) : Nat) : Int)) = true := by simp; omega
      have i1 : idxV L (0 + (k0 : Int).toNat) (p.length - (k0 : Int).toNat) (j : Int) = some x := by
        unfold idxV
        rw [if_pos ⟨by omega, by simp; omega⟩]
        simp only [Int.toNat_natCast, Nat.zero_add]
        rw [get (k0 + j) (by omega), hx]
      have i2 : idxV L (0 + (k0 : Int).toNat) (p.length - (k0 : Int).toNat) (IntKind.i64.wrap ((j : Int) - 1)) = some c := by
        rw [wr (by omega) (by omega)]
        unfold idxV
        rw [if_pos ⟨by omega, by simp; omega⟩]
        simp only [Int.toNat_natCast, Nat.zero_add]
        rw [show k0 + ((j : Int) - 1).toNat = k0 + j - 1 by omega, get _ (by omega), hc]
      obtain ⟨w, hw, _⟩ := get_of (show k < L.length by omega)
      have wj : IntKind.i64.wrap ((j : Int) + 1) = ((j + 1 : Nat) : Int) := wrn (by simp) (by omega)
      have wk : IntKind.i64.wrap ((k : Int) + 1) = ((k + 1 : Nat) : Int) := wrn (by simp) (by omega)
      simp only [e1, cond_true, i1, i2, bindO_s, idxO_nat, hw, hf x hxm c hcm, q00a, wj, wk, drop_cons' hx, nxtD]
      by_cases hxc : x = c
      · simp only [hxc, decide_true, Bool.not_true, cond_false, if_true]
        have := compactD_L2 hp hf hk0 m k (j + 1) L x (by omega) (by omega) (by omega) (by omega) hL (by
          have := congrArg (List.drop 1) hd
          simpa [List.drop_drop, show k0 + j - 1 + 1 = k0 + j by omega, show k0 + (j + 1) - 1 = k0 + j by omega] using this) (by simpa using hx)
        rw [this, hxc]; rfl
      · simp only [hxc, decide_false, Bool.not_false, cond_true, if_false]
        have := compactD_L2 hp hf hk0 m (k + 1) (j + 1) (L.set (0 + (k : Int).toNat) x) x (by omega) (by omega) (by omega) (by omega) (by simpa using hL) (by
          have h1 := congrArg (List.drop 1) hd
          simp only [List.drop_drop, show k0 + j - 1 + 1 = k0 + j by omega] at h1
          rw [show k0 + (j + 1) - 1 = k0 + j by omega, ← h1]
          rw [List.drop_set]
          simp; omega) (by simpa using hx)
        rw [this]
        have ht : (L.set (0 + (k : Int).toNat) x).take (k + 1) = L.take k ++ [x] := by
          rw [Nat.zero_add, Int.toNat_natCast, List.take_add_one, List.take_set_of_le (Nat.le_refl _)]
          congr 1
          rw [List.getElem?_set]
          simp; omega
        rw [ht, List.append_assoc]; rfl
    · have hpos : k0 + j = p.length := by omega
      have e1 : decide ((j : Int) < (((p.length - (k0 : Int).toNat) : Nat) : Int)) = false := by simp; omega
      have hlen : (clrV L (0 + (k : Int).toNat) (L.length - (k : Int).toNat) (GDeriv.mk 0 [] 0 0 [])).length = L.length := clrV_len (by simp; omega)
      simp only [e1, cond_false, q00u, hlen]
      rw [needO_of ⟨by omega, by omega⟩, needO_of (by simp; omega), needO_of ⟨by omega, by omega⟩, needO_of (by simp; omega), drop_nil' (by omega), nxtD, List.append_nil]
      congr 1
      simp only [Int.toNat_natCast, Nat.zero_add, clrV]
      rw [List.take_append_of_le_length (by simp; omega), List.take_take, Nat.min_self]
theorem compactD_L1 {p : List GDeriv} (hp : p.length ≤ 1000) {f : GDeriv → GDeriv → Option Bool} (hf : ∀ a ∈ p, ∀ b ∈ p, f a b = some (decide (a = b))) {n : Nat} (hn : p.length < n) : ∀ (m k : Nat) (c : GDeriv), p.length - k < m → 1 ≤ k → k ≤ p.length → p[k - 1]? = some c →
    q004 p f n m k = some (p.take k ++ nxtD c (p.drop k))
  | 0, k, c, hm, _, _, _ => by omega
  | m + 1, k, c, hm, hk1, hk, hc => by
    have hcm := List.mem_of_getElem? hc
    unfold q004
    by_cases hlt : k < p.length
    · obtain ⟨x, hx, hxm⟩ := get_of hlt
      have i2 : idxO p (IntKind.i64.wrap ((k : Int) - 1)) = some c := by
        rw [wrn (k := k - 1) (by omega) (by omega), idxO_nat, hc]
      simp only [dlt hlt, cond_true, idxO_nat, hx, bindO_s, i2, hf x hxm c hcm, wr1 hlt (show p.length ≤ 9223372036854775807 by omega)]
      by_cases hxc : x = c
      · simp only [hxc, decide_true, cond_true]
        rw [needO_of ⟨by omega, by omega⟩]
        have := compactD_L2 hp hf (k0 := k) (by omega) n k 1 p x (by omega) (by omega) (by omega) (by omega) rfl rfl (by simpa using hx)
        rw [show ((1 : Nat) : Int) = 1 from rfl] at this
        rw [this, drop_cons' hx, nxtD, if_pos hxc]
      · simp only [hxc, decide_false, cond_false]
        rw [compactD_L1 hp hf hn m (k + 1) x (by omega) (by omega) (by omega) (by simpa using hx), drop_cons' hx, nxtD, if_neg hxc, take_snoc hx, List.append_assoc]
        rfl
    · simp only [dnlt hlt, cond_false, q00t, drop_nil' hlt, nxtD, List.append_nil]
      rw [List.take_of_length_le (by omega)]
theorem compactD_ok {p : List GDeriv} (hp : p.length ≤ 1000) {f : GDeriv → GDeriv → Option Bool} (hf : ∀ a ∈ p, ∀ b ∈ p, f a b = some (decide (a = b))) {n : Nat} (hn : p.length < n) : q007 f n p = some (dedup ccD p) := by
  unfold q007
  match p, hp, hn, hf with
  | [], _, _, _ => simp [dedup]
  | [x], _, _, _ => simp [dedup]
  | x :: y :: l, hp, hn, hf =>
    have e : decide (((x :: y :: l).length : Int) < 2) = false := by simp; omega
    rw [e, cond_false]
    have := compactD_L1 hp hf hn n 1 x (by omega) (by omega) (by simp) (by simp)
    rw [show ((1 : Nat) : Int) = 1 from rfl] at this
    rw [this, dedup_nxtD]; simp
theorem new1_ok {n : Nat} {a : GDeriv} (ha : okG a) (hn : SizeOf.sizeOf a + 10 ≤ n) (b : GDeriv) : q031 n a b = some (decide (a = b)) := by
  simp only [q031, derivCmp_ok n a b hn ha, bindO_s]
  congr 1
  rw [Bool.eq_iff_iff, beq_iff_eq, decide_eq_true_eq, ccD_zero]
def rds (l : List GDeriv) : List GDeriv := dedup ccD (srtD l)
def newP (l : List GDeriv) : GSession × Int := if l = [] then (⟨[], [], 0⟩, 1) else (⟨rds l, [], 0⟩, 0)
theorem srtD_mem {l : List GDeriv} {x : GDeriv} : x ∈ srtD l ↔ x ∈ l := (srt_perm (ltOf ccD) l).mem_iff
theorem rds_mem {l : List GDeriv} {x : GDeriv} : x ∈ rds l ↔ x ∈ l := by unfold rds; rw [dedup_mem ccD_eq0, srtD_mem]
theorem rds_up (l : List GDeriv) : Up ccD (rds l) := dedup_up cmpD_ok ccD_eq0 (srt_le cmpD_ok _)
theorem dedup_sub {α : Type} {c : α → α → Int} : ∀ l : List α, (dedup c l).Sublist l
  | [] => by simp [dedup]
  | [x] => by simp [dedup]
  | x :: y :: l => by
    simp only [dedup]
    split
    · exact (dedup_sub (y :: l)).cons _
    · exact (dedup_sub (y :: l)).cons_cons _
theorem nodesL_perm {a b : List GDeriv} (h : a.Perm b) : nodesL a = nodesL b := by
  induction h with
  | nil => rfl
  | cons x _ ih => simp only [nodesL, ih]
  | swap x y l => simp only [nodesL]; omega
  | trans _ _ h1 h2 => rw [h1, h2]
theorem nodesL_sub {a b : List GDeriv} (h : a.Sublist b) : nodesL a ≤ nodesL b := by
  induction h with
  | slnil => exact Nat.le_refl _
  | cons x _ ih => simp only [nodesL]; omega
  | cons_cons x _ ih => simp only [nodesL]; omega
theorem rds_len (l : List GDeriv) : (rds l).length ≤ l.length := by
  have h1 := (dedup_sub (c := ccD) (srtD l)).length_le
  rw [srtD_len] at h1
  exact h1
theorem rds_sum (l : List GDeriv) : nodesL (rds l) ≤ nodesL l := by
  have h1 := nodesL_sub (dedup_sub (c := ccD) (srtD l))
  rw [show nodesL (srtD l) = nodesL l from nodesL_perm (srt_perm (ltOf ccD) l)] at h1
  exact h1
theorem Lt.rds {l : List GDeriv} {n : Nat} (h : Lt l n) : Lt (rds l) n := ⟨by have := rds_len l; have := h.len; omega, by have := rds_sum l; have := h.sum; omega, fun d hd => h.ok d (rds_mem.1 hd), fun d hd => h.fuel d (rds_mem.1 hd), h.n1⟩
theorem okGs_of : ∀ {l : List GDeriv}, (∀ d ∈ l, okG d) → okGs l
  | [], _ => by simp [okGs]
  | d :: l, h => by simp only [okGs]; exact ⟨h d (by simp), okGs_of fun e he => h e (by simp [he])⟩
theorem cloneD_ok {l : List GDeriv} (hl : l.length ≤ 1000) (n : Nat) : q023 n l = some l := by
  unfold q023
  cases l with
  | nil => simp [bothL, needO]
  | cons a l => simp only [bothL, cond_false]; rw [needO_of ⟨by omega, by omega⟩]
theorem New_ok {l : List GDeriv} {n : Nat} (hL : Lt l n) : q026 n l = some (newP l) := by
  have h1 := hL.n1
  have h6 := hL.len
  unfold q026 newP
  rw [len0]
  by_cases h : l = []
  · simp [h]
  · have : ¬ l.length = 0 := fun e => h (List.length_eq_zero_iff.1 e)
    rw [decide_eq_false this, cond_false, if_neg h, cloneD_ok (by omega), bindO_s, needO_of ⟨by omega, (okBs_iff l).2 (okGs_of hL.ok)⟩, compactD_ok (by rw [srtD_len]; omega) (fun a ha b _ => new1_ok (hL.ok a (srtD_mem.1 ha)) (by have := hL.fuel a (srtD_mem.1 ha); omega) b) (by rw [srtD_len]; omega), bindO_s]
    rfl
theorem ints_ok (n : Nat) (a b : Int) : ref28_ints n a b = some (cmpI a b) := by
  unfold ref28_ints cmpI
  by_cases h1 : a < b
  · simp [h1]
  · by_cases h2 : b < a
    · simp [h1, h2]
    · have : ¬ a > b := h2
      simp [h1, h2, this]
theorem cmpI_ne {a b : Int} (h : ¬ a = b) : cmpI a b ≠ 0 := fun e => h (cmpI_zero.1 e)
theorem lexL_nil {xs ys : List GDeriv} : ∀ i, i ≤ xs.length → i ≤ ys.length → ¬ (i < xs.length ∧ i < ys.length) → cmpI (xs.length : Int) (ys.length : Int) = lexL ccD (xs.drop i) (ys.drop i) := fun i h1 h2 h => by
  by_cases hx : i < xs.length
  · have hy : ¬ i < ys.length := fun hy => h ⟨hx, hy⟩
    obtain ⟨x, e, _⟩ := get_of hx
    rw [drop_cons' e, drop_nil' hy, lexL, cmpI, if_neg (by omega), if_pos (by omega)]
  · by_cases hy : i < ys.length
    · obtain ⟨y, e, _⟩ := get_of hy
      rw [drop_nil' hx, drop_cons' e, lexL, cmpI, if_pos (by omega)]
    · rw [drop_nil' hx, drop_nil' hy, lexL, cmpI, if_neg (by omega), if_neg (by omega)]
theorem rcmp_L {x y : GDeriv} {n : Nat} (hl : x.Kids.length ≤ 9223372036854775807) {self : GDeriv → GDeriv → Option Int} (hs : ∀ a ∈ x.Kids, ∀ b, self a b = some (ccD a b)) : ∀ (m i : Nat), x.Kids.length - i < m → i ≤ x.Kids.length → i ≤ y.Kids.length →
    q01y x y n self m i = some (lexL ccD (x.Kids.drop i) (y.Kids.drop i))
  | 0, i, hm, _, _ => by omega
  | m + 1, i, hm, hi, hj => by
    unfold q01y
    by_cases hlt : i < x.Kids.length
    · by_cases hlt2 : i < y.Kids.length
      · obtain ⟨a, ha, ham⟩ := get_of hlt
        obtain ⟨b, hb, _⟩ := get_of hlt2
        simp only [dlt hlt, dlt hlt2, cond_true, bindO_s, idxO_nat, ha, hb, hs a ham b, wr1 hlt hl, drop_cons' ha, drop_cons' hb, lexL]
        by_cases e : ccD a b = 0
        · simp only [e, bne_self_eq_false, cond_false, ne_eq, not_true, if_false]
          exact rcmp_L hl hs m (i + 1) (by omega) (by omega) (by omega)
        · have : (ccD a b != 0) = true := by simpa using e
          simp only [this, cond_true, ne_eq, e, not_false_eq_true, if_true]
      · simp only [dlt hlt, dnlt hlt2, cond_true, cond_false, bindO_s, q02q, ints_ok, lexL_nil i hi hj (fun h => hlt2 h.2)]
    · simp only [dnlt hlt, cond_false, bindO_s, q02q, ints_ok, lexL_nil i hi hj (fun h => hlt h.1)]
theorem refCmp_ok : ∀ (n : Nat) (x y : GDeriv), SizeOf.sizeOf x + 10 ≤ n → okG x → q01g n x y = some (ccD x y)
  | 0, x, y, h, _ => by omega
  | n + 1, x, y, h, hok => by
    have hkl := kids_lt x
    have hk := rcmp_L (x := x) (y := y) (n := n) (okG_len hok) (self := q01g n) (fun a ha b => refCmp_ok n a b (by have := kid_lt x ha; omega) (okG_kid hok ha)) n 0 (by omega) (by omega) (by omega)
    rw [Int.ofNat_zero, List.drop_zero, List.drop_zero] at hk
    simp only [q01g, q051, ints_ok, bindO_s, hk]
    rw [ccD_eq]
    simp only [hdD, lexC]
    by_cases e1 : x.From = y.From
    · have b1 : (x.From != y.From) = false := by simp [e1]
      have c1 : cmpI x.From y.From = 0 := cmpI_zero.2 e1
      rw [b1, cond_false]
      simp only [c1, ne_eq, not_true, if_false]
      by_cases e2 : x.To = y.To
      · have b2 : (x.To != y.To) = false := by simp [e2]
        have c2 : cmpI x.To y.To = 0 := cmpI_zero.2 e2
        rw [b2, cond_false]
        simp only [c2, ne_eq, not_true, if_false]
        by_cases e3 : x.Kind = y.Kind
        · have b3 : (x.Kind != y.Kind) = false := by simp [e3]
          have c3 : cmpI x.Kind y.Kind = 0 := cmpI_zero.2 e3
          rw [b3, cond_false]
          simp only [c3, ne_eq, not_true, if_false]
          by_cases e4 : x.Name = y.Name
          · have b4 : (!bytesEq x.Name y.Name) = false := by rw [(bytesEq_iff _ _).2 e4]; rfl
            have c4 : cmpS x.Name y.Name = 0 := cmpS_zero.2 e4
            rw [b4, cond_false]
            simp only [c4, not_true, if_false]
          · have b4 : (!bytesEq x.Name y.Name) = true := by
              cases hb : bytesEq x.Name y.Name with
              | false => rfl
              | true => exact absurd ((bytesEq_iff _ _).1 hb) e4
            have c4 : cmpS x.Name y.Name ≠ 0 := fun e => e4 (cmpS_zero.1 e)
            rw [b4, cond_true, if_pos c4]
            unfold cmpS
            cases hb : bytesLt x.Name y.Name with
            | true => simp
            | false =>
              cases hb2 : bytesLt y.Name x.Name with
              | true => simp
              | false => exact absurd (q04a _ _ hb hb2) e4
        · have b3 : (x.Kind != y.Kind) = true := by simpa using e3
          rw [b3, cond_true]
          simp [cmpI_ne e3]
      · have b2 : (x.To != y.To) = true := by simpa using e2
        rw [b2, cond_true]
        simp [cmpI_ne e2]
    · have b1 : (x.From != y.From) = true := by simpa using e1
      rw [b1, cond_true]
      simp [cmpI_ne e1]
theorem rnew_done {p : List GDeriv} {n i : Nat} {x : GDeriv} (hx : p[i]? = some x) (hok : okG x) (hf : SizeOf.sizeOf x + 10 ≤ n) {l : List GDeriv} (hl : l.length ≤ 1000) {rc : Int → List GDeriv → Option (GSession × Int)} : ∀ (m k : Nat) (a : List GDeriv), l.length - k < m → k ≤ l.length → a.length + (l.length - k) ≤ 2000 →
    q01k p n i l rc m true k a = rc (IntKind.i64.wrap ((i : Int) + 1)) (a ++ l.drop k)
  | 0, k, a, hm, _, _ => by omega
  | m + 1, k, a, hm, hk, ha => by
    unfold q01k
    by_cases hlt : k < l.length
    · obtain ⟨y, hy, _⟩ := get_of hlt
      simp only [dlt hlt, cond_true, idxO_nat, hx, hy, bindO_s, refCmp_ok n x y hf hok, Bool.not_true, cond_false, q03u, wr1 hlt (show l.length ≤ 9223372036854775807 by omega)]
      rw [needO_of ⟨by omega, by omega⟩, rnew_done hx hok hf hl m (k + 1) (a ++ [y]) (by omega) (by omega) (by simp; omega), drop_cons' hy, List.append_assoc]
      rfl
    · simp only [dnlt hlt, cond_false, q04k, Bool.not_true, q03x, drop_nil' hlt, List.append_nil]
theorem rnew_L2 {p : List GDeriv} {n i : Nat} {x : GDeriv} (hx : p[i]? = some x) (hok : okG x) (hf : SizeOf.sizeOf x + 10 ≤ n) {l : List GDeriv} (hl : l.length ≤ 1000) {rc : Int → List GDeriv → Option (GSession × Int)} : ∀ (m k : Nat) (a : List GDeriv), l.length - k < m → k ≤ l.length → a.length + (l.length - k) ≤ 1000 →
    q01k p n i l rc m false k a = rc (IntKind.i64.wrap ((i : Int) + 1)) (a ++ insU ccD x (l.drop k))
  | 0, k, a, hm, _, _ => by omega
  | m + 1, k, a, hm, hk, ha => by
    unfold q01k
    by_cases hlt : k < l.length
    · obtain ⟨y, hy, _⟩ := get_of hlt
      simp only [dlt hlt, cond_true, idxO_nat, hx, hy, bindO_s, refCmp_ok n x y hf hok, Bool.not_false, q03u, q04m, wr1 hlt (show l.length ≤ 9223372036854775807 by omega), drop_cons' hy, insU]
      by_cases h1 : ccD x y < 0
      · have h2 : ccD x y ≤ 0 := by omega
        simp only [h1, h2, decide_true, cond_true, if_true]
        rw [needO_of ⟨by omega, by omega⟩, needO_of (by simp; omega), rnew_done hx hok hf hl m (k + 1) _ (by omega) (by omega) (by simp; omega)]
        simp
      · by_cases h2 : ccD x y = 0
        · have h3 : ccD x y ≤ 0 := by omega
          simp only [h1, h2, h3, decide_true, decide_false, cond_true, cond_false, if_true, if_false, Int.lt_irrefl, Int.le_refl]
          rw [needO_of ⟨by omega, by omega⟩, rnew_done hx hok hf hl m (k + 1) _ (by omega) (by omega) (by simp; omega)]
          simp
        · have h3 : ¬ ccD x y ≤ 0 := by omega
          simp only [h1, h2, h3, decide_false, cond_false, if_false]
          rw [needO_of ⟨by omega, by omega⟩, rnew_L2 hx hok hf hl m (k + 1) _ (by omega) (by omega) (by simp; omega)]
          simp
    · simp only [dnlt hlt, cond_false, q04k, Bool.not_false, cond_true, idxO_nat, hx, bindO_s, q03x, drop_nil' hlt, insU]
      rw [needO_of ⟨by omega, by omega⟩]
def addD (l ps : List GDeriv) : List GDeriv := ps.foldl (fun a p => insU ccD p a) l
theorem addD_up : ∀ (ps : List GDeriv) {l : List GDeriv}, Up ccD l → Up ccD (addD l ps)
  | [], l, h => h
  | p :: ps, l, h => addD_up ps (insU_up cmpD_ok ccD_eq0 p h)
theorem addD_mem : ∀ (ps l : List GDeriv) (x : GDeriv), x ∈ addD l ps ↔ x ∈ l ∨ x ∈ ps
  | [], l, x => by simp [addD]
  | p :: ps, l, x => by
    have := addD_mem ps (insU ccD p l) x
    simp only [addD, List.foldl_cons] at this ⊢
    rw [this, insU_mem ccD_eq0]
    simp only [List.mem_cons]
    constructor
    · rintro ((h | h) | h) <;> simp [h]
    · rintro (h | h | h) <;> simp [h]
theorem rnew_L1 {p : List GDeriv} {n : Nat} (hL : Lt p n) : ∀ (m i : Nat) (a : List GDeriv), p.length - i < m → i ≤ p.length → a.length ≤ i → q01l p n m i a = some (⟨addD a (p.drop i), [], 0⟩, 0)
  | 0, i, a, hm, _, _ => by omega
  | m + 1, i, a, hm, hi, ha => by
    have h1 := hL.n1
    have h6 := hL.len
    unfold q01l
    by_cases hlt : i < p.length
    · obtain ⟨x, hx, hxm⟩ := get_of hlt
      have h2 := rnew_L2 hx (hL.ok x hxm) (n := n) (by have := hL.fuel x hxm; omega) (l := a) (by omega) (rc := q01l p n m) n 0 [] (by omega) (by omega) (by simp; omega)
      have hil := insU_len (c := ccD) x a
      rw [Int.ofNat_zero] at h2
      rw [dlt hlt, cond_true, h2, List.nil_append, List.drop_zero, wr1 hlt (show p.length ≤ 9223372036854775807 by omega), rnew_L1 hL m (i + 1) (insU ccD x a) (by omega) (by omega) (by omega), drop_cons' hx]
      rfl
    · simp only [dnlt hlt, cond_false, ref46_New_K1, drop_nil' hlt]; rfl
theorem refNew_ok {l : List GDeriv} {n : Nat} (hL : Lt l n) : ref46_New n l = some (newP l) := by
  have h1 := hL.n1
  have h6 := hL.len
  unfold ref46_New newP
  rw [len0]
  by_cases h : l = []
  · simp [h]
  · have h0 : ¬ l.length = 0 := fun e => h (List.length_eq_zero_iff.1 e)
    have h2 := rnew_L1 hL n 0 [] (by omega) (by omega) (by simp)
    rw [Int.ofNat_zero, List.drop_zero] at h2
    have e : addD [] l = rds l := Up.ext cmpD_ok ccD_eq0 (addD_up l (by simp [Up])) (rds_up l) fun x => by rw [addD_mem, rds_mem]; simp
    rw [decide_eq_false h0, cond_false, if_neg h, h2, e]
theorem Derivs_L {a : List GDeriv} {n : Nat} (hL : Lt a n) : ∀ (m i : Nat), a.length - i < m → i ≤ a.length → q02h a a n m i = some true
  | 0, i, hm, _ => by omega
  | m + 1, i, hm, hi => by
    have h6 := hL.len
    unfold q02h
    by_cases hlt : i < a.length
    · obtain ⟨x, hx, hxm⟩ := get_of hlt
      simp only [dlt hlt, cond_true, idxO_nat, hx, bindO_s, refCmp_ok n x x (by have := hL.fuel x hxm; omega) (hL.ok x hxm), cmpD_ok.self x, bne_self_eq_false, cond_false, wr1 hlt (show a.length ≤ 9223372036854775807 by omega)]
      exact Derivs_L hL m (i + 1) (by omega) (by omega)
    · simp only [dnlt hlt, cond_false, q048]
theorem Same_ok {s : GSession} {n : Nat} (hL : Lt s.Readings n) (hd : s.Decisions.length ≤ 900) : ref46_Same n s s = some true := by
  have h1 := hL.n1
  have h6 := hL.len
  have h2 := Derivs_L hL n 0 (by omega) (by omega)
  rw [Int.ofNat_zero] at h2
  simp only [ref46_Same, beq_self_eq_true, cond_true, SameDecisions_ok (a := s.Decisions) (b := s.Decisions) (by omega) (n := n) (by omega), decide_true, bindO_s, q04l, bne_self_eq_false, cond_false, h2]
end Go.Proofs
end
section
namespace Go.Proofs
open Go Go.Rx Go.Vx Go.Sort
set_option linter.unusedVariables false
set_option linter.unusedSimpArgs false
theorem ex_ok (m : Nat) : q01b (m + 60) = some true := by kernel_rfl
theorem ex_n {n : Nat} (h : 60 ≤ n) : q01b n = some true := by
  obtain ⟨m, rfl⟩ : ∃ m, n = m + 60 := ⟨n - 60, by omega⟩
  exact ex_ok m
theorem newP_rd (l : List GDeriv) : (newP l).1.Readings = rds l ∨ (newP l).1.Readings = [] := by
  unfold newP; split
  · exact .inr rfl
  · exact .inl rfl
theorem Lt.new {l : List GDeriv} {n : Nat} (h : Lt l n) : Lt (newP l).1.Readings n := by
  rcases newP_rd l with e | e
  · rw [e]; exact h.rds
  · rw [e]; exact ⟨by simp, by simp [nodesL], (fun d hd => by cases hd), (fun d hd => by cases hd), h.n1⟩
theorem newP_len (l : List GDeriv) : (newP l).1.Decisions = [] := by unfold newP; split <;> rfl
theorem sz_of {l : List GDeriv} (hok : okGs l) {n : Nat} (hn : SizeOf.sizeOf l + 1001 ≤ n) : ∀ d ∈ l, okG d ∧ SizeOf.sizeOf d + 1001 ≤ n := fun d hd => ⟨okGs_mem hok d hd, by have := List.sizeOf_lt_of_mem hd; omega⟩
theorem new_law {l : List GDeriv} (hl : l.length ≤ 9223372036854775807) (hok : okGs l) {n : Nat} (hn : SizeOf.sizeOf l + 1001 ≤ n) : q03d n l = some true := by
  have hll := len_lt_sizeOf l
  obtain ⟨b, h1, h2⟩ := light_ok hl (sz_of hok hn) (by omega) (by omega)
  simp only [q03d, h1, bindO_s, ex_n (show 60 ≤ n by omega)]
  cases b with
  | false => simp
  | true =>
    obtain ⟨hL, h5⟩ := h2 rfl
    simp only [Bool.not_true, cond_false, New_ok hL, refNew_ok hL, bindO_s, beq_self_eq_true, cond_true]
    have hs := Same_ok (s := (newP l).1) hL.new (by rw [newP_len]; simp)
    rw [hs]; rfl
theorem Inv.lt {l : List GDeriv} {n k : Nat} {s : GSession} (h : Inv (rds l) k s) (hL : Lt l n) : Lt s.Readings n := by rw [h.rd]; exact hL.rds
end Go.Proofs
end
