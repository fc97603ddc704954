/-
  Texts of the walk: D5.
-/
import Derived.Test.YtpckiabjgmbnfaaP16
section
namespace Go.Proofs
open Go Go.Rx Go.Vx Go.Sort
set_option linter.unusedVariables false
set_option linter.unusedSimpArgs false
theorem ex_ok (m : Nat) : law45_exampleHolds (m + 40) = some true := by kernel_rfl
theorem ex_n {n : Nat} (h : 40 ≤ n) : law45_exampleHolds n = some true := by
  obtain ⟨m, rfl⟩ : ∃ m, n = m + 40 := ⟨n - 40, by omega⟩
  exact ex_ok m
theorem kid_lt (d : GDeriv) {x : GDeriv} (h : x ∈ d.Kids) : SizeOf.sizeOf x < SizeOf.sizeOf d := by
  cases d with
  | mk a b c e ks =>
    have := List.sizeOf_lt_of_mem h
    simp only [GDeriv.Kids] at this
    simp only [GDeriv.mk.sizeOf_spec]
    omega
theorem kids_lt (d : GDeriv) : d.Kids.length + 1 < SizeOf.sizeOf d := by
  cases d with
  | mk a b c e ks =>
    have := len_lt_sizeOf ks
    simp only [GDeriv.Kids, GDeriv.mk.sizeOf_spec]
    omega
mutual
def okG : GDeriv → Prop
  | .mk _ _ _ _ ks => ks.length ≤ 9223372036854775807 ∧ okGs ks
def okGs : List GDeriv → Prop
  | [] => True
  | d :: l => okG d ∧ okGs l
end
theorem okGs_mem : ∀ {l : List GDeriv}, okGs l → ∀ d ∈ l, okG d
  | [], _, d, h => by cases h
  | e :: l, h, d, hd => by
    simp only [okGs] at h
    rcases List.mem_cons.1 hd with rfl | hd
    · exact h.1
    · exact okGs_mem h.2 d hd
theorem okG_len {d : GDeriv} (h : okG d) : d.Kids.length ≤ 9223372036854775807 := by cases d; simp only [okG] at h; exact h.1
theorem okG_kid {d : GDeriv} (h : okG d) {x : GDeriv} (hx : x ∈ d.Kids) : okG x := by cases d; simp only [okG] at h; exact okGs_mem h.2 x hx
mutual
def nodes : GDeriv → Nat
  | .mk _ _ _ _ ks => 1 + nodesL ks
def nodesL : List GDeriv → Nat
  | [] => 0
  | d :: l => nodes d + nodesL l
end
theorem nodes_eq (d : GDeriv) : nodes d = 1 + nodesL d.Kids := by cases d; simp [nodes, GDeriv.Kids]
theorem nodesL_drop {l : List GDeriv} {i : Nat} {x : GDeriv} (h : l[i]? = some x) : nodesL (l.drop i) = nodes x + nodesL (l.drop (i + 1)) := by rw [drop_cons' h]; simp [nodesL]
theorem Nodes_L {d : GDeriv} (hl : d.Kids.length ≤ 9223372036854775807) {most : Int} (h1 : 1 ≤ most) (h2 : most ≤ 61) {self : GDeriv → Int → Option Int}
    (hself : ∀ x ∈ d.Kids, ∀ q : Int, 1 ≤ q → q ≤ 61 → ∃ c, self x q = some c ∧ 1 ≤ c ∧ c ≤ q ∧ (c < q → c = nodes x)) : ∀ (m i : Nat) (z : Int), d.Kids.length - i < m → i ≤ d.Kids.length → 1 ≤ z → z ≤ most →
    ∃ c, ref37_Nodes_L1 d most self m z i = some c ∧ 1 ≤ c ∧ c ≤ most ∧ (c < most → c = z + nodesL (d.Kids.drop i))
  | 0, i, z, hm, _, _, _ => by omega
  | m + 1, i, z, hm, hi, hz1, hz2 => by
    unfold ref37_Nodes_L1
    by_cases hlt : i < d.Kids.length
    · obtain ⟨x, hx, hxm⟩ := get_of hlt
      rw [dlt hlt, cond_true, bindO_s]
      by_cases hz : z < most
      · obtain ⟨c, k1, k2, k3, k4⟩ := hself x hxm (most - z) (by omega) (by omega)
        simp only [hz, decide_true, cond_true, idxO_nat, hx, bindO_s, wr (show -9223372036854775808 ≤ most - z by omega) (by omega), k1, wr (show -9223372036854775808 ≤ z + c by omega) (by omega), wr1 hlt hl]
        obtain ⟨c', q1, q2, q3, q4⟩ := Nodes_L hl h1 h2 hself m (i + 1) (z + c) (by omega) (by omega) (by omega) (by omega)
        refine ⟨c', q1, q2, q3, fun h => ?_⟩
        have := q4 h
        rw [nodesL_drop hx]
        by_cases hc : c < most - z
        · have := k4 hc; omega
        · have : z + c = most := by omega
          omega
      · simp only [hz, decide_false, cond_false, ref37_Nodes_K1]
        exact ⟨z, rfl, hz1, hz2, fun h => by omega⟩
    · simp only [dnlt hlt, cond_false, bindO_s, ref37_Nodes_K1, drop_nil' hlt]
      exact ⟨z, rfl, hz1, hz2, fun _ => by simp [nodesL]⟩
theorem Nodes_ok : ∀ (s : Nat) (d : GDeriv), SizeOf.sizeOf d < s → okG d → ∀ n, SizeOf.sizeOf d ≤ n → ∀ most : Int, 1 ≤ most → most ≤ 61 → ∃ c, ref37_Nodes n d most = some c ∧ 1 ≤ c ∧ c ≤ most ∧ (c < most → c = nodes d)
  | 0, d, hs, _, _, _, _, _, _ => by omega
  | s + 1, d, hs, hok, n, hn, most, h1, h2 => by
    have hk := kids_lt d
    cases n with
    | zero => omega
    | succ n =>
      obtain ⟨c, q1, q2, q3, q4⟩ := Nodes_L (d := d) (okG_len hok) h1 h2 (self := ref37_Nodes n) (fun x hx q h1 h2 => by
        have := kid_lt d hx
        exact Nodes_ok s x (by omega) (okG_kid hok hx) n (by omega) q h1 h2) n 0 1 (by omega) (by omega) (by omega) h1
      rw [Int.ofNat_zero] at q1
      refine ⟨c, by simp only [ref37_Nodes, ref37_Nodes_b, q1], q2, q3, fun h => ?_⟩
      have := q4 h
      rw [nodes_eq]; simp at this; omega
def own (d : GDeriv) : List GProp := if d.Kind = 0 then [⟨0, d.Name, d.From, d.To⟩] else if d.Kind = 1 then [⟨1, d.Name, d.From, d.To⟩] else if d.Kind = 2 then [⟨2, d.Name, d.From, d.To⟩, ⟨3, [], d.From, d.To⟩] else []
mutual
def props : GDeriv → List GProp
  | .mk a b c e ks => own (.mk a b c e ks) ++ propsL ks
def propsL : List GDeriv → List GProp
  | [] => []
  | d :: l => props d ++ propsL l
end
theorem props_eq (d : GDeriv) : props d = own d ++ propsL d.Kids := by cases d; simp only [props]; rfl
theorem own_len (d : GDeriv) : (own d).length ≤ 2 := by unfold own; split; · simp
                                                        split; · simp
                                                        split <;> simp
mutual
theorem props_len : ∀ d : GDeriv, (props d).length ≤ 2 * nodes d
  | .mk a b c e ks => by
    have := propsL_len ks
    have := own_len (.mk a b c e ks)
    simp only [props, nodes, List.length_append]; omega
theorem propsL_len : ∀ l : List GDeriv, (propsL l).length ≤ 2 * nodesL l
  | [] => by simp [propsL, nodesL]
  | d :: l => by
    have := props_len d
    have := propsL_len l
    simp only [propsL, nodesL, List.length_append]; omega
end
theorem propsL_drop {l : List GDeriv} {i : Nat} {x : GDeriv} (h : l[i]? = some x) : propsL (l.drop i) = props x ++ propsL (l.drop (i + 1)) := by rw [drop_cons' h]; simp [propsL]
theorem kz {a b : Int} (h : a = b) : (a == b) = true := by simpa using h
theorem knz {a b : Int} (h : ¬ a = b) : (a == b) = false := by simpa using h
theorem collect_L {d : GDeriv} (hl : d.Kids.length ≤ 9223372036854775807) {self : List GProp → GDeriv → Option (List GProp)} (hself : ∀ x ∈ d.Kids, ∀ l, l.length + 2 * nodes x ≤ 1000 → self l x = some (l ++ props x)) :
    ∀ (m i : Nat) (l : List GProp), d.Kids.length - i < m → i ≤ d.Kids.length → l.length + 2 * nodesL (d.Kids.drop i) ≤ 1000 → disc_collect_L2 d self m i l = some (l ++ propsL (d.Kids.drop i))
  | 0, i, l, hm, _, _ => by omega
  | m + 1, i, l, hm, hi, hb => by
    unfold disc_collect_L2
    by_cases hlt : i < d.Kids.length
    · obtain ⟨x, hx, hxm⟩ := get_of hlt
      rw [nodesL_drop hx] at hb
      simp only [dlt hlt, cond_true, idxO_nat, hx, bindO_s, hself x hxm l (by omega), wr1 hlt hl]
      have := props_len x
      rw [collect_L hl hself m (i + 1) (l ++ props x) (by omega) (by omega) (by simp; omega), propsL_drop hx, List.append_assoc]
    · simp only [dnlt hlt, cond_false, disc_collect_K2, drop_nil' hlt, propsL, List.append_nil]
theorem collect_ok : ∀ (s : Nat) (d : GDeriv), SizeOf.sizeOf d < s → okG d → ∀ n, SizeOf.sizeOf d ≤ n → ∀ l, l.length + 2 * nodes d ≤ 1000 → disc_collect n l d = some (l ++ props d)
  | 0, d, hs, _, _, _, _, _ => by omega
  | s + 1, d, hs, hok, n, hn, l, hb => by
    have hk := kids_lt d
    have hnd := nodes_eq d
    cases n with
    | zero => omega
    | succ n =>
      have hL : ∀ l : List GProp, l.length + 2 * nodesL d.Kids ≤ 1000 → disc_collect_L2 d (disc_collect n) n 0 l = some (l ++ propsL d.Kids) := fun l hb => by
        have := collect_L (d := d) (okG_len hok) (self := disc_collect n) (fun x hx l hb => by
          have := kid_lt d hx
          exact collect_ok s x (by omega) (okG_kid hok hx) n (by omega) l hb) n 0 l (by omega) (by omega) (by simpa using hb)
        simpa using this
      simp only [disc_collect, disc_collect_b, disc_collect_J4, disc_collect_J3, disc_collect_J1]
      rw [props_eq, own]
      by_cases h0 : d.Kind = 0
      · rw [kz h0, cond_true, needO_of ⟨by omega, by omega⟩, hL _ (by simp; omega), if_pos h0, List.append_assoc]
      · rw [knz h0, cond_false, if_neg h0]
        by_cases h1 : d.Kind = 1
        · rw [kz h1, cond_true, needO_of ⟨by omega, by omega⟩, hL _ (by simp; omega), if_pos h1, List.append_assoc]
        · rw [knz h1, cond_false, if_neg h1]
          by_cases h2 : d.Kind = 2
          · rw [kz h2, cond_true, needO_of ⟨by omega, by omega⟩, hL _ (by simp; omega), if_pos h2, List.append_assoc]
          · rw [knz h2, cond_false, if_neg h2, hL _ (by omega)]; rfl
theorem eqP_iff (x y : GProp) : eqGProp x y = true ↔ x = y := by
  cases x; cases y
  simp only [eqGProp, Bool.and_eq_true, beq_iff_eq, bytesEq_iff, GProp.mk.injEq]
instance : DecidableEq GProp := fun x y => decidable_of_iff (eqGProp x y = true) (eqP_iff x y)
theorem eqP_dec (x y : GProp) : eqGProp x y = decide (x = y) := by rw [Bool.eq_iff_iff, eqP_iff]; simp
def nxt (c : GProp) : List GProp → List GProp
  | [] => []
  | y :: l => if y = c then nxt y l else y :: nxt y l
theorem dedup_nxt : ∀ (l : List GProp) (x : GProp), dedup ccP (x :: l) = x :: nxt x l
  | [], x => by simp [dedup, nxt]
  | y :: l, x => by
    simp only [dedup, nxt, dedup_nxt l y]
    by_cases h : y = x
    · subst h
      simp [cmpP_ok.self y]
    · have : ¬ ccP x y = 0 := fun e => h (ccP_zero.1 e).symm
      simp [h, this]
theorem compact_L2 {p : List GProp} (hp : p.length ≤ 1000) {k0 : Nat} (hk0 : k0 ≤ p.length) : ∀ (m k j : Nat) (L : List GProp) (c : GProp), p.length - (k0 + j) < m → 1 ≤ j → k0 + j ≤ p.length → k + 1 ≤ k0 + j → L.length = p.length → L.drop (k0 + j - 1) = p.drop (k0 + j - 1) → p[k0 + j - 1]? = some c →
    slices_Compact_Prop_L2 p k0 m k j L = some (L.take k ++ nxt c (p.drop (k0 + j)))
  | 0, k, j, L, c, hm, _, _, _, _, _, _ => by omega
  | m + 1, k, j, L, c, hm, hj, hjl, hk, hL, hd, hc => by
    have get : ∀ q, k0 + j - 1 ≤ q → L[q]? = p[q]? := fun q hq => by
      have := congrArg (fun l : List GProp => l[q - (k0 + j - 1)]?) hd
      simpa [List.getElem?_drop, show k0 + j - 1 + (q - (k0 + j - 1)) = q by omega] using this
    unfold slices_Compact_Prop_L2
    by_cases hlt : k0 + j < p.length
    · obtain ⟨x, hx, _⟩ := get_of hlt
      have e1 : decide ((j : Int) < (((p.length - (k0 : Int).toNat) : Nat) : Int)) = true := by simp; omega
      have i1 : idxV L (0 + (k0 : Int).toNat) (p.length - (k0 : Int).toNat) (j : Int) = some x := by
        unfold idxV
        rw [if_pos ⟨by omega, by simp; omega⟩]
        simp only [Int.toNat_natCast, Nat.zero_add]
        rw [get (k0 + j) (by omega), hx]
      have i2 : idxV L (0 + (k0 : Int).toNat) (p.length - (k0 : Int).toNat) (IntKind.i64.wrap ((j : Int) - 1)) = some c := by
        rw [wr (by omega) (by omega)]
        unfold idxV
        rw [if_pos ⟨by omega, by simp; omega⟩]
        simp only [Int.toNat_natCast, Nat.zero_add]
        rw [show k0 + ((j : Int) - 1).toNat = k0 + j - 1 by omega, get _ (by omega), hc]
      obtain ⟨w, hw, _⟩ := get_of (show k < L.length by omega)
      have wj : IntKind.i64.wrap ((j : Int) + 1) = ((j + 1 : Nat) : Int) := wrn (by simp) (by omega)
      have wk : IntKind.i64.wrap ((k : Int) + 1) = ((k + 1 : Nat) : Int) := wrn (by simp) (by omega)
      simp only [e1, cond_true, i1, i2, bindO_s, idxO_nat, hw, slices_Compact_Prop_J3, wj, wk, eqP_dec, drop_cons' hx, nxt]
      by_cases hxc : x = c
      · simp only [hxc, decide_true, Bool.not_true, cond_false, if_true]
        have := compact_L2 hp hk0 m k (j + 1) L x (by omega) (by omega) (by omega) (by omega) hL (by
          have := congrArg (List.drop 1) hd
          simpa [List.drop_drop, show k0 + j - 1 + 1 = k0 + j by omega, show k0 + (j + 1) - 1 = k0 + j by omega] using this) (by simpa using hx)
        rw [this, hxc]; rfl
      · simp only [hxc, decide_false, Bool.not_false, cond_true, if_false]
        have := compact_L2 hp hk0 m (k + 1) (j + 1) (L.set (0 + (k : Int).toNat) x) x (by omega) (by omega) (by omega) (by omega) (by simpa using hL) (by
          have h1 := congrArg (List.drop 1) hd
          simp only [List.drop_drop, show k0 + j - 1 + 1 = k0 + j by omega] at h1
          rw [show k0 + (j + 1) - 1 = k0 + j by omega, ← h1]
          rw [List.drop_set]
          simp; omega) (by simpa using hx)
        rw [this]
        have ht : (L.set (0 + (k : Int).toNat) x).take (k + 1) = L.take k ++ [x] := by
          rw [Nat.zero_add, Int.toNat_natCast, List.take_add_one, List.take_set_of_le (Nat.le_refl _)]
          congr 1
          rw [List.getElem?_set]
          simp; omega
        rw [ht, List.append_assoc]; rfl
    · have hpos : k0 + j = p.length := by omega
      have e1 : decide ((j : Int) < (((p.length - (k0 : Int).toNat) : Nat) : Int)) = false := by simp; omega
      have hlen : (clrV L (0 + (k : Int).toNat) (L.length - (k : Int).toNat) (GProp.mk 0 [] 0 0)).length = L.length := clrV_len (by simp; omega)
      simp only [e1, cond_false, slices_Compact_Prop_K2, hlen]
      rw [needO_of ⟨by omega, by omega⟩, needO_of (by simp; omega), needO_of ⟨by omega, by omega⟩, needO_of (by simp; omega), drop_nil' (by omega), nxt, List.append_nil]
      congr 1
      simp only [Int.toNat_natCast, Nat.zero_add, clrV]
      rw [List.take_append_of_le_length (by simp; omega), List.take_take, Nat.min_self]
theorem compact_L1 {p : List GProp} (hp : p.length ≤ 1000) {n : Nat} (hn : p.length < n) : ∀ (m k : Nat) (c : GProp), p.length - k < m → 1 ≤ k → k ≤ p.length → p[k - 1]? = some c →
    slices_Compact_Prop_L1 p n m k = some (p.take k ++ nxt c (p.drop k))
  | 0, k, c, hm, _, _, _ => by omega
  | m + 1, k, c, hm, hk1, hk, hc => by
    unfold slices_Compact_Prop_L1
    by_cases hlt : k < p.length
    · obtain ⟨x, hx, _⟩ := get_of hlt
      have i2 : idxO p (IntKind.i64.wrap ((k : Int) - 1)) = some c := by
        rw [wrn (k := k - 1) (by omega) (by omega), idxO_nat, hc]
      simp only [dlt hlt, cond_true, idxO_nat, hx, bindO_s, i2, eqP_dec, wr1 hlt (show p.length ≤ 9223372036854775807 by omega)]
      by_cases hxc : x = c
      · simp only [hxc, decide_true, cond_true]
        rw [needO_of ⟨by omega, by omega⟩]
        have := compact_L2 hp (k0 := k) (by omega) n k 1 p x (by omega) (by omega) (by omega) (by omega) rfl rfl (by simpa using hx)
        rw [show ((1 : Nat) : Int) = 1 from rfl] at this
        rw [this, drop_cons' hx, nxt, if_pos hxc]
      · simp only [hxc, decide_false, cond_false]
        rw [compact_L1 hp hn m (k + 1) x (by omega) (by omega) (by omega) (by simpa using hx), drop_cons' hx, nxt, if_neg hxc, take_snoc hx, List.append_assoc]
        rfl
    · simp only [dnlt hlt, cond_false, slices_Compact_Prop_K1, drop_nil' hlt, nxt, List.append_nil]
      rw [List.take_of_length_le (by omega)]
theorem compact_ok {p : List GProp} (hp : p.length ≤ 1000) {n : Nat} (hn : p.length < n) : slices_Compact_Prop n p = some (dedup ccP p) := by
  unfold slices_Compact_Prop
  match p, hp, hn with
  | [], _, _ => simp [dedup]
  | [x], _, _ => simp [dedup]
  | x :: y :: l, hp, hn =>
    have e : decide (((x :: y :: l).length : Int) < 2) = false := by simp; omega
    rw [e, cond_false]
    have := compact_L1 hp hn n 1 x (by omega) (by omega) (by simp) (by simp)
    rw [show ((1 : Nat) : Int) = 1 from rfl] at this
    rw [this, dedup_nxt]; simp
def PS (d : GDeriv) : List GProp := dedup ccP (srtP (props d))
theorem ccP_eq (x y : GProp) (h : ccP x y = 0) : x = y := ccP_zero.1 h
theorem srtP_mem {l : List GProp} {x : GProp} : x ∈ srtP l ↔ x ∈ l := (srt_perm (ltOf ccP) l).mem_iff
theorem PS_mem {d : GDeriv} {x : GProp} : x ∈ PS d ↔ x ∈ props d := by unfold PS; rw [dedup_mem ccP_eq, srtP_mem]
theorem PS_up (d : GDeriv) : Up ccP (PS d) := dedup_up cmpP_ok ccP_eq (srt_le cmpP_ok _)
theorem PS_len (d : GDeriv) : (PS d).length ≤ 2 * nodes d := by
  have h1 := dedup_len (c := ccP) (srtP (props d))
  have h2 := props_len d
  rw [srtP_len] at h1
  unfold PS; omega
theorem Props_ok {d : GDeriv} (hok : okG d) {n : Nat} (hn : SizeOf.sizeOf d ≤ n) (hn2 : 1001 ≤ n) (hb : nodes d ≤ 500) : disc_Props n d = some (PS d) := by
  have hl := props_len d
  have h1 := collect_ok _ d (Nat.lt_succ_self _) hok n hn [] (by simp; omega)
  simp only [disc_Props, h1, bindO_s, List.nil_append]
  rw [needO_of (by omega), compact_ok (by rw [srtP_len]; omega) (by rw [srtP_len]; omega), bindO_s]
  rfl
theorem half {i j : Nat} (hi : i ≤ 1000) (hj : j ≤ 1000) : IntKind.i64.wrap ((IntKind.u64.wrap (IntKind.i64.wrap ((i : Int) + (j : Int)))).fdiv (2 ^ (min (1 : Int).toNat IntKind.u64.bits))) = (((i + j) / 2 : Nat) : Int) := by
  have e1 : IntKind.i64.wrap ((i : Int) + (j : Int)) = ((i + j : Nat) : Int) := wrn (by simp) (by omega)
  have e2 : IntKind.u64.wrap ((i + j : Nat) : Int) = ((i + j : Nat) : Int) := IntWalk.u64_in _ ⟨by omega, by omega⟩
  have e3 : ((2 : Int) ^ (min (1 : Int).toNat IntKind.u64.bits)) = 2 := by decide
  rw [e1, e2, e3, Int.fdiv_eq_ediv_of_nonneg _ (by omega)]
  exact wrn (by omega) (by omega)
theorem up_get {l : List GProp} (h : Up ccP l) {i j : Nat} {x y : GProp} (hij : i < j) (hx : l[i]? = some x) (hy : l[j]? = some y) : ccP x y < 0 := by
  obtain ⟨h1, rfl⟩ := List.getElem?_eq_some_iff.1 hx
  obtain ⟨h2, rfl⟩ := List.getElem?_eq_some_iff.1 hy
  exact List.pairwise_iff_getElem.1 h i j h1 h2 hij
theorem bs_L {l : List GProp} (hl : l.length ≤ 1000) (hu : Up ccP l) {p : GProp} {n : Nat} (hn : 5 ≤ n) : ∀ (m i j : Nat), j - i < m → i ≤ j → j ≤ l.length → (∀ q x, q < i → l[q]? = some x → ccP x p < 0) → (∀ q x, j ≤ q → l[q]? = some x → 0 ≤ ccP x p) →
    ∃ z, slices_BinarySearchFunc_Prop_order_L1 l p (disc_order n) m i j = some (z, decide (p ∈ l))
  | 0, i, j, hm, _, _, _, _ => by omega
  | m + 1, i, j, hm, hij, hj, lo, hi => by
    unfold slices_BinarySearchFunc_Prop_order_L1
    by_cases hlt : i < j
    · have e1 : decide ((i : Int) < (j : Int)) = true := by simp; omega
      have hh : (i + j) / 2 < j := by omega
      have hh' : i ≤ (i + j) / 2 := by omega
      obtain ⟨x, hx, _⟩ := get_of (show (i + j) / 2 < l.length by omega)
      have w1 : IntKind.i64.wrap ((((i + j) / 2 : Nat) : Int) + 1) = (((i + j) / 2 + 1 : Nat) : Int) := wrn (by simp) (by omega)
      simp only [e1, cond_true, half (show i ≤ 1000 by omega) (show j ≤ 1000 by omega), idxO_nat, hx, bindO_s, order_n hn, slices_BinarySearchFunc_Prop_order_J2, w1]
      by_cases hc : ccP x p < 0
      · rw [decide_eq_true hc, cond_true]
        refine bs_L hl hu hn m ((i + j) / 2 + 1) j (by omega) (by omega) hj (fun q y hq hy => ?_) hi
        by_cases he : q = (i + j) / 2
        · subst he; rw [hx] at hy; cases hy; exact hc
        · exact cmpP_ok.lt_of (up_get hu (show q < (i + j) / 2 by omega) hy hx) (by omega)
      · rw [decide_eq_false hc, cond_false]
        refine bs_L hl hu hn m i ((i + j) / 2) (by omega) (by omega) (by omega) lo (fun q y hq hy => ?_)
        by_cases he : q = (i + j) / 2
        · subst he; rw [hx] at hy; cases hy; omega
        · have h1 := up_get hu (show (i + j) / 2 < q by omega) hx hy
          rcases Int.lt_or_le (ccP y p) 0 with h2 | h2
          · have := cmpP_ok.lt_of h1 (by omega : ccP y p ≤ 0); omega
          · exact h2
    · have hij' : i = j := by omega
      subst hij'
      have e1 : decide ((i : Int) < (i : Int)) = false := by simp
      simp only [e1, cond_false, slices_BinarySearchFunc_Prop_order_K1]
      have none_lo : ∀ q, q < i → l[q]? ≠ some p := fun q hq h => by
        have := lo q p hq h
        rw [cmpP_ok.self] at this; omega
      by_cases hil : i < l.length
      · obtain ⟨x, hx, hxm⟩ := get_of hil
        simp only [dlt hil, cond_true, idxO_nat, hx, bindO_s, order_n hn]
        refine ⟨i, ?_⟩
        have : (ccP x p == 0) = decide (p ∈ l) := by
          rw [Bool.eq_iff_iff]
          simp only [beq_iff_eq, decide_eq_true_eq]
          constructor
          · intro h; have := ccP_zero.1 h; subst this; exact hxm
          · intro h
            obtain ⟨q, hq⟩ := List.getElem?_of_mem h
            rcases Nat.lt_trichotomy q i with h1 | h1 | h1
            · exact absurd hq (none_lo q h1)
            · subst h1; rw [hx] at hq; cases hq; exact cmpP_ok.self _
            · have h2 := up_get hu h1 hx hq
              have h3 := hi i x (Nat.le_refl _) hx
              omega
        rw [this]
      · simp only [dnlt hil, cond_false, bindO_s]
        refine ⟨i, ?_⟩
        have : p ∉ l := fun h => by
          obtain ⟨q, hq⟩ := List.getElem?_of_mem h
          have := (List.getElem?_eq_some_iff.1 hq).1
          exact none_lo q (by omega) hq
        simp [this]
theorem has_ok {l : List GProp} (hl : l.length ≤ 1000) (hu : Up ccP l) (p : GProp) {n : Nat} (hn : 1001 ≤ n) : disc_has n l p = some (decide (p ∈ l)) := by
  obtain ⟨z, hz⟩ := bs_L hl hu (p := p) (n := n) (by omega) n 0 l.length (by omega) (by omega) (by omega) (fun q x hq => by omega) (fun q x hq hx => by
    have := (List.getElem?_eq_some_iff.1 hx).1; omega)
  rw [Int.ofNat_zero] at hz
  simp only [disc_has, slices_BinarySearchFunc_Prop_order, hz, bindO_s]
theorem Holds_ok {d : GDeriv} (hok : okG d) {n : Nat} (hn : SizeOf.sizeOf d ≤ n) (hn2 : 1001 ≤ n) (hb : nodes d ≤ 500) (p : GProp) : disc_Holds n d p = some (decide (p ∈ props d)) := by
  have := PS_len d
  simp only [disc_Holds, Props_ok hok hn hn2 hb, bindO_s, has_ok (show (PS d).length ≤ 1000 by omega) (PS_up d) p hn2, PS_mem]
theorem compare_eq (n : Nat) (x y : GProp) : ref45_Compare n x y = some (ccP x y) := by
  simp only [ref45_Compare, ref45_less, ccP, lexC, cmpI, cmpS]
  by_cases h1 : x.From = y.From
  · simp only [h1, bne_self_eq_false, cond_false, Int.lt_irrefl, if_false, ne_eq, not_true]
    by_cases h2 : x.To = y.To
    · simp only [h2, bne_self_eq_false, cond_false, Int.lt_irrefl, if_false, ne_eq, not_true]
      by_cases h3 : x.Kind = y.Kind
      · simp only [h3, bne_self_eq_false, cond_false, Int.lt_irrefl, if_false, ne_eq, not_true]
        cases h4 : bytesEq x.Name y.Name with
        | true =>
          have := (bytesEq_iff _ _).1 h4
          simp [this, bytesLt_irrefl]
        | false =>
          cases h5 : bytesLt x.Name y.Name with
          | true => simp [bindO_s]
          | false =>
            cases h6 : bytesLt y.Name x.Name with
            | true => simp [bindO_s]
            | false => have := bytesLt_total _ _ h5 h6; rw [this, bytesEq_refl] at h4; cases h4
      · have e : (x.Kind != y.Kind) = true := by simpa using h3
        by_cases hlt : x.Kind < y.Kind
        · simp [e, hlt, bindO_s]
        · have : y.Kind < x.Kind := by omega
          simp [e, hlt, this, bindO_s]
    · have e : (x.To != y.To) = true := by simpa using h2
      by_cases hlt : x.To < y.To
      · simp [e, hlt, bindO_s]
      · have : y.To < x.To := by omega
        simp [e, hlt, this, bindO_s]
  · have e : (x.From != y.From) = true := by simpa using h1
    by_cases hlt : x.From < y.From
    · simp [e, hlt, bindO_s]
    · have : y.From < x.From := by omega
      simp [e, hlt, this, bindO_s]
theorem insert_done {l : List GProp} {p : GProp} (hl : l.length ≤ 1000) {n : Nat} : ∀ (m i : Nat) (a : List GProp), l.length - i < m → i ≤ l.length → a.length + (l.length - i) ≤ 2000 → ref45_insert_L1 l p n m true i a = some (a ++ l.drop i)
  | 0, i, a, hm, _, _ => by omega
  | m + 1, i, a, hm, hi, ha => by
    unfold ref45_insert_L1
    by_cases hlt : i < l.length
    · obtain ⟨x, hx, _⟩ := get_of hlt
      simp only [dlt hlt, cond_true, idxO_nat, hx, bindO_s, compare_eq, Bool.not_true, cond_false, ref45_insert_J3, wr1 hlt (show l.length ≤ 9223372036854775807 by omega)]
      rw [needO_of ⟨by omega, by omega⟩, insert_done hl m (i + 1) (a ++ [x]) (by omega) (by omega) (by simp; omega), drop_cons' hx, List.append_assoc]
      rfl
    · simp only [dnlt hlt, cond_false, ref45_insert_K1, Bool.not_true, ref45_insert_J2, drop_nil' hlt, List.append_nil]
theorem insert_L {l : List GProp} {p : GProp} (hl : l.length ≤ 1000) {n : Nat} : ∀ (m i : Nat) (a : List GProp), l.length - i < m → i ≤ l.length → a.length + (l.length - i) ≤ 1000 → ref45_insert_L1 l p n m false i a = some (a ++ insU ccP p (l.drop i))
  | 0, i, a, hm, _, _ => by omega
  | m + 1, i, a, hm, hi, ha => by
    unfold ref45_insert_L1
    by_cases hlt : i < l.length
    · obtain ⟨x, hx, _⟩ := get_of hlt
      simp only [dlt hlt, cond_true, idxO_nat, hx, bindO_s, compare_eq, Bool.not_false, ref45_insert_J3, ref45_insert_J4, wr1 hlt (show l.length ≤ 9223372036854775807 by omega), drop_cons' hx, insU]
      by_cases h1 : ccP p x < 0
      · have h2 : ccP p x ≤ 0 := by omega
        simp only [h1, h2, decide_true, cond_true, if_true]
        rw [needO_of ⟨by omega, by omega⟩, needO_of (by simp; omega), insert_done hl m (i + 1) _ (by omega) (by omega) (by simp; omega)]
        simp
      · by_cases h2 : ccP p x = 0
        · have h3 : ccP p x ≤ 0 := by omega
          simp only [h1, h2, h3, decide_true, decide_false, cond_true, cond_false, if_true, if_false, Int.lt_irrefl, Int.le_refl]
          rw [needO_of ⟨by omega, by omega⟩, insert_done hl m (i + 1) _ (by omega) (by omega) (by simp; omega)]
          simp
        · have h3 : ¬ ccP p x ≤ 0 := by omega
          simp only [h1, h2, h3, decide_false, cond_false, if_false]
          rw [needO_of ⟨by omega, by omega⟩, insert_L hl m (i + 1) _ (by omega) (by omega) (by simp; omega)]
          simp
    · simp only [dnlt hlt, cond_false, ref45_insert_K1, Bool.not_false, cond_true, ref45_insert_J2, drop_nil' hlt, insU]
      rw [needO_of ⟨by omega, by omega⟩]
theorem insert_ok {l : List GProp} (hl : l.length ≤ 900) (p : GProp) {n : Nat} (hn : 1001 ≤ n) : ref45_insert n l p = some (insU ccP p l) := by
  have := insert_L (l := l) (p := p) (by omega) (n := n) n 0 [] (by omega) (by omega) (by simp; omega)
  simpa [ref45_insert] using this
def addU (l ps : List GProp) : List GProp := ps.foldl (fun a p => insU ccP p a) l
theorem addU_app (l a b : List GProp) : addU l (a ++ b) = addU (addU l a) b := by simp [addU]
theorem addU_len : ∀ (ps l : List GProp), (addU l ps).length ≤ l.length + ps.length
  | [], l => by simp [addU]
  | p :: ps, l => by
    have h1 := addU_len ps (insU ccP p l)
    have h2 := insU_len (c := ccP) p l
    simp only [addU, List.foldl_cons, List.length_cons] at *
    omega
theorem addU_up : ∀ (ps : List GProp) {l : List GProp}, Up ccP l → Up ccP (addU l ps)
  | [], l, h => h
  | p :: ps, l, h => addU_up ps (insU_up cmpP_ok ccP_eq p h)
theorem addU_mem : ∀ (ps l : List GProp) (x : GProp), x ∈ addU l ps ↔ x ∈ l ∨ x ∈ ps
  | [], l, x => by simp [addU]
  | p :: ps, l, x => by
    have := addU_mem ps (insU ccP p l) x
    simp only [addU, List.foldl_cons] at *
    rw [this, insU_mem ccP_eq, List.mem_cons]
    constructor
    · rintro ((h | h) | h) <;> simp [h]
    · rintro (h | h | h) <;> simp [h]
theorem add_L {d : GDeriv} (hl : d.Kids.length ≤ 9223372036854775807) {self : List GProp → GDeriv → Option (List GProp)} (hself : ∀ x ∈ d.Kids, ∀ l, l.length + 2 * nodes x ≤ 900 → self l x = some (addU l (props x))) :
    ∀ (m i : Nat) (l : List GProp), d.Kids.length - i < m → i ≤ d.Kids.length → l.length + 2 * nodesL (d.Kids.drop i) ≤ 900 → ref45_add_L2 d self m l i = some (addU l (propsL (d.Kids.drop i)))
  | 0, i, l, hm, _, _ => by omega
  | m + 1, i, l, hm, hi, hb => by
    unfold ref45_add_L2
    by_cases hlt : i < d.Kids.length
    · obtain ⟨x, hx, hxm⟩ := get_of hlt
      rw [nodesL_drop hx] at hb
      simp only [dlt hlt, cond_true, idxO_nat, hx, bindO_s, hself x hxm l (by omega), wr1 hlt hl]
      have h1 := props_len x
      have h2 := addU_len (props x) l
      rw [add_L hl hself m (i + 1) _ (by omega) (by omega) (by omega), propsL_drop hx, addU_app]
    · simp only [dnlt hlt, cond_false, ref45_add_K2, drop_nil' hlt, propsL, addU, List.foldl_nil]
theorem add_ok : ∀ (s : Nat) (d : GDeriv), SizeOf.sizeOf d < s → okG d → ∀ n, SizeOf.sizeOf d + 1001 ≤ n → ∀ l, l.length + 2 * nodes d ≤ 900 → ref45_add n l d = some (addU l (props d))
  | 0, d, hs, _, _, _, _, _ => by omega
  | s + 1, d, hs, hok, n, hn, l, hb => by
    have hk := kids_lt d
    have hnd := nodes_eq d
    cases n with
    | zero => omega
    | succ n =>
      have hL : ∀ l : List GProp, l.length + 2 * nodesL d.Kids ≤ 900 → ref45_add_L2 d (ref45_add n) n l 0 = some (addU l (propsL d.Kids)) := fun l hb => by
        have := add_L (d := d) (okG_len hok) (self := ref45_add n) (fun x hx l hb => by
          have := kid_lt d hx
          exact add_ok s x (by omega) (okG_kid hok hx) n (by omega) l hb) n 0 l (by omega) (by omega) (by simpa using hb)
        simpa using this
      simp only [ref45_add, ref45_add_b, ref45_add_J4, ref45_add_J3, ref45_add_J1]
      rw [props_eq, own]
      by_cases h0 : d.Kind = 0
      · have := insU_len (c := ccP) ⟨0, d.Name, d.From, d.To⟩ l
        rw [kz h0, cond_true, insert_ok (by omega) _ (by omega), bindO_s, hL _ (by omega), if_pos h0, addU_app]; rfl
      · rw [knz h0, cond_false, if_neg h0]
        by_cases h1 : d.Kind = 1
        · have := insU_len (c := ccP) ⟨1, d.Name, d.From, d.To⟩ l
          rw [kz h1, cond_true, insert_ok (by omega) _ (by omega), bindO_s, hL _ (by omega), if_pos h1, addU_app]; rfl
        · rw [knz h1, cond_false, if_neg h1]
          by_cases h2 : d.Kind = 2
          · have a1 := insU_len (c := ccP) ⟨2, d.Name, d.From, d.To⟩ l
            have a2 := insU_len (c := ccP) ⟨3, [], d.From, d.To⟩ (insU ccP ⟨2, d.Name, d.From, d.To⟩ l)
            rw [kz h2, cond_true, insert_ok (by omega) _ (by omega), bindO_s, insert_ok (by omega) _ (by omega), bindO_s, hL _ (by omega), if_pos h2, addU_app]; rfl
          · rw [knz h2, cond_false, if_neg h2, hL _ (by omega)]; rfl
theorem refProps_ok {d : GDeriv} (hok : okG d) {n : Nat} (hn : SizeOf.sizeOf d + 1001 ≤ n) (hb : nodes d ≤ 400) : ref45_Props n d = some (PS d) := by
  rw [ref45_Props, add_ok _ d (Nat.lt_succ_self _) hok n hn [] (by simp; omega), bindO_s]
  congr 1
  refine Up.ext cmpP_ok ccP_eq (addU_up _ (by simp [Up])) (PS_up d) fun x => ?_
  rw [addU_mem, PS_mem]; simp
theorem Has_L {l : List GProp} {p : GProp} (hl : l.length ≤ 9223372036854775807) : ∀ (m i : Nat), l.length - i < m → i ≤ l.length → ref45_Has_L1 l p m i = some (decide (p ∈ l.drop i))
  | 0, i, hm, _ => by omega
  | m + 1, i, hm, hi => by
    unfold ref45_Has_L1
    by_cases hlt : i < l.length
    · obtain ⟨x, hx, _⟩ := get_of hlt
      simp only [dlt hlt, cond_true, idxO_nat, hx, bindO_s, eqP_dec, wr1 hlt hl, drop_cons' hx]
      by_cases h : x = p
      · simp [h]
      · have h' : ¬ p = x := fun e => h e.symm
        simp only [h, decide_false, cond_false]
        rw [Has_L hl m (i + 1) (by omega) (by omega)]
        simp [h']
    · simp only [dnlt hlt, cond_false, ref45_Has_K1, drop_nil' hlt]; simp
theorem Has_ok {l : List GProp} (hl : l.length ≤ 9223372036854775807) {n : Nat} (hn : l.length < n) (p : GProp) : ref45_Has n l p = some (decide (p ∈ l)) := by
  have := Has_L (p := p) hl n 0 (by omega) (by omega)
  simpa [ref45_Has] using this
theorem refHolds_ok {d : GDeriv} (hok : okG d) {n : Nat} (hn : SizeOf.sizeOf d + 1001 ≤ n) (hb : nodes d ≤ 400) (p : GProp) : ref45_Holds n d p = some (decide (p ∈ props d)) := by
  have := PS_len d
  simp only [ref45_Holds, refProps_ok hok hn hb, bindO_s, Has_ok (show (PS d).length ≤ 9223372036854775807 by omega) (show (PS d).length < n by omega) p, PS_mem]
theorem SameProps_L {a b : List GProp} (hl : a.length ≤ 9223372036854775807) (he : a.length = b.length) : ∀ (m i : Nat), a.length - i < m → i ≤ a.length → ref45_SameProps_L1 a b m i = some (decide (a.drop i = b.drop i))
  | 0, i, hm, _ => by omega
  | m + 1, i, hm, hi => by
    unfold ref45_SameProps_L1
    by_cases hlt : i < a.length
    · obtain ⟨x, hx, _⟩ := get_of hlt
      obtain ⟨y, hy, _⟩ := get_of (show i < b.length by omega)
      simp only [dlt hlt, cond_true, idxO_nat, hx, hy, bindO_s, eqP_dec, wr1 hlt hl, drop_cons' hx, drop_cons' hy, List.cons.injEq]
      by_cases h : x = y
      · simp only [h, decide_true, Bool.not_true, cond_false, true_and]
        exact SameProps_L hl he m (i + 1) (by omega) (by omega)
      · simp [h]
    · have h2 : ¬ i < b.length := by omega
      simp only [dnlt hlt, cond_false, ref45_SameProps_K1, drop_nil' hlt, drop_nil' h2]; simp
theorem SameProps_ok {a b : List GProp} (hl : a.length ≤ 9223372036854775807) {n : Nat} (hn : a.length < n) : ref45_SameProps n a b = some (decide (a = b)) := by
  unfold ref45_SameProps
  by_cases h : a.length = b.length
  · have e : ((a.length : Int) != (b.length : Int)) = false := by simp [h]
    have := SameProps_L hl h n 0 (by omega) (by omega)
    rw [e, cond_false]
    simpa using this
  · have e : ((a.length : Int) != (b.length : Int)) = true := by simp; omega
    have : ¬ a = b := fun e => h (by rw [e])
    simp [e, this]
theorem props_law {d : GDeriv} (hok : okG d) (p : GProp) {n : Nat} (hn : SizeOf.sizeOf d + 1001 ≤ n) : law45_DiscProps n d p = some true := by
  obtain ⟨c, h1, h2, h3, h4⟩ := Nodes_ok _ d (Nat.lt_succ_self _) hok n (by omega) 61 (by omega) (by omega)
  simp only [law45_DiscProps, h1, bindO_s, ex_n (show 40 ≤ n by omega)]
  by_cases hc : c > 60
  · simp [hc]
  · have hnd : nodes d ≤ 60 := by have := h4 (by omega); omega
    have hl := PS_len d
    simp only [hc, decide_false, cond_false, Props_ok hok (show SizeOf.sizeOf d ≤ n by omega) (by omega) (by omega), refProps_ok hok hn (by omega), SameProps_ok (show (PS d).length ≤ 9223372036854775807 by omega) (show (PS d).length < n by omega), Holds_ok hok (show SizeOf.sizeOf d ≤ n by omega) (by omega) (by omega), refHolds_ok hok hn (by omega), bindO_s]
    simp
end Go.Proofs
end
