/-
  Texts of the walk: D5 D6 D7 D8 D9 D10.
-/
import Derived.Test.YtpckiabjgmbnfaaP15
section
namespace Go.Proofs
open Go Go.Rx Go.Vx Go.Sort
set_option linter.unusedVariables false
set_option linter.unusedSimpArgs false
theorem ex_ok (m : Nat) : law45_exampleHolds (m + 40) = some true := by kernel_rfl
theorem ex_n {n : Nat} (h : 40 ≤ n) : law45_exampleHolds n = some true := by
  obtain ⟨m, rfl⟩ : ∃ m, n = m + 40 := ⟨n - 40, by omega⟩
  exact ex_ok m
theorem kid_lt (d : GDeriv) {x : GDeriv} (h : x ∈ d.Kids) : SizeOf.sizeOf x < SizeOf.sizeOf d := by
  cases d with
  | mk a b c e ks =>
    have := List.sizeOf_lt_of_mem h
    simp only [GDeriv.Kids] at this
    simp only [GDeriv.mk.sizeOf_spec]
    omega
theorem kids_lt (d : GDeriv) : d.Kids.length + 1 < SizeOf.sizeOf d := by
  cases d with
  | mk a b c e ks =>
    have := len_lt_sizeOf ks
    simp only [GDeriv.Kids, GDeriv.mk.sizeOf_spec]
    omega
mutual
def okG : GDeriv → Prop
  | .mk _ _ _ _ ks => ks.length ≤ 9223372036854775807 ∧ okGs ks
def okGs : List GDeriv → Prop
  | [] => True
  | d :: l => okG d ∧ okGs l
end
theorem okGs_mem : ∀ {l : List GDeriv}, okGs l → ∀ d ∈ l, okG d
  | [], _, d, h => by cases h
  | e :: l, h, d, hd => by
    simp only [okGs] at h
    rcases List.mem_cons.1 hd with rfl | hd
    · exact h.1
    · exact okGs_mem h.2 d hd
theorem okG_len {d : GDeriv} (h : okG d) : d.Kids.length ≤ 9223372036854775807 := by cases d; simp only [okG] at h; exact h.1
theorem okG_kid {d : GDeriv} (h : okG d) {x : GDeriv} (hx : x ∈ d.Kids) : okG x := by cases d; simp only [okG] at h; exact okGs_mem h.2 x hx
mutual
def nodes : GDeriv → Nat
  | .mk _ _ _ _ ks => 1 + nodesL ks
def nodesL : List GDeriv → Nat
  | [] => 0
  | d :: l => nodes d + nodesL l
end
theorem nodes_eq (d : GDeriv) : nodes d = 1 + nodesL d.Kids := by cases d; simp [nodes, GDeriv.Kids]
theorem nodesL_drop {l : List GDeriv} {i : Nat} {x : GDeriv} (h : l[i]? = some x) : nodesL (l.drop i) = nodes x + nodesL (l.drop (i + 1)) := by rw [drop_cons' h]; simp [nodesL]
theorem Nodes_L {d : GDeriv} (hl : d.Kids.length ≤ 9223372036854775807) {most : Int} (h1 : 1 ≤ most) (h2 : most ≤ 61) {self : GDeriv → Int → Option Int}
    (hself : ∀ x ∈ d.Kids, ∀ q : Int, 1 ≤ q → q ≤ 61 → ∃ c, self x q = some c ∧ 1 ≤ c ∧ c ≤ q ∧ (c < q → c = nodes x)) : ∀ (m i : Nat) (z : Int), d.Kids.length - i < m → i ≤ d.Kids.length → 1 ≤ z → z ≤ most →
    ∃ c, ref37_Nodes_L1 d most self m z i = some c ∧ 1 ≤ c ∧ c ≤ most ∧ (c < most → c = z + nodesL (d.Kids.drop i))
  | 0, i, z, hm, _, _, _ => by omega
  | m + 1, i, z, hm, hi, hz1, hz2 => by
    unfold ref37_Nodes_L1
    by_cases hlt : i < d.Kids.length
    · obtain ⟨x, hx, hxm⟩ := get_of hlt
      rw [dlt hlt, cond_true, bindO_s]
      by_cases hz : z < most
      · obtain ⟨c, k1, k2, k3, k4⟩ := hself x hxm (most - z) (by omega) (by omega)
        simp only [hz, decide_true, cond_true, idxO_nat, hx, bindO_s, wr (show -9223372036854775808 ≤ most - z by omega) (by omega), k1, wr (show -9223372036854775808 ≤ z + c by omega) (by omega), wr1 hlt hl]
        obtain ⟨c', q1, q2, q3, q4⟩ := Nodes_L hl h1 h2 hself m (i + 1) (z + c) (by omega) (by omega) (by omega) (by omega)
        refine ⟨c', q1, q2, q3, fun h => ?_⟩
        have := q4 h
        rw [nodesL_drop hx]
        by_cases hc : c < most - z
        · have := k4 hc; omega
        · have : z + c = most := by omega
          omega
      · simp only [hz, decide_false, cond_false, ref37_Nodes_K1]
        exact ⟨z, rfl, hz1, hz2, fun h => by omega⟩
    · simp only [dnlt hlt, cond_false, bindO_s, ref37_Nodes_K1, drop_nil' hlt]
      exact ⟨z, rfl, hz1, hz2, fun _ => by simp [nodesL]⟩
theorem Nodes_ok : ∀ (s : Nat) (d : GDeriv), SizeOf.sizeOf d < s → okG d → ∀ n, SizeOf.sizeOf d ≤ n → ∀ most : Int, 1 ≤ most → most ≤ 61 → ∃ c, ref37_Nodes n d most = some c ∧ 1 ≤ c ∧ c ≤ most ∧ (c < most → c = nodes d)
  | 0, d, hs, _, _, _, _, _, _ => by omega
  | s + 1, d, hs, hok, n, hn, most, h1, h2 => by
    have hk := kids_lt d
    cases n with
    | zero => omega
    | succ n =>
      obtain ⟨c, q1, q2, q3, q4⟩ := Nodes_L (d := d) (okG_len hok) h1 h2 (self := ref37_Nodes n) (fun x hx q h1 h2 => by
        have := kid_lt d hx
        exact Nodes_ok s x (by omega) (okG_kid hok hx) n (by omega) q h1 h2) n 0 1 (by omega) (by omega) (by omega) h1
      rw [Int.ofNat_zero] at q1
      refine ⟨c, by simp only [ref37_Nodes, ref37_Nodes_b, q1], q2, q3, fun h => ?_⟩
      have := q4 h
      rw [nodes_eq]; simp at this; omega
def own (d : GDeriv) : List GProp := if d.Kind = 0 then [⟨0, d.Name, d.From, d.To⟩] else if d.Kind = 1 then [⟨1, d.Name, d.From, d.To⟩] else if d.Kind = 2 then [⟨2, d.Name, d.From, d.To⟩, ⟨3, [], d.From, d.To⟩] else []
mutual
def props : GDeriv → List GProp
  | .mk a b c e ks => own (.mk a b c e ks) ++ propsL ks
def propsL : List GDeriv → List GProp
  | [] => []
  | d :: l => props d ++ propsL l
end
theorem props_eq (d : GDeriv) : props d = own d ++ propsL d.Kids := by cases d; simp only [props]; rfl
theorem own_len (d : GDeriv) : (own d).length ≤ 2 := by unfold own; split; · simp
                                                        split; · simp
                                                        split <;> simp
mutual
theorem props_len : ∀ d : GDeriv, (props d).length ≤ 2 * nodes d
  | .mk a b c e ks => by
    have := propsL_len ks
    have := own_len (.mk a b c e ks)
    simp only [props, nodes, List.length_append]; omega
theorem propsL_len : ∀ l : List GDeriv, (propsL l).length ≤ 2 * nodesL l
  | [] => by simp [propsL, nodesL]
  | d :: l => by
    have := props_len d
    have := propsL_len l
    simp only [propsL, nodesL, List.length_append]; omega
end
theorem propsL_drop {l : List GDeriv} {i : Nat} {x : GDeriv} (h : l[i]? = some x) : propsL (l.drop i) = props x ++ propsL (l.drop (i + 1)) := by rw [drop_cons' h]; simp [propsL]
theorem kz {a b : Int} (h : a = b) : (a == b) = true := by simpa using h
theorem knz {a b : Int} (h : ¬ a = b) : (a == b) = false := by simpa using h
theorem collect_L {d : GDeriv} (hl : d.Kids.length ≤ 9223372036854775807) {self : List GProp → GDeriv → Option (List GProp)} (hself : ∀ x ∈ d.Kids, ∀ l, l.length + 2 * nodes x ≤ 1000 → self l x = some (l ++ props x)) :
    ∀ (m i : Nat) (l : List GProp), d.Kids.length - i < m → i ≤ d.Kids.length → l.length + 2 * nodesL (d.Kids.drop i) ≤ 1000 → disc_collect_L2 d self m i l = some (l ++ propsL (d.Kids.drop i))
  | 0, i, l, hm, _, _ => by omega
  | m + 1, i, l, hm, hi, hb => by
    unfold disc_collect_L2
    by_cases hlt : i < d.Kids.length
    · obtain ⟨x, hx, hxm⟩ := get_of hlt
      rw [nodesL_drop hx] at hb
      simp only [dlt hlt, cond_true, idxO_nat, hx, bindO_s, hself x hxm l (by omega), wr1 hlt hl]
      have := props_len x
      rw [collect_L hl hself m (i + 1) (l ++ props x) (by omega) (by omega) (by simp; omega), propsL_drop hx, List.append_assoc]
    · simp only [dnlt hlt, cond_false, disc_collect_K2, drop_nil' hlt, propsL, List.append_nil]
theorem collect_ok : ∀ (s : Nat) (d : GDeriv), SizeOf.sizeOf d < s → okG d → ∀ n, SizeOf.sizeOf d ≤ n → ∀ l, l.length + 2 * nodes d ≤ 1000 → disc_collect n l d = some (l ++ props d)
  | 0, d, hs, _, _, _, _, _ => by omega
  | s + 1, d, hs, hok, n, hn, l, hb => by
    have hk := kids_lt d
    have hnd := nodes_eq d
    cases n with
    | zero => omega
    | succ n =>
      have hL : ∀ l : List GProp, l.length + 2 * nodesL d.Kids ≤ 1000 → disc_collect_L2 d (disc_collect n) n 0 l = some (l ++ propsL d.Kids) := fun l hb => by
        have := collect_L (d := d) (okG_len hok) (self := disc_collect n) (fun x hx l hb => by
          have := kid_lt d hx
          exact collect_ok s x (by omega) (okG_kid hok hx) n (by omega) l hb) n 0 l (by omega) (by omega) (by simpa using hb)
        simpa using this
      simp only [disc_collect, disc_collect_b, disc_collect_J4, disc_collect_J3, disc_collect_J1]
      rw [props_eq, own]
      by_cases h0 : d.Kind = 0
      · rw [kz h0, cond_true, needO_of ⟨by omega, by omega⟩, hL _ (by simp; omega), if_pos h0, List.append_assoc]
      · rw [knz h0, cond_false, if_neg h0]
        by_cases h1 : d.Kind = 1
        · rw [kz h1, cond_true, needO_of ⟨by omega, by omega⟩, hL _ (by simp; omega), if_pos h1, List.append_assoc]
        · rw [knz h1, cond_false, if_neg h1]
          by_cases h2 : d.Kind = 2
          · rw [kz h2, cond_true, needO_of ⟨by omega, by omega⟩, hL _ (by simp; omega), if_pos h2, List.append_assoc]
          · rw [knz h2, cond_false, if_neg h2, hL _ (by omega)]; rfl
theorem eqP_iff (x y : GProp) : eqGProp x y = true ↔ x = y := by
  cases x; cases y
  simp only [eqGProp, Bool.and_eq_true, beq_iff_eq, bytesEq_iff, GProp.mk.injEq]
instance : DecidableEq GProp := fun x y => decidable_of_iff (eqGProp x y = true) (eqP_iff x y)
theorem eqP_dec (x y : GProp) : eqGProp x y = decide (x = y) := by rw [Bool.eq_iff_iff, eqP_iff]; simp
def nxt (c : GProp) : List GProp → List GProp
  | [] => []
  | y :: l => if y = c then nxt y l else y :: nxt y l
theorem dedup_nxt : ∀ (l : List GProp) (x : GProp), dedup ccP (x :: l) = x :: nxt x l
  | [], x => by simp [dedup, nxt]
  | y :: l, x => by
    simp only [dedup, nxt, dedup_nxt l y]
    by_cases h : y = x
    · subst h
      simp [cmpP_ok.self y]
    · have : ¬ ccP x y = 0 := fun e => h (ccP_zero.1 e).symm
      simp [h, this]
theorem compact_L2 {p : List GProp} (hp : p.length ≤ 1000) {k0 : Nat} (hk0 : k0 ≤ p.length) : ∀ (m k j : Nat) (L : List GProp) (c : GProp), p.length - (k0 + j) < m → 1 ≤ j → k0 + j ≤ p.length → k + 1 ≤ k0 + j → L.length = p.length → L.drop (k0 + j - 1) = p.drop (k0 + j - 1) → p[k0 + j - 1]? = some c →
    slices_Compact_Prop_L2 p k0 m k j L = some (L.take k ++ nxt c (p.drop (k0 + j)))
  | 0, k, j, L, c, hm, _, _, _, _, _, _ => by omega
  | m + 1, k, j, L, c, hm, hj, hjl, hk, hL, hd, hc => by
    have get : ∀ q, k0 + j - 1 ≤ q → L[q]? = p[q]? := fun q hq => by
      have := congrArg (fun l : List GProp => l[q - (k0 + j - 1)]?) hd
      simpa [List.getElem?_drop, show k0 + j - 1 + (q - (k0 + j - 1)) = q by omega] using this
    unfold slices_Compact_Prop_L2
    by_cases hlt : k0 + j < p.length
    · obtain ⟨x, hx, _⟩ := get_of hlt
      have e1 : decide ((j : Int) < (((p.length - (k0 : Int).toNat) : Nat) : Int)) = true := by simp; omega
      have i1 : idxV L (0 + (k0 : Int).toNat) (p.length - (k0 : Int).toNat) (j : Int) = some x := by
        unfold idxV
        rw [if_pos ⟨by omega, by simp; omega⟩]
        simp only [Int.toNat_natCast, Nat.zero_add]
        rw [get (k0 + j) (by omega), hx]
      have i2 : idxV L (0 + (k0 : Int).toNat) (p.length - (k0 : Int).toNat) (IntKind.i64.wrap ((j : Int) - 1)) = some c := by
        rw [wr (by omega) (by omega)]
        unfold idxV
        rw [if_pos ⟨by omega, by simp; omega⟩]
        simp only [Int.toNat_natCast, Nat.zero_add]
        rw [show k0 + ((j : Int) - 1).toNat = k0 + j - 1 by omega, get _ (by omega), hc]
      obtain ⟨w, hw, _⟩ := get_of (show k < L.length by omega)
      have wj : IntKind.i64.wrap ((j : Int) + 1) = ((j + 1 : Nat) : Int) := wrn (by simp) (by omega)
      have wk : IntKind.i64.wrap ((k : Int) + 1) = ((k + 1 : Nat) : Int) := wrn (by simp) (by omega)
      simp only [e1, cond_true, i1, i2, bindO_s, idxO_nat, hw, slices_Compact_Prop_J3, wj, wk, eqP_dec, drop_cons' hx, nxt]
      by_cases hxc : x = c
      · simp only [hxc, decide_true, Bool.not_true, cond_false, if_true]
        have := compact_L2 hp hk0 m k (j + 1) L x (by omega) (by omega) (by omega) (by omega) hL (by
          have := congrArg (List.drop 1) hd
          simpa [List.drop_drop, show k0 + j - 1 + 1 = k0 + j by omega, show k0 + (j + 1) - 1 = k0 + j by omega] using this) (by simpa using hx)
        rw [this, hxc]; rfl
      · simp only [hxc, decide_false, Bool.not_false, cond_true, if_false]
        have := compact_L2 hp hk0 m (k + 1) (j + 1) (L.set (0 + (k : Int).toNat) x) x (by omega) (by omega) (by omega) (by omega) (by simpa using hL) (by
          have h1 := congrArg (List.drop 1) hd
          simp only [List.drop_drop, show k0 + j - 1 + 1 = k0 + j by omega] at h1
          rw [show k0 + (j + 1) - 1 = k0 + j by omega, ← h1]
          rw [List.drop_set]
          simp; omega) (by simpa using hx)
        rw [this]
        have ht : (L.set (0 + (k : Int).toNat) x).take (k + 1) = L.take k ++ [x] := by
          rw [Nat.zero_add, Int.toNat_natCast, List.take_add_one, List.take_set_of_le (Nat.le_refl _)]
          congr 1
          rw [List.getElem?_set]
          simp; omega
        rw [ht, List.append_assoc]; rfl
    · have hpos : k0 + j = p.length := by omega
      have e1 : decide ((j : Int) < (((p.length - (k0 : Int).toNat) : Nat) : Int)) = false := by simp; omega
      have hlen : (clrV L (0 + (k : Int).toNat) (L.length - (k : Int).toNat) (GProp.mk 0 [] 0 0)).length = L.length := clrV_len (by simp; omega)
      simp only [e1, cond_false, slices_Compact_Prop_K2, hlen]
      rw [needO_of ⟨by omega, by omega⟩, needO_of (by simp; omega), needO_of ⟨by omega, by omega⟩, needO_of (by simp; omega), drop_nil' (by omega), nxt, List.append_nil]
      congr 1
      simp only [Int.toNat_natCast, Nat.zero_add, clrV]
      rw [List.take_append_of_le_length (by simp; omega), List.take_take, Nat.min_self]
theorem compact_L1 {p : List GProp} (hp : p.length ≤ 1000) {n : Nat} (hn : p.length < n) : ∀ (m k : Nat) (c : GProp), p.length - k < m → 1 ≤ k → k ≤ p.length → p[k - 1]? = some c →
    slices_Compact_Prop_L1 p n m k = some (p.take k ++ nxt c (p.drop k))
  | 0, k, c, hm, _, _, _ => by omega
  | m + 1, k, c, hm, hk1, hk, hc => by
    unfold slices_Compact_Prop_L1
    by_cases hlt : k < p.length
    · obtain ⟨x, hx, _⟩ := get_of hlt
      have i2 : idxO p (IntKind.i64.wrap ((k : Int) - 1)) = some c := by
        rw [wrn (k := k - 1) (by omega) (by omega), idxO_nat, hc]
      simp only [dlt hlt, cond_true, idxO_nat, hx, bindO_s, i2, eqP_dec, wr1 hlt (show p.length ≤ 9223372036854775807 by omega)]
      by_cases hxc : x = c
      · simp only [hxc, decide_true, cond_true]
        rw [needO_of ⟨by omega, by omega⟩]
        have := compact_L2 hp (k0 := k) (by omega) n k 1 p x (by omega) (by omega) (by omega) (by omega) rfl rfl (by simpa using hx)
        rw [show ((1 : Nat) : Int) = 1 from rfl] at this
        rw [this, drop_cons' hx, nxt, if_pos hxc]
      · simp only [hxc, decide_false, cond_false]
        rw [compact_L1 hp hn m (k + 1) x (by omega) (by omega) (by omega) (by simpa using hx), drop_cons' hx, nxt, if_neg hxc, take_snoc hx, List.append_assoc]
        rfl
    · simp only [dnlt hlt, cond_false, slices_Compact_Prop_K1, drop_nil' hlt, nxt, List.append_nil]
      rw [List.take_of_length_le (by omega)]
theorem compact_ok {p : List GProp} (hp : p.length ≤ 1000) {n : Nat} (hn : p.length < n) : slices_Compact_Prop n p = some (dedup ccP p) := by
  unfold slices_Compact_Prop
  match p, hp, hn with
  | [], _, _ => simp [dedup]
  | [x], _, _ => simp [dedup]
  | x :: y :: l, hp, hn =>
    have e : decide (((x :: y :: l).length : Int) < 2) = false := by simp; omega
    rw [e, cond_false]
    have := compact_L1 hp hn n 1 x (by omega) (by omega) (by simp) (by simp)
    rw [show ((1 : Nat) : Int) = 1 from rfl] at this
    rw [this, dedup_nxt]; simp
def PS (d : GDeriv) : List GProp := dedup ccP (srtP (props d))
theorem ccP_eq (x y : GProp) (h : ccP x y = 0) : x = y := ccP_zero.1 h
theorem srtP_mem {l : List GProp} {x : GProp} : x ∈ srtP l ↔ x ∈ l := (srt_perm (ltOf ccP) l).mem_iff
theorem PS_mem {d : GDeriv} {x : GProp} : x ∈ PS d ↔ x ∈ props d := by unfold PS; rw [dedup_mem ccP_eq, srtP_mem]
theorem PS_up (d : GDeriv) : Up ccP (PS d) := dedup_up cmpP_ok ccP_eq (srt_le cmpP_ok _)
theorem PS_len (d : GDeriv) : (PS d).length ≤ 2 * nodes d := by
  have h1 := dedup_len (c := ccP) (srtP (props d))
  have h2 := props_len d
  rw [srtP_len] at h1
  unfold PS; omega
theorem Props_ok {d : GDeriv} (hok : okG d) {n : Nat} (hn : SizeOf.sizeOf d ≤ n) (hn2 : 1001 ≤ n) (hb : nodes d ≤ 500) : disc_Props n d = some (PS d) := by
  have hl := props_len d
  have h1 := collect_ok _ d (Nat.lt_succ_self _) hok n hn [] (by simp; omega)
  simp only [disc_Props, h1, bindO_s, List.nil_append]
  rw [needO_of (by omega), compact_ok (by rw [srtP_len]; omega) (by rw [srtP_len]; omega), bindO_s]
  rfl
theorem half {i j : Nat} (hi : i ≤ 1000) (hj : j ≤ 1000) : IntKind.i64.wrap ((IntKind.u64.wrap (IntKind.i64.wrap ((i : Int) + (j : Int)))).fdiv (2 ^ (min (1 : Int).toNat IntKind.u64.bits))) = (((i + j) / 2 : Nat) : Int) := by
  have e1 : IntKind.i64.wrap ((i : Int) + (j : Int)) = ((i + j : Nat) : Int) := wrn (by simp) (by omega)
  have e2 : IntKind.u64.wrap ((i + j : Nat) : Int) = ((i + j : Nat) : Int) := IntWalk.u64_in _ ⟨by omega, by omega⟩
  have e3 : ((2 : Int) ^ (min (1 : Int).toNat IntKind.u64.bits)) = 2 := by decide
  rw [e1, e2, e3, Int.fdiv_eq_ediv_of_nonneg _ (by omega)]
  exact wrn (by omega) (by omega)
theorem up_get {l : List GProp} (h : Up ccP l) {i j : Nat} {x y : GProp} (hij : i < j) (hx : l[i]? = some x) (hy : l[j]? = some y) : ccP x y < 0 := by
  obtain ⟨h1, rfl⟩ := List.getElem?_eq_some_iff.1 hx
  obtain ⟨h2, rfl⟩ := List.getElem?_eq_some_iff.1 hy
  exact List.pairwise_iff_getElem.1 h i j h1 h2 hij
theorem bs_L {l : List GProp} (hl : l.length ≤ 1000) (hu : Up ccP l) {p : GProp} {n : Nat} (hn : 5 ≤ n) : ∀ (m i j : Nat), j - i < m → i ≤ j → j ≤ l.length → (∀ q x, q < i → l[q]? = some x → ccP x p < 0) → (∀ q x, j ≤ q → l[q]? = some x → 0 ≤ ccP x p) →
    ∃ z, slices_BinarySearchFunc_Prop_order_L1 l p (disc_order n) m i j = some (z, decide (p ∈ l))
  | 0, i, j, hm, _, _, _, _ => by omega
  | m + 1, i, j, hm, hij, hj, lo, hi => by
    unfold slices_BinarySearchFunc_Prop_order_L1
    by_cases hlt : i < j
    · have e1 : decide ((i : Int) < (j : Int)) = true := by simp; omega
      have hh : (i + j) / 2 < j := by omega
      have hh' : i ≤ (i + j) / 2 := by omega
      obtain ⟨x, hx, _⟩ := get_of (show (i + j) / 2 < l.length by omega)
      have w1 : IntKind.i64.wrap ((((i + j) / 2 : Nat) : Int) + 1) = (((i + j) / 2 + 1 : Nat) : Int) := wrn (by simp) (by omega)
      simp only [e1, cond_true, half (show i ≤ 1000 by omega) (show j ≤ 1000 by omega), idxO_nat, hx, bindO_s, order_n hn, slices_BinarySearchFunc_Prop_order_J2, w1]
      by_cases hc : ccP x p < 0
      · rw [decide_eq_true hc, cond_true]
        refine bs_L hl hu hn m ((i + j) / 2 + 1) j (by omega) (by omega) hj (fun q y hq hy => ?_) hi
        by_cases he : q = (i + j) / 2
        · subst he; rw [hx] at hy; cases hy; exact hc
        · exact cmpP_ok.lt_of (up_get hu (show q < (i + j) / 2 by omega) hy hx) (by omega)
      · rw [decide_eq_false hc, cond_false]
        refine bs_L hl hu hn m i ((i + j) / 2) (by omega) (by omega) (by omega) lo (fun q y hq hy => ?_)
        by_cases he : q = (i + j) / 2
        · subst he; rw [hx] at hy; cases hy; omega
        · have h1 := up_get hu (show (i + j) / 2 < q by omega) hx hy
          rcases Int.lt_or_le (ccP y p) 0 with h2 | h2
          · have := cmpP_ok.lt_of h1 (by omega : ccP y p ≤ 0); omega
          · exact h2
    · have hij' : i = j := by omega
      subst hij'
      have e1 : decide ((i : Int) < (i : Int)) = false := by simp
      simp only [e1, cond_false, slices_BinarySearchFunc_Prop_order_K1]
      have none_lo : ∀ q, q < i → l[q]? ≠ some p := fun q hq h => by
        have := lo q p hq h
        rw [cmpP_ok.self] at this; omega
      by_cases hil : i < l.length
      · obtain ⟨x, hx, hxm⟩ := get_of hil
        simp only [dlt hil, cond_true, idxO_nat, hx, bindO_s, order_n hn]
        refine ⟨i, ?_⟩
        have : (ccP x p == 0) = decide (p ∈ l) := by
          rw [Bool.eq_iff_iff]
          simp only [beq_iff_eq, decide_eq_true_eq]
          constructor
          · intro h; have := ccP_zero.1 h; subst this; exact hxm
          · intro h
            obtain ⟨q, hq⟩ := List.getElem?_of_mem h
            rcases Nat.lt_trichotomy q i with h1 | h1 | h1
            · exact absurd hq (none_lo q h1)
            · subst h1; rw [hx] at hq; cases hq; exact cmpP_ok.self _
            · have h2 := up_get hu h1 hx hq
              have h3 := hi i x (Nat.le_refl _) hx
              omega
        rw [this]
      · simp only [dnlt hil, cond_false, bindO_s]
        refine ⟨i, ?_⟩
        have : p ∉ l := fun h => by
          obtain ⟨q, hq⟩ := List.getElem?_of_mem h
          have := (List.getElem?_eq_some_iff.1 hq).1
          exact none_lo q (by omega) hq
        simp [this]
theorem has_ok {l : List GProp} (hl : l.length ≤ 1000) (hu : Up ccP l) (p : GProp) {n : Nat} (hn : 1001 ≤ n) : disc_has n l p = some (decide (p ∈ l)) := by
  obtain ⟨z, hz⟩ := bs_L hl hu (p := p) (n := n) (by omega) n 0 l.length (by omega) (by omega) (by omega) (fun q x hq => by omega) (fun q x hq hx => by
    have := (List.getElem?_eq_some_iff.1 hx).1; omega)
  rw [Int.ofNat_zero] at hz
  simp only [disc_has, slices_BinarySearchFunc_Prop_order, hz, bindO_s]
theorem Holds_ok {d : GDeriv} (hok : okG d) {n : Nat} (hn : SizeOf.sizeOf d ≤ n) (hn2 : 1001 ≤ n) (hb : nodes d ≤ 500) (p : GProp) : disc_Holds n d p = some (decide (p ∈ props d)) := by
  have := PS_len d
  simp only [disc_Holds, Props_ok hok hn hn2 hb, bindO_s, has_ok (show (PS d).length ≤ 1000 by omega) (PS_up d) p hn2, PS_mem]
theorem compare_eq (n : Nat) (x y : GProp) : ref45_Compare n x y = some (ccP x y) := by
  simp only [ref45_Compare, ref45_less, ccP, lexC, cmpI, cmpS]
  by_cases h1 : x.From = y.From
  · simp only [h1, bne_self_eq_false, cond_false, Int.lt_irrefl, if_false, ne_eq, not_true]
    by_cases h2 : x.To = y.To
    · simp only [h2, bne_self_eq_false, cond_false, Int.lt_irrefl, if_false, ne_eq, not_true]
      by_cases h3 : x.Kind = y.Kind
      · simp only [h3, bne_self_eq_false, cond_false, Int.lt_irrefl, if_false, ne_eq, not_true]
        cases h4 : bytesEq x.Name y.Name with
        | true =>
          have := (bytesEq_iff _ _).1 h4
          simp [this, bytesLt_irrefl]
        | false =>
          cases h5 : bytesLt x.Name y.Name with
          | true => simp [bindO_s]
          | false =>
            cases h6 : bytesLt y.Name x.Name with
            | true => simp [bindO_s]
            | false => have := bytesLt_total _ _ h5 h6; rw [this, bytesEq_refl] at h4; cases h4
      · have e : (x.Kind != y.Kind) = true := by simpa using h3
        by_cases hlt : x.Kind < y.Kind
        · simp [e, hlt, bindO_s]
        · have : y.Kind < x.Kind := by omega
          simp [e, hlt, this, bindO_s]
    · have e : (x.To != y.To) = true := by simpa using h2
      by_cases hlt : x.To < y.To
      · simp [e, hlt, bindO_s]
      · have : y.To < x.To := by omega
        simp [e, hlt, this, bindO_s]
  · have e : (x.From != y.From) = true := by simpa using h1
    by_cases hlt : x.From < y.From
    · simp [e, hlt, bindO_s]
    · have : y.From < x.From := by omega
      simp [e, hlt, this, bindO_s]
theorem insert_done {l : List GProp} {p : GProp} (hl : l.length ≤ 1000) {n : Nat} : ∀ (m i : Nat) (a : List GProp), l.length - i < m → i ≤ l.length → a.length + (l.length - i) ≤ 2000 → ref45_insert_L1 l p n m true i a = some (a ++ l.drop i)
  | 0, i, a, hm, _, _ => by omega
  | m + 1, i, a, hm, hi, ha => by
    unfold ref45_insert_L1
    by_cases hlt : i < l.length
    · obtain ⟨x, hx, _⟩ := get_of hlt
      simp only [dlt hlt, cond_true, idxO_nat, hx, bindO_s, compare_eq, Bool.not_true, cond_false, ref45_insert_J3, wr1 hlt (show l.length ≤ 9223372036854775807 by omega)]
      rw [needO_of ⟨by omega, by omega⟩, insert_done hl m (i + 1) (a ++ [x]) (by omega) (by omega) (by simp; omega), drop_cons' hx, List.append_assoc]
      rfl
    · simp only [dnlt hlt, cond_false, ref45_insert_K1, Bool.not_true, ref45_insert_J2, drop_nil' hlt, List.append_nil]
theorem insert_L {l : List GProp} {p : GProp} (hl : l.length ≤ 1000) {n : Nat} : ∀ (m i : Nat) (a : List GProp), l.length - i < m → i ≤ l.length → a.length + (l.length - i) ≤ 1000 → ref45_insert_L1 l p n m false i a = some (a ++ insU ccP p (l.drop i))
  | 0, i, a, hm, _, _ => by omega
  | m + 1, i, a, hm, hi, ha => by
    unfold ref45_insert_L1
    by_cases hlt : i < l.length
    · obtain ⟨x, hx, _⟩ := get_of hlt
      simp only [dlt hlt, cond_true, idxO_nat, hx, bindO_s, compare_eq, Bool.not_false, ref45_insert_J3, ref45_insert_J4, wr1 hlt (show l.length ≤ 9223372036854775807 by omega), drop_cons' hx, insU]
      by_cases h1 : ccP p x < 0
      · have h2 : ccP p x ≤ 0 := by omega
        simp only [h1, h2, decide_true, cond_true, if_true]
        rw [needO_of ⟨by omega, by omega⟩, needO_of (by simp; omega), insert_done hl m (i + 1) _ (by omega) (by omega) (by simp; omega)]
        simp
      · by_cases h2 : ccP p x = 0
        · have h3 : ccP p x ≤ 0 := by omega
          simp only [h1, h2, h3, decide_true, decide_false, cond_true, cond_false, if_true, if_false, Int.lt_irrefl, Int.le_refl]
          rw [needO_of ⟨by omega, by omega⟩, insert_done hl m (i + 1) _ (by omega) (by omega) (by simp; omega)]
          simp
        · have h3 : ¬ ccP p x ≤ 0 := by omega
          simp only [h1, h2, h3, decide_false, cond_false, if_false]
          rw [needO_of ⟨by omega, by omega⟩, insert_L hl m (i + 1) _ (by omega) (by omega) (by simp; omega)]
          simp
    · simp only [dnlt hlt, cond_false, ref45_insert_K1, Bool.not_false, cond_true, ref45_insert_J2, drop_nil' hlt, insU]
      rw [needO_of ⟨by omega, by omega⟩]
theorem insert_ok {l : List GProp} (hl : l.length ≤ 900) (p : GProp) {n : Nat} (hn : 1001 ≤ n) : ref45_insert n l p = some (insU ccP p l) := by
  have := insert_L (l := l) (p := p) (by omega) (n := n) n 0 [] (by omega) (by omega) (by simp; omega)
  simpa [ref45_insert] using this
def addU (l ps : List GProp) : List GProp := ps.foldl (fun a p => insU ccP p a) l
theorem addU_app (l a b : List GProp) : addU l (a ++ b) = addU (addU l a) b := by simp [addU]
theorem addU_len : ∀ (ps l : List GProp), (addU l ps).length ≤ l.length + ps.length
  | [], l => by simp [addU]
  | p :: ps, l => by
    have h1 := addU_len ps (insU ccP p l)
    have h2 := insU_len (c := ccP) p l
    simp only [addU, List.foldl_cons, List.length_cons] at *
    omega
theorem addU_up : ∀ (ps : List GProp) {l : List GProp}, Up ccP l → Up ccP (addU l ps)
  | [], l, h => h
  | p :: ps, l, h => addU_up ps (insU_up cmpP_ok ccP_eq p h)
theorem addU_mem : ∀ (ps l : List GProp) (x : GProp), x ∈ addU l ps ↔ x ∈ l ∨ x ∈ ps
  | [], l, x => by simp [addU]
  | p :: ps, l, x => by
    have := addU_mem ps (insU ccP p l) x
    simp only [addU, List.foldl_cons] at *
    rw [this, insU_mem ccP_eq, List.mem_cons]
    constructor
    · rintro ((h | h) | h) <;> simp [h]
    · rintro (h | h | h) <;> simp [h]
theorem add_L {d : GDeriv} (hl : d.Kids.length ≤ 9223372036854775807) {self : List GProp → GDeriv → Option (List GProp)} (hself : ∀ x ∈ d.Kids, ∀ l, l.length + 2 * nodes x ≤ 900 → self l x = some (addU l (props x))) :
    ∀ (m i : Nat) (l : List GProp), d.Kids.length - i < m → i ≤ d.Kids.length → l.length + 2 * nodesL (d.Kids.drop i) ≤ 900 → ref45_add_L2 d self m l i = some (addU l (propsL (d.Kids.drop i)))
  | 0, i, l, hm, _, _ => by omega
  | m + 1, i, l, hm, hi, hb => by
    unfold ref45_add_L2
    by_cases hlt : i < d.Kids.length
    · obtain ⟨x, hx, hxm⟩ := get_of hlt
      rw [nodesL_drop hx] at hb
      simp only [dlt hlt, cond_true, idxO_nat, hx, bindO_s, hself x hxm l (by omega), wr1 hlt hl]
      have h1 := props_len x
      have h2 := addU_len (props x) l
      rw [add_L hl hself m (i + 1) _ (by omega) (by omega) (by omega), propsL_drop hx, addU_app]
    · simp only [dnlt hlt, cond_false, ref45_add_K2, drop_nil' hlt, propsL, addU, List.foldl_nil]
theorem add_ok : ∀ (s : Nat) (d : GDeriv), SizeOf.sizeOf d < s → okG d → ∀ n, SizeOf.sizeOf d + 1001 ≤ n → ∀ l, l.length + 2 * nodes d ≤ 900 → ref45_add n l d = some (addU l (props d))
  | 0, d, hs, _, _, _, _, _ => by omega
  | s + 1, d, hs, hok, n, hn, l, hb => by
    have hk := kids_lt d
    have hnd := nodes_eq d
    cases n with
    | zero => omega
    | succ n =>
      have hL : ∀ l : List GProp, l.length + 2 * nodesL d.Kids ≤ 900 → ref45_add_L2 d (ref45_add n) n l 0 = some (addU l (propsL d.Kids)) := fun l hb => by
        have := add_L (d := d) (okG_len hok) (self := ref45_add n) (fun x hx l hb => by
          have := kid_lt d hx
          exact add_ok s x (by omega) (okG_kid hok hx) n (by omega) l hb) n 0 l (by omega) (by omega) (by simpa using hb)
        simpa using this
      simp only [ref45_add, ref45_add_b, ref45_add_J4, ref45_add_J3, ref45_add_J1]
      rw [props_eq, own]
      by_cases h0 : d.Kind = 0
      · have := insU_len (c := ccP) ⟨0, d.Name, d.From, d.To⟩ l
        rw [kz h0, cond_true, insert_ok (by omega) _ (by omega), bindO_s, hL _ (by omega), if_pos h0, addU_app]; rfl
      · rw [knz h0, cond_false, if_neg h0]
        by_cases h1 : d.Kind = 1
        · have := insU_len (c := ccP) ⟨1, d.Name, d.From, d.To⟩ l
          rw [kz h1, cond_true, insert_ok (by omega) _ (by omega), bindO_s, hL _ (by omega), if_pos h1, addU_app]; rfl
        · rw [knz h1, cond_false, if_neg h1]
          by_cases h2 : d.Kind = 2
          · have a1 := insU_len (c := ccP) ⟨2, d.Name, d.From, d.To⟩ l
            have a2 := insU_len (c := ccP) ⟨3, [], d.From, d.To⟩ (insU ccP ⟨2, d.Name, d.From, d.To⟩ l)
            rw [kz h2, cond_true, insert_ok (by omega) _ (by omega), bindO_s, insert_ok (by omega) _ (by omega), bindO_s, hL _ (by omega), if_pos h2, addU_app]; rfl
          · rw [knz h2, cond_false, if_neg h2, hL _ (by omega)]; rfl
theorem refProps_ok {d : GDeriv} (hok : okG d) {n : Nat} (hn : SizeOf.sizeOf d + 1001 ≤ n) (hb : nodes d ≤ 400) : ref45_Props n d = some (PS d) := by
  rw [ref45_Props, add_ok _ d (Nat.lt_succ_self _) hok n hn [] (by simp; omega), bindO_s]
  congr 1
  refine Up.ext cmpP_ok ccP_eq (addU_up _ (by simp [Up])) (PS_up d) fun x => ?_
  rw [addU_mem, PS_mem]; simp
theorem Has_L {l : List GProp} {p : GProp} (hl : l.length ≤ 9223372036854775807) : ∀ (m i : Nat), l.length - i < m → i ≤ l.length → ref45_Has_L1 l p m i = some (decide (p ∈ l.drop i))
  | 0, i, hm, _ => by omega
  | m + 1, i, hm, hi => by
    unfold ref45_Has_L1
    by_cases hlt : i < l.length
    · obtain ⟨x, hx, _⟩ := get_of hlt
      simp only [dlt hlt, cond_true, idxO_nat, hx, bindO_s, eqP_dec, wr1 hlt hl, drop_cons' hx]
      by_cases h : x = p
      · simp [h]
      · have h' : ¬ p = x := fun e => h e.symm
        simp only [h, decide_false, cond_false]
        rw [Has_L hl m (i + 1) (by omega) (by omega)]
        simp [h']
    · simp only [dnlt hlt, cond_false, ref45_Has_K1, drop_nil' hlt]; simp
theorem Has_ok {l : List GProp} (hl : l.length ≤ 9223372036854775807) {n : Nat} (hn : l.length < n) (p : GProp) : ref45_Has n l p = some (decide (p ∈ l)) := by
  have := Has_L (p := p) hl n 0 (by omega) (by omega)
  simpa [ref45_Has] using this
theorem refHolds_ok {d : GDeriv} (hok : okG d) {n : Nat} (hn : SizeOf.sizeOf d + 1001 ≤ n) (hb : nodes d ≤ 400) (p : GProp) : ref45_Holds n d p = some (decide (p ∈ props d)) := by
  have := PS_len d
  simp only [ref45_Holds, refProps_ok hok hn hb, bindO_s, Has_ok (show (PS d).length ≤ 9223372036854775807 by omega) (show (PS d).length < n by omega) p, PS_mem]
end Go.Proofs
end
section
namespace Go.Proofs
open Go Go.Rx Go.Vx Go.Sort
set_option linter.unusedVariables false
set_option linter.unusedSimpArgs false
theorem Light_L {l : List GDeriv} (hl : l.length ≤ 9223372036854775807) {n : Nat} (hn : ∀ d ∈ l, okG d ∧ SizeOf.sizeOf d ≤ n) : ∀ (m i : Nat) (z : Int), l.length - i < m → i ≤ l.length → 0 ≤ z → z ≤ 200 → ∃ b, ref37_Light_L1 l 60 n m z i = some b ∧ (b = true → z + nodesL (l.drop i) ≤ 60)
  | 0, i, z, hm, _, _, _ => by omega
  | m + 1, i, z, hm, hi, h0, h1 => by
    unfold ref37_Light_L1
    by_cases hlt : i < l.length
    · obtain ⟨x, hx, hxm⟩ := get_of hlt
      rw [dlt hlt, cond_true, bindO_s]
      by_cases hz : z ≤ 60
      · obtain ⟨hok, hs⟩ := hn x hxm
        obtain ⟨c, k1, k2, k3, k4⟩ := Nodes_ok _ x (Nat.lt_succ_self _) hok n hs 61 (by omega) (by omega)
        have w : IntKind.i64.wrap ((60 : Int) + 1) = 61 := by rw [wr (by omega) (by omega)]; rfl
        simp only [hz, decide_true, cond_true, idxO_nat, hx, bindO_s, w, k1, wr (show -9223372036854775808 ≤ z + c by omega) (by omega), wr1 hlt hl]
        obtain ⟨b, q1, q2⟩ := Light_L hl hn m (i + 1) (z + c) (by omega) (by omega) (by omega) (by omega)
        refine ⟨b, q1, fun hb => ?_⟩
        have := q2 hb
        rw [nodesL_drop hx]
        have hc : c < 61 := by omega
        have := k4 hc
        omega
      · simp only [hz, decide_false, cond_false, ref37_Light_K1]
        exact ⟨false, rfl, fun h => by cases h⟩
    · simp only [dnlt hlt, cond_false, bindO_s, ref37_Light_K1, drop_nil' hlt, nodesL]
      exact ⟨_, rfl, fun h => by simp at h; simp; exact h⟩
theorem nodesL_mem : ∀ {l : List GDeriv} {d : GDeriv}, d ∈ l → nodes d ≤ nodesL l
  | [], d, h => by cases h
  | e :: l, d, h => by
    simp only [nodesL]
    rcases List.mem_cons.1 h with rfl | h
    · omega
    · have := nodesL_mem h; omega
structure Lt (l : List GDeriv) (n : Nat) : Prop where
  len : l.length ≤ 6
  sum : nodesL l ≤ 60
  ok : ∀ d ∈ l, okG d
  fuel : ∀ d ∈ l, SizeOf.sizeOf d + 1001 ≤ n
  n1 : 1001 ≤ n
theorem light_ok {l : List GDeriv} {ds : List GDecision} (hl : l.length ≤ 9223372036854775807) {n : Nat} (hn : ∀ d ∈ l, okG d ∧ SizeOf.sizeOf d + 1001 ≤ n) (hn1 : 1001 ≤ n) (hll : l.length < n) : ∃ b, law45_light n l ds = some b ∧ (b = true → Lt l n ∧ ds.length ≤ 8) := by
  unfold law45_light
  by_cases h6 : (l.length : Int) ≤ 6
  · obtain ⟨b, h1, h2⟩ := Light_L hl (n := n) (fun d hd => ⟨(hn d hd).1, by have := (hn d hd).2; omega⟩) n 0 0 (by omega) (by omega) (by omega) (by omega)
    rw [Int.ofNat_zero] at h1
    simp only [h6, decide_true, cond_true, ref37_Light, h1, bindO_s]
    cases b with
    | false => exact ⟨false, rfl, fun h => by cases h⟩
    | true =>
      refine ⟨decide ((ds.length : Int) ≤ 8), rfl, fun h => ?_⟩
      have := h2 rfl
      simp at this h
      exact ⟨⟨by omega, by omega, fun d hd => (hn d hd).1, fun d hd => (hn d hd).2, hn1⟩, by omega⟩
  · simp only [h6, decide_false, cond_false, bindO_s]
    exact ⟨false, rfl, fun h => by cases h⟩
theorem Lt.nd {l : List GDeriv} {n : Nat} (h : Lt l n) {d : GDeriv} (hd : d ∈ l) : nodes d ≤ 60 := by have := nodesL_mem hd; have := h.sum; omega
theorem Lt.pr {l : List GDeriv} {n : Nat} (h : Lt l n) {d : GDeriv} (hd : d ∈ l) : disc_Props n d = some (PS d) := Props_ok (h.ok d hd) (by have := h.fuel d hd; omega) h.n1 (by have := h.nd hd; omega)
theorem Lt.holds {l : List GDeriv} {n : Nat} (h : Lt l n) {d : GDeriv} (hd : d ∈ l) (p : GProp) : ref45_Holds n d p = some (decide (p ∈ props d)) := refHolds_ok (h.ok d hd) (h.fuel d hd) (by have := h.nd hd; omega) p
theorem set_take {α : Type} {L : List α} {i : Nat} {x : α} (h : i < L.length) : (L.set i x).take (i + 1) = L.take i ++ [x] := by
  rw [List.take_add_one, List.take_set_of_le (Nat.le_refl _), List.getElem?_set]
  simp [h]
theorem all_L {l : List GDeriv} {n : Nat} (hL : Lt l n) : ∀ (m i : Nat) (a : List (List GProp)), l.length - i < m → i ≤ l.length → a.length = l.length → a.take i = (l.take i).map PS → disc_all_L1 l n m i a = some (l.map PS)
  | 0, i, a, hm, _, _, _ => by omega
  | m + 1, i, a, hm, hi, ha, ht => by
    have h6 := hL.len
    unfold disc_all_L1
    by_cases hlt : i < l.length
    · obtain ⟨x, hx, hxm⟩ := get_of hlt
      obtain ⟨y, hy, _⟩ := get_of (show i < a.length by omega)
      have iv : idxV a 0 (l.length : Int).toNat (i : Int) = some y := by
        unfold idxV
        rw [if_pos ⟨by omega, by simp; omega⟩]
        simpa using hy
      simp only [dlt hlt, cond_true, idxO_nat, hx, bindO_s, hL.pr hxm, iv, wr1 hlt (show l.length ≤ 9223372036854775807 by omega)]
      refine all_L hL m (i + 1) _ (by omega) (by omega) (by simpa using ha) ?_
      rw [Int.toNat_natCast, set_take (by omega), ht, take_snoc hx]; simp
    · simp only [dnlt hlt, cond_false, disc_all_K1]
      rw [needO_of (by simp; omega)]
      rw [List.take_of_length_le (by omega), List.take_of_length_le (by omega)] at ht
      rw [ht]
theorem all_ok {l : List GDeriv} {n : Nat} (hL : Lt l n) : disc_all n l = some (l.map PS) := by
  have h6 := hL.len
  have h1 := hL.n1
  unfold disc_all
  rw [needO_of ⟨by omega, by simp; omega, by omega⟩]
  have := all_L hL n 0 (List.replicate (l.length : Int).toNat []) (by omega) (by omega) (by simp) (by simp)
  rwa [Int.ofNat_zero] at this
theorem flat_small {l : List GDeriv} : ((l.map PS).flatten).length ≤ 2 * nodesL l := by
  induction l with
  | nil => simp [nodesL]
  | cons d l ih => have := PS_len d; simp only [List.map_cons, List.flatten_cons, List.length_append, nodesL]; omega
theorem concat_L2 {Ls : List (List GProp)} (hl : Ls.length ≤ 1000) (hs : Ls.flatten.length ≤ 1000) : ∀ (m i : Nat) (a : List GProp), Ls.length - i < m → i ≤ Ls.length → a ++ (Ls.drop i).flatten = Ls.flatten → slices_Concat_Prop_L2 Ls m i a = some Ls.flatten
  | 0, i, a, hm, _, _ => by omega
  | m + 1, i, a, hm, hi, ha => by
    unfold slices_Concat_Prop_L2
    by_cases hlt : i < Ls.length
    · obtain ⟨x, hx, _⟩ := get_of hlt
      have hlen := congrArg List.length ha
      rw [drop_cons' hx] at ha hlen
      simp only [List.flatten_cons, List.length_append] at hlen
      simp only [dlt hlt, cond_true, idxO_nat, hx, bindO_s, wr1 hlt (show Ls.length ≤ 9223372036854775807 by omega)]
      rw [needO_of ⟨by omega, by omega⟩]
      exact concat_L2 hl hs m (i + 1) (a ++ x) (by omega) (by omega) (by simpa using ha)
    · simp only [dnlt hlt, cond_false, slices_Concat_Prop_K2]
      rw [drop_nil' hlt] at ha
      simpa using ha
theorem grow_ok {z : Nat} (hz : z ≤ 1000) (n : Nat) : slices_Grow_Prop n z = some [] := by
  unfold slices_Grow_Prop
  have e1 : decide ((z : Int) < 0) = false := by simp
  have w : IntKind.i64.wrap ((z : Int) - 0) = (z : Int) := wrn (by simp) (by omega)
  rw [e1, cond_false, w]
  by_cases h : z = 0
  · subst h; simp
  · have e2 : decide ((z : Int) > 0) = true := by simp; omega
    rw [e2, cond_true, needO_of ⟨by omega, by simp; omega, by simp; omega⟩, needO_of (by simp), needO_of ⟨by omega, by omega⟩, needO_of (by omega)]
    simp
theorem concat_L1 {Ls : List (List GProp)} (hl : Ls.length ≤ 1000) (hs : Ls.flatten.length ≤ 1000) {n : Nat} (hn : 1001 ≤ n) : ∀ (m i z : Nat), Ls.length - i < m → i ≤ Ls.length → z + (Ls.drop i).flatten.length = Ls.flatten.length → slices_Concat_Prop_L1 Ls n m z i = some Ls.flatten
  | 0, i, z, hm, _, _ => by omega
  | m + 1, i, z, hm, hi, hz => by
    unfold slices_Concat_Prop_L1
    by_cases hlt : i < Ls.length
    · obtain ⟨x, hx, _⟩ := get_of hlt
      rw [drop_cons' hx] at hz
      simp only [List.flatten_cons, List.length_append] at hz
      have w : IntKind.i64.wrap ((z : Int) + (x.length : Int)) = ((z + x.length : Nat) : Int) := wrn (by simp) (by omega)
      have e : decide (((z + x.length : Nat) : Int) < 0) = false := by simp; omega
      simp only [dlt hlt, cond_true, idxO_nat, hx, bindO_s, w, e, cond_false, wr1 hlt (show Ls.length ≤ 9223372036854775807 by omega)]
      exact concat_L1 hl hs hn m (i + 1) _ (by omega) (by omega) (by omega)
    · simp only [dnlt hlt, cond_false, slices_Concat_Prop_K1]
      rw [drop_nil' hlt] at hz
      simp only [List.flatten_nil, List.length_nil, Nat.add_zero] at hz
      rw [grow_ok (by omega), bindO_s]
      have := concat_L2 hl hs n 0 [] (by omega) (by omega) (by simp)
      rwa [Int.ofNat_zero] at this
theorem concat_ok {Ls : List (List GProp)} (hl : Ls.length ≤ 1000) (hs : Ls.flatten.length ≤ 1000) {n : Nat} (hn : 1001 ≤ n) : slices_Concat_Prop n Ls = some Ls.flatten := by
  have := concat_L1 hl hs hn n 0 0 (by omega) (by omega) (by simp)
  simpa [slices_Concat_Prop] using this
def grp (k : Nat) : List GProp → Nat → List GProp
  | [], _ => []
  | _ :: _, 0 => []
  | x :: l, f + 1 => (if ((x :: l).takeWhile fun y => decide (y = x)).length < k then [x] else []) ++ grp k ((x :: l).dropWhile fun y => decide (y = x)) f
theorem dropWhile_eq {α : Type} (p : α → Bool) : ∀ l : List α, l.dropWhile p = l.drop (l.takeWhile p).length
  | [] => by simp
  | x :: l => by
    rw [List.dropWhile_cons, List.takeWhile_cons]
    cases h : p x <;> simp [dropWhile_eq p l]
theorem takeWhile_get {α : Type} (p : α → Bool) : ∀ (l : List α) (i : Nat), i < (l.takeWhile p).length → ∃ x, l[i]? = some x ∧ p x = true
  | [], i, h => by simp at h
  | x :: l, i, h => by
    rw [List.takeWhile_cons] at h
    cases hp : p x with
    | false => rw [hp] at h; simp at h
    | true =>
      rw [hp] at h
      cases i with
      | zero => exact ⟨x, rfl, hp⟩
      | succ i => simpa using takeWhile_get p l i (by simpa using h)
theorem takeWhile_stop {α : Type} (p : α → Bool) : ∀ (l : List α) (x : α), l[(l.takeWhile p).length]? = some x → p x = false
  | [], x, h => by simp at h
  | y :: l, x, h => by
    rw [List.takeWhile_cons] at h
    cases hp : p y with
    | false => rw [hp] at h; simp at h; subst h; exact hp
    | true => rw [hp] at h; simp at h; exact takeWhile_stop p l x h
theorem mem_tw {α : Type} (p : α → Bool) {y : α} : ∀ {l : List α}, y ∈ l.takeWhile p → p y = true
  | [], h => by simp at h
  | x :: l, h => by
    rw [List.takeWhile_cons] at h
    cases hp : p x with
    | false => rw [hp] at h; simp at h
    | true =>
      rw [hp] at h
      simp only [if_true] at h
      rcases List.mem_cons.1 h with rfl | h
      · exact hp
      · exact mem_tw p h
theorem takeWhile_le {α : Type} (p : α → Bool) : ∀ l : List α, (l.takeWhile p).length ≤ l.length
  | [] => by simp
  | x :: l => by
    rw [List.takeWhile_cons]
    split
    · have := takeWhile_le p l; simp; omega
    · simp
theorem differ_L2 {Ls : List (List GProp)} {r : List GProp} (hr : r.length ≤ 1000) {i : Nat} {a : List GProp} {rc : Int → List GProp → Option (List GProp)} {x : GProp} (hx : (srtP r)[i]? = some x) : ∀ (m k : Nat), (srtP r).length - (i + k) < m → 1 ≤ k → k ≤ (((srtP r).drop i).takeWhile fun y => decide (y = x)).length →
    disc_differ_L2 Ls r i a rc m ((i + k : Nat) : Int) = disc_differ_K2 Ls r i a rc ((i + (((srtP r).drop i).takeWhile fun y => decide (y = x)).length : Nat) : Int)
  | 0, k, hm, _, _ => by omega
  | m + 1, k, hm, hk, hg => by
    have hle := takeWhile_le (fun y => decide (y = x)) ((srtP r).drop i)
    rw [List.length_drop] at hle
    have hl := srtP_len r
    unfold disc_differ_L2
    by_cases hlt : i + k < (srtP r).length
    · obtain ⟨y, hy, _⟩ := get_of hlt
      have hy' : ((srtP r).drop i)[k]? = some y := by rw [List.getElem?_drop]; exact hy
      have e1 := dlt hlt
      simp only [e1, cond_true, idxO_nat, hx, hy, bindO_s, eqP_dec, wr1 hlt (show (srtP r).length ≤ 9223372036854775807 by omega)]
      by_cases hlast : k = (((srtP r).drop i).takeWhile fun y => decide (y = x)).length
      · have hne := takeWhile_stop (fun y => decide (y = x)) ((srtP r).drop i) y (by rw [← hlast]; exact hy')
        simp only [hne, cond_false]
        rw [← hlast]
      · obtain ⟨y', h1, h2⟩ := takeWhile_get (fun y => decide (y = x)) ((srtP r).drop i) k (by omega)
        rw [hy'] at h1; cases h1
        simp only [h2, cond_true]
        exact differ_L2 hr hx m (k + 1) (by omega) (by omega) (by omega)
    · simp only [dnlt hlt, cond_false, bindO_s]
      have : i + k = i + (((srtP r).drop i).takeWhile fun y => decide (y = x)).length := by omega
      rw [this]
theorem differ_L1 {Ls : List (List GProp)} (hLs : Ls.length ≤ 1000) {r : List GProp} (hr : r.length ≤ 1000) {n : Nat} (hn : 1001 ≤ n) : ∀ (m i : Nat) (a : List GProp) (f : Nat), (srtP r).length - i < m → i ≤ (srtP r).length → (srtP r).length - i ≤ f → a.length + ((srtP r).length - i) ≤ 1000 → disc_differ_L1 Ls n r m i a = some (a ++ grp Ls.length ((srtP r).drop i) f)
  | 0, i, a, f, hm, _, _, _ => by omega
  | m + 1, i, a, f, hm, hi, hf, ha => by
    have hl := srtP_len r
    unfold disc_differ_L1
    by_cases hlt : i < (srtP r).length
    · obtain ⟨x, hx, _⟩ := get_of hlt
      obtain ⟨f, rfl⟩ : ∃ q, f = q + 1 := ⟨f - 1, by omega⟩
      have hdc := drop_cons' hx
      have hg1 : 1 ≤ (((srtP r).drop i).takeWhile fun y => decide (y = x)).length := by rw [hdc, List.takeWhile_cons]; simp
      have hle := takeWhile_le (fun y => decide (y = x)) ((srtP r).drop i)
      rw [List.length_drop] at hle
      rw [dlt hlt, cond_true, wr1 hlt (by omega), differ_L2 hr hx n 1 (by omega) (Nat.le_refl _) hg1]
      generalize hG : (((srtP r).drop i).takeWhile fun y => decide (y = x)).length = G at *
      have w : IntKind.i64.wrap (((i + G : Nat) : Int) - (i : Int)) = (G : Int) := wrn (by omega) (by omega)
      simp only [disc_differ_K2, w, idxO_nat, hx, bindO_s, disc_differ_J3]
      have hgr : grp Ls.length ((srtP r).drop i) (f + 1) = (if G < Ls.length then [x] else []) ++ grp Ls.length ((srtP r).drop (i + G)) f := by
        have : grp Ls.length ((srtP r).drop i) (f + 1) = (if (((srtP r).drop i).takeWhile fun y => decide (y = x)).length < Ls.length then [x] else []) ++ grp Ls.length (((srtP r).drop i).dropWhile fun y => decide (y = x)) f := by
          conv => lhs; rw [hdc]
          rw [grp, ← hdc]
        rw [this, dropWhile_eq, hG, List.drop_drop]
      by_cases hc : G < Ls.length
      · have e : decide ((G : Int) < (Ls.length : Int)) = true := dlt hc
        rw [e, cond_true, needO_of ⟨by omega, by omega⟩, differ_L1 hLs hr hn m (i + G) _ f (by omega) (by omega) (by omega) (by simp; omega), hgr, if_pos hc, List.append_assoc]
      · have e : decide ((G : Int) < (Ls.length : Int)) = false := dnlt hc
        rw [e, cond_false, differ_L1 hLs hr hn m (i + G) _ f (by omega) (by omega) (by omega) (by omega), hgr, if_neg hc]
        rfl
    · simp only [dnlt hlt, cond_false, disc_differ_K1, drop_nil' hlt, grp, List.append_nil]
theorem grp_eq (k : Nat) : ∀ (f : Nat) (l : List GProp), l.length ≤ f → l.Pairwise (fun x y => ccP x y ≤ 0) → grp k l f = (dedup ccP l).filter (fun p => decide (l.count p < k))
  | f, [], _, _ => by simp [grp, dedup]
  | 0, x :: l, h, _ => by simp at h
  | f + 1, x :: l, h, hs => by
    have htw : ∀ y ∈ (x :: l).dropWhile (fun y => decide (y = x)), ccP x y < 0 := by
      intro y hy
      have hdx : ((x :: l).dropWhile fun y => decide (y = x)) = l.dropWhile fun y => decide (y = x) := by simp [List.dropWhile_cons]
      rw [hdx] at hy
      have hp := List.pairwise_cons.1 hs
      cases hd : l.dropWhile (fun y => decide (y = x)) with
      | nil => rw [hd] at hy; cases hy
      | cons z q =>
        have hz : ¬ z = x := by
          have := List.head?_dropWhile_not (fun y => decide (y = x)) l
          rw [hd] at this
          simpa using this
        have hsub : (z :: q).Sublist l := by rw [← hd]; exact List.dropWhile_sublist _
        have hxz : ccP x z < 0 := by
          have h1 := hp.1 z (hsub.subset (by simp))
          rcases Int.lt_or_eq_of_le h1 with h2 | h2
          · exact h2
          · exact absurd (ccP_zero.1 h2).symm hz
        rw [hd] at hy
        rcases List.mem_cons.1 hy with rfl | hy
        · exact hxz
        · exact cmpP_ok.lt_of hxz ((List.pairwise_cons.1 (hp.2.sublist hsub)).1 y hy)
    have hrest : ((x :: l).dropWhile fun y => decide (y = x)).Pairwise (fun x y => ccP x y ≤ 0) := hs.sublist (List.dropWhile_sublist _)
    have hlen : ((x :: l).dropWhile fun y => decide (y = x)).length ≤ f := by
      have : ((x :: l).dropWhile fun y => decide (y = x)) = l.dropWhile fun y => decide (y = x) := by simp [List.dropWhile_cons]
      rw [this]
      have := (List.dropWhile_sublist (fun y => decide (y = x)) (l := l)).length_le
      simp at h; omega
    have hsplit : x :: l = ((x :: l).takeWhile fun y => decide (y = x)) ++ ((x :: l).dropWhile fun y => decide (y = x)) := (List.takeWhile_append_dropWhile).symm
    have hall : ∀ y ∈ (x :: l).takeWhile (fun y => decide (y = x)), y = x := fun y hy => by simpa using mem_tw (fun y => decide (y = x)) hy
    have hnx : x ∉ (x :: l).dropWhile (fun y => decide (y = x)) := fun hm => by have := htw x hm; rw [cmpP_ok.self] at this; omega
    have hcx : (x :: l).count x = ((x :: l).takeWhile fun y => decide (y = x)).length := by
      conv => lhs; rw [hsplit]
      rw [List.count_append, List.count_eq_zero.2 hnx, Nat.add_zero, List.count_eq_length.2 (fun y hy => (hall y hy).symm)]
    have hcy : ∀ y, y ∈ (x :: l).dropWhile (fun y => decide (y = x)) → (x :: l).count y = ((x :: l).dropWhile fun y => decide (y = x)).count y := fun y hy => by
      conv => lhs; rw [hsplit]
      rw [List.count_append, List.count_eq_zero.2, Nat.zero_add]
      intro hm
      have := hall y hm
      subst this
      exact hnx hy
    have hdd : dedup ccP (x :: l) = x :: dedup ccP ((x :: l).dropWhile fun y => decide (y = x)) := by
      refine Up.ext cmpP_ok ccP_eq (dedup_up cmpP_ok ccP_eq hs) ?_ fun y => ?_
      · refine List.pairwise_cons.2 ⟨fun y hy => htw y ((dedup_mem ccP_eq _ y).1 hy), dedup_up cmpP_ok ccP_eq hrest⟩
      · rw [dedup_mem ccP_eq, List.mem_cons (l := dedup ccP _), dedup_mem ccP_eq]
        constructor
        · intro hy
          rw [hsplit] at hy
          rcases List.mem_append.1 hy with hy | hy
          · exact .inl (hall y hy)
          · exact .inr hy
        · rintro (rfl | hy)
          · simp
          · rw [hsplit]; exact List.mem_append.2 (.inr hy)
    rw [grp, grp_eq k f _ hlen hrest, hdd, List.filter_cons, ← hcx]
    have hfil : (dedup ccP ((x :: l).dropWhile fun y => decide (y = x))).filter (fun p => decide (((x :: l).dropWhile fun y => decide (y = x)).count p < k)) = (dedup ccP ((x :: l).dropWhile fun y => decide (y = x))).filter (fun p => decide ((x :: l).count p < k)) := by
      refine List.filter_congr fun y hy => ?_
      rw [hcy y ((dedup_mem ccP_eq _ y).1 hy)]
    rw [hfil]
    by_cases hc : (x :: l).count x < k
    · rw [if_pos hc, decide_eq_true hc, if_pos rfl]; rfl
    · rw [if_neg hc, decide_eq_false hc]; rfl
end Go.Proofs
end
section
namespace Go.Proofs
open Go Go.Rx Go.Vx Go.Sort
set_option linter.unusedVariables false
set_option linter.unusedSimpArgs false
def cntH (l : List GDeriv) (p : GProp) : Nat := (l.filter fun d => decide (p ∈ props d)).length
def dsc (l : List GDeriv) : List GProp := (dedup ccP (srtP (propsL l))).filter (fun p => decide (cntH l p < l.length))
theorem up_nodup {l : List GProp} (h : Up ccP l) : l.Nodup := List.Pairwise.imp (fun {x y} hxy => by
  rintro rfl; rw [cmpP_ok.self] at hxy; omega) h
theorem count_PS (d : GDeriv) (p : GProp) : (PS d).count p = if p ∈ props d then 1 else 0 := by
  by_cases h : p ∈ props d
  · rw [if_pos h, List.Nodup.count (up_nodup (PS_up d)), if_pos (PS_mem.2 h)]
  · rw [if_neg h]; exact List.count_eq_zero.2 (fun hm => h (PS_mem.1 hm))
theorem count_flat : ∀ (l : List GDeriv) (p : GProp), ((l.map PS).flatten).count p = cntH l p
  | [], p => by simp [cntH]
  | d :: l, p => by
    rw [List.map_cons, List.flatten_cons, List.count_append, count_PS, count_flat l p]
    simp only [cntH, List.filter_cons]
    by_cases h : p ∈ props d
    · simp [h]; omega
    · simp [h]
theorem mem_propsL {p : GProp} : ∀ {l : List GDeriv}, p ∈ propsL l ↔ ∃ d ∈ l, p ∈ props d
  | [] => by simp [propsL]
  | d :: l => by simp [propsL, mem_propsL (l := l)]
theorem mem_flat {l : List GDeriv} {p : GProp} : p ∈ (l.map PS).flatten ↔ p ∈ propsL l := by
  rw [mem_propsL]
  simp only [List.mem_flatten, List.mem_map]
  constructor
  · rintro ⟨_, ⟨d, hd, rfl⟩, hp⟩; exact ⟨d, hd, PS_mem.1 hp⟩
  · rintro ⟨d, hd, hp⟩; exact ⟨_, ⟨d, hd, rfl⟩, PS_mem.2 hp⟩
theorem ded_flat (l : List GDeriv) : dedup ccP (srtP (l.map PS).flatten) = dedup ccP (srtP (propsL l)) :=
  Up.ext cmpP_ok ccP_eq (dedup_up cmpP_ok ccP_eq (srt_le cmpP_ok _)) (dedup_up cmpP_ok ccP_eq (srt_le cmpP_ok _)) fun x => by
    rw [dedup_mem ccP_eq, dedup_mem ccP_eq, srtP_mem, srtP_mem, mem_flat]
theorem differ_ok {l : List GDeriv} {n : Nat} (hL : Lt l n) : disc_differ n (l.map PS) = some (dsc l) := by
  have h6 := hL.len
  have hs := hL.sum
  have h1 := hL.n1
  have hfl := flat_small (l := l)
  have hsl := srtP_len (l.map PS).flatten
  unfold disc_differ
  rw [concat_ok (by simp; omega) (by omega) h1, bindO_s, needO_of (by omega)]
  have := differ_L1 (Ls := l.map PS) (by simp; omega) (r := (l.map PS).flatten) (by omega) h1 n 0 [] (srtP (l.map PS).flatten).length (by omega) (by omega) (by omega) (by simp; omega)
  rw [Int.ofNat_zero] at this
  rw [this, List.nil_append, List.drop_zero, grp_eq _ _ (srtP (l.map PS).flatten) (Nat.le_refl _) (srt_le cmpP_ok _), ded_flat, dsc]
  congr 1
  refine List.filter_congr fun p _ => ?_
  rw [show (srtP (l.map PS).flatten).count p = ((l.map PS).flatten).count p from (srt_perm (ltOf ccP) (l.map PS).flatten).count_eq p, count_flat, List.length_map]
theorem dsc_len (l : List GDeriv) : (dsc l).length ≤ 2 * nodesL l := by
  have h1 := List.length_filter_le (fun p => decide (cntH l p < l.length)) (dedup ccP (srtP (propsL l)))
  have h2 := dedup_len (c := ccP) (srtP (propsL l))
  have h3 := srtP_len (propsL l)
  have h4 := propsL_len l
  unfold dsc; omega
end Go.Proofs
end
section
namespace Go.Proofs
open Go Go.Rx Go.Vx Go.Sort
set_option linter.unusedVariables false
set_option linter.unusedSimpArgs false
def fits1 (d : GDeriv) (x : GDecision) : Bool := decide (x.Propx ∈ props d) == x.Yes
def agree (d : GDeriv) (ds : List GDecision) : Bool := ds.all (fits1 d)
def remF : List GDeriv → List GDecision → Nat → List Int
  | [], _, _ => []
  | d :: l, ds, i => (if agree d ds then [(i : Int)] else []) ++ remF l ds (i + 1)
def rem (l : List GDeriv) (ds : List GDecision) : List Int := remF l ds 0
theorem remF_len : ∀ (l : List GDeriv) (ds : List GDecision) (i : Nat), (remF l ds i).length ≤ l.length
  | [], ds, i => by simp [remF]
  | d :: l, ds, i => by
    have := remF_len l ds (i + 1)
    simp only [remF, List.length_append, List.length_cons]
    split <;> simp <;> omega
theorem remF_mem : ∀ (l : List GDeriv) (ds : List GDecision) (i : Nat) (z : Int), z ∈ remF l ds i ↔ ∃ k d, l[k]? = some d ∧ z = ((i + k : Nat) : Int) ∧ agree d ds = true
  | [], ds, i, z => by simp [remF]
  | d :: l, ds, i, z => by
    simp only [remF, List.mem_append, remF_mem l ds (i + 1) z]
    constructor
    · rintro (h | ⟨k, e, h1, h2, h3⟩)
      · split at h
        · rename_i ha; simp at h; exact ⟨0, d, rfl, by simpa using h, ha⟩
        · cases h
      · exact ⟨k + 1, e, by simpa using h1, by rw [h2]; congr 1; omega, h3⟩
    · rintro ⟨k, e, h1, h2, h3⟩
      cases k with
      | zero => simp at h1; subst h1; left; simp [h3, h2]
      | succ k => right; exact ⟨k, e, by simpa using h1, by rw [h2]; congr 1; omega, h3⟩
theorem rem_mem {l : List GDeriv} {ds : List GDecision} {z : Int} : z ∈ rem l ds ↔ ∃ (k : Nat) (d : GDeriv), l[k]? = some d ∧ z = (k : Int) ∧ agree d ds = true := by
  rw [rem, remF_mem]; simp
theorem wrong_ok {d : GDeriv} (hd : nodes d ≤ 60) {n : Nat} (hn : 1001 ≤ n) (x : GDecision) : disc_remaining_1 n x (PS d) = some (!fits1 d x) := by
  have := PS_len d
  simp only [disc_remaining_1, has_ok (show (PS d).length ≤ 1000 by omega) (PS_up d) x.Propx hn, bindO_s, PS_mem, fits1]
theorem idx_L {d : GDeriv} (hd : nodes d ≤ 60) {n : Nat} (hn : 1001 ≤ n) {ds : List GDecision} (hl : ds.length ≤ 1000) : ∀ (m i : Nat), ds.length - i < m → i ≤ ds.length → ∃ z, slices_IndexFunc_Decision_remaining_1_L1 ds (PS d) (disc_remaining_1 n) m i = some z ∧ decide (z ≥ 0) = !agree d (ds.drop i)
  | 0, i, hm, _ => by omega
  | m + 1, i, hm, hi => by
    unfold slices_IndexFunc_Decision_remaining_1_L1
    by_cases hlt : i < ds.length
    · obtain ⟨x, hx, _⟩ := get_of hlt
      simp only [dlt hlt, cond_true, idxO_nat, hx, bindO_s, wrong_ok hd hn, wr1 hlt (show ds.length ≤ 9223372036854775807 by omega), drop_cons' hx, agree, List.all_cons]
      cases hf : fits1 d x with
      | false => exact ⟨i, rfl, by simp⟩
      | true =>
        obtain ⟨z, h1, h2⟩ := idx_L hd hn hl m (i + 1) (by omega) (by omega)
        refine ⟨z, by simpa using h1, ?_⟩
        rw [h2]; simp [agree]
    · simp only [dnlt hlt, cond_false, slices_IndexFunc_Decision_remaining_1_K1, drop_nil' hlt]
      exact ⟨-1, rfl, by simp [agree]⟩
theorem cont_ok {d : GDeriv} (hd : nodes d ≤ 60) {n : Nat} (hn : 1001 ≤ n) {ds : List GDecision} (hl : ds.length ≤ 1000) : slices_ContainsFunc_Decision_remaining_1 (disc_remaining_1 n) n ds (PS d) = some (!agree d ds) := by
  obtain ⟨z, h1, h2⟩ := idx_L hd hn hl n 0 (by omega) (by omega)
  rw [Int.ofNat_zero] at h1
  simp only [slices_ContainsFunc_Decision_remaining_1, slices_IndexFunc_Decision_remaining_1, h1, bindO_s, h2, List.drop_zero]
theorem map_get {l : List GDeriv} {i : Nat} {d : GDeriv} (h : l[i]? = some d) : (l.map PS)[i]? = some (PS d) := by simp [h]
theorem rem_L {l : List GDeriv} {n : Nat} (hL : Lt l n) {ds : List GDecision} (hl : ds.length ≤ 1000) : ∀ (m i : Nat) (a : List Int), l.length - i < m → i ≤ l.length → a.length ≤ i → disc_remaining_L1 (l.map PS) ds n m i a = some (a ++ remF (l.drop i) ds i)
  | 0, i, a, hm, _, _ => by omega
  | m + 1, i, a, hm, hi, ha => by
    have h6 := hL.len
    have hml : (l.map PS).length = l.length := by simp
    unfold disc_remaining_L1
    by_cases hlt : i < l.length
    · obtain ⟨d, hd, hdm⟩ := get_of hlt
      have hw : IntKind.i64.wrap ((i : Int) + 1) = ((i + 1 : Nat) : Int) := wrn (by simp) (by omega)
      simp only [dlt (show i < (l.map PS).length by omega), cond_true, idxO_nat, map_get hd, bindO_s, cont_ok (hL.nd hdm) hL.n1 hl, disc_remaining_J2, hw, drop_cons' hd, remF, Bool.not_not]
      cases hg : agree d ds with
      | true =>
        rw [cond_true, needO_of ⟨by omega, by omega⟩, rem_L hL hl m (i + 1) _ (by omega) (by omega) (by simp; omega)]
        simp
      | false =>
        rw [cond_false, rem_L hL hl m (i + 1) _ (by omega) (by omega) (by omega)]
        simp
    · simp only [dnlt (show ¬ i < (l.map PS).length by omega), cond_false, disc_remaining_K1, drop_nil' hlt, remF, List.append_nil]
theorem remaining_ok {l : List GDeriv} {n : Nat} (hL : Lt l n) {ds : List GDecision} (hl : ds.length ≤ 1000) : disc_remaining n (l.map PS) ds = some (rem l ds) := by
  have h6 := hL.len
  have h1 := hL.n1
  have := rem_L hL hl n 0 [] (by omega) (by omega) (by simp)
  simpa [disc_remaining, rem] using this
theorem Remaining_ok {l : List GDeriv} {n : Nat} (hL : Lt l n) {ds : List GDecision} (hl : ds.length ≤ 1000) : disc_Remaining n l ds = some (rem l ds) := by
  simp only [disc_Remaining, all_ok hL, bindO_s, remaining_ok hL hl]
def hasAt (l : List GDeriv) (p : GProp) (z : Int) : Bool := match l[z.toNat]? with
  | some d => decide (p ∈ props d)
  | none => false
def cntR (l : List GDeriv) (r : List Int) (p : GProp) : Nat := (r.filter (hasAt l p)).length
def isDec (ds : List GDecision) (p : GProp) : Bool := ds.any fun x => decide (x.Propx = p)
def impl1 (l : List GDeriv) (ds : List GDecision) (r : List Int) (p : GProp) : List GDecision :=
  if isDec ds p then [] else if cntR l r p = 0 ∨ cntR l r p = r.length then [⟨p, decide (0 < cntR l r p)⟩] else []
def impl (l : List GDeriv) (ds : List GDecision) : List GDecision := if rem l ds = [] then [] else (dsc l).flatMap (impl1 l ds (rem l ds))
theorem dec_L {ds : List GDecision} (hl : ds.length ≤ 1000) {p : GProp} {n : Nat} : ∀ (m i : Nat), ds.length - i < m → i ≤ ds.length → ∃ z, slices_IndexFunc_Decision_Implied_1_L1 ds p (disc_Implied_1 n) m i = some z ∧ decide (z ≥ 0) = isDec (ds.drop i) p
  | 0, i, hm, _ => by omega
  | m + 1, i, hm, hi => by
    unfold slices_IndexFunc_Decision_Implied_1_L1
    by_cases hlt : i < ds.length
    · obtain ⟨x, hx, _⟩ := get_of hlt
      simp only [dlt hlt, cond_true, idxO_nat, hx, bindO_s, disc_Implied_1, eqP_dec, wr1 hlt (show ds.length ≤ 9223372036854775807 by omega), drop_cons' hx, isDec, List.any_cons]
      by_cases h : x.Propx = p
      · simp only [h, decide_true, cond_true]; exact ⟨i, rfl, by simp⟩
      · simp only [h, decide_false, cond_false, Bool.false_or]
        exact dec_L hl m (i + 1) (by omega) (by omega)
    · simp only [dnlt hlt, cond_false, slices_IndexFunc_Decision_Implied_1_K1, drop_nil' hlt]
      exact ⟨-1, rfl, by simp [isDec]⟩
theorem decd_ok {ds : List GDecision} (hl : ds.length ≤ 1000) (p : GProp) {n : Nat} (hn : 1001 ≤ n) : slices_ContainsFunc_Decision_Implied_1 (disc_Implied_1 n) n ds p = some (isDec ds p) := by
  obtain ⟨z, h1, h2⟩ := dec_L (n := n) hl (p := p) n 0 (by omega) (by omega)
  rw [Int.ofNat_zero] at h1
  simp only [slices_ContainsFunc_Decision_Implied_1, slices_IndexFunc_Decision_Implied_1, h1, bindO_s, h2, List.drop_zero]
def Idx (l : List GDeriv) (r : List Int) : Prop := ∀ z ∈ r, ∃ (k : Nat) (d : GDeriv), l[k]? = some d ∧ z = (k : Int)
theorem rem_idx (l : List GDeriv) (ds : List GDecision) : Idx l (rem l ds) := fun z hz => by
  obtain ⟨k, d, h1, h2, _⟩ := rem_mem.1 hz
  exact ⟨k, d, h1, h2⟩
theorem rem_len (l : List GDeriv) (ds : List GDecision) : (rem l ds).length ≤ l.length := remF_len l ds 0
theorem cntR_drop {l : List GDeriv} {r : List Int} {p : GProp} {k : Nat} {z : Int} (h : r[k]? = some z) : cntR l (r.drop k) p = (if hasAt l p z then 1 else 0) + cntR l (r.drop (k + 1)) p := by
  rw [drop_cons' h]
  simp only [cntR, List.filter_cons]
  split <;> simp <;> omega
theorem impl_L2 {l : List GDeriv} {n : Nat} (hL : Lt l n) {r : List Int} (hr : Idx l r) (hrl : r.length ≤ 6) {i : Int} {a : List GDecision} {rc : Int → List GDecision → Option (List GDecision)} {p : GProp} : ∀ (m k z : Nat), r.length - k < m → k ≤ r.length → z ≤ k →
    disc_Implied_L2 n (l.map PS) r i a rc p m z k = disc_Implied_K2 r i a rc p ((z + cntR l (r.drop k) p : Nat) : Int)
  | 0, k, z, hm, _, _ => by omega
  | m + 1, k, z, hm, hk, hz => by
    unfold disc_Implied_L2
    by_cases hlt : k < r.length
    · obtain ⟨x, hx, hxm⟩ := get_of hlt
      obtain ⟨q, d, h1, h2⟩ := hr x hxm
      subst h2
      have hdm := List.mem_of_getElem? h1
      have hpl := PS_len d
      have hnd := hL.nd hdm
      have w : IntKind.i64.wrap ((z : Int) + 1) = ((z + 1 : Nat) : Int) := wrn (by simp) (by omega)
      have hat : hasAt l p (q : Int) = decide (p ∈ props d) := by simp [hasAt, h1]
      simp only [dlt hlt, cond_true, idxO_nat, hx, map_get h1, bindO_s, has_ok (show (PS d).length ≤ 1000 by omega) (PS_up d) p hL.n1, PS_mem, disc_Implied_J4, w, wr1 hlt (show r.length ≤ 9223372036854775807 by omega), cntR_drop hx, hat]
      by_cases h : p ∈ props d
      · rw [decide_eq_true h, cond_true, impl_L2 hL hr hrl m (k + 1) (z + 1) (by omega) (by omega) (by omega)]
        congr 2; simp; omega
      · rw [decide_eq_false h, cond_false, impl_L2 hL hr hrl m (k + 1) z (by omega) (by omega) (by omega)]
        congr 2; simp
    · simp only [dnlt hlt, cond_false, drop_nil' hlt]; simp [cntR]
theorem impl1_len (l : List GDeriv) (ds : List GDecision) (r : List Int) (p : GProp) : (impl1 l ds r p).length ≤ 1 := by
  unfold impl1; split; · simp
  split <;> simp
theorem natz {k : Nat} : ((k : Int) == 0) = decide (k = 0) := by rw [Bool.eq_iff_iff]; simp
theorem nateq {k q : Nat} : ((k : Int) == (q : Int)) = decide (k = q) := by rw [Bool.eq_iff_iff, beq_iff_eq, decide_eq_true_eq]; omega
theorem natpos {k : Nat} : decide ((k : Int) > 0) = decide (0 < k) := by rw [Bool.eq_iff_iff, decide_eq_true_eq, decide_eq_true_eq]; omega
theorem impl_L1 {l : List GDeriv} {n : Nat} (hL : Lt l n) {ds : List GDecision} (hl : ds.length ≤ 1000) {r : List Int} (hr : Idx l r) (hrl : r.length ≤ 6) {ps : List GProp} (hps : ps.length ≤ 500) : ∀ (m i : Nat) (a : List GDecision), ps.length - i < m → i ≤ ps.length → a.length ≤ i →
    disc_Implied_L1 ds n (l.map PS) r ps m i a = some (a ++ (ps.drop i).flatMap (impl1 l ds r))
  | 0, i, a, hm, _, _ => by omega
  | m + 1, i, a, hm, hi, ha => by
    have h1 := hL.n1
    unfold disc_Implied_L1
    by_cases hlt : i < ps.length
    · obtain ⟨p, hp, _⟩ := get_of hlt
      simp only [dlt hlt, cond_true, idxO_nat, hp, bindO_s, decd_ok hl p h1, wr1 hlt (show ps.length ≤ 9223372036854775807 by omega), drop_cons' hp, List.flatMap_cons]
      have i1 := impl1_len l ds r p
      cases hd : isDec ds p with
      | true =>
        rw [cond_true, impl_L1 hL hl hr hrl hps m (i + 1) a (by omega) (by omega) (by omega)]
        simp [impl1, hd]
      | false =>
        have h2 := impl_L2 hL hr hrl (i := (i : Int)) (a := a) (rc := disc_Implied_L1 ds n (l.map PS) r ps m) (p := p) n 0 0 (by omega) (by omega) (by omega)
        rw [Int.ofNat_zero] at h2
        rw [cond_false, h2]
        simp only [List.drop_zero, Nat.zero_add, disc_Implied_K2, disc_Implied_J3, natz, nateq, natpos, wr1 hlt (show ps.length ≤ 9223372036854775807 by omega)]
        by_cases hc : cntR l r p = 0 ∨ cntR l r p = r.length
        · have e : bindO (cond (decide (cntR l r p = 0)) (some true) (some (decide (cntR l r p = r.length)))) (fun b49 : Bool => cond b49 (needO ((a.length + 1) * 48 ≤ 140737488355328 ∧ a.length + 1 ≤ 140737488355328) (disc_Implied_L1 ds n (l.map PS) r ps m ((i + 1 : Nat) : Int) (a ++ [⟨p, decide (0 < cntR l r p)⟩]))) (disc_Implied_L1 ds n (l.map PS) r ps m ((i + 1 : Nat) : Int) a)) = disc_Implied_L1 ds n (l.map PS) r ps m ((i + 1 : Nat) : Int) (a ++ [⟨p, decide (0 < cntR l r p)⟩]) := by
            rcases hc with hc | hc
            · simp only [hc, decide_true, cond_true, bindO_s]
              rw [needO_of ⟨by omega, by omega⟩]
            · by_cases h0 : cntR l r p = 0
              · simp only [h0, decide_true, cond_true, bindO_s]
                rw [needO_of ⟨by omega, by omega⟩]
              · rw [decide_eq_false h0, cond_false, decide_eq_true hc, bindO_s, cond_true, needO_of ⟨by omega, by omega⟩]
          rw [e, impl_L1 hL hl hr hrl hps m (i + 1) _ (by omega) (by omega) (by simp; omega)]
          simp [impl1, hd, hc]
        · have h0 : ¬ cntR l r p = 0 := fun h => hc (.inl h)
          have h3 : ¬ cntR l r p = r.length := fun h => hc (.inr h)
          simp only [h0, h3, decide_false, cond_false, bindO_s]
          rw [impl_L1 hL hl hr hrl hps m (i + 1) a (by omega) (by omega) (by omega)]
          simp [impl1, hd, h0, h3]
    · simp only [dnlt hlt, cond_false, disc_Implied_K1, drop_nil' hlt]; simp
theorem len0 {α : Type} (l : List α) : ((l.length : Int) == 0) = decide (l.length = 0) := natz
theorem Implied_ok {l : List GDeriv} {n : Nat} (hL : Lt l n) {ds : List GDecision} (hl : ds.length ≤ 1000) : disc_Implied n l ds = some (impl l ds) := by
  have h1 := hL.n1
  have hrl := rem_len l ds
  have h6 := hL.len
  have hdl := dsc_len l
  have hs := hL.sum
  simp only [disc_Implied, all_ok hL, bindO_s, remaining_ok hL hl, len0]
  by_cases h0 : rem l ds = []
  · simp [h0, impl]
  · have : ¬ (rem l ds).length = 0 := fun h => h0 (List.eq_nil_of_length_eq_zero h)
    have h2 := impl_L1 hL hl (rem_idx l ds) (by omega) (ps := dsc l) (by omega) n 0 [] (by omega) (by omega) (by simp)
    rw [Int.ofNat_zero] at h2
    simp only [this, decide_false, cond_false, differ_ok hL, bindO_s, h2]
    simp [impl, h0]
theorem SameNumbers_L {a b : List Int} (hl : a.length ≤ 9223372036854775807) (he : a.length = b.length) : ∀ (m i : Nat), a.length - i < m → i ≤ a.length → ref45_SameNumbers_L1 a b m i = some (decide (a.drop i = b.drop i))
  | 0, i, hm, _ => by omega
  | m + 1, i, hm, hi => by
    unfold ref45_SameNumbers_L1
    by_cases hlt : i < a.length
    · obtain ⟨x, hx, _⟩ := get_of hlt
      obtain ⟨y, hy, _⟩ := get_of (show i < b.length by omega)
      simp only [dlt hlt, cond_true, idxO_nat, hx, hy, bindO_s, wr1 hlt hl, drop_cons' hx, drop_cons' hy, List.cons.injEq]
      by_cases h : x = y
      · have e : (x != y) = false := by simp [h]
        rw [e, cond_false]
        simp only [h, true_and]
        exact SameNumbers_L hl he m (i + 1) (by omega) (by omega)
      · have e : (x != y) = true := by simpa using h
        simp [e, h]
    · have h2 : ¬ i < b.length := by omega
      simp only [dnlt hlt, cond_false, ref45_SameNumbers_K1, drop_nil' hlt, drop_nil' h2]; simp
theorem SameNumbers_ok {a b : List Int} (hl : a.length ≤ 9223372036854775807) {n : Nat} (hn : a.length < n) : ref45_SameNumbers n a b = some (decide (a = b)) := by
  unfold ref45_SameNumbers
  by_cases h : a.length = b.length
  · have e : ((a.length : Int) != (b.length : Int)) = false := by simp [h]
    have := SameNumbers_L hl h n 0 (by omega) (by omega)
    rw [e, cond_false]
    simpa using this
  · have e : ((a.length : Int) != (b.length : Int)) = true := by simp; omega
    have : ¬ a = b := fun e => h (by rw [e])
    simp [e, this]
theorem eqD_iff (x y : GDecision) : eqGDecision x y = true ↔ x = y := by
  obtain ⟨p, a⟩ := x
  obtain ⟨q, b⟩ := y
  have := eqP_iff p q
  simp only [eqGProp] at this
  simp only [eqGDecision, GDecision.mk.injEq]
  rw [Bool.and_eq_true, this]; simp
instance : DecidableEq GDecision := fun x y => decidable_of_iff (eqGDecision x y = true) (eqD_iff x y)
theorem flatMap_len (l : List GDeriv) (ds : List GDecision) (r : List Int) : ∀ ps : List GProp, (ps.flatMap (impl1 l ds r)).length ≤ ps.length
  | [] => by simp
  | p :: ps => by
    have h1 := impl1_len l ds r p
    have h2 := flatMap_len l ds r ps
    rw [List.flatMap_cons, List.length_append, List.length_cons]; omega
theorem impl_len (l : List GDeriv) (ds : List GDecision) : (impl l ds).length ≤ 2 * nodesL l := by
  have h1 := flatMap_len l ds (rem l ds) (dsc l)
  have h2 := dsc_len l
  unfold impl; split
  · simp
  · omega
end Go.Proofs
end
section
namespace Go.Proofs
open Go Go.Rx Go.Vx
set_option maxRecDepth 10000
set_option linter.unusedSimpArgs false
set_option linter.unusedVariables false
def law45_DiscNarrows_K2 (p1 : List GDeriv) (p3 : GDecision) (n : Nat) (r9 : (List Int)) (r13 : (List Int)) (z34 : Int) (rc1 : Int → Int → Option (Bool)) (z57 : Int) : Option (Bool) :=
  bindO (cond (z57 == (r9.length : Int))
    (some true)
    (bindO (idxO r13 z34) fun x59 =>
    bindO (idxO p1 x59) fun x61 =>
    bindO (disc_Holds n x61 p3.Propx) fun r63 =>
    some (!(r63 == p3.Yes)))) fun b65 =>
  cond b65
    (some false)
    (rc1 z57 (IntKind.i64.wrap (z34 + 1)))
def law45_DiscNarrows_L2 (p1 : List GDeriv) (p3 : GDecision) (n : Nat) (r9 : (List Int)) (r13 : (List Int)) (z34 : Int) (rc1 : Int → Int → Option (Bool)) : Nat → Int → Option (Bool)
  | 0, _ => none
  | m2 + 1, z56 =>
    bindO (cond (decide (z56 < (r9.length : Int)))
      (bindO (idxO r9 z56) fun x69 =>
      bindO (idxO r13 z34) fun x71 =>
      some (x69 != x71))
      (some false)) fun b73 =>
    cond b73
      ((law45_DiscNarrows_L2 p1 p3 n r9 r13 z34 rc1 m2) (IntKind.i64.wrap (z56 + 1)))
      (law45_DiscNarrows_K2 p1 p3 n r9 r13 z34 rc1 z56)
def law45_DiscNarrows_K1 (n : Nat) (r9 : (List Int)) (r19 : (List Int))  : Option (Bool) :=
  bindO (bindO (ref45_SameNumbers n r19 r9) fun r35 =>
  cond r35
    (bindO (law45_exampleHolds n) fun r38 =>
    some r38)
    (some false)) fun b40 =>
  some b40
def law45_DiscNarrows_L1 (p1 : List GDeriv) (p3 : GDecision) (n : Nat) (r9 : (List Int)) (r13 : (List Int)) (r19 : (List Int)) : Nat → Int → Int → Option (Bool)
  | 0, _, _ => none
  | m1 + 1, z33, z34 =>
    cond (decide (z34 < (r13.length : Int)))
      (law45_DiscNarrows_L2 p1 p3 n r9 r13 z34 (law45_DiscNarrows_L1 p1 p3 n r9 r13 r19 m1) n z33)
      (law45_DiscNarrows_K1 n r9 r19)
def law45_DiscNarrows (n : Nat) (p1 : List GDeriv) (p2 : List GDecision) (p3 : GDecision) : Option (Bool) :=
  bindO (law45_light n p1 p2) fun r4 =>
  cond (!r4)
    (bindO (law45_exampleHolds n) fun r7 =>
    some r7)
    (bindO (disc_Remaining n p1 p2) fun r9 =>
    needO (p2.length * 48 ≤ 140737488355328 ∧ p2.length ≤ 140737488355328) (
    needO ((p2.length + ([p3]).length) * 48 ≤ 140737488355328 ∧ p2.length + ([p3]).length ≤ 140737488355328) (
    bindO (disc_Remaining n p1 (p2 ++ [p3])) fun r13 =>
    needO (p2.length * 48 ≤ 140737488355328 ∧ p2.length ≤ 140737488355328) (
    bindO (disc_Implied n p1 p2) fun r16 =>
    needO ((p2.length + r16.length) * 48 ≤ 140737488355328 ∧ p2.length + r16.length ≤ 140737488355328) (
    bindO (disc_Remaining n p1 (p2 ++ r16)) fun r19 =>
    law45_DiscNarrows_L1 p1 p3 n r9 r13 r19 n 0 0)))))
theorem law45_DiscNarrows_0 (n : Nat) (p1 : List GDeriv) (p2 : List GDecision) (p3 : GDecision) (r : Bool) (hF : law45_DiscNarrows n p1 p2 p3 = some r) : EvU Try.prog 7 [.isl false (List.map cGDeriv p1), .isl false (List.map cGDecision p2), .agg (cGDecision p3)] ⟨[], 0⟩ (fun u _ => u = .bool r ∧ Bel 0 u) := by
  unfold law45_DiscNarrows at hF
  refine EvU.of_body Try.tb_ok Try.fn7 rfl ?_
  refine WPU.ghost (tm' := fr 85 [(0, .isl false (List.map cGDeriv p1)), (1, .isl false (List.map cGDecision p2)), (2, .agg (cGDecision p3))]) (Gh.start (Nat.le_of_ble_eq_true rfl)) (Nat.zero_le _) ?_
  repeat refine sq ?_
  refine WPU.region Try.tb_ok ?_
  refine RS.op (u := .ptr 0 0 0) (σ' := ⟨[(0, .row (cGDecision p3) 44)], 1⟩) rfl (op_box rfl rfl rfl) rfl rfl ?_
  refine RS.as rfl rfl rfl rfl ?_
  refine RS.done ?_
  repeat refine gq ?_
  repeat refine sq ?_
  obtain ⟨r4, h5, hF⟩ := bindO_some hF
  refine WPU.region Try.tb_ok ?_
  repeat refine RS.mv rfl rfl rfl rfl ?_
  refine RS.call (u := .bool r4) (args := [.isl false (List.map cGDeriv p1), .isl false (List.map cGDecision p2)]) rfl (op_call rfl rfl Try.fn17 Try.hb17 rfl rfl) (law45_light_ok n p1 p2 r4 h5 _) rfl rfl ?_
  refine RS.op (u := .bool (!r4)) rfl (op_un rfl rfl rfl rfl) rfl rfl ?_
  refine RS.done ?_
  repeat refine gq ?_
  repeat refine sq ?_
  refine WPU.condS (t := (!r4)) rfl (fun h6 => ?_) (fun h6 => ?_)
  replace hF := cond_t h6 hF
  repeat refine sq ?_
  obtain ⟨r7, h8, hF⟩ := bindO_some hF
  refine WPU.region Try.tb_ok ?_
  refine RS.call (u := .bool r7) (args := []) rfl (op_call rfl rfl Try.fn11 Try.hb11 rfl rfl) (law45_exampleHolds_ok n  r7 h8 _) rfl rfl ?_
  refine RS.as rfl rfl rfl rfl ?_
  refine RS.done ?_
  repeat refine gq ?_
  repeat refine sq ?_
  refine WPU.ret ?_
  repeat refine gq ?_
  have hr := Option.some.inj hF
  subst hr
  exact ⟨.inr rfl, [.bool r7], res_t rfl (res_n), .bool r7, ⟨[], 0⟩, Nat.le_refl _, Gh.toR (.bool r7) rfl, rfl, BU.h⟩
  replace hF := cond_f h6 hF
  repeat refine sq ?_
  refine WPU.skip ?_
  repeat refine gq ?_
  repeat refine sq ?_
  obtain ⟨r9, h10, hF⟩ := bindO_some hF
  refine WPU.region Try.tb_ok ?_
  repeat refine RS.mv rfl rfl rfl rfl ?_
  refine RS.call (u := .isl false (List.map (cI .i64) r9)) (args := [.isl false (List.map cGDeriv p1), .isl false (List.map cGDecision p2)]) rfl (op_call rfl rfl Try.fn21 Try.hb21 rfl rfl) (disc_Remaining_ok n p1 p2 r9 h10 _) rfl rfl ?_
  refine RS.as rfl rfl rfl rfl ?_
  refine RS.done ?_
  repeat refine gq ?_
  repeat refine sq ?_
  obtain ⟨h11, hF⟩ := needO_some hF
  obtain ⟨h12, hF⟩ := needO_some hF
  obtain ⟨r13, h14, hF⟩ := bindO_some hF
  refine WPU.drawE Try.tb_ok [(0, 1), (0, 3), (0, 6), (2, 1), (4, 1), (4, 3)] (by kernel_rfl) ?_
  refine RD.mv rfl rfl rfl rfl ?_
  refine RD.act (u := .sl 1 0 0 0) (σ' := ⟨[(1, .row [] 44), (0, .row (cGDecision p3) 44)], 2⟩) rfl (op_bsl Try.und36 Try.inf44 rfl rfl rfl rfl rfl rfl rfl) rfl rfl ?_
  refine RD.mv rfl rfl rfl rfl ?_
  refine RD.act (u := .vl 2 0 0 p2.length) (σ' := ⟨[(2, .vec (List.map cGDecision p2).flatten 44 5 0), (1, .row [] 44), (0, .row (cGDecision p3) 44)], 3⟩) rfl (op_app rfl rfl rfl rfl (app_emp cGDecision p2 Try.und36 Try.und36 Try.inf44 rfl rfl rfl (src_isl cGDecision len_cGDecision) h11)) rfl rfl ?_
  refine RD.look (u := .agg (cGDecision p3)) rfl (ld_agg Try.und44 rfl (sz_of Try.inf44) rfl rfl rfl) rfl rfl ?_
  refine RD.freeO (u := .isl false (List.map cGDecision ([p3]))) rfl (FreeO.bs (cs := [.int .i64 p3.Propx.Kind, .str p3.Propx.Name, .int .i64 p3.Propx.From, .int .i64 p3.Propx.To, .bool p3.Yes]) Try.und36 Try.inf44 rfl rfl rfl rfl rfl rfl rfl rfl rfl) rfl rfl ?_
  refine RD.act (u := .vl 2 1 0 ((p2 ++ [p3]).length)) (σ' := ⟨[(2, .vec (List.map cGDecision (p2 ++ [p3])).flatten 44 5 1), (1, .row [] 44), (0, .row (cGDecision p3) 44)], 3⟩) rfl (op_app rfl rfl rfl rfl (app_vl cGDecision ([p3]) Try.und36 Try.und36 Try.inf44 rfl len_cGDecision rfl (src_isl cGDecision len_cGDecision) h12)) rfl rfl ?_
  refine RD.fcall (u := .isl false (List.map (cI .i64) r13)) (args := [.isl false (List.map cGDeriv p1), .vl 2 1 0 ((p2 ++ [p3]).length)]) (σ1 := ⟨[(1, .row [] 44), (0, .row (cGDecision p3) 44)], 3⟩) rfl (op_call rfl rfl Try.fn21 Try.hb21 rfl rfl) (Gh.fz (tm' := [.isl false (List.map cGDeriv p1), .isl false (List.map cGDecision (p2 ++ [p3]))]) (h' := [(1, .row [] 44), (0, .row (cGDecision p3) 44)]) 2 (.vec (List.map cGDecision (p2 ++ [p3])).flatten 44 5 1) 5 rfl (by simp) (by simp only [oneU, fzL_nil, fzL_cons, fz_int, fz_bool, fz_str, fz_nils, fz_nilp, fz_nilm, fz_nilf, fz_junk, fz_isl, fz_map, fz_agg, fz_tup, fz_fn, junkT, fz_vl len_cGDecision, fz_cGDecision]) (by simp only [fzH, fzB, ug, Nat.beq, cond_true, cond_false, oneU, fzL_nil, fzL_cons, fz_int, fz_bool, fz_str, fz_nils, fz_nilp, fz_nilm, fz_nilf, fz_junk, fz_isl, fz_map, fz_agg, fz_tup, fz_fn, junkT, fz_vl len_cGDecision, fz_cGDecision])) (Nat.le_of_ble_eq_true rfl) (disc_Remaining_ok n p1 (p2 ++ [p3]) r13 h14 _) rfl rfl ?_
  refine RD.as rfl rfl rfl rfl ?_
  refine RD.done ⟨by kernel_rfl, ⟨op_move rfl, ⟨op_move rfl, ⟨op_move rfl, ⟨op_move rfl, ⟨ld_agg Try.und44 rfl (sz_of Try.inf44) rfl rfl rfl, ⟨ld_agg Try.und44 rfl (sz_of Try.inf44) rfl rfl rfl, trivial⟩⟩⟩⟩⟩⟩, ?_⟩
  repeat refine gq ?_
  repeat refine sq ?_
  obtain ⟨h15, hF⟩ := needO_some hF
  obtain ⟨r16, h17, hF⟩ := bindO_some hF
  obtain ⟨h18, hF⟩ := needO_some hF
  obtain ⟨r19, h20, hF⟩ := bindO_some hF
  refine WPU.region Try.tb_ok ?_
  refine RS.mv rfl rfl rfl rfl ?_
  refine RS.op (u := .sl 3 0 0 0) (σ' := ⟨[(3, .row [] 44), (1, .row [] 44), (0, .row (cGDecision p3) 44)], 4⟩) rfl (op_bsl Try.und36 Try.inf44 rfl rfl rfl rfl rfl rfl rfl) rfl rfl ?_
  refine RS.mv rfl rfl rfl rfl ?_
  refine RS.op (u := .vl 4 0 0 p2.length) (σ' := ⟨[(4, .vec (List.map cGDecision p2).flatten 44 5 0), (3, .row [] 44), (1, .row [] 44), (0, .row (cGDecision p3) 44)], 5⟩) rfl (op_app rfl rfl rfl rfl (app_emp cGDecision p2 Try.und36 Try.und36 Try.inf44 rfl rfl rfl (src_isl cGDecision len_cGDecision) h15)) rfl rfl ?_
  repeat refine RS.mv rfl rfl rfl rfl ?_
  refine RS.call (u := .isl false (List.map cGDecision r16)) (args := [.isl false (List.map cGDeriv p1), .isl false (List.map cGDecision p2)]) rfl (op_call rfl rfl Try.fn24 Try.hb24 rfl rfl) (disc_Implied_ok n p1 p2 r16 h17 _) rfl rfl ?_
  refine RS.op (u := .vl 4 1 0 ((p2 ++ r16).length)) (σ' := ⟨[(4, .vec (List.map cGDecision (p2 ++ r16)).flatten 44 5 1), (3, .row [] 44), (1, .row [] 44), (0, .row (cGDecision p3) 44)], 5⟩) rfl (op_app rfl rfl rfl rfl (app_vl cGDecision r16 Try.und36 Try.und36 Try.inf44 rfl len_cGDecision rfl (src_isl cGDecision len_cGDecision) h18)) rfl rfl ?_
  refine RS.fcall (u := .isl false (List.map (cI .i64) r19)) (args := [.isl false (List.map cGDeriv p1), .vl 4 1 0 ((p2 ++ r16).length)]) (σ1 := ⟨[(3, .row [] 44), (1, .row [] 44), (0, .row (cGDecision p3) 44)], 5⟩) rfl (op_call rfl rfl Try.fn21 Try.hb21 rfl rfl) (Gh.fz (tm' := [.isl false (List.map cGDeriv p1), .isl false (List.map cGDecision (p2 ++ r16))]) (h' := [(3, .row [] 44), (1, .row [] 44), (0, .row (cGDecision p3) 44)]) 4 (.vec (List.map cGDecision (p2 ++ r16)).flatten 44 5 1) 5 rfl (by simp) (by simp only [oneU, fzL_nil, fzL_cons, fz_int, fz_bool, fz_str, fz_nils, fz_nilp, fz_nilm, fz_nilf, fz_junk, fz_isl, fz_map, fz_agg, fz_tup, fz_fn, junkT, fz_vl len_cGDecision, fz_cGDecision]) (by simp only [fzH, fzB, ug, Nat.beq, cond_true, cond_false, oneU, fzL_nil, fzL_cons, fz_int, fz_bool, fz_str, fz_nils, fz_nilp, fz_nilm, fz_nilf, fz_junk, fz_isl, fz_map, fz_agg, fz_tup, fz_fn, junkT, fz_vl len_cGDecision, fz_cGDecision])) (Nat.le_of_ble_eq_true rfl) (disc_Remaining_ok n p1 (p2 ++ r16) r19 h20 _) rfl rfl ?_
  refine RS.as rfl rfl rfl rfl ?_
  refine RS.done ?_
  repeat refine gq ?_
  repeat refine sq ?_
  refine WPU.region Try.tb_ok ?_
  refine RS.as rfl rfl rfl rfl ?_
  refine RS.done ?_
  repeat refine gq ?_
  repeat refine sq ?_
  refine WPU.region Try.tb_ok ?_
  refine RS.mv rfl rfl rfl rfl ?_
  refine RS.op rfl (op_len rfl rfl rfl (len_isl (cI .i64) Try.und38)) rfl rfl ?_
  refine RS.mv rfl rfl rfl rfl ?_
  refine RS.done ?_
  repeat refine gq ?_
  repeat refine sq ?_
  refine WPU.ghost (tm' := fr 85 [(0, .isl false (List.map cGDeriv p1)), (5, .ptr 0 0 0), (7, .isl false (List.map (cI .i64) r9)), (8, .isl false (List.map (cI .i64) r13)), (9, .isl false (List.map (cI .i64) r19)), (10, .int .i64 0), (38, .int .i64 (r13.length : Int)), (39, .int .i64 0)]) (Gh.sub ⟨rfl, rfl, rfl, rfl, rfl, rfl, rfl, rfl, trivial⟩) (Nat.zero_le _) ?_
  refine WPU.loopK (fun m tm σ => ∃ z33 : Int, ∃ z34 : Int, law45_DiscNarrows_L1 p1 p3 n r9 r13 r19 m z33 z34 = some r ∧ tm = fr 85 [(0, .isl false (List.map cGDeriv p1)), (5, .ptr 0 0 0), (7, .isl false (List.map (cI .i64) r9)), (8, .isl false (List.map (cI .i64) r13)), (9, .isl false (List.map (cI .i64) r19)), (10, .int .i64 z33), (38, .int .i64 (r13.length : Int)), (39, .int .i64 z34)] ∧ σ = ⟨[(3, .row [] 44), (1, .row [] 44), (0, .row (cGDecision p3) 44)], 5⟩) (fun tm σ => law45_DiscNarrows_K1 n r9 r19 = some r ∧ tm = fr 85 [(7, .isl false (List.map (cI .i64) r9)), (9, .isl false (List.map (cI .i64) r19))] ∧ σ = ⟨[(3, .row [] 44), (1, .row [] 44), (0, .row (cGDecision p3) 44)], 5⟩) n ⟨0, 0, hF, rfl, rfl⟩ ?_ ?_
  rintro _ _ ⟨hF, rfl, rfl⟩
  unfold law45_DiscNarrows_K1 at hF
  repeat refine gq ?_
  repeat refine sq ?_
  obtain ⟨b40, h41, hF⟩ := bindO_some hF
  refine WPU.joinK (fun tm σ => tm = fr 85 [(6, .bool b40)] ∧ σ = ⟨[(3, .row [] 44), (1, .row [] 44), (0, .row (cGDecision p3) 44)], 5⟩) ?_ ?_
  rintro _ _ ⟨rfl, rfl⟩
  repeat refine gq ?_
  repeat refine sq ?_
  refine WPU.ret ?_
  repeat refine gq ?_
  have hr := Option.some.inj hF
  subst hr
  exact ⟨.inr rfl, [.bool b40], res_t rfl (res_n), .bool b40, ⟨[], 0⟩, Nat.le_refl _, Gh.toR (.bool b40) rfl, rfl, BU.h⟩
  obtain ⟨r35, h36, h41⟩ := bindO_some h41
  rcases bool_tf r35 with h37 | h37
  replace h41 := cond_t h37 h41
  obtain ⟨r38, h39, h41⟩ := bindO_some h41
  replace h41 := Option.some.inj h41
  subst h41
  refine WPU.region Try.tb_ok ?_
  repeat refine RS.mv rfl rfl rfl rfl ?_
  refine RS.call (u := .bool r35) (args := [.isl false (List.map (cI .i64) r19), .isl false (List.map (cI .i64) r9)]) rfl (op_call rfl rfl Try.fn20 Try.hb20 rfl rfl) (ref45_SameNumbers_ok n r19 r9 r35 h36 _) rfl rfl ?_
  refine RS.mv rfl rfl rfl rfl ?_
  refine RS.call (u := .bool r38) (args := []) (want1 rfl rfl rfl h37) (op_call rfl rfl Try.fn11 Try.hb11 rfl rfl) (law45_exampleHolds_ok n  r38 h39 _) rfl rfl ?_
  refine RS.op (u := .bool r38) rfl (op_pick1 rfl h37 rfl) rfl rfl ?_
  refine RS.as rfl rfl rfl rfl ?_
  refine RS.done ?_
  repeat refine gq ?_
  exact ⟨_, _, ⟨rfl, rfl⟩, (Nat.zero_le _), Gh.toC (n1 := 5) ⟨rfl, trivial⟩ rfl (Nat.zero_le _) (by simp)⟩
  replace h41 := cond_f h37 h41
  replace h41 := Option.some.inj h41
  subst h41
  refine WPU.region Try.tb_ok ?_
  repeat refine RS.mv rfl rfl rfl rfl ?_
  refine RS.call (u := .bool r35) (args := [.isl false (List.map (cI .i64) r19), .isl false (List.map (cI .i64) r9)]) rfl (op_call rfl rfl Try.fn20 Try.hb20 rfl rfl) (ref45_SameNumbers_ok n r19 r9 r35 h36 _) rfl rfl ?_
  refine RS.mv rfl rfl rfl rfl ?_
  refine RS.no (want0 rfl rfl rfl h37) rfl rfl ?_
  refine RS.op (u := .bool false) rfl (op_pick0 rfl h37 rfl) rfl rfl ?_
  refine RS.as rfl rfl rfl rfl ?_
  refine RS.done ?_
  repeat refine gq ?_
  exact ⟨_, _, ⟨rfl, rfl⟩, (Nat.zero_le _), Gh.toC (n1 := 5) ⟨rfl, trivial⟩ rfl (Nat.zero_le _) (by simp)⟩
  rintro m1 _ _ ⟨z33, z34, hF, rfl, rfl⟩
  rcases m1 with _ | m1
  cases hF
  unfold law45_DiscNarrows_L1 at hF
  repeat refine sq ?_
  refine WPU.region Try.tb_ok ?_
  refine RS.op rfl (op_int rfl rfl (ix_lss _ _ _) rfl) rfl rfl ?_
  refine RS.done ?_
  repeat refine gq ?_
  repeat refine sq ?_
  refine WPU.condS (t := (decide (z34 < (r13.length : Int)))) rfl (fun h42 => ?_) (fun h42 => ?_)
  replace hF := cond_t h42 hF
  repeat refine sq ?_
  refine WPU.skip ?_
  repeat refine gq ?_
  repeat refine sq ?_
  refine WPU.block ?_
  repeat refine sq ?_
  refine WPU.region Try.tb_ok ?_
  refine RS.mv rfl rfl rfl rfl ?_
  refine RS.as rfl rfl rfl rfl ?_
  refine RS.done ?_
  repeat refine gq ?_
  repeat refine sq ?_
  refine WPU.ghost (tm' := fr 85 [(0, .isl false (List.map cGDeriv p1)), (5, .ptr 0 0 0), (7, .isl false (List.map (cI .i64) r9)), (8, .isl false (List.map (cI .i64) r13)), (9, .isl false (List.map (cI .i64) r19)), (10, .int .i64 z33), (11, .int .i64 z34), (38, .int .i64 (r13.length : Int)), (39, .int .i64 z34)]) (Gh.sub ⟨rfl, rfl, rfl, rfl, rfl, rfl, rfl, rfl, rfl, trivial⟩) (Nat.zero_le _) ?_
  refine WPU.loopK (fun m tm σ => ∃ z56 : Int, law45_DiscNarrows_L2 p1 p3 n r9 r13 z34 (law45_DiscNarrows_L1 p1 p3 n r9 r13 r19 m1) m z56 = some r ∧ tm = fr 85 [(0, .isl false (List.map cGDeriv p1)), (5, .ptr 0 0 0), (7, .isl false (List.map (cI .i64) r9)), (8, .isl false (List.map (cI .i64) r13)), (9, .isl false (List.map (cI .i64) r19)), (10, .int .i64 z56), (11, .int .i64 z34), (38, .int .i64 (r13.length : Int)), (39, .int .i64 z34)] ∧ σ = ⟨[(3, .row [] 44), (1, .row [] 44), (0, .row (cGDecision p3) 44)], 5⟩) (fun tm σ => ∃ z57 : Int, law45_DiscNarrows_K2 p1 p3 n r9 r13 z34 (law45_DiscNarrows_L1 p1 p3 n r9 r13 r19 m1) z57 = some r ∧ tm = fr 85 [(0, .isl false (List.map cGDeriv p1)), (5, .ptr 0 0 0), (7, .isl false (List.map (cI .i64) r9)), (8, .isl false (List.map (cI .i64) r13)), (9, .isl false (List.map (cI .i64) r19)), (10, .int .i64 z57), (11, .int .i64 z34), (38, .int .i64 (r13.length : Int)), (39, .int .i64 z34)] ∧ σ = ⟨[(3, .row [] 44), (1, .row [] 44), (0, .row (cGDecision p3) 44)], 5⟩) n ⟨z33, hF, rfl, rfl⟩ ?_ ?_
  rintro _ _ ⟨z57, hF, rfl, rfl⟩
  unfold law45_DiscNarrows_K2 at hF
  repeat refine gq ?_
  repeat refine sq ?_
  obtain ⟨b65, h66, hF⟩ := bindO_some hF
  refine WPU.joinK (fun tm σ => tm = fr 85 [(0, .isl false (List.map cGDeriv p1)), (5, .ptr 0 0 0), (7, .isl false (List.map (cI .i64) r9)), (8, .isl false (List.map (cI .i64) r13)), (9, .isl false (List.map (cI .i64) r19)), (10, .int .i64 z57), (38, .int .i64 (r13.length : Int)), (39, .int .i64 z34), (77, .bool b65)] ∧ σ = ⟨[(3, .row [] 44), (1, .row [] 44), (0, .row (cGDecision p3) 44)], 5⟩) ?_ ?_
  rintro _ _ ⟨rfl, rfl⟩
  repeat refine gq ?_
  repeat refine sq ?_
  refine WPU.condS (t := b65) rfl (fun h67 => ?_) (fun h67 => ?_)
  replace hF := cond_t h67 hF
  repeat refine sq ?_
  refine WPU.region Try.tb_ok ?_
  refine RS.as rfl rfl rfl rfl ?_
  refine RS.done ?_
  repeat refine gq ?_
  repeat refine sq ?_
  refine WPU.ret ?_
  repeat refine gq ?_
  have hr := Option.some.inj hF
  subst hr
  exact ⟨.inr rfl, [.bool false], res_t rfl (res_n), .bool false, ⟨[], 0⟩, Nat.le_refl _, Gh.toR (.bool false) rfl, rfl, BU.h⟩
  replace hF := cond_f h67 hF
  repeat refine sq ?_
  refine WPU.skip ?_
  repeat refine gq ?_
  repeat refine sq ?_
  refine WPU.region Try.tb_ok ?_
  refine RS.op rfl (op_int rfl rfl (ix_add _ _ _) rfl) rfl rfl ?_
  refine RS.mv rfl rfl rfl rfl ?_
  refine RS.done ?_
  repeat refine gq ?_
  exact ⟨m1, _, _, Nat.lt_succ_self _, ⟨z57, (IntKind.i64.wrap (z34 + 1)), hF, rfl, rfl⟩, (Nat.zero_le _), Gh.toC (n1 := 5) ⟨rfl, rfl, rfl, rfl, rfl, rfl, rfl, rfl, trivial⟩ rfl (Nat.zero_le _) (by simp)⟩
  rcases bool_tf (z57 == (r9.length : Int)) with h58 | h58
  replace h66 := cond_t h58 h66
  replace h66 := Option.some.inj h66
  subst h66
  refine WPU.drawE Try.tb_ok [] (by kernel_rfl) ?_
  repeat refine RD.mv rfl rfl rfl rfl ?_
  refine RD.look rfl (op_len rfl rfl rfl (len_isl (cI .i64) Try.und38)) rfl rfl ?_
  refine RD.look rfl (op_int rfl rfl (ix_eql _ _ _) rfl) rfl rfl ?_
  refine RD.mv rfl rfl rfl rfl ?_
  repeat refine RD.no (want0 rfl rfl rfl h58) rfl rfl ?_
  refine RD.look (u := .bool true) rfl (op_pick1 rfl h58 rfl) rfl rfl ?_
  refine RD.done ⟨by kernel_rfl, trivial, ?_⟩
  repeat refine gq ?_
  exact ⟨_, _, ⟨rfl, rfl⟩, (Nat.zero_le _), Gh.toC (n1 := 5) ⟨rfl, rfl, rfl, rfl, rfl, rfl, rfl, rfl, rfl, trivial⟩ rfl (Nat.zero_le _) (by simp)⟩
  replace h66 := cond_f h58 h66
  obtain ⟨x59, h60, h66⟩ := bindO_some h66
  obtain ⟨x61, h62, h66⟩ := bindO_some h66
  obtain ⟨r63, h64, h66⟩ := bindO_some h66
  replace h66 := Option.some.inj h66
  subst h66
  refine WPU.drawE Try.tb_ok [] (by kernel_rfl) ?_
  repeat refine RD.mv rfl rfl rfl rfl ?_
  refine RD.look rfl (op_len rfl rfl rfl (len_isl (cI .i64) Try.und38)) rfl rfl ?_
  refine RD.look rfl (op_int rfl rfl (ix_eql _ _ _) rfl) rfl rfl ?_
  refine RD.mv rfl rfl rfl rfl ?_
  refine RD.look (want1 rfl rfl rfl h58) (op_move rfl) rfl rfl ?_
  refine RD.look (want1 rfl rfl rfl h58) (op_move rfl) rfl rfl ?_
  refine RD.look (want1 rfl rfl rfl h58) (op_move rfl) rfl rfl ?_
  refine RD.look (u := .iptr [.int .i64 x59]) (want1 rfl rfl rfl h58) (op_ia rfl rfl (ia_isl (cI .i64) Try.und38 (sz_of Try.inf3) (len_cI .i64) h60 rfl)) rfl rfl ?_
  refine RD.look (u := .int .i64 x59) (want1 rfl rfl rfl h58) (li_one Try.und3 rfl rfl rfl) rfl rfl ?_
  refine RD.look (u := .iptr (xGDeriv x61)) (want1 rfl rfl rfl h58) (op_ia rfl rfl (ia_isl cGDeriv Try.und22 (sz_of Try.inf24) len_cGDeriv h62 (cGDeriv_eq x61))) rfl rfl ?_
  refine RD.look (u := .agg (xGDeriv x61)) (want1 rfl rfl rfl h58) (li_agg Try.und24 rfl (sz_of Try.inf24) rfl rfl) rfl rfl ?_
  refine RD.look (u := .ptr 0 0 0) (want1 rfl rfl rfl h58) (op_fa Try.und44 rfl (sz_of Try.inf26) rfl rfl rfl) rfl rfl ?_
  refine RD.look (u := .agg (cGProp p3.Propx)) (want1 rfl rfl rfl h58) (ld_agg Try.und26 rfl (sz_of Try.inf26) rfl rfl rfl) rfl rfl ?_
  refine RD.free (u := .bool r63) (args := [.agg (xGDeriv x61), .agg (cGProp p3.Propx)]) (want1 rfl rfl rfl h58) (op_call rfl rfl Try.fn15 Try.hb15 rfl rfl) (fun s => disc_Holds_ok n x61 p3.Propx r63 h64 s) rfl rfl ?_
  refine RD.look (u := .ptr 0 0 4) (want1 rfl rfl rfl h58) (op_fa Try.und44 rfl (sz_of Try.inf4) rfl rfl rfl) rfl rfl ?_
  refine RD.look (u := .bool p3.Yes) (want1 rfl rfl rfl h58) (ld_one Try.und4 rfl rfl rfl rfl) rfl rfl ?_
  refine RD.look (u := .bool (!(r63 == p3.Yes))) (want1 rfl rfl rfl h58) (op_bin rfl rfl (by simp only [g2, toV, binX, guardX, eqv, cond_true, ofV, Try.und4])) rfl rfl ?_
  refine RD.look (u := .bool (!(r63 == p3.Yes))) rfl (op_pick0 rfl h58 rfl) rfl rfl ?_
  refine RD.done ⟨by kernel_rfl, trivial, ?_⟩
  repeat refine gq ?_
  exact ⟨_, _, ⟨rfl, rfl⟩, (Nat.zero_le _), Gh.toC (n1 := 5) ⟨rfl, rfl, rfl, rfl, rfl, rfl, rfl, rfl, rfl, trivial⟩ rfl (Nat.zero_le _) (by simp)⟩
  rintro m2 _ _ ⟨z56, hF, rfl, rfl⟩
  rcases m2 with _ | m2
  cases hF
  unfold law45_DiscNarrows_L2 at hF
  repeat refine sq ?_
  obtain ⟨b73, h74, hF⟩ := bindO_some hF
  refine WPU.joinK (fun tm σ => tm = fr 85 [(0, .isl false (List.map cGDeriv p1)), (5, .ptr 0 0 0), (7, .isl false (List.map (cI .i64) r9)), (8, .isl false (List.map (cI .i64) r13)), (9, .isl false (List.map (cI .i64) r19)), (10, .int .i64 z56), (11, .int .i64 z34), (38, .int .i64 (r13.length : Int)), (39, .int .i64 z34), (56, .bool b73)] ∧ σ = ⟨[(3, .row [] 44), (1, .row [] 44), (0, .row (cGDecision p3) 44)], 5⟩) ?_ ?_
  rintro _ _ ⟨rfl, rfl⟩
  repeat refine gq ?_
  repeat refine sq ?_
  refine WPU.condS (t := b73) rfl (fun h75 => ?_) (fun h75 => ?_)
  replace hF := cond_t h75 hF
  repeat refine sq ?_
  refine WPU.skip ?_
  repeat refine gq ?_
  repeat refine sq ?_
  refine WPU.block ?_
  repeat refine sq ?_
  refine WPU.region Try.tb_ok ?_
  refine RS.mv rfl rfl rfl rfl ?_
  refine RS.op rfl (op_int rfl rfl (ix_add _ _ _) rfl) rfl rfl ?_
  refine RS.as rfl rfl rfl rfl ?_
  refine RS.done ?_
  repeat refine gq ?_
  exact ⟨m2, _, _, Nat.lt_succ_self _, ⟨(IntKind.i64.wrap (z56 + 1)), hF, rfl, rfl⟩, (Nat.zero_le _), Gh.toC (n1 := 5) ⟨rfl, rfl, rfl, rfl, rfl, rfl, rfl, rfl, rfl, trivial⟩ rfl (Nat.zero_le _) (by simp)⟩
  replace hF := cond_f h75 hF
  repeat refine sq ?_
  refine WPU.exit ?_
  repeat refine gq ?_
  exact ⟨_, _, ⟨z56, hF, rfl, rfl⟩, (Nat.zero_le _), Gh.toC (n1 := 5) ⟨rfl, rfl, rfl, rfl, rfl, rfl, rfl, rfl, rfl, trivial⟩ rfl (Nat.zero_le _) (by simp)⟩
  rcases bool_tf (decide (z56 < (r9.length : Int))) with h68 | h68
  replace h74 := cond_t h68 h74
  obtain ⟨x69, h70, h74⟩ := bindO_some h74
  obtain ⟨x71, h72, h74⟩ := bindO_some h74
  replace h74 := Option.some.inj h74
  subst h74
  refine WPU.drawE Try.tb_ok [] (by kernel_rfl) ?_
  repeat refine RD.mv rfl rfl rfl rfl ?_
  refine RD.look rfl (op_len rfl rfl rfl (len_isl (cI .i64) Try.und38)) rfl rfl ?_
  refine RD.look rfl (op_int rfl rfl (ix_lss _ _ _) rfl) rfl rfl ?_
  refine RD.mv rfl rfl rfl rfl ?_
  refine RD.look (want1 rfl rfl rfl h68) (op_move rfl) rfl rfl ?_
  refine RD.look (want1 rfl rfl rfl h68) (op_move rfl) rfl rfl ?_
  refine RD.look (u := .iptr [.int .i64 x69]) (want1 rfl rfl rfl h68) (op_ia rfl rfl (ia_isl (cI .i64) Try.und38 (sz_of Try.inf3) (len_cI .i64) h70 rfl)) rfl rfl ?_
  refine RD.look (u := .int .i64 x69) (want1 rfl rfl rfl h68) (li_one Try.und3 rfl rfl rfl) rfl rfl ?_
  refine RD.look (want1 rfl rfl rfl h68) (op_move rfl) rfl rfl ?_
  refine RD.look (want1 rfl rfl rfl h68) (op_move rfl) rfl rfl ?_
  refine RD.look (u := .iptr [.int .i64 x71]) (want1 rfl rfl rfl h68) (op_ia rfl rfl (ia_isl (cI .i64) Try.und38 (sz_of Try.inf3) (len_cI .i64) h72 rfl)) rfl rfl ?_
  refine RD.look (u := .int .i64 x71) (want1 rfl rfl rfl h68) (li_one Try.und3 rfl rfl rfl) rfl rfl ?_
  refine RD.look (want1 rfl rfl rfl h68) (op_int rfl rfl (ix_neq _ _ _) rfl) rfl rfl ?_
  refine RD.look (u := .bool (x69 != x71)) rfl (op_pick1 rfl h68 rfl) rfl rfl ?_
  refine RD.done ⟨by kernel_rfl, trivial, ?_⟩
  repeat refine gq ?_
  exact ⟨_, _, ⟨rfl, rfl⟩, (Nat.zero_le _), Gh.toC (n1 := 5) ⟨rfl, rfl, rfl, rfl, rfl, rfl, rfl, rfl, rfl, rfl, trivial⟩ rfl (Nat.zero_le _) (by simp)⟩
  replace h74 := cond_f h68 h74
  replace h74 := Option.some.inj h74
  subst h74
  refine WPU.drawE Try.tb_ok [] (by kernel_rfl) ?_
  repeat refine RD.mv rfl rfl rfl rfl ?_
  refine RD.look rfl (op_len rfl rfl rfl (len_isl (cI .i64) Try.und38)) rfl rfl ?_
  refine RD.look rfl (op_int rfl rfl (ix_lss _ _ _) rfl) rfl rfl ?_
  refine RD.mv rfl rfl rfl rfl ?_
  repeat refine RD.no (want0 rfl rfl rfl h68) rfl rfl ?_
  refine RD.look (u := .bool false) rfl (op_pick0 rfl h68 rfl) rfl rfl ?_
  refine RD.done ⟨by kernel_rfl, trivial, ?_⟩
  repeat refine gq ?_
  exact ⟨_, _, ⟨rfl, rfl⟩, (Nat.zero_le _), Gh.toC (n1 := 5) ⟨rfl, rfl, rfl, rfl, rfl, rfl, rfl, rfl, rfl, rfl, trivial⟩ rfl (Nat.zero_le _) (by simp)⟩
  replace hF := cond_f h42 hF
  repeat refine sq ?_
  refine WPU.exit ?_
  repeat refine gq ?_
  exact ⟨_, _, ⟨hF, rfl, rfl⟩, (Nat.zero_le _), Gh.toC (n1 := 5) ⟨rfl, rfl, trivial⟩ rfl (Nat.zero_le _) (by simp)⟩
end Go.Proofs
end
section
namespace Go.Proofs
open Go Go.Rx Go.Vx Go.Sort
set_option linter.unusedVariables false
set_option linter.unusedSimpArgs false
theorem agree_app (d : GDeriv) (a b : List GDecision) : agree d (a ++ b) = (agree d a && agree d b) := by simp [agree]
theorem remF_congr : ∀ {l : List GDeriv} {a b : List GDecision} (i : Nat), (∀ d ∈ l, agree d a = agree d b) → remF l a i = remF l b i
  | [], a, b, i, h => rfl
  | d :: l, a, b, i, h => by simp only [remF]; rw [h d (by simp), remF_congr (i + 1) fun e he => h e (by simp [he])]
theorem remF_sub : ∀ (l : List GDeriv) (a b : List GDecision) (i : Nat), (remF l (a ++ b) i).Sublist (remF l a i)
  | [], a, b, i => List.Sublist.refl _
  | d :: l, a, b, i => by
    simp only [remF, agree_app]
    have ih := remF_sub l a b (i + 1)
    cases agree d a with
    | false => simpa using ih
    | true =>
      cases agree d b with
      | false => simp only [Bool.and_false, Bool.false_eq_true, if_false, if_true, List.nil_append, List.singleton_append]; exact ih.cons _
      | true => simp only [Bool.and_true, if_true, List.singleton_append]; exact ih.cons_cons _
theorem hasAt_of {l : List GDeriv} {p : GProp} {k : Nat} {d : GDeriv} (h : l[k]? = some d) : hasAt l p (k : Int) = decide (p ∈ props d) := by simp [hasAt, h]
theorem mem_impl1 {l : List GDeriv} {ds : List GDecision} {r : List Int} {p : GProp} {x : GDecision} : x ∈ impl1 l ds r p ↔ isDec ds p = false ∧ (cntR l r p = 0 ∨ cntR l r p = r.length) ∧ x = ⟨p, decide (0 < cntR l r p)⟩ := by
  unfold impl1
  split
  · rename_i h; simp [h]
  · rename_i h
    split
    · rename_i h2; simp [h, h2]
    · rename_i h2; simp [h2]
theorem impl_agree {l : List GDeriv} {ds : List GDecision} {k : Nat} {d : GDeriv} (hd : l[k]? = some d) (ha : agree d ds = true) : agree d (impl l ds) = true := by
  have hm : (k : Int) ∈ rem l ds := rem_mem.2 ⟨k, d, hd, rfl, ha⟩
  unfold agree
  rw [List.all_eq_true]
  intro x hx
  unfold impl at hx
  split at hx
  · cases hx
  · obtain ⟨p, hp, hx⟩ := List.mem_flatMap.1 hx
    obtain ⟨h1, h2, rfl⟩ := mem_impl1.1 hx
    simp only [fits1, beq_iff_eq]
    rw [← hasAt_of hd]
    rcases h2 with h2 | h2
    · rw [h2]
      have : ¬ hasAt l p (k : Int) = true := fun hc => by
        have : (k : Int) ∈ (rem l ds).filter (hasAt l p) := List.mem_filter.2 ⟨hm, hc⟩
        rw [List.length_eq_zero_iff.1 h2] at this
        cases this
      simpa using this
    · have h3 : hasAt l p (k : Int) = true := List.length_filter_eq_length_iff.1 h2 _ hm
      have h4 : 0 < (rem l ds).length := List.length_pos_of_mem hm
      rw [h3, h2]; simp [h4]
theorem rem_impl (l : List GDeriv) (ds : List GDecision) : rem l (ds ++ impl l ds) = rem l ds := by
  refine remF_congr 0 fun d hd => ?_
  rw [agree_app]
  cases ha : agree d ds with
  | false => rfl
  | true =>
    obtain ⟨k, hk⟩ := List.getElem?_of_mem hd
    rw [impl_agree hk ha]; rfl
theorem nar_L2 {l : List GDeriv} {n : Nat} (hL : Lt l n) {x : GDecision} {r s : List Int} (hrl : r.length ≤ 6) {j : Nat} {z : Int} (hz : s[j]? = some z) (hs : s.length ≤ 6) {kz : Nat} {d : GDeriv} (hk : l[kz]? = some d) (hzk : z = (kz : Int)) (hf : fits1 d x = true) {rc : Int → Int → Option Bool} :
    ∀ (m i : Nat), r.length - i < m → i ≤ r.length → (z :: s.drop (j + 1)).Sublist (r.drop i) → ∃ i', i' ≤ r.length ∧ (s.drop (j + 1)).Sublist (r.drop i') ∧ law45_DiscNarrows_L2 l x n r s (j : Int) rc m (i : Int) = rc (i' : Int) ((j + 1 : Nat) : Int)
  | 0, i, hm, _, _ => by omega
  | m + 1, i, hm, hi, hsub => by
    have hi' : i < r.length := by
      rcases Nat.lt_or_ge i r.length with h | h
      · exact h
      · rw [List.drop_eq_nil_of_le h] at hsub; cases hsub
    obtain ⟨y, hy, _⟩ := get_of hi'
    have hw : IntKind.i64.wrap ((i : Int) + 1) = ((i + 1 : Nat) : Int) := wrn (by simp) (by omega)
    have hw2 : IntKind.i64.wrap ((j : Int) + 1) = ((j + 1 : Nat) : Int) := wrn (by simp) (by have := (List.getElem?_eq_some_iff.1 hz).1; omega)
    rw [drop_cons' hy] at hsub
    have hdm := List.mem_of_getElem? hk
    have hh := Holds_ok (hL.ok d hdm) (n := n) (by have := hL.fuel d hdm; omega) hL.n1 (by have := hL.nd hdm; omega) x.Propx
    unfold law45_DiscNarrows_L2
    simp only [dlt hi', cond_true, idxO_nat, hy, hz, bindO_s]
    by_cases he : y = z
    · subst he
      have hne : ((i : Int) == (r.length : Int)) = false := by rw [Bool.eq_false_iff]; simp; omega
      refine ⟨i, hi, ?_, ?_⟩
      · have h1 := List.cons_sublist_cons.1 hsub
        rw [drop_cons' hy]; exact h1.cons _
      · simp only [fits1, beq_iff_eq] at hf
        simp only [bne_self_eq_false, cond_false, law45_DiscNarrows_K2, hne, idxO_nat, hz, bindO_s, hzk, hk, hh, hf, beq_self_eq_true, Bool.not_true, hw2]
    · have hne : (y != z) = true := by simpa using he
      simp only [hne, cond_true, hw]
      refine nar_L2 hL hrl hz hs hk hzk hf m (i + 1) (by omega) (by omega) ?_
      cases hsub with
      | cons _ h => exact h
      | cons_cons _ h => exact absurd rfl he
theorem nar_L1 {l : List GDeriv} {n : Nat} (hL : Lt l n) {x : GDecision} {r s t : List Int} (hrl : r.length ≤ 6) (hsl : s.length ≤ 6) (hs : ∀ z ∈ s, ∃ (k : Nat) (d : GDeriv), l[k]? = some d ∧ z = (k : Int) ∧ fits1 d x = true) :
    ∀ (m i j : Nat), s.length - j < m → j ≤ s.length → i ≤ r.length → (s.drop j).Sublist (r.drop i) → law45_DiscNarrows_L1 l x n r s t m (i : Int) (j : Int) = law45_DiscNarrows_K1 n r t
  | 0, i, j, hm, _, _, _ => by omega
  | m + 1, i, j, hm, hj, hi, hsub => by
    have h1 := hL.n1
    unfold law45_DiscNarrows_L1
    by_cases hlt : j < s.length
    · obtain ⟨z, hz, hzm⟩ := get_of hlt
      obtain ⟨k, d, hk, hzk, hf⟩ := hs z hzm
      rw [drop_cons' hz] at hsub
      obtain ⟨i', g1, g2, g3⟩ := nar_L2 hL hrl hz hsl hk hzk hf (rc := law45_DiscNarrows_L1 l x n r s t m) n i (by omega) hi hsub
      simp only [dlt hlt, cond_true, g3]
      exact nar_L1 hL hrl hsl hs m i' (j + 1) (by omega) (by omega) g1 g2
    · simp only [dnlt hlt, cond_false]
theorem narrows_law {l : List GDeriv} (hl : l.length ≤ 9223372036854775807) (hok : okGs l) (ds : List GDecision) (x : GDecision) {n : Nat} (hn : SizeOf.sizeOf l + 1001 ≤ n) : law45_DiscNarrows n l ds x = some true := by
  have hsz : ∀ d ∈ l, okG d ∧ SizeOf.sizeOf d + 1001 ≤ n := fun d hd => ⟨okGs_mem hok d hd, by have := List.sizeOf_lt_of_mem hd; omega⟩
  have hll := len_lt_sizeOf l
  obtain ⟨b, h1, h2⟩ := light_ok (ds := ds) hl hsz (by omega) (by omega)
  simp only [law45_DiscNarrows, h1, bindO_s, ex_n (show 40 ≤ n by omega)]
  cases b with
  | false => simp
  | true =>
    obtain ⟨hL, h8⟩ := h2 rfl
    have hs := hL.sum
    have h6 := hL.len
    have hil := impl_len l ds
    have hrl := rem_len l ds
    have hrl2 := rem_len l (ds ++ [x])
    have hd : ds.length ≤ 1000 := by omega
    have key := nar_L1 hL (x := x) (r := rem l ds) (s := rem l (ds ++ [x])) (t := rem l ds) (by omega) (by omega) (fun z hz => by
      obtain ⟨k, d, e1, e2, e3⟩ := rem_mem.1 hz
      rw [agree_app, Bool.and_eq_true] at e3
      exact ⟨k, d, e1, e2, by simpa [agree] using e3.2⟩) n 0 0 (by omega) (by omega) (by omega) (remF_sub l ds [x] 0)
    rw [Int.ofNat_zero] at key
    simp only [Bool.not_true, cond_false, Remaining_ok hL hd, Implied_ok hL hd, bindO_s, List.length_singleton]
    rw [needO_of ⟨by omega, by omega⟩, needO_of ⟨by omega, by omega⟩, Remaining_ok hL (by simp; omega), bindO_s, needO_of ⟨by omega, by omega⟩, needO_of ⟨by omega, by omega⟩, Remaining_ok hL (by simp; omega), bindO_s, rem_impl, key]
    simp only [law45_DiscNarrows_K1, SameNumbers_ok (a := rem l ds) (b := rem l ds) (by omega) (n := n) (by omega), bindO_s, decide_true, cond_true, ex_n (show 40 ≤ n by omega)]
end Go.Proofs
end
