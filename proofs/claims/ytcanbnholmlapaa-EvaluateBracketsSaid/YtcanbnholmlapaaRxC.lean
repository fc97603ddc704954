/-
  RxC: what the symbolic run gives of an operation that makes nothing is what the model's own run gives.
-/
import Derived.Test.YtcanbnholmlapaaRxB
import Derived.Laws.StructEq
namespace Go.Rx
open Go

structure TbOk (P : Program) (T : Tb) : Prop where
  und : ∀ t d, T.und t = some d → P.underlying t = some d
  inf : ∀ t a b z, T.inf t = some (a, b, z) → plain z = true ∧ ∃ i, P.info? t = some i ∧ i.size = a ∧ i.bytes = b ∧ i.zero = some z
  fn : ∀ f g, T.fn f = some g → P.funcs[f]? = some g ∧ (g.body.isSome = true → (g.name == "runtime.NumGoroutine") = false)
  eqs : ∀ t, T.eqs t = true → P.stoodInHeld t = false ∧ P.eqGuardType P.depth t = false
  mixed : P.follows .mixedOrders = true

theorem nth_eq {α : Type} (l : List α) (n : Nat) : nth l n = l[n]? := by
  induction l generalizing n with
  | nil => simp [nth]
  | cons a l ih => cases n <;> simp [nth, ih]
theorem takeX_some {l : List Value} {n : Nat} {r : List Value} (h : takeX l n = some r) : r = l.take n ∧ n ≤ l.length := by
  induction l generalizing n r with
  | nil => cases n <;> simp_all [takeX]
  | cons v l ih =>
    cases n with
    | zero => simp_all [takeX]
    | succ n =>
      simp only [takeX] at h
      cases hl : takeX l n with
      | none => simp [hl] at h
      | some r' =>
        simp [hl] at h
        obtain ⟨e, hn⟩ := ih hl
        subst h
        simp [e]; exact hn
theorem seg_some {l : List Value} {off n : Nat} {r : List Value} (h : seg l off n = some r) : r = (l.drop off).take n ∧ n ≤ l.length - off := by
  have := takeX_some h
  simpa using this
theorem seg_len {l : List Value} {off n : Nat} {r : List Value} (h : seg l off n = some r) : r.length = n := by
  obtain ⟨rfl, hn⟩ := seg_some h
  simp; omega
theorem seg_get {l : List Value} {off n : Nat} {r : List Value} (h : seg l off n = some r) {j : Nat} {v : Value} (hj : r[j]? = some v) : l[off + j]? = some v := by
  obtain ⟨rfl, hn⟩ := seg_some h
  rw [List.getElem?_take] at hj
  split at hj
  · simpa using hj
  · cases hj
theorem put0_some {l vs r : List Value} (h : put0 l vs = some r) : vs.length ≤ l.length ∧ r = vs ++ l.drop vs.length := by
  induction vs generalizing l r with
  | nil => simp [put0] at h; simp [h]
  | cons v vs ih =>
    cases l with
    | nil => simp [put0] at h
    | cons x l =>
      simp only [put0] at h
      cases hp : put0 l vs with
      | none => simp [hp] at h
      | some r' =>
        simp [hp] at h
        obtain ⟨e1, e2⟩ := ih hp
        subst h
        simp [e2]; exact e1
theorem putX_some {l : List Value} {off : Nat} {vs r : List Value} (h : putX l off vs = some r) : off + vs.length ≤ l.length ∧ r = l.take off ++ vs ++ l.drop (off + vs.length) := by
  induction off generalizing l r with
  | zero =>
    have h' : put0 l vs = some r := by cases l <;> simpa [putX] using h
    obtain ⟨e1, e2⟩ := put0_some h'
    simp [e2]; exact e1
  | succ n ih =>
    cases l with
    | nil => simp [putX] at h
    | cons x l =>
      simp only [putX] at h
      cases hp : putX l n vs with
      | none => simp [hp] at h
      | some r' =>
        simp [hp] at h
        obtain ⟨e1, e2⟩ := ih hp
        subst h
        simp only [List.length_cons, List.take_succ_cons, List.cons_append, e2]
        refine ⟨by omega, ?_⟩
        have : n + 1 + vs.length = (n + vs.length) + 1 := by omega
        rw [this, List.drop_succ_cons]
theorem allOne_mem {l : List Value} (h : allOne l = true) : ∀ v ∈ l, v.oneCell' = true := by
  induction l with
  | nil => simp
  | cons v l ih =>
    simp only [allOne] at h
    cases hv : v.oneCell' with
    | false => simp [hv] at h
    | true =>
      simp [hv] at h
      intro u hu
      rcases List.mem_cons.1 hu with rfl | hu
      · exact hv
      · exact ih h u hu
theorem allOne_ren {m : Nm} {l : List Value} (h : allOne l = true) : ∀ v ∈ renL m l, v.oneCell' = true := by
  intro v hv
  rw [renL_eq] at hv
  obtain ⟨u, hu, rfl⟩ := List.mem_map.1 hv
  rw [oneCell_ren]
  exact allOne_mem h u hu

mutual
theorem ren_plain (m : Nm) : (v : Value) → plain v = true → ren m v = v
  | .bool _, _ => by simp [ren]
  | .int _ _, _ => by simp [ren]
  | .string _, _ => by simp [ren]
  | .pointer none, _ => by simp [ren]
  | .slice none _ _, _ => by simp [ren]
  | .map none, _ => by simp [ren]
  | .nilFunc, _ => by simp [ren]
  | .nilIface, _ => by simp [ren]
  | .agg ⟨l⟩, h => by simp only [plain] at h; simp [ren, renL_plain m l h]
  | .tuple ⟨l⟩, h => by simp only [plain] at h; simp [ren, renL_plain m l h]
  | .float _ _, h => by simp [plain] at h
  | .complex _ _ _, h => by simp [plain] at h
  | .pointer (some _), h => by simp [plain] at h
  | .slice (some _) _ _, h => by simp [plain] at h
  | .map (some _), h => by simp [plain] at h
  | .chan _, h => by simp [plain] at h
  | .func _ _ _, h => by simp [plain] at h
  | .iface _ _, h => by simp [plain] at h
theorem renL_plain (m : Nm) : (l : List Value) → plainL l = true → renL m l = l
  | [], _ => by simp [renL]
  | v :: l, h => by
    simp only [plainL] at h
    cases hv : plain v with
    | false => simp [hv] at h
    | true => simp [hv] at h; simp [renL, ren_plain m v hv, renL_plain m l h]
end

theorem bytesEq_eq (a b : List UInt8) : bytesEq a b = (a == b) := by
  induction a generalizing b with
  | nil => cases b <;> simp [bytesEq]
  | cons x a ih =>
    cases b with
    | nil => simp [bytesEq]
    | cons y b =>
      simp only [bytesEq, beq_eq, ih]
      by_cases e : x = y
      · subst e; simp
      · have : x.toNat ≠ y.toNat := fun h => e (UInt8.toNat_inj.1 h)
        simp [this, e]
theorem bytesLt_eq (a b : List UInt8) : bytesLt a b = Op.bytesLess a b := by
  induction a generalizing b with
  | nil => cases b <;> simp [bytesLt, Op.bytesLess]
  | cons x a ih =>
    cases b with
    | nil => simp [bytesLt, Op.bytesLess]
    | cons y b =>
      simp only [bytesLt, Op.bytesLess, ih, beq_eq]
      have hlt : Nat.blt x.toNat y.toNat = decide (x < y) := by
        rw [Bool.eq_iff_iff]; simp [Nat.blt_eq, UInt8.lt_iff_toNat_lt]
      rw [hlt]
      by_cases h1 : x < y
      · simp [h1]
      · by_cases e : x = y
        · subst e; simp
        · have : x.toNat ≠ y.toNat := fun h => e (UInt8.toNat_inj.1 h)
          simp [h1, e, this]

section
variable {P : Program} {T : Tb} (hT : TbOk P T) (m : Nm) {tm : List Value} {a : Act} (w : World)
include hT

theorem run_und {t : TypeId} {d : TypeDesc} (h : T.und t = some d) : (underlying t).run P w = .ok d w := run_underlying (hT.und t d h) w
theorem run_size {t : TypeId} {n : Nat} (h : sizeX T t = some n) : (sizeOf t).run P w = .ok n w := by
  unfold sizeX at h
  cases hi : T.inf t with
  | none => simp [hi] at h
  | some x =>
    obtain ⟨a, b, z⟩ := x
    simp [hi] at h
    obtain ⟨_, i, h1, h2, _, _⟩ := hT.inf t a b z hi
    simp [sizeOf, typeInfo, h1, h2, h]
theorem run_zero {t : TypeId} {x : Nat × Nat × Value} (h : T.inf t = some x) : (zeroValue t).run P w = .ok x.2.2 w ∧ ren m x.2.2 = x.2.2 := by
  obtain ⟨a, b, z⟩ := x
  obtain ⟨hp, i, h1, _, _, h4⟩ := hT.inf t a b z h
  exact ⟨by simp [zeroValue, typeInfo, h1, h4], ren_plain m z hp⟩
theorem run_isAgg {t : TypeId} {d : TypeDesc} (h : T.und t = some d) : (isAgg t).run P w = .ok (isAggD d) w := by
  unfold isAgg
  simp only [Sem.run_bind, run_und hT w h, Result.andThen_ok]
  cases d <;> rfl
theorem run_part {t : TypeId} {cs : List Value} {off : Nat} {v : Value} (h : partX T t cs off = some v) :
    (part t ⟨renL m cs⟩ off).run P w = .ok (ren m v) w := by
  unfold partX at h
  cases hd : T.und t with
  | none => simp [hd] at h
  | some d =>
    simp only [hd] at h
    unfold part
    simp only [Sem.run_bind, run_isAgg hT w hd, Result.andThen_ok]
    cases hag : isAggD d with
    | true =>
      simp only [hag, cond_true] at h
      cases hs : sizeX T t with
      | none => simp [hs] at h
      | some n =>
        simp [hs] at h
        subst h
        simp only [if_true, Sem.run_bind, run_size hT w hs, Result.andThen_ok, Sem.run_pure, ren]
        simp [renL_eq, List.map_drop, List.map_take]
    | false =>
      simp only [hag, cond_false, nth_eq] at h
      simp [renL_eq, h]

theorem eqFs_ok {E : TypeId → Value → Value → Option Bool} {d : Nat} (hE : ∀ t x y b w, E t x y = some b → (Op.equalIn d t (ren m x) (ren m y)).run P w = .ok b w)
    (xs ys : List Value) (fs : List Field) {b : Bool} (w : World) (h : eqFs T E xs ys fs = some b) :
    (Op.eqFields d ⟨renL m xs⟩ ⟨renL m ys⟩ fs).run P w = .ok b w := by
  induction fs generalizing w with
  | nil => simp [eqFs] at h; simp [Op.eqFields, h]
  | cons f fs ih =>
    simp only [eqFs] at h
    simp only [Op.eqFields]
    split at h
    · rename_i hn
      simp only [hn, ne_eq, not_false_eq_true, if_true]
      cases h1 : partX T f.type xs f.offset with
      | none => simp [h1] at h
      | some x =>
        simp only [h1] at h
        cases h2 : partX T f.type ys f.offset with
        | none => simp [h2] at h
        | some y =>
          simp only [h2] at h
          cases h3 : E f.type x y with
          | none => simp [h3] at h
          | some r =>
            simp only [Sem.run_bind, run_part hT m w h1, Result.andThen_ok, run_part hT m w h2, hE _ _ _ _ w h3]
            cases r with
            | false => simp [h3] at h; simp [h]
            | true => simp only [h3] at h; simpa using ih w h
    · rename_i hn
      simp only [hn, if_false]
      exact ih w h

theorem eqv_ok (d k : Nat) {t : TypeId} {x y : Value} {b : Bool} (w : World) (h : eqv T d t x y = some b) :
    (Op.equalIn (d + k) t (ren m x) (ren m y)).run P w = .ok b w := by
  induction d generalizing t x y b w with
  | zero => simp [eqv] at h
  | succ d ih =>
    have hsucc : d + 1 + k = (d + k) + 1 := by omega
    rw [hsucc]
    simp only [eqv] at h
    cases hd : T.und t with
    | none => simp [hd] at h
    | some ty =>
      have hu := run_und hT w hd
      cases ty with
      | bool =>
        simp only [hd] at h
        cases x <;> cases y <;> simp at h
        subst h
        simp [Op.equalIn, hu, ren]
      | int kk =>
        simp only [hd] at h
        cases x <;> cases y <;> simp at h
        obtain ⟨rfl, h⟩ := h
        simp [Op.equalIn, hu, ren, h]
      | string =>
        simp only [hd] at h
        cases x <;> cases y <;> simp at h
        subst h
        rename_i s1 s2
        simp only [Op.equalIn, Sem.run_bind, hu, ren, Result.andThen_ok, Sem.run_pure, bytesEq_eq]
        rw [beq_toListBytes, ByteArray.toList_eq, ByteArray.toList_eq]
      | pointer e =>
        simp only [hd] at h
        cases x <;> cases y <;> try simp at h
        rename_i p q
        cases p <;> cases q <;> simp at h <;> subst h <;> simp [Op.equalIn, hu, ren]
      | slice e =>
        simp only [hd] at h
        cases x <;> cases y <;> try simp at h
        rename_i p _ _ q _ _
        cases p <;> cases q <;> simp at h <;> subst h <;> simp [Op.equalIn, hu, ren]
      | map e e' =>
        simp only [hd] at h
        cases x <;> cases y <;> try simp at h
        rename_i p q
        cases p <;> cases q <;> simp at h <;> subst h <;> simp [Op.equalIn, hu, ren]
      | struct fs =>
        simp only [hd] at h
        cases x <;> cases y <;> simp at h
        rename_i xs ys
        obtain ⟨xs⟩ := xs
        obtain ⟨ys⟩ := ys
        cases he : T.eqs t with
        | false => simp [he] at h
        | true =>
          simp only [he, cond_true] at h
          have hund := hT.und t _ hd
          have hfo : P.fieldsOf t = fs := by simp [Program.fieldsOf, hund]
          simp only [ren, renA_mk]
          rw [run_equalIn_struct w (d + k) t _ _ (by rw [hfo]; exact hund) (hT.eqs t he).1, hfo]
          exact eqFs_ok hT m (fun t x y b w hh => ih w hh) xs ys fs.toList w h
      | _ => simp [hd] at h
end
end Go.Rx
