/-
  RxF: the operations that read the heap and leave it as it is.
-/
import Derived.Test.YtcanbnholmlapaaRxE
namespace Go.Rx
open Go

theorem RowOk.cell {m : Nm} {i : Nat} {l : List Value} {e : TypeId} {w : World} {md : Nat} (h : RowOk m i l e w md) {j : Nat} {v : Value} (hj : l[j]? = some v) :
    w.cell? ⟨m.blk i, m.sh i + j, none⟩ = some (ren m v) := by
  have hlt : j < l.length := (List.getElem?_eq_some_iff.1 hj).1
  rcases md with _ | _ | n
  · obtain ⟨h0, h1⟩ := h
    simp [World.cell?, h1, h0, renL_eq, hj]
  · obtain ⟨c, e', fr, h1, h2, _⟩ := h
    simp [World.cell?, h1, h2 j v hj]
  · obtain ⟨pr, rest, h1, h2, _⟩ := h
    simp only [World.cell?, h1, Option.isSome_none, Bool.false_eq_true, if_false, List.getElem?_toArray, List.append_assoc, ← h2]
    rw [List.getElem?_append_right (by omega), Nat.add_sub_cancel_left, List.getElem?_append_left (by simpa using hlt)]
    simp [renL_eq, hj]

theorem run_getObj_map {P : Program} {w : World} {r : Nat} {es : Array MapEntry} {c : Nat} (h : w.heap[r]? = some (.map es c)) : (getObj r).run P w = .ok (.map es c) w := by
  simp [getObj, Sem.run, h]

theorem ownRow_some {s : S} {i : Nat} {l : List Value} {e : TypeId} {md : Nat} (h : ownRow s i = some (l, e, md)) : lk s.h i = some (.inl (l, e, md)) ∧ md ≠ 1 := by
  unfold ownRow at h
  cases hl : lk s.h i with
  | none => simp [hl] at h
  | some b =>
    rcases b with ⟨l', e', md'⟩ | ⟨es, c⟩
    · rcases md' with _ | _ | n <;> simp [hl] at h <;> obtain ⟨rfl, rfl, rfl⟩ := h <;> simp
    · simp [hl] at h
theorem blt_false {a b : Nat} (h : Nat.blt a b = false) : ¬ a < b := fun hlt => by
  have : Nat.blt a b = true := Nat.ble_eq_true_of_le hlt
  rw [this] at h
  cases h
theorem blt_true {a b : Nat} (h : Nat.blt a b = true) : a < b := Nat.le_of_ble_eq_true h
theorem sub_add_at (c b k : Nat) (h : b ≤ c) : c + k - b = c - b + k := by omega
theorem capD_add {c : Nat} (h : capBase ≤ c) (k : Nat) : capD (c + k) = capD c + k := sub_add_at c capBase k h
section
variable {P : Program} {T : Tb} (hT : TbOk P T) (m : Nm) (w : World)
include hT

theorem load_ok {s : S} (hf : Fits m s w) {t : TypeId} {i off : Nat} {l : List Value} {e : TypeId} {md : Nat} (hl : lk s.h i = some (.inl (l, e, md))) {v : Value}
    (h : (match T.und t with
        | none => none
        | some d => cond (isAggD d) (match sizeX T t with
            | some n => match seg l off n with
              | some cs => some (Value.agg cs.toArray)
              | none => none
            | none => none) (nth l off)) = some v) :
    (loadVar t ⟨m.blk i, m.sh i + off, none⟩).run P w = .ok (ren m v) w := by
  have hr : RowOk m i l e w md := hf.ok i _ hl
  cases hd : T.und t with
  | none => simp [hd] at h
  | some d =>
    simp only [hd] at h
    unfold loadVar
    simp only [Sem.run_bind, run_isAgg hT w hd, Result.andThen_ok]
    cases hag : isAggD d with
    | true =>
      simp only [hag, cond_true] at h
      cases hs : sizeX T t with
      | none => simp [hs] at h
      | some n =>
        simp only [hs] at h
        cases hg : seg l off n with
        | none => simp [hg] at h
        | some cs =>
          simp only [hg, Option.some.injEq] at h
          subst h
          have hlen : (renL m cs).length = n := by rw [length_renL]; exact seg_len hg
          have := run_loadCells_list (P := P) w ⟨m.blk i, m.sh i + off, none⟩ (renL m cs) (fun j u hu => by
            rw [renL_eq, List.getElem?_map] at hu
            cases hc : cs[j]? with
            | none => simp [hc] at hu
            | some u' =>
              simp [hc] at hu
              subst hu
              rw [add_at, Nat.add_assoc]
              exact hr.cell (seg_get hg hc))
          rw [hlen] at this
          simp [run_size hT w hs, this, ren]
    | false =>
      simp only [hag, cond_false, nth_eq] at h
      have := hr.cell h
      simp [this]

theorem keyFs_ok {K : TypeId → Value → Bool} {d : Nat} {b : Bool} (hK : ∀ t v w, K t v = true → (Instr.checkKey b d t (ren m v)).run P w = .ok () w) (cs : List Value) (fs : List Field) (h : keyFs T K cs fs = true) :
    (forIn fs PUnit.unit (fun f _ =>
        if f.name ≠ "_" then (do
          let x ← part f.type ⟨renL m cs⟩ f.offset
          Instr.checkKey b d f.type x
          pure (ForInStep.yield PUnit.unit))
        else pure (ForInStep.yield PUnit.unit)) : Sem PUnit).run P w = .ok PUnit.unit w := by
  induction fs with
  | nil => simp
  | cons f fs ih =>
    simp only [keyFs] at h
    simp only [List.forIn_cons]
    split at h
    · rename_i hn
      cases hp : partX T f.type cs f.offset with
      | none => simp [hp] at h
      | some v =>
        simp only [hp] at h
        cases hk : K f.type v with
        | false => simp [hk] at h
        | true =>
          simp only [hk, cond_true] at h
          have h1 := run_part hT m w hp
          have h2 := hK f.type v w hk
          simp only [hn, ne_eq, not_false_eq_true, if_true, Sem.run_bind, h1, Result.andThen_ok, h2, Sem.run_pure]
          exact ih h
    · rename_i hn
      simp only [hn, if_false, Sem.run_bind, Sem.run_pure, Result.andThen_ok]
      exact ih h

theorem key_ok (b : Bool) (d k : Nat) {t : TypeId} {v : Value} (w : World) (h : keyX T d t v = true) : (Instr.checkKey b (d + k) t (ren m v)).run P w = .ok () w := by
  induction d generalizing t v w with
  | zero => simp [keyX] at h
  | succ d ih =>
    have hsucc : d + 1 + k = (d + k) + 1 := by omega
    rw [hsucc]
    simp only [keyX] at h
    cases hd : T.und t with
    | none => simp [hd] at h
    | some ty =>
      have hu := run_und hT w hd
      cases ty with
      | int kk => simp [Instr.checkKey, hu]
      | string => simp [Instr.checkKey, hu]
      | bool => simp [Instr.checkKey, hu]
      | struct fs =>
        simp only [hd] at h
        cases v with
        | agg cs =>
          obtain ⟨cs⟩ := cs
          simp only at h
          have := keyFs_ok hT m w (b := b) (d := d + k) (fun t v w hk => ih w hk) cs fs.toList h
          simp only [Instr.checkKey, Sem.run_bind, hu, Result.andThen_ok, ren, renA_mk]
          rw [← Array.forIn_toList, this]
          rfl
        | _ => simp at h
      | _ => simp [hd] at h

theorem asking_ok {kt : TypeId} {k : Value} (es : List MapEntry) (i : Nat) {r : Option (Nat × Value)} (h : findX T kt k es i = some r) :
    (Instr.findAsking kt (ren m k) (es.map (renE m)) i).run P w = .ok (r.map fun p => (p.1, ren m p.2)) w := by
  induction es generalizing i with
  | nil => simp [findX] at h; subst h; simp [Instr.findAsking]
  | cons e es ih =>
    simp only [findX] at h
    cases he : eqv T 50 kt k e.key with
    | none => simp [he] at h
    | some b =>
      have hq := equal_ok hT m w he
      cases b with
      | true => simp [he] at h; subst h; simp [Instr.findAsking, renE, hq]
      | false => simp only [he] at h; simpa [Instr.findAsking, renE, hq] using ih (i + 1) h

omit hT in
theorem now_ok {kt : TypeId} {d : TypeDesc} (hd : T.und kt = some d) {k : Value} (es : List MapEntry) (i : Nat) {r r' : Option (Nat × Value)} (h : findX T kt k es i = some r)
    (h' : Instr.findNow d (ren m k) (es.map (renE m)) i = some r') : r' = r.map fun p => (p.1, ren m p.2) := by
  induction es generalizing i with
  | nil => simp [findX] at h; subst h; simp [Instr.findNow] at h'; simp [← h']
  | cons e es ih =>
    simp only [findX] at h
    simp only [List.map_cons, Instr.findNow] at h'
    cases he : eqv T 50 kt k e.key with
    | none => simp [he] at h
    | some b =>
      have key : ∀ b', Instr.sameNow d (ren m k) (renE m e).key = some b' → b' = b := by
        intro b' hb'
        simp only [renE] at hb'
        rcases eqv_shape he with ⟨x, y, hx, hy⟩ | ⟨kk, x, k', y, hx, hy⟩ | ⟨x, y, hx, hy⟩ | ⟨x, y, hx, hy⟩ | ⟨x, n, c, y, n', c', hx, hy⟩ | ⟨x, y, hx, hy⟩ | ⟨x, y, hx, hy⟩
        · rw [hx, hy] at hb' he
          cases d <;> simp [Instr.sameNow, ren] at hb'
          simp [eqv, hd] at he
          exact hb'.symm.trans he
        · rw [hx, hy] at hb' he
          cases d <;> simp [Instr.sameNow, ren] at hb'
          simp [eqv, hd] at he
          exact hb'.2.symm.trans he.2
        · rw [hx, hy] at hb' he
          cases d <;> simp [Instr.sameNow, ren] at hb'
          simp [eqv, hd] at he
          rw [← hb', ← he, bytesEq_eq, beq_toListBytes, ByteArray.toList_eq, ByteArray.toList_eq]
        · rw [hx, hy] at hb'
          cases x <;> cases y <;> cases d <;> simp [Instr.sameNow, ren] at hb'
        · rw [hx, hy] at hb'
          cases x <;> cases y <;> cases d <;> simp [Instr.sameNow, ren] at hb'
        · rw [hx, hy] at hb'
          cases x <;> cases y <;> cases d <;> simp [Instr.sameNow, ren] at hb'
        · rw [hx, hy] at hb'
          cases d <;> simp [Instr.sameNow, ren] at hb'
      cases hsn : Instr.sameNow d (ren m k) (renE m e).key with
      | none => simp [hsn] at h'
      | some b' =>
        have := key b' hsn
        subst this
        cases b' with
        | true => simp [he] at h; subst h; simp [hsn] at h'; simp [← h', renE]
        | false => simp only [he] at h; simp only [hsn] at h'; exact ih (i + 1) h h'

theorem find_ok {kt : TypeId} {d : TypeDesc} (hd : T.und kt = some d) {k : Value} {es : List MapEntry} {r : Option (Nat × Value)} (h : findX T kt k es 0 = some r) :
    (Instr.findKey kt (ren m k) (es.map (renE m))).run P w = .ok (r.map fun p => (p.1, ren m p.2)) w := by
  unfold Instr.findKey
  simp only [Sem.run_bind, run_und hT w hd, Result.andThen_ok]
  cases hn : Instr.findNow d (ren m k) (es.map (renE m)) 0 with
  | some r' => simp [now_ok m hd es 0 h hn]
  | none => exact asking_ok hT m w es 0 h

omit hT in
theorem keyX_und {d : Nat} {kt : TypeId} {v : Value} (h : keyX T d kt v = true) : ∃ ty, T.und kt = some ty := by
  cases d with
  | zero => simp [keyX] at h
  | succ d =>
    simp only [keyX] at h
    cases hd : T.und kt with
    | none => simp [hd] at h
    | some ty => exact ⟨ty, rfl⟩

omit hT in
theorem capRow_some {s : S} {i sz : Nat} {l : List Value} (h : capRow s i sz = some l) : ∃ e md, lk s.h i = some (.inl (l, e, md)) ∧ (md = 1 ∧ e = sz + 1 ∨ md = sz + 2) := by
  unfold capRow at h
  cases hl : lk s.h i with
  | none => simp [hl] at h
  | some b =>
    rcases b with ⟨l', e', md'⟩ | ⟨es, c⟩
    · rcases md' with _ | _ | n
      · simp [hl] at h
      · simp only [hl, beq_eq] at h
        by_cases he : e' = sz + 1
        · simp only [he, decide_true, cond_true, Option.some.injEq] at h
          subst h; exact ⟨_, _, rfl, .inl ⟨rfl, he⟩⟩
        · simp [he] at h
      · simp only [hl, beq_eq] at h
        by_cases he : n = sz
        · simp only [he, decide_true, cond_true, Option.some.injEq] at h
          subst h; exact ⟨_, _, rfl, .inr (by rw [he])⟩
        · simp [he] at h
    · simp [hl] at h
omit hT in
theorem sym_cap0 {s : S} (hf : Fits m s w) {i c sz : Nat} {l : List Value} (hl : capRow s i (sz + 1) = some l) {off n : Nat} (ho : off = capD c * (sz + 1)) (hn : off + n * (sz + 1) ≤ l.length) : n + capD c ≤ m.cp i := by
  obtain ⟨e, md, hl, hmd⟩ := capRow_some hl
  have h3 : l.length ≤ m.cp i * (sz + 1) := by
    rcases hmd with ⟨rfl, rfl⟩ | rfl
    · obtain ⟨_, _, _, _, _, h3⟩ := hf.ok i _ hl
      exact h3 _ rfl
    · obtain ⟨pr, rest, _, _, h3⟩ := hf.ok i _ hl
      omega
  have : (n + capD c) * (sz + 1) ≤ m.cp i * (sz + 1) := by rw [Nat.add_mul]; omega
  exact Nat.le_of_mul_le_mul_right this (by omega)
theorem sliceR_ok {s : S} (hf : Fits m s w) {t : TypeId} {x v : Value} {lo hi mx : Option Value} (h : sliceR T s t x lo hi mx = some v) :
    (Instr.sliceAt t (ren m x) (lo.map (ren m)) (hi.map (ren m)) (mx.map (ren m))).run P w = .ok (ren m v) w := by
  unfold sliceR at h
  cases hd : T.und t with
  | none => simp [hd] at h
  | some dd =>
  cases dd with
  | slice e =>
    cases x with
    | slice p n c =>
      cases p with
      | none => simp [hd] at h
      | some a =>
        simp only [hd] at h
        cases hc : Nat.blt c capBase with
        | true => simp [hc] at h
        | false =>
          have hc' : ¬ c < capBase := blt_false hc
          simp only [hc, cond_false] at h
          cases hs : sizeX T e with
          | none => simp [hs] at h
          | some sz =>
            simp only [hs] at h
            cases hr : capRow s a.block sz with
            | none => simp [hr] at h
            | some l =>
              simp only [hr, beq_eq] at h
              · by_cases hoff : a.off = capD c * sz
                · rw [decide_eq_true hoff] at h
                  simp only [cond_true] at h
                  cases hpos : Nat.blt 0 sz with
                  | false => simp [hpos] at h
                  | true =>
                    have hpos' : 0 < sz := blt_true hpos
                    simp only [hpos, cond_true] at h
                    obtain ⟨sz, rfl⟩ : ∃ q, sz = q + 1 := ⟨sz - 1, by omega⟩
                    obtain ⟨_, _, hl0, _⟩ := capRow_some hr
                    have hl := hr
                    have hbd := hf.bd _ _ hl0
                    have ecx : ren m (.slice (some a) n c) = .slice (some ⟨m.blk a.block, m.sh a.block + a.off, none⟩) n (m.cp a.block - capD c) := by
                      simp [ren, capOf, hc']
                    have hknown : (l.length - a.off) / (sz + 1) ≤ m.cp a.block - capD c := by
                      rcases Nat.eq_zero_or_pos ((l.length - a.off) / (sz + 1)) with h0 | hp
                      · omega
                      · have hle := Nat.div_mul_le_self (l.length - a.off) (sz + 1)
                        have hge : a.off ≤ l.length := by
                          rcases Nat.lt_or_ge l.length a.off with hlt | hge
                          · rw [show l.length - a.off = 0 by omega] at hp; simp at hp
                          · exact hge
                        have := sym_cap0 m w hf (c := c) (n := (l.length - a.off) / (sz + 1)) (off := a.off) hl hoff (by omega)
                        omega
                    have hu := run_und hT w hd
                    cases mx with
                    | some vm =>
                      simp only at h
                      cases hb1 : bound1 vm ((l.length - a.off) / (sz + 1)) with
                      | none => simp [hb1] at h
                      | some M0 =>
                        simp only [hb1] at h
                        cases hle0 : Nat.ble (a.off + M0 * (sz + 1)) l.length with
                        | false => simp [hle0] at h
                        | true =>
                          simp only [hle0, cond_true] at h
                          cases hb : boundsX n M0 lo hi (some vm) with
                          | none => simp [hb] at h
                          | some q =>
                            obtain ⟨l1, hh, M⟩ := q
                            simp only [hb] at h
                            cases hMc : Nat.blt M capBase with
                            | false => simp [hMc] at h
                            | true =>
                              simp only [hMc, cond_true, Option.some.injEq] at h
                              subst h
                              have hMc' : M < capBase := blt_true hMc
                              have hM0 : M0 ≤ m.cp a.block - capD c := by
                                have := (bound_ok (P := P) m w hb1 _ (Nat.le_refl _) .index).2
                                omega
                              obtain ⟨b1, b2, b3, _⟩ := bounds_ok (P := P) (isS := true) m w hb hM0
                              simp only [Option.isSome_some, if_true, Option.map_some] at b1
                              have hMl : M - l1 < capBase := Nat.lt_of_le_of_lt (Nat.sub_le _ _) hMc'
                              have hrun : (Instr.sliceAt t (ren m (.slice (some a) n c)) (lo.map (ren m)) (hi.map (ren m)) ((some vm).map (ren m))).run P w = .ok (.slice (if M = l1 then some ⟨m.blk a.block, m.sh a.block + a.off, none⟩ else some ⟨m.blk a.block, m.sh a.block + a.off + l1 * (sz + 1), none⟩) (hh - l1) (M - l1)) w := by
                                rw [ecx]
                                simp only [Instr.sliceAt, Sem.run_bind, hu, Result.andThen_ok, Instr.slice, b1, run_size hT w hs, Sem.run_pure, Option.map_some, add_at]
                              rw [hrun]
                              by_cases hMl1 : M = l1
                              · rw [hMl1] at hMl ⊢
                                simp only [decide_true, cond_true, ren, if_true, capOf, if_pos hMl]
                              · simp only [decide_eq_false hMl1, cond_false, ren, if_neg hMl1, capOf, if_pos hMl, Nat.add_assoc]
                    | none =>
                      simp only at h
                      cases hb : boundsX n ((l.length - a.off) / (sz + 1)) lo hi none with
                      | none => simp [hb] at h
                      | some q =>
                        obtain ⟨l1, hh, M⟩ := q
                        simp only [hb] at h
                        cases hle0 : Nat.ble (a.off + hh * (sz + 1)) l.length with
                        | false => simp [hle0] at h
                        | true =>
                          simp only [hle0, cond_true] at h
                          have hle1 : a.off + hh * (sz + 1) ≤ l.length := Nat.le_of_ble_eq_true hle0
                          have hhC := sym_cap0 m w hf (c := c) (n := hh) (off := a.off) hl hoff hle1
                          obtain ⟨b1, b2, _, b4⟩ := bounds_ok (P := P) (isS := true) m w hb hknown
                          simp only [Option.isSome_none, Bool.false_eq_true, if_false] at b1
                          have hrun : (Instr.sliceAt t (ren m (.slice (some a) n c)) (lo.map (ren m)) (hi.map (ren m)) ((none : Option Value).map (ren m))).run P w = .ok (.slice (if m.cp a.block - capD c = l1 then some ⟨m.blk a.block, m.sh a.block + a.off, none⟩ else some ⟨m.blk a.block, m.sh a.block + a.off + l1 * (sz + 1), none⟩) (hh - l1) (m.cp a.block - capD c - l1)) w := by
                            rw [ecx]
                            simp only [Instr.sliceAt, Sem.run_bind, hu, Result.andThen_ok, Instr.slice, b1, run_size hT w hs, Sem.run_pure, Option.map_some, add_at]
                          cases l1 with
                          | zero =>
                            simp only [Option.some.injEq] at h
                            subst h
                            rw [Nat.sub_zero, Nat.sub_zero, Nat.zero_mul, Nat.add_zero] at hrun
                            by_cases hC : m.cp a.block - capD c = 0
                            · rw [if_pos hC] at hrun; rw [hrun]; simp only [ren, capOf, if_neg hc']
                            · rw [if_neg hC] at hrun; rw [hrun]; simp only [ren, capOf, if_neg hc']
                          | succ l1 =>
                            simp only at h
                            cases hlt : Nat.blt (l1 + 1) hh with
                            | true =>
                              have hlt' : l1 + 1 < hh := blt_true hlt
                              simp only [hlt, cond_true, Option.some.injEq] at h
                              subst h
                              have hne : ¬ m.cp a.block - capD c = l1 + 1 := by omega
                              have hnc : ¬ c + (l1 + 1) < capBase := fun hh => hc' (Nat.lt_of_le_of_lt (Nat.le_add_right _ _) hh)
                              have hcd : capD (c + (l1 + 1)) = capD c + (l1 + 1) := capD_add (Nat.le_of_not_lt hc') _
                              rw [hrun]
                              simp only [ren, capOf, if_neg hnc, if_neg hne, hcd, Nat.add_assoc, Nat.sub_sub]
                            | false => simp [hlt] at h
                · rw [decide_eq_false hoff] at h
                  simp at h
    | _ => simp [hd] at h
  | _ => simp [hd] at h

theorem read_ok {s : S} (hf : Fits m s w) {tm : List Value} {a : Act} (ha : a.tmps = ⟨renL m tm⟩) (o : Oper) {v : Value} (h : readX T tm s o.op = some v) : (execOp a.eval o).run P w = .ok (.value (ren m v)) w := by
  obtain ⟨dst, op, type, pos, after, guard⟩ := o
  simp only at h
  unfold readX at h
  cases op with
  | load t x =>
    simp only at h
    cases hx : evalO tm x with
    | none => simp [hx] at h
    | some u =>
      cases u with
      | pointer p =>
        cases p with
        | none => simp [hx] at h
        | some b =>
          simp only [hx] at h
          cases hl : lk s.h b.block with
          | none => simp [hl] at h
          | some blk =>
            rcases blk with ⟨l, e, md⟩ | ⟨es, c⟩
            · simp only [hl] at h
              have := load_ok hT m w hf hl h
              simp [execOp, evalO_ok ha hx, ren, Instr.loadAt, Instr.sureAddr, this]
            · simp [hl] at h
      | _ => simp [hx] at h
  | slice t x lo hi mx =>
    simp only at h
    cases hx : evalO tm x with
    | none => simp [hx] at h
    | some u =>
      cases h1 : evalM tm lo with
      | none => simp [hx, h1] at h
      | some l =>
        cases h2 : evalM tm hi with
        | none => simp [hx, h1, h2] at h
        | some hh =>
          cases h3 : evalM tm mx with
          | none => simp [hx, h1, h2, h3] at h
          | some mm =>
            simp only [hx, h1, h2, h3] at h
            have := sliceR_ok hT m w hf h
            simp only [execOp, evalO_ok ha hx, evalM_ok ha h1, evalM_ok ha h2, evalM_ok ha h3]
            rw [Sem.run_bind, this]; rfl
  | lookup t x k ok =>
    simp only at h
    cases hd : T.und t with
    | none => simp [hd] at h
    | some d =>
      cases d with
      | map kt et =>
        simp only [hd] at h
        cases hx : evalO tm x with
        | none => simp [hx] at h
        | some u =>
          cases u with
          | map r =>
            simp only [hx] at h
            cases hk : evalO tm k with
            | none => simp [hk] at h
            | some kv =>
              simp only [hk] at h
              cases hkx : keyX T 50 kt kv with
              | false => simp [hkx] at h
              | true =>
                simp only [hkx, cond_true] at h
                obtain ⟨ty, hty⟩ := keyX_und hkx
                have main : ∀ es : List MapEntry, (match findX T kt kv es 0 with
                      | none => none
                      | some (some (_, v)) => some (cond ok (.tuple #[v, .bool true]) v)
                      | some none => match T.inf et with
                        | some (_, _, z) => some (cond ok (.tuple #[z, .bool false]) z)
                        | none => none) = some v →
                    (Instr.checkKey (es.map (renE m)).toArray.isEmpty 10000 kt (ren m kv)).run P w = .ok () w ∧
                    ((∃ pi pv, (Instr.findKey kt (ren m kv) (es.map (renE m))).run P w = .ok (some (pi, pv)) w ∧ ren m v = if ok = true then Value.tuple #[pv, .bool true] else pv) ∨
                     (∃ z, (Instr.findKey kt (ren m kv) (es.map (renE m))).run P w = .ok none w ∧ (zeroValue et).run P w = .ok z w ∧ ren m v = if ok = true then Value.tuple #[z, .bool false] else z)) := by
                  intro es he
                  refine ⟨key_ok hT m _ 50 9950 w hkx, ?_⟩
                  cases hfx : findX T kt kv es 0 with
                  | none => simp [hfx] at he
                  | some fr =>
                    have h2 := find_ok hT m w hty hfx
                    cases fr with
                    | none =>
                      simp only [hfx] at he
                      cases hi : T.inf et with
                      | none => simp [hi] at he
                      | some y =>
                        obtain ⟨y1, y2, z⟩ := y
                        obtain ⟨hz, hzr⟩ := run_zero hT m w hi
                        simp only at hz hzr
                        simp [hi] at he
                        subst he
                        refine .inr ⟨z, h2, hz, ?_⟩
                        cases ok <;> simp [ren, renL, hzr]
                    | some p =>
                      obtain ⟨pi, pv⟩ := p
                      simp [hfx] at he
                      subst he
                      refine .inl ⟨pi, ren m pv, h2, ?_⟩
                      cases ok <;> simp [ren, renL]
                cases r with
                | none =>
                  simp only at h
                  obtain ⟨h1, ⟨pi, pv, h2, h3⟩ | ⟨z, h2, h2', h3⟩⟩ := main [] h
                  · simp only [List.map_nil] at h1 h2
                    simp only [execOp, evalO_ok ha hx, evalO_ok ha hk, Sem.run_bind, Instr.lookup, run_und hT w hd, Result.andThen_ok, ren, Sem.run_pure, h1, h2, h3]
                  · simp only [List.map_nil] at h1 h2
                    simp only [execOp, evalO_ok ha hx, evalO_ok ha hk, Sem.run_bind, Instr.lookup, run_und hT w hd, Result.andThen_ok, ren, Sem.run_pure, h1, h2, h2', h3]
                | some r =>
                  simp only at h
                  cases hl : lk s.h r with
                  | none => simp [hl] at h
                  | some blk =>
                    rcases blk with x | ⟨es, c⟩
                    · simp [hl] at h
                    · simp only [hl] at h
                      have hb : w.heap[m.blk r]? = some (.map (es.map (renE m)).toArray c) := hf.ok r _ hl
                      obtain ⟨h1, ⟨pi, pv, h2, h3⟩ | ⟨z, h2, h2', h3⟩⟩ := main es h
                      · simp only [execOp, evalO_ok ha hx, evalO_ok ha hk, Sem.run_bind, Instr.lookup, run_und hT w hd, Result.andThen_ok, ren, Sem.run_pure, run_getObj_map hb, h1, h2, h3]
                      · simp only [execOp, evalO_ok ha hx, evalO_ok ha hk, Sem.run_bind, Instr.lookup, run_und hT w hd, Result.andThen_ok, ren, Sem.run_pure, run_getObj_map hb, h1, h2, h2', h3]
          | _ => simp [hx] at h
      | _ => simp [hd] at h
  | call c =>
    obtain ⟨callee, args, ats⟩ := c
    simp only at h
    cases callee with
    | builtin b =>
      cases b with
      | len =>
        simp only at h
        cases hx : evalL tm args.toList with
        | none => simp [hx] at h
        | some vs =>
          rcases vs with _ | ⟨x, _ | ⟨y, l⟩⟩
          · simp [hx] at h
          · cases x with
            | map r =>
              obtain ⟨ats⟩ := ats
              cases ats with
              | nil => simp [hx] at h
              | cons t ts =>
                simp only [hx] at h
                have e1 := evalA_ok ha hx
                simp only [renL] at e1
                cases hd : T.und t with
                | none => simp [hd] at h
                | some d =>
                  cases d with
                  | map kt et =>
                    simp only [hd] at h
                    simp only [execOp, Sem.run_bind, resolve, Sem.run_pure, Result.andThen_ok, invoke, builtin, e1]
                    cases r with
                    | none =>
                      simp at h; subst h
                      simp [Builtin.len_, run_und hT w hd, ren, goInt]
                    | some r =>
                      simp only at h
                      cases hl : lk s.h r with
                      | none => simp [hl] at h
                      | some blk =>
                        rcases blk with x | ⟨es, c⟩
                        · simp [hl] at h
                        · simp only [hl, Option.some.injEq] at h
                          subst h
                          have hb : w.heap[m.blk r]? = some (.map (es.map (renE m)).toArray c) := hf.ok r _ hl
                          simp [Builtin.len_, run_und hT w hd, ren, goInt, run_getObj_map hb]
                  | _ => simp [hd] at h
            | _ => simp [hx] at h
          · simp [hx] at h
      | _ => simp at h
    | _ => simp at h
  | _ => simp at h
end
end Go.Rx
