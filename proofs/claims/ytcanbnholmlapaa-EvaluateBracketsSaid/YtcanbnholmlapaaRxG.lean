/-
  RxG: the operations that make or write memory: new rows, stores, lists, makes.
-/
import Derived.Test.YtcanbnholmlapaaRxF
import Derived.Laws.Append
namespace Go.Rx
open Go

def Eff (P : Program) (m : Nm) (s : S) (w : World) (x : Sem Value) (v : Value) (s₁ : S) : Prop :=
  ∃ m₁ w₁ cv, x.run P w = .ok cv w₁ ∧ Adv m s w m₁ s₁ w₁ ∧ RelS m₁ s₁.nx v cv
def EffU (P : Program) (m : Nm) (s : S) (w : World) (x : Sem Unit) (s₁ : S) : Prop :=
  ∃ m₁ w₁, x.run P w = .ok () w₁ ∧ Adv m s w m₁ s₁ w₁

theorem RelS.cells {m : Nm} {n : Nat} {v cv : Value} (h : RelS m n v cv) : RelL m n v.cells.toList cv.cells.toList := fun m' ha => by
  rw [← h m' ha, cells_ren, toList_renA]
theorem relL_plain {m : Nm} {n : Nat} {l : List Value} (h : ∀ m', renL m' l = l) : RelL m n l l := fun m' _ => h m'
theorem relS_refl {m : Nm} {n : Nat} {v : Value} (h : ∀ m', ren m' v = v) : RelS m n v v := fun m' _ => h m'
theorem RelL.append {m : Nm} {n : Nat} {a b ca cb : List Value} (h : RelL m n a ca) (h' : RelL m n b cb) : RelL m n (a ++ b) (ca ++ cb) := fun m' ha => by
  rw [renL_append, h m' ha, h' m' ha]

theorem set_blk (m : Nm) (i b sh cp : Nat) : (m.set i b sh cp).blk i = b ∧ (m.set i b sh cp).sh i = sh ∧ (m.set i b sh cp).cp i = cp := by simp [Nm.set]

theorem relS_new {m : Nm} {s : S} (b sh cp n : Nat) (hn : s.nx < n) : RelS (m.set s.nx b sh cp) n (.pointer (some ⟨s.nx, 0, none⟩)) (.pointer (some ⟨b, sh, none⟩)) := fun m' ha => by
  obtain ⟨h1, h2, _⟩ := ha s.nx hn
  obtain ⟨e1, e2, _⟩ := set_blk m s.nx b sh cp
  simp [ren, h1, h2, e1, e2]

/-- a new row of its own -/
theorem new_row {m : Nm} {s : S} {w : World} (hf : FitsS m s w) {l cl : List Value} (hl : RelL m s.nx l cl) (e : TypeId) (cp : Nat) :
    Adv m s w (m.set s.nx w.heap.size 0 cp) (newRow s l e 0) (w.alloc (.cells ⟨cl⟩ e)) := by
  refine Adv.alloc hf _ _ cp fun m' ha => ?_
  have ha' : Agree s.nx m m' := (Nm.agree_set m s.nx w.heap.size 0 cp).trans ha (Nat.le_succ _)
  obtain ⟨h1, h2, _⟩ := ha s.nx (Nat.lt_succ_self _)
  obtain ⟨e1, e2, _⟩ := set_blk m s.nx w.heap.size 0 cp
  refine ⟨by rw [h2, e2], ?_⟩
  rw [h1, e1, hl m' ha']
  show (w.heap.push _)[w.heap.size]? = _
  simp

/-- a new row that may be longer than what is known of it -/
theorem new_row_more {m : Nm} {s : S} {w : World} (hf : FitsS m s w) {l cl rest : List Value} (hl : RelL m s.nx l cl) (e : TypeId) (cp sz : Nat) (hlen : l.length + rest.length = cp * sz) :
    Adv m s w (m.set s.nx w.heap.size 0 cp) (newRow s l e (sz + 2)) (w.alloc (.cells ⟨cl ++ rest⟩ e)) := by
  refine Adv.alloc hf _ _ cp fun m' ha => ?_
  have ha' : Agree s.nx m m' := (Nm.agree_set m s.nx w.heap.size 0 cp).trans ha (Nat.le_succ _)
  obtain ⟨h1, h2, h3⟩ := ha s.nx (Nat.lt_succ_self _)
  obtain ⟨e1, e2, e3⟩ := set_blk m s.nx w.heap.size 0 cp
  refine ⟨[], rest, ?_, by simp [h2, e2], by rw [h3, e3, hlen]⟩
  rw [h1, e1, hl m' ha']
  show (w.heap.push _)[w.heap.size]? = _
  simp

theorem own_of_md {l : List Value} {e : TypeId} {md : Nat} (h : md ≠ 1) : Own (.inl (l, e, md)) = true := by
  rcases md with _ | _ | n <;> simp_all [Own]

/-- A STORE INTO A ROW OF ITS OWN. -/
theorem store_row {P : Program} {m : Nm} {s : S} {w : World} (hf : FitsS m s w) {i off : Nat} {l l' vs cvs : List Value} {e : TypeId} {md : Nat} (hr : ownRow s i = some (l, e, md)) (hp : putX l off vs = some l')
    (hv : RelL m s.nx vs cvs) (h1 : allOne vs = true) :
    ∃ w₁, (storeCells ⟨m.blk i, m.sh i + off, none⟩ cvs 0).run P w = .ok () w₁ ∧ Adv m s w m ⟨up s.h i (.inl (l', e, md)), s.nx⟩ w₁ := by
  obtain ⟨hl, hmd⟩ := ownRow_some hr
  obtain ⟨hlen, hl'⟩ := putX_some hp
  have hone : ∀ v ∈ cvs, v.oneCell' = true := by rw [← hv.at]; exact allOne_ren h1
  have hcl : cvs.length = vs.length := by rw [← hv.at]; simp
  rcases md with _ | _ | n
  · have h0 : ∀ m', Agree s.nx m m' → m'.sh i = 0 ∧ w.heap[m'.blk i]? = some (.cells (renL m' l).toArray e (0, 0)) := fun m' ha => (hf m' ha).ok i _ hl
    obtain ⟨hsh, hb⟩ := h0 m (Agree.refl _ _)
    have hst := run_storeCells_at P (m.blk i) off e cvs 0 _ w hb (by simp; omega) hone
    simp only [Nat.add_zero] at hst
    rw [hsh, Nat.zero_add]
    refine ⟨_, hst, Adv.write hf hl (own_of_md hmd) (fun k hk => setRow_other w _ k _ hk) (by simp) rfl rfl rfl (Nat.le_refl _) fun m' ha => ?_⟩
    obtain ⟨hsh', hb'⟩ := h0 m' ha
    have hbi : m'.blk i = m.blk i := (ha i ((hf.fits).bd i _ hl)).1
    refine ⟨hsh', ?_⟩
    rw [hbi, setRow_heap w _ _ _ e (0, 0) hb]
    rw [hbi] at hb'
    have hrl : renL m' l = renL m l := by
      have := hb.symm.trans hb'
      simp at this
      exact this.symm
    rw [hl', renL_append, renL_append, hv m' ha]
    have e1 : renL m' (l.take off) = (renL m l).take off := by rw [← hrl]; simp [renL_eq, List.map_take]
    have e2 : renL m' (l.drop (off + vs.length)) = (renL m l).drop (off + cvs.length) := by rw [← hrl, hcl]; simp [renL_eq, List.map_drop]
    rw [e1, e2]
  · exact absurd rfl hmd
  · have h0 : ∀ m', Agree s.nx m m' → ∃ pr rest, w.heap[m'.blk i]? = some (.cells (pr ++ renL m' l ++ rest).toArray e (0, 0)) ∧ pr.length = m'.sh i ∧ l.length + rest.length = m'.cp i * n := fun m' ha => (hf m' ha).ok i _ hl
    obtain ⟨pr, rest, hb, hpr, hrest⟩ := h0 m (Agree.refl _ _)
    have hst := run_storeCells_at P (m.blk i) (m.sh i + off) e cvs 0 _ w hb (by simp; omega) hone
    simp only [Nat.add_zero] at hst
    refine ⟨_, hst, Adv.write hf hl (own_of_md hmd) (fun k hk => setRow_other w _ k _ hk) (by simp) rfl rfl rfl (Nat.le_refl _) fun m' ha => ?_⟩
    obtain ⟨pr', rest', hb', hpr', hrest'⟩ := h0 m' ha
    obtain ⟨hbi, hsi, hci⟩ := ha i ((hf.fits).bd i _ hl)
    rw [hbi] at hb'
    have hall : pr' ++ renL m' l ++ rest' = pr ++ renL m l ++ rest := by
      have := hb.symm.trans hb'
      simp at this
      simpa using this.symm
    have hpp : pr' = pr ∧ renL m' l = renL m l ∧ rest' = rest := by
      rw [List.append_assoc, List.append_assoc] at hall
      obtain ⟨e1, e2⟩ := List.append_inj hall (by rw [hpr', hpr, hsi])
      obtain ⟨e3, e4⟩ := List.append_inj e2 (by simp)
      exact ⟨e1, e3, e4⟩
    refine ⟨pr, rest, ?_, by rw [hsi, hpr], ?_⟩
    · rw [hbi, setRow_heap w _ _ _ e (0, 0) hb]
      rw [hl', renL_append, renL_append, hv m' ha]
      have e1 : renL m' (l.take off) = (renL m l).take off := by rw [← hpp.2.1]; simp [renL_eq, List.map_take]
      have e2 : renL m' (l.drop (off + vs.length)) = (renL m l).drop (off + cvs.length) := by rw [← hpp.2.1, hcl]; simp [renL_eq, List.map_drop]
      rw [e1, e2]
      congr 2
      simp only [List.append_assoc]
      rw [← hpr, List.take_append, List.take_of_length_le (by omega), Nat.add_sub_cancel_left, List.take_append_of_le_length (by simp; omega)]
      rw [List.drop_append, List.drop_of_length_le (by omega), List.nil_append, show pr.length + off + cvs.length - pr.length = off + cvs.length by omega, List.drop_append_of_le_length (by simp; omega)]
      simp
    · rw [hci, ← hrest, hl']
      simp
      omega

section
variable {P : Program} {T : Tb} (hT : TbOk P T) {m : Nm} {s : S} {w : World} (hf : FitsS m s w)
include hT hf

theorem store_ok {t : TypeId} {p v cp cv u : Value} {s₁ : S} (hp : RelS m s.nx p cp) (hv : RelS m s.nx v cv) (h : storeX T s t p v = some (u, s₁)) :
    EffU P m s w (Instr.storeAt t cp cv) s₁ ∧ u = undef := by
  unfold storeX at h
  cases p with
  | pointer q =>
    cases q with
    | none => simp at h
    | some a =>
      simp only [beq_eq] at h
      cases hs : sizeX T t with
      | none => simp [hs] at h
      | some n =>
        simp only [hs] at h
        by_cases hn : v.cells.toList.length = n
        · simp only [hn, decide_true, cond_true] at h
          cases h1 : allOne v.cells.toList with
          | false => simp [h1] at h
          | true =>
            simp only [h1, cond_true] at h
            cases hr : ownRow s a.block with
            | none => simp [hr] at h
            | some r =>
              obtain ⟨l, e, md⟩ := r
              simp only [hr] at h
              cases hq : putX l a.off v.cells.toList with
              | none => simp [hq] at h
              | some l' =>
                simp only [hq, Option.some.injEq, Prod.mk.injEq] at h
                obtain ⟨rfl, rfl⟩ := h
                refine ⟨?_, rfl⟩
                obtain ⟨w₁, hrun, hadv⟩ := store_row (P := P) hf hr hq hv.cells h1
                refine ⟨m, w₁, ?_, hadv⟩
                have hcp : cp = .pointer (some ⟨m.blk a.block, m.sh a.block + a.off, none⟩) := by rw [← hp.at]; simp [ren]
                have hsz : cv.cells.size = n := by
                  have : cv.cells.toList.length = n := by rw [← hv.cells.at]; simpa using hn
                  simpa using this
                subst hcp
                simp [Instr.storeAt, Instr.sureAddr, storeVar, run_size hT w hs, hsz, hrun]
        · simp only [hn, decide_false, cond_false] at h; cases h
  | _ => simp at h

omit hT hf in
theorem zeros_eq (z : Array Value) (n : Nat) : (Array.range (n * z.size)).map (fun i => z[i % z.size]!) = ⟨zeros z.toList n⟩ := by
  apply Array.ext'
  simp only [Array.toList_map, Array.toList_range]
  rcases Nat.eq_zero_or_pos z.size with h0 | hpos
  · have hz : z = #[] := by simpa using h0
    subst hz
    induction n with
    | zero => simp [zeros]
    | succ n ih => simp [zeros] at ih ⊢; exact ih
  · induction n with
    | zero => simp [zeros]
    | succ n ih =>
      have e : (n + 1) * z.size = z.size + n * z.size := by rw [Nat.add_mul]; omega
      rw [e, List.range_add, List.map_append, zeros, ← ih]
      congr 1
      · apply List.ext_getElem?
        intro i
        by_cases hi : i < z.size
        · simp [hi, Nat.mod_eq_of_lt hi]
        · simp [hi]
      · rw [List.map_map]
        apply List.map_congr_left
        intro i _
        simp
omit hT hf in
theorem zeros_len (z : List Value) (n : Nat) : (zeros z n).length = n * z.length := by
  induction n with
  | zero => simp [zeros]
  | succ n ih => simp [zeros, ih, Nat.add_mul]; omega
omit hT hf in
theorem zeros_ren {z : List Value} (h : ∀ m', renL m' z = z) (n : Nat) (m' : Nm) : renL m' (zeros z n) = zeros z n := by
  induction n with
  | zero => simp [zeros, renL]
  | succ n ih => simp [zeros, renL_append, ih, h]

omit hf in
theorem zero_cells {t : TypeId} {x : Nat × Nat × Value} (h : T.inf t = some x) (m' : Nm) : renL m' x.2.2.cells.toList = x.2.2.cells.toList := by
  have := (run_zero hT m' default h).2
  rw [← toList_renA, ← cells_ren, this]

omit hT hf in
theorem relS_slice {b sh cp n len c c' : Nat} (hn : s.nx < n) (hc : ∀ m', Agree n (m.set s.nx b sh cp) m' → capOf m' s.nx c = c') :
    RelS (m.set s.nx b sh cp) n (.slice (some ⟨s.nx, 0, none⟩) len c) (.slice (some ⟨b, sh, none⟩) len c') := fun m' ha => by
  obtain ⟨h1, h2, _⟩ := ha s.nx hn
  obtain ⟨e1, e2, _⟩ := set_blk m s.nx b sh cp
  simp [ren, h1, h2, e1, e2, hc m' ha]

theorem makeList_ok {t : TypeId} {n : Nat} {ps : List (Nat × Value)} {v : Value} {s₁ : S} {cps : List (Nat × Value)} (hps : ∀ m', Agree s.nx m m' → ps.map (fun p => (p.1, ren m' p.2)) = cps)
    (h : makeListX T s t n ps = some (v, s₁)) : Eff P m s w (Instr.buildSlice t n cps.toArray) v s₁ := by
  unfold makeListX at h
  cases hd : T.und t with
  | none => simp [hd] at h
  | some d =>
    cases d with
    | slice e =>
      simp only [hd] at h
      cases hi : T.inf e with
      | none => simp [hi] at h
      | some x =>
        obtain ⟨sz, by_, z⟩ := x
        have hsz : sizeX T e = some sz := by simp [sizeX, hi]
        have hz := fun m' => run_zero hT m' w hi
        have hzc := zero_cells hT hi
        simp only at hz hzc
        simp only [hi, beq_eq] at h
        cases h1 : Nat.ble (n * sz) 16777216 with
        | false => simp [h1] at h
        | true =>
          simp only [h1, cond_true] at h
          have h1' : n * sz ≤ 16777216 := by simpa [Nat.ble_eq] using h1
          by_cases h2 : z.cells.toList.length = sz
          · simp only [h2, decide_true, cond_true] at h
            cases h3 : fillX (fun i => some (i * sz, sz)) (zeros z.cells.toList n) ps with
            | none => simp [h3] at h
            | some cs =>
              cases h4 : Nat.blt n capBase with
              | false => simp [h3, h4] at h
              | true =>
              have h4' : n < capBase := by simpa [Nat.blt_eq] using h4
              simp only [h3, h4, cond_true, Option.some.injEq, Prod.mk.injEq] at h
              obtain ⟨rfl, rfl⟩ := h
              have hfill : ∀ m', Agree s.nx m m' → Instr.fill (fun i => some (i * sz, sz)) ⟨zeros z.cells.toList n⟩ cps = some ⟨renL m' cs⟩ := fun m' ha => by
                have := fill_ok m' _ ps _ _ h3
                rw [hps m' ha, zeros_ren hzc] at this
                exact this
              obtain ⟨cl, hcl⟩ : ∃ cl, RelL m s.nx cs cl := ⟨renL m cs, fun m' ha => by
                have e1 := hfill m' ha
                have e2 := hfill m (Agree.refl _ _)
                rw [e1] at e2
                simpa using e2⟩
              have hcells : z.cells.size = sz := by simpa using h2
              refine ⟨_, _, .slice (some ⟨w.heap.size, 0, none⟩) n n, ?_, new_row hf hcl e 0, ?_⟩
              · have hzeros : (Array.range (n * sz)).map (fun i => (if n * sz = 0 then (#[] : Array Value) else z.cells)[i % (if n * sz = 0 then (#[] : Array Value) else z.cells).size]!) = ⟨zeros z.cells.toList n⟩ := by
                  by_cases h0 : n * sz = 0
                  · rw [h0]
                    apply Array.ext'
                    have : (zeros z.cells.toList n).length = 0 := by rw [zeros_len, h2, h0]
                    simp [List.length_eq_zero_iff.1 this]
                  · simp only [if_neg h0]
                    have := zeros_eq z.cells n
                    rw [hcells] at this
                    rw [← this]
                    simp [hcells]
                have hf2 := hfill m (Agree.refl _ _)
                rw [hcl.at] at hf2
                have hnot : ¬ n * sz > 2 ^ 24 := by omega
                have hzz := (hz m).1
                by_cases h0 : n * sz = 0
                · simp only [if_pos h0] at hzeros
                  simp only [Instr.buildSlice, Sem.run_bind, run_und hT w hd, Result.andThen_ok, run_size hT w hsz, Sem.run_ite, if_neg hnot, Sem.run_pure, if_pos h0]
                  rw [hzeros, hf2]
                  simp [Go.newRow]
                · simp only [if_neg h0] at hzeros
                  simp only [Instr.buildSlice, Sem.run_bind, run_und hT w hd, Result.andThen_ok, run_size hT w hsz, Sem.run_ite, if_neg hnot, Sem.run_pure, if_neg h0, hzz]
                  rw [hzeros, hf2]
                  simp [Go.newRow]
              · refine relS_slice (Nat.lt_succ_self _) fun m' _ => ?_
                simp [capOf, h4']
          · simp only [h2, decide_false, cond_false] at h; cases h
    | _ => simp [hd] at h
end
end Go.Rx
