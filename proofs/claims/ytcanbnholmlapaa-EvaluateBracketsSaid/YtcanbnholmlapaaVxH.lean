/-
  VxH: append, copy, maps; all operations.
-/
import Derived.Test.YtcanbnholmlapaaVxG
namespace Go.Vx
open Go Go.Rx
set_option linter.unusedVariables false

theorem roomX_of {n b : Nat} (h1 : n * b ≤ 140737488355328) (h2 : n ≤ 140737488355328) : roomX n b = true := by
  simp [roomX, Nat.ble_eq_true_of_le h1, Nat.ble_eq_true_of_le h2]
theorem cellsX_pos {s : S} {i off n : Nat} {l : List Value} {e : TypeId} {md : Nat} (hl : lk s.h i = some (.inl (l, e, md))) (h : off + n ≤ l.length) : cellsX s (some ⟨i, off, none⟩) n = some ((l.drop off).take n) := by
  cases n with
  | zero => simp [cellsX]
  | succ n => simp only [cellsX, hl]; exact seg_of h
theorem cellsX_zero (s : S) (b : Option Addr) : cellsX s b 0 = some [] := rfl
section
variable {T : Tb} {x : Cx} (hx : HRel x)
include hx
theorem src_sim {sz : Nat} (hsz : 0 < sz) {u : U} {v : Value} {k : Nat} {new : List U} (h : srcU x.σ sz u = some (k, new)) (hr : Rel x u v) : ∃ b c vs, flatW v = .slice b k c ∧ (v = .slice b k c ∨ k = 0 ∧ b = none ∧ c = 0 ∧ new = [] ∧ ∃ r, v = .chan (some r)) ∧ cellsX x.s b (k * sz) = some vs ∧ RelE x new vs ∧ okL new = true := by
  unfold srcU at h
  cases u with
  | nils =>
    simp only [Option.some.injEq, Prod.mk.injEq] at h
    obtain ⟨rfl, rfl⟩ := h
    simp only [Rel] at hr
    subst hr
    exact ⟨none, 0, [], rfl, .inl rfl, by rw [Nat.zero_mul]; rfl, RelE.nil x, rfl⟩
  | isl t l =>
    simp only at h
    split at h
    · rename_i hall
      simp only [Option.some.injEq, Prod.mk.injEq] at h
      obtain ⟨rfl, rfl⟩ := h
      simp only [Rel] at hr
      rcases hr with ⟨rfl, rfl | ⟨r, rfl⟩⟩ | ⟨i, off, c, rfl, _, hrow⟩
      · exact ⟨none, 0, [], rfl, .inl rfl, by rw [List.length_nil, Nat.zero_mul]; rfl, RelE.nil x, rfl⟩
      · exact ⟨none, 0, [], rfl, .inr ⟨rfl, rfl, rfl, rfl, r, rfl⟩, by rw [List.length_nil, Nat.zero_mul]; rfl, RelE.nil x, rfl⟩
      · by_cases hne : l = []
        · subst hne
          exact ⟨_, c, [], rfl, .inl rfl, by rw [List.length_nil, Nat.zero_mul]; rfl, RelE.nil x, rfl⟩
        · rcases hrow with hrow | ⟨row, e, sz', g1, g2, g3⟩
          · exact absurd hrow hne
          · have := relR_sz g2 hne hall
            subst this
            obtain ⟨f1, f2⟩ := relR_flat g2
            have hlen := relR_len g2
            rw [List.length_drop] at hlen
            have : 0 < l.length * sz' := Nat.mul_pos (by cases l <;> simp_all) hsz
            exact ⟨_, c, _, rfl, .inl rfl, cellsX_pos g1 (by omega), f1, f2⟩
    · cases h
  | sl k' off n c =>
    simp only at h
    cases hrow : rowOf x.σ k' with
    | none => simp [hrow] at h
    | some l =>
      simp only [hrow] at h
      cases hs : segU l off (n * sz) with
      | none => simp [hs] at h
      | some cs =>
        simp only [hs, Option.some.injEq, Prod.mk.injEq] at h
        obtain ⟨rfl, rfl⟩ := h
        obtain ⟨e, hg, hl⟩ := rowOf_some hrow
        obtain ⟨i, hi, rfl, _⟩ := live_sl hl hr
        obtain ⟨_, k1, i', lv, e1, e2, e3⟩ := hx.ok k' _ hg
        rw [hi] at e1; cases e1
        obtain ⟨s1, s2⟩ := segU_ok hs e3
        obtain ⟨q1, rfl⟩ := segU_some hs
        exact ⟨_, c, _, rfl, .inl rfl, cellsX_pos e2 (by rw [← e3.2]; exact q1), s2, okL_take (okL_drop k1 _) _⟩
  | vl k' st off n =>
    simp only at h
    cases hv : vecOf x.σ k' st with
    | none => simp [hv] at h
    | some q =>
      obtain ⟨l, e, sz'⟩ := q
      obtain ⟨hg, hl⟩ := vecOf_some hv
      simp only [hv, beq_eq] at h
      by_cases hz : sz' = sz
      · subst hz
        simp only [decide_true, cond_true] at h
        cases hs : segU l (off * sz') (n * sz') with
        | none => simp [hs] at h
        | some cs =>
          simp only [hs, Option.some.injEq, Prod.mk.injEq] at h
          obtain ⟨rfl, rfl⟩ := h
          obtain ⟨q1, rfl⟩ := segU_some hs
          by_cases hn : n = 0
          · subst hn
            obtain ⟨_, _, _, _, hvl⟩ := live_vl hl hr
            obtain ⟨b, c, rfl⟩ := vl_len hvl
            exact ⟨b, c, [], rfl, .inl rfl, by rw [Nat.zero_mul]; rfl, by simpa using RelE.nil x, by simp [okL]⟩
          · obtain ⟨i, l0, e0, sz0, l', h1, h2, rfl, h4, h5, h6, h7⟩ := vl_there hx hl hr (by omega)
            have := hg.symm.trans h1
            cases this
            obtain ⟨s1, s2⟩ := segU_ok hs h5
            exact ⟨_, _, _, rfl, .inl rfl, cellsX_pos h4 (by rw [← h5.2]; exact q1), s2, okL_take (okL_drop h7 _) _⟩
      · simp [hz] at h
  | _ => simp at h

omit hx in
theorem rel_newvec {l : List U} {e : TypeId} {sz N : Nat} {c : Blk} : Rel ⟨setρ x.ρ x.σ.nx (some x.s.nx), newU x.σ (.vec l e sz 0), ⟨(x.s.nx, c) :: x.s.h, x.s.nx + 1⟩⟩ (.vl x.σ.nx 0 0 N) (.slice (some ⟨x.s.nx, 0, none⟩) N capBase) := by
  simp only [Rel]
  refine ⟨rfl, by simp [newU], fun b hb => ?_⟩
  simp only [newU, gt_cons, if_true, Option.some.injEq] at hb
  subst hb
  exact ⟨Nat.le_refl _, fun _ => ⟨l, e, sz, rfl, by simp [setρ, VlOk]⟩⟩
omit hx in
theorem rel_nonevec {e : TypeId} {sz : Nat} {o : Option Addr} (ho : ∀ a, o = some a → a.spot = none) : Rel ⟨setρ x.ρ x.σ.nx none, newU x.σ (.vec [] e sz 0), x.s⟩ (.vl x.σ.nx 0 0 0) (.slice o 0 0) := by
  simp only [Rel]
  refine ⟨rfl, by simp [newU], fun b hb => ?_⟩
  simp only [newU, gt_cons, if_true, Option.some.injEq] at hb
  subst hb
  exact ⟨Nat.le_refl _, fun _ => ⟨[], e, sz, rfl, by simpa [setρ, VlOk] using ho⟩⟩

/-- append to nothing -/
theorem append_none {t xt e e2 : TypeId} {sz by_ : Nat} {z : Value} (hd : T.und t = some (.slice e)) (hd2 : T.und xt = some (.slice e2)) (hi : T.inf e = some (sz + 1, by_, z)) (hz : Nat.beq z.cells.toList.length (sz + 1) = true)
    {o : Option Addr} (ho : ∀ a, o = some a → a.spot = none) {b : Option Addr} {k c : Nat} {new : List U} {vs : List Value} (hc : cellsX x.s b (k * (sz + 1)) = some vs) (hr : RelE x new vs) (hk : okL new = true) (hlen : new.length = k * (sz + 1)) (hroom : k * by_ ≤ 140737488355328 ∧ k ≤ 140737488355328) :
    ∃ v y, appendX T x.s t xt (.slice o 0 0) (.slice b k c) = some (v, y.s) ∧ y.σ = newU x.σ (.vec new e (sz + 1) 0) ∧ Rel y (.vl x.σ.nx 0 0 k) v ∧ Out x y := by
  cases k with
  | zero =>
    have : new = [] := List.eq_nil_of_length_eq_zero (by rw [hlen]; simp)
    subst this
    rw [hr.nil_inv] at hc
    refine ⟨.slice o 0 0, ⟨setρ x.ρ x.σ.nx none, newU x.σ (.vec [] e (sz + 1) 0), x.s⟩, ?_, rfl, rel_nonevec ho, step_none hx e (sz + 1) (by omega)⟩
    simp only [appendX, isW, flatW, cond_false, appendX0, hd, hd2, hi, hc, allOne, cond_true, cap0]
    rfl
  | succ k =>
    refine ⟨.slice (some ⟨x.s.nx, 0, none⟩) (k + 1) capBase, _, ?_, rfl, rel_newvec, newvec_sim hx hr hk e (by omega)⟩
    simp only [appendX, isW, flatW, cond_false, appendX0, hd, hd2, hi, hc, allOne_of hr hk, cond_true, growX, cap0, show Nat.ble (k + 1) 0 = false from rfl, cond_false, Nat.zero_mul, cellsX_zero, hz, Nat.zero_add, roomX_of hroom.1 hroom.2, List.nil_append, Rx.newRow]
/-- append to what is full -/
theorem append_full {t xt e e2 : TypeId} {sz by_ : Nat} {z : Value} (hd : T.und t = some (.slice e)) (hd2 : T.und xt = some (.slice e2)) (hi : T.inf e = some (sz + 1, by_, z)) (hz : Nat.beq z.cells.toList.length (sz + 1) = true)
    {o : Option Addr} {n cp : Nat} {old : List U} {ov : List Value} (hcp : cp < capBase) (hold : cellsX x.s o (n * (sz + 1)) = some ov) (hor : RelE x old ov) (hok : okL old = true) {b : Option Addr} {k c : Nat} {new : List U} {vs : List Value} (hc : cellsX x.s b (k * (sz + 1)) = some vs) (hr : RelE x new vs) (hk : okL new = true)
    (hk0 : 0 < k) (hfull : cp < n + k) (hroom : (n + k) * by_ ≤ 140737488355328 ∧ n + k ≤ 140737488355328) :
    ∃ v y, appendX T x.s t xt (.slice o n cp) (.slice b k c) = some (v, y.s) ∧ y.σ = newU x.σ (.vec (old ++ new) e (sz + 1) 0) ∧ Rel y (.vl x.σ.nx 0 0 (n + k)) v ∧ Out x y ∧ ∃ b n c, v = .slice (some b) n c := by
  cases k with
  | zero => omega
  | succ k =>
    refine ⟨.slice (some ⟨x.s.nx, 0, none⟩) (n + (k + 1)) capBase, _, ?_, rfl, rel_newvec, newvec_sim hx (hor.append hr) (okL_append hok hk) e (by omega), _, _, _, rfl⟩
    have h1 : Nat.ble (n + (k + 1)) cp = false := by
      cases h : Nat.ble (n + (k + 1)) cp with
      | false => rfl
      | true => have := Nat.le_of_ble_eq_true h; omega
    simp only [appendX, isW, flatW, cond_false, appendX0, hd, hd2, hi, hc, allOne_of hr hk, cond_true, growX, blt_of hcp, h1, cond_false, hold, hz, roomX_of hroom.1 hroom.2, Rx.newRow]
/-- a row that grows has grown: its stamp is another one -/
theorem step_vec {K : Nat} {l l1 : List U} {e : TypeId} {sz st : Nat} (hg : gt x.σ.h K = some (.vec l e sz st)) (o : Option Nat) (s' : S) (hrows : ∀ i b, lk x.s.h i = some b → x.ρ K ≠ some i → lk s'.h i = some b) (hfresh : ∀ i, o = some i → x.ρ K = some i ∨ x.s.nx ≤ i)
    (hbd : ∀ i b, lk s'.h i = some b → i < s'.nx) (hk : okL l1 = true) (hB : ∀ y : Cx, y.s = s' → Mo x.σ.nx x y → l1 = [] ∧ o = none ∨ ∃ i l', o = some i ∧ lk s'.h i = some (.inl (l', e, sz + 2)) ∧ RelE y l1 l') :
    Out x ⟨setρ x.ρ K o, ⟨ug x.σ.h K (.vec l1 e sz (st + 1)), x.σ.nx⟩, s'⟩ := by
  have hsz : 0 < sz := (hx.ok K _ hg).2.2.1
  refine step1 hx K (.vec l1 e sz (st + 1)) (Nat.le_refl _) (hx.ok K _ hg).1 (fun k hk => ⟨by simp [gt_ug, Ne.symm hk], setρ_ne _ _ hk⟩) (by simp [gt_ug, hg]) (.inl ⟨_, hg, Nat.le_succ _, fun h => by simp [B.st] at h⟩) (fun i b hb hne => hrows i b hb (hne _ hg)) (fun i hi => ?_) hbd (fun hm => ⟨hk, hsz, ?_⟩)
  · change setρ _ _ _ _ = some i at hi
    rw [setρ_self] at hi
    rcases hfresh i hi with h | h
    · exact .inl ⟨_, hg, h⟩
    · exact .inr h
  · rcases hB _ rfl hm with ⟨h1, h2⟩ | ⟨i, l', h1, h2, h3⟩
    · exact .inl ⟨h1, by simp [setρ, h2]⟩
    · exact .inr ⟨i, l', by simp [setρ, h1], h2, h3⟩
omit hx in
theorem rel_vec {K : Nat} {l l1 : List U} {e : TypeId} {sz st N : Nat} (hx : HRel x) (hg : gt x.σ.h K = some (.vec l e sz st)) {o : Option Nat} {s' : S} {v : Value} (h1 : v.oneCell' = true) (h : VlOk 0 N v sz o) :
    Rel ⟨setρ x.ρ K o, ⟨ug x.σ.h K (.vec l1 e sz (st + 1)), x.σ.nx⟩, s'⟩ (.vl K (st + 1) 0 N) v := by
  simp only [Rel]
  refine ⟨h1, (hx.ok K _ hg).1, fun b hb => ?_⟩
  simp only [gt_ug, if_true, hg, Option.map_some, Option.some.injEq] at hb
  subst hb
  exact ⟨Nat.le_refl _, fun _ => ⟨l1, e, sz, rfl, by simpa [setρ] using h⟩⟩
omit hx in
theorem src_len {sz : Nat} {u : U} {k : Nat} {new : List U} (h : srcU x.σ sz u = some (k, new)) : new.length = k * sz := by
  unfold srcU at h
  cases u with
  | nils => simp only [Option.some.injEq, Prod.mk.injEq] at h; obtain ⟨rfl, rfl⟩ := h; simp
  | isl t l =>
    simp only at h
    split at h
    · rename_i hall
      simp only [Option.some.injEq, Prod.mk.injEq] at h
      obtain ⟨rfl, rfl⟩ := h
      have := all_sz hall
      clear hall
      induction l with
      | nil => simp
      | cons c l ih =>
        have h1 := this c (by simp)
        have h2 := ih fun d hd => this d (by simp [hd])
        simp only [List.flatten_cons, List.length_append, List.length_cons, Nat.succ_mul, h2, h1]
        omega
    · cases h
  | sl k' off n c =>
    simp only at h
    cases hrow : rowOf x.σ k' with
    | none => simp [hrow] at h
    | some l =>
      simp only [hrow] at h
      cases hs : segU l off (n * sz) with
      | none => simp [hs] at h
      | some cs =>
        simp only [hs, Option.some.injEq, Prod.mk.injEq] at h
        obtain ⟨rfl, rfl⟩ := h
        obtain ⟨q1, rfl⟩ := segU_some hs
        simp; omega
  | vl k' st off n =>
    simp only at h
    cases hv : vecOf x.σ k' st with
    | none => simp [hv] at h
    | some q =>
      obtain ⟨l, e, sz'⟩ := q
      simp only [hv, beq_eq] at h
      by_cases hz : sz' = sz
      · simp only [hz, decide_true, cond_true] at h
        cases hs : segU l (off * sz) (n * sz) with
        | none => simp [hs] at h
        | some cs =>
          simp only [hs, Option.some.injEq, Prod.mk.injEq] at h
          obtain ⟨rfl, rfl⟩ := h
          obtain ⟨q1, rfl⟩ := segU_some hs
          simp; omega
      · simp [hz] at h
  | _ => simp at h
theorem append_sim {t xt : TypeId} {a b r : U} {va vb : Value} {σ' : Sg} (h : appendU T x.σ t xt a b = some (r, σ')) (ha : Rel x a va) (hb : Rel x b vb) : ∃ v y, appendX T x.s t xt va vb = some (v, y.s) ∧ y.σ = σ' ∧ Rel y r v ∧ Out x y := by
  unfold appendU at h
  cases hd : T.und t with
  | none => simp [hd] at h
  | some d =>
  cases d with
  | slice e =>
    cases hd2 : T.und xt with
    | none => simp [hd, hd2] at h
    | some d2 =>
    cases d2 with
    | slice e2 =>
      simp only [hd, hd2] at h
      cases hi : T.inf e with
      | none => simp [hi] at h
      | some q =>
        obtain ⟨sz, by_, z⟩ := q
        cases sz with
        | zero => simp [hi] at h
        | succ sz =>
          simp only [hi] at h
          cases hz : Nat.beq z.cells.toList.length (sz + 1) with
          | false => simp only [hz, cond_false] at h; cases h
          | true =>
            simp only [hz, cond_true] at h
            cases hsrc : srcU x.σ (sz + 1) b with
            | none => simp [hsrc] at h
            | some q =>
              obtain ⟨k, new⟩ := q
              simp only [hsrc] at h
              have hlen := src_len hsrc
              obtain ⟨bb, c, vs, hfl, _, hc, hr, hk⟩ := src_sim hx (by omega) hsrc hb
              have happ : ∀ va', appendX T x.s t xt va' vb = appendX T x.s t xt va' (.slice bb k c) := fun va' => by
                unfold appendX; rw [hfl]; simp only [flatW, isW, cond_false]
              rw [happ]
              cases a with
              | nils =>
                simp only at h
                split at h
                · rename_i hroom
                  simp only [Option.some.injEq, Prod.mk.injEq] at h
                  obtain ⟨rfl, rfl⟩ := h
                  simp only [Rel] at ha
                  subst ha
                  exact append_none hx hd hd2 hi hz (by simp) hc hr hk hlen hroom
                · cases h
              | isl tt l =>
                cases tt with
                | false => simp at h
                | true =>
                  simp only at h
                  split at h
                  · rename_i hroom
                    obtain ⟨r1, r2, r3, r4⟩ := hroom
                    simp only [Option.some.injEq, Prod.mk.injEq] at h
                    obtain ⟨rfl, rfl⟩ := h
                    obtain ⟨o, c0, ov, _, e1, e2, e3, e4⟩ := src_sim hx (sz := sz + 1) (by omega) (u := .isl true l) (k := l.length) (new := l.flatten) (by simp only [srcU, r4, if_true]) ha
                    rcases e1 with e1 | ⟨el, rfl, rfl, enew, rr, rfl⟩
                    case inr =>
                      have hln : l = [] := List.eq_nil_of_length_eq_zero el
                      subst hln
                      obtain ⟨v, y, h1, h2, h3, h4, b1, n1, c1, hv⟩ := append_full (T := T) hx hd hd2 hi hz (n := 0) (cp := 0) (o := none) (old := []) (ov := []) (by simp [capBase]) (by rw [Nat.zero_mul]; rfl) (RelE.nil x) rfl hc hr hk r3 (by omega) ⟨by simpa using r1, by simpa using r2⟩
                      have h0 : appendX0 T x.s t xt (.slice none 0 0) (.slice bb k c) = some (v, y.s) := by simpa only [appendX, isW, flatW, cond_false] using h1
                      refine ⟨v, y, ?_, by simpa using h2, by simpa using h3, h4⟩
                      simp only [appendX, isW, flatW, cond_true, cond_false, h0, hv]
                    subst e1
                    have hc0 : c0 = l.length ∧ c0 < capBase := by
                      simp only [Rel] at ha
                      rcases ha with ⟨rfl, h1 | ⟨_, h1⟩⟩ | ⟨i, off, c1, h1, h2, _⟩
                      · cases h1; simp [capBase]
                      · cases h1
                      · cases h1; exact h2 trivial
                    obtain ⟨v, y, h1, h2, h3, h4, _⟩ := append_full hx hd hd2 hi hz hc0.2 e2 e3 e4 hc hr hk r3 (by omega) ⟨r1, r2⟩
                    exact ⟨v, y, h1, h2, h3, h4⟩
                  · cases h
              | sl k' off n cp =>
                simp only at h
                cases hrow : rowOf x.σ k' with
                | none => simp [hrow] at h
                | some l =>
                  simp only [hrow] at h
                  cases hs : segU l off (n * (sz + 1)) with
                  | none => simp [hs] at h
                  | some old =>
                    simp only [hs] at h
                    obtain ⟨e', hg, hl⟩ := rowOf_some hrow
                    obtain ⟨i, hi', hva, hcp, _⟩ := live_sl hl ha
                    split at h
                    · rename_i h0
                      obtain ⟨rfl, rfl⟩ := h0
                      split at h
                      · rename_i hroom
                        simp only [Option.some.injEq, Prod.mk.injEq] at h
                        obtain ⟨rfl, rfl⟩ := h
                        subst hva
                        exact append_none hx hd hd2 hi hz (by simp) hc hr hk hlen hroom
                      · cases h
                    · split at h
                      · rename_i hfull
                        split at h
                        · rename_i hroom
                          obtain ⟨r1, r2, r3⟩ := hroom
                          simp only [Option.some.injEq, Prod.mk.injEq] at h
                          obtain ⟨rfl, rfl⟩ := h
                          obtain ⟨o, c0, ov, _, e1, e2, e3, e4⟩ := src_sim hx (sz := sz + 1) (by omega) (u := .sl k' off n cp) (k := n) (new := old) (by simp only [srcU, hrow, hs]) ha
                          have : o = some ⟨i, off, none⟩ ∧ c0 = cp := by
                            rw [hva] at e1
                            rcases e1 with e1 | ⟨_, _, _, _, _, e1⟩
                            · cases e1; exact ⟨rfl, rfl⟩
                            · cases e1
                          obtain ⟨rfl, rfl⟩ := this
                          rw [hva]
                          obtain ⟨v, y, h1, h2, h3, h4, _⟩ := append_full hx hd hd2 hi hz hcp e2 e3 e4 hc hr hk r3 hfull ⟨r1, r2⟩
                          exact ⟨v, y, h1, h2, h3, h4⟩
                        · cases h
                      · cases h
              | vl K st off n =>
                simp only at h
                cases hg : gt x.σ.h K with
                | none => simp [hg] at h
                | some b0 =>
                  cases b0 with
                  | vec l e' sz' st' =>
                    simp only [hg, beq_eq] at h
                    by_cases hst : st' = st
                    · by_cases he : e' = e
                      · by_cases hsz : sz' = sz + 1
                        · subst hst; subst he; subst hsz
                          simp only [decide_true, cond_true] at h
                          cases hs : segU l (off * (sz + 1)) (n * (sz + 1)) with
                          | none => simp [hs] at h
                          | some p =>
                            simp only [hs] at h
                            split at h
                            · rename_i hroom
                              obtain ⟨r1, r2, r3⟩ := hroom
                              simp only [Option.some.injEq, Prod.mk.injEq] at h
                              obtain ⟨rfl, rfl⟩ := h
                              obtain ⟨l0, e0, sz0, hg', hvl⟩ := live_vl (x := x) (by simp [live, hg, B.st]) ha
                              have := hg.symm.trans hg'
                              cases this
                              obtain ⟨_, k1, k2, h3⟩ := hx.ok K _ hg
                              obtain ⟨q1, rfl⟩ := segU_some hs
                              rcases h3 with ⟨rfl, hρ⟩ | ⟨i, l', e1, e2, e3⟩
                              · rw [hρ] at hvl
                                obtain ⟨rfl, rfl, o, rfl, ho⟩ := hvl
                                cases k with
                                | zero =>
                                  have : new = [] := List.eq_nil_of_length_eq_zero (by rw [hlen]; simp)
                                  subst this
                                  rw [hr.nil_inv] at hc
                                  refine ⟨.slice o 0 0, ⟨setρ x.ρ K none, ⟨ug x.σ.h K (.vec [] e' (sz + 1) (st' + 1)), x.σ.nx⟩, x.s⟩, ?_, by simp, rel_vec hx hg rfl ⟨rfl, rfl, o, rfl, ho⟩, step_vec hx hg none x.s (fun i b hb _ => hb) (by simp) hx.bd rfl (fun y _ _ => .inl ⟨rfl, rfl⟩)⟩
                                  simp only [appendX, isW, flatW, cond_false, appendX0, hd, hd2, hi, hc, allOne, cond_true, cap0]
                                  rfl
                                | succ k =>
                                  refine ⟨.slice (some ⟨x.s.nx, 0, none⟩) (0 + (k + 1)) capBase, ⟨setρ x.ρ K (some x.s.nx), ⟨ug x.σ.h K (.vec new e' (sz + 1) (st' + 1)), x.σ.nx⟩, Rx.newRow x.s vs e' (sz + 1 + 2)⟩, ?_, by simp, rel_vec hx hg rfl (.inr (by simp)), step_vec hx hg (some x.s.nx) _ (fun i b hb _ => ?_) (fun i hi => .inr (by cases hi; exact Nat.le_refl _)) (fun i b hb => ?_) hk (fun y hy hm => .inr ⟨x.s.nx, vs, rfl, ?_, hm.ke.E hr.bel hr⟩)⟩
                                  · have h1 : Nat.ble (0 + (k + 1)) 0 = false := by
                                      cases h : Nat.ble (0 + (k + 1)) 0 with
                                      | false => rfl
                                      | true => have := Nat.le_of_ble_eq_true h; omega
                                    simp only [appendX, isW, flatW, cond_false, appendX0, hd, hd2, hi, hc, allOne_of hr hk, cond_true, growX, cap0, h1, cond_false, Nat.zero_mul, cellsX_zero, hz, roomX_of r1 r2, List.nil_append]
                                  · have := hx.bd i b hb
                                    simp [Rx.newRow, lk_cons, show x.s.nx ≠ i by omega, hb]
                                  · simp only [Rx.newRow, lk_cons] at hb ⊢
                                    split at hb
                                    · omega
                                    · exact Nat.lt_succ_of_lt (hx.bd i b hb)
                                  · simp [Rx.newRow, lk_cons]
                              · rw [e1] at hvl
                                rcases hvl with ⟨h0, rfl, _⟩ | rfl
                                · omega
                                · have hown : ownRow x.s i = some (l', e', sz + 1 + 2) := by simp [ownRow, e2]
                                  have hcc : Nat.blt (capBase + off) capBase = false := blt_not (by omega)
                                  have hcd : capD (capBase + off) = off := by simp [capD]
                                  have hseg : seg l' (off * (sz + 1)) (n * (sz + 1)) = some ((l'.drop (off * (sz + 1))).take (n * (sz + 1))) := seg_of (by rw [← e3.2]; exact q1)
                                  have hoff : Nat.beq (off * (sz + 1)) (off * (sz + 1)) = true := by simp
                                  cases k with
                                  | zero =>
                                    have : new = [] := List.eq_nil_of_length_eq_zero (by rw [hlen]; simp)
                                    subst this
                                    rw [hr.nil_inv] at hc
                                    have h0 : off = 0 ∧ n * (sz + 1) = l.length := by omega
                                    obtain ⟨rfl, hfull⟩ := h0
                                    have hp : (l.drop (0 * (sz + 1))).take (n * (sz + 1)) ++ [] = l := by simp [hfull]
                                    rw [hp]
                                    refine ⟨.slice (some ⟨i, 0 * (sz + 1), none⟩) n (capBase + 0), ⟨setρ x.ρ K (some i), ⟨ug x.σ.h K (.vec l e' (sz + 1) (st' + 1)), x.σ.nx⟩, x.s⟩, ?_, by simp, rel_vec hx hg rfl (.inr rfl), step_vec hx hg (some i) x.s (fun i b hb _ => hb) (fun j hj => .inl (by cases hj; exact e1)) hx.bd k1 (fun y _ hm => .inr ⟨i, l', rfl, e2, hm.ke.E e3.bel e3⟩)⟩
                                    simp only [appendX, isW, flatW, cond_false, appendX0, hd, hd2, hi, hc, allOne, cond_true, hcc, cond_false, hown, Nat.beq_refl, hcd, hseg]
                                  | succ k =>
                                    have hpr : RelE x ((l.drop (off * (sz + 1))).take (n * (sz + 1)) ++ new) ((l'.drop (off * (sz + 1))).take (n * (sz + 1)) ++ vs) := ((e3.drop _).take _).append hr
                                    have hpk := okL_append (okL_take (okL_drop k1 (off * (sz + 1))) (n * (sz + 1))) hk
                                    refine ⟨.slice (some ⟨x.s.nx, 0, none⟩) (n + (k + 1)) capBase, ⟨setρ x.ρ K (some x.s.nx), ⟨ug x.σ.h K (.vec ((l.drop (off * (sz + 1))).take (n * (sz + 1)) ++ new) e' (sz + 1) (st' + 1)), x.σ.nx⟩, ⟨(x.s.nx, .inl ((l'.drop (off * (sz + 1))).take (n * (sz + 1)) ++ vs, e', sz + 1 + 2)) :: rm x.s.h i, x.s.nx + 1⟩⟩, ?_, rfl, rel_vec hx hg rfl (.inr (by simp)), step_vec hx hg (some x.s.nx) _ (fun j b hb hne => ?_) (fun i hi => .inr (by cases hi; exact Nat.le_refl _)) (fun j b hb => ?_) hpk (fun y hy hm => .inr ⟨x.s.nx, _, rfl, ?_, hm.ke.E hpr.bel hpr⟩)⟩
                                    · simp only [appendX, isW, flatW, cond_false, appendX0, hd, hd2, hi, hc, allOne_of hr hk, cond_true, growX, hcc, cond_false, hown, Nat.beq_refl, hcd, hseg, hz, roomX_of r1 r2]
                                    · have := hx.bd j b hb
                                      have hij : i ≠ j := fun h => hne (by rw [e1, h])
                                      simp [lk_cons, lk_rm, show x.s.nx ≠ j by omega, hij, hb]
                                    · simp only [lk_cons, lk_rm] at hb ⊢
                                      split at hb
                                      · omega
                                      · split at hb
                                        · cases hb
                                        · exact Nat.lt_succ_of_lt (hx.bd j b hb)
                                    · simp [lk_cons]
                            · cases h
                        · simp [hst, he, hsz] at h
                      · simp [hst, he] at h
                    · simp [hst] at h
                  | _ => simp [hg] at h
              | _ => simp at h
    | _ => simp [hd, hd2] at h
  | _ => simp [hd] at h
end
end Go.Vx
