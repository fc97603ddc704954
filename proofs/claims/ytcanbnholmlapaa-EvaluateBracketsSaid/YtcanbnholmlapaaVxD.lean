/-
  VxD: the operations that leave the heap as it is, one by one.
-/
import Derived.Test.YtcanbnholmlapaaVxC
namespace Go.Vx
open Go Go.Rx
set_option linter.unusedVariables false

theorem takeX_of {l : List Value} {n : Nat} (h : n ≤ l.length) : takeX l n = some (l.take n) := by
  induction l generalizing n with
  | nil => simp at h; subst h; simp [takeX]
  | cons a l ih => cases n with
    | zero => simp [takeX]
    | succ n => simp [takeX, ih (by simpa using h)]
theorem seg_of {l : List Value} {off n : Nat} (h : off + n ≤ l.length) : seg l off n = some ((l.drop off).take n) := takeX_of (by simp; omega)
theorem put0_of {l vs : List Value} (h : vs.length ≤ l.length) : put0 l vs = some (vs ++ l.drop vs.length) := by
  induction vs generalizing l with
  | nil => simp [put0]
  | cons v vs ih => cases l with
    | nil => simp at h
    | cons a l => simp [put0, ih (by simpa using h)]
theorem putX_of {l : List Value} {off : Nat} {vs : List Value} (h : off + vs.length ≤ l.length) : putX l off vs = some (l.take off ++ (vs ++ l.drop (off + vs.length))) := by
  induction l generalizing off with
  | nil =>
    simp at h
    obtain ⟨rfl, rfl⟩ := h
    simp [putX, put0]
  | cons a l ih => cases off with
    | zero => simp only [putX, Nat.zero_add] at *; rw [put0_of h]; simp
    | succ off => simp [putX, ih (off := off) (by simp at h; omega), Nat.succ_add]
theorem okL_take {l : List U} (h : okL l = true) (n : Nat) : okL (l.take n) = true := (okL_iff _).2 fun u hu => (okL_iff l).1 h u (List.mem_of_mem_take hu)
theorem okL_drop {l : List U} (h : okL l = true) (n : Nat) : okL (l.drop n) = true := (okL_iff _).2 fun u hu => (okL_iff l).1 h u (List.mem_of_mem_drop hu)
theorem okL_append {a b : List U} (h : okL a = true) (h' : okL b = true) : okL (a ++ b) = true := (okL_iff _).2 fun u hu => (List.mem_append.1 hu).elim ((okL_iff a).1 h u) ((okL_iff b).1 h' u)
theorem segU_some {l : List U} {off n : Nat} {r : List U} (h : segU l off n = some r) : off + n ≤ l.length ∧ r = (l.drop off).take n := by
  unfold segU at h; split at h
  · simp at h; exact ⟨by assumption, h.symm⟩
  · cases h
theorem putU_some {l : List U} {off : Nat} {vs r : List U} (h : putU l off vs = some r) : off + vs.length ≤ l.length ∧ r = l.take off ++ (vs ++ l.drop (off + vs.length)) := by
  unfold putU at h; split at h
  · simp at h; exact ⟨by assumption, h.symm⟩
  · cases h
theorem putU_ok {x : Cx} {l : List U} {off : Nat} {vs r : List U} {lv vv : List Value} (h : putU l off vs = some r) (hl : RelE x l lv) (hv : RelE x vs vv) : ∃ rv, putX lv off vv = some rv ∧ RelE x r rv ∧ (okL l = true → okL vs = true → okL r = true) := by
  obtain ⟨h1, rfl⟩ := putU_some h
  refine ⟨_, putX_of (by rw [← hl.2, ← hv.2]; exact h1), ?_, fun a b => okL_append (okL_take a _) (okL_append b (okL_drop a _))⟩
  rw [← hv.2]
  exact (hl.take _).append (hv.append (hl.drop _))
theorem segU_ok {x : Cx} {l : List U} {off n : Nat} {r : List U} {lv : List Value} (h : segU l off n = some r) (hl : RelE x l lv) : seg lv off n = some ((lv.drop off).take n) ∧ RelE x r ((lv.drop off).take n) := by
  obtain ⟨h1, rfl⟩ := segU_some h
  exact ⟨seg_of (by rw [← hl.2]; exact h1), (hl.drop _).take _⟩
theorem fill_sim {x : Cx} {place : Nat → Option (Nat × Nat)} : ∀ {ps : List (Nat × U)} {pv : List (Nat × Value)} {cells r : List U} {cv : List Value}, RelPs x ps pv → RelE x cells cv → fillU place cells ps = some r → ∃ rv, fillX place cv pv = some rv ∧ RelE x r rv
  | _, _, cells, r, cv, .nil, hc, h => by simp only [fillU, Option.some.injEq] at h; subst h; exact ⟨cv, rfl, hc⟩
  | _, _, cells, r, cv, .cons (i := i) (u := u) (v := v) (l := l) (m := m) hu hp, hc, h => by
    simp only [fillU] at h
    cases h1 : place i with
    | none => simp [h1] at h
    | some q =>
      obtain ⟨off, size⟩ := q
      simp only [h1] at h
      cases h2 : cellsO u with
      | none => simp [h2] at h
      | some cs =>
        simp only [h2] at h
        obtain ⟨c1, c2⟩ := cellsO_ok hu h2
        cases h3 : Nat.beq cs.length size with
        | false => simp [h3] at h
        | true =>
          simp only [h3, cond_true] at h
          cases h4 : putU cells off cs with
          | none => simp [h4] at h
          | some c =>
            simp only [h4] at h
            obtain ⟨rv, q1, q2, _⟩ := putU_ok h4 hc c1
            obtain ⟨rv', q3, q4⟩ := fill_sim hp q2 h
            exact ⟨rv', by simp only [fillX, h1]; rw [← c1.2, h3]; simp only [cond_true, q1, q3], q4⟩
theorem part_sim {T : Tb} {x : Cx} {t : TypeId} {cs : List U} {off : Nat} {u : U} {vs : List Value} (h : partU T t cs off = some u) (hc : RelE x cs vs) (hk : okL cs = true) : ∃ v, partX T t vs off = some v ∧ Rel x u v := by
  unfold partU at h
  unfold partX
  cases hd : T.und t with
  | none => simp [hd] at h
  | some d =>
    simp only [hd] at h ⊢
    cases ha : isAggD d with
    | true =>
      simp only [ha, cond_true] at h ⊢
      cases hs : sizeX T t with
      | none => simp [hs] at h
      | some n =>
        simp only [hs, Option.some.injEq] at h ⊢
        subst h
        refine ⟨_, rfl, ?_⟩
        simp only [Rel]
        exact ⟨_, rfl, ((hc.drop off).take n).1, ((hc.drop off).take n).2, okL_take (okL_drop hk _) _⟩
    | false =>
      simp only [ha, cond_false, nth_eq] at h ⊢
      exact hc.get h
theorem build_sim {T : Tb} {x : Cx} {t : TypeId} {ps : List (Nat × U)} {pv : List (Nat × Value)} {u : U} (h : buildU T t ps = some u) (hp : RelPs x ps pv) : ∃ v, buildX T t pv = some v ∧ Rel x u v := by
  unfold buildU at h
  unfold buildX
  cases hi : T.inf t with
  | none => simp [hi] at h
  | some q =>
    obtain ⟨a, b, z⟩ := q
    simp only [hi] at h ⊢
    cases hz : ofVL z.cells.toList with
    | none => simp [hz] at h
    | some zu =>
      simp only [hz] at h
      have hzr := (ofVL_ok _ _ hz).2 x
      cases hd : T.und t with
      | none => simp [hd] at h
      | some d =>
        cases d with
        | struct fs =>
          simp only [hd] at h ⊢
          cases hs : sizesX T fs.toList with
          | false => simp [hs] at h
          | true =>
            simp only [hs, cond_true] at h ⊢
            cases hf : fillU (fieldPl T fs.toList) zu ps with
            | none => simp [hf] at h
            | some cs =>
              simp only [hf] at h
              cases hk : okL cs with
              | false => simp [hk] at h
              | true =>
                simp only [hk, cond_true, Option.some.injEq] at h
                subst h
                obtain ⟨rv, q1, q2⟩ := fill_sim hp hzr hf
                exact ⟨.agg rv.toArray, by simp [q1], by simp only [Rel]; exact ⟨rv, rfl, q2.1, q2.2, hk⟩⟩
        | array n e =>
          simp only [hd] at h ⊢
          cases hs : sizeX T e with
          | none => simp [hs] at h
          | some sz =>
            simp only [hs] at h ⊢
            cases hf : fillU (fun i => some (i * sz, sz)) zu ps with
            | none => simp [hf] at h
            | some cs =>
              simp only [hf] at h
              cases hk : okL cs with
              | false => simp [hk] at h
              | true =>
                simp only [hk, cond_true, Option.some.injEq] at h
                subst h
                obtain ⟨rv, q1, q2⟩ := fill_sim hp hzr hf
                exact ⟨.agg rv.toArray, by simp [q1], by simp only [Rel]; exact ⟨rv, rfl, q2.1, q2.2, hk⟩⟩
        | _ => simp [hd] at h

theorem live_some {σ : Sg} {k st : Nat} (h : live σ k st = true) : ∃ b, gt σ.h k = some b ∧ b.st = st := by
  unfold live at h
  cases hb : gt σ.h k with
  | none => simp [hb] at h
  | some b => simp only [hb, beq_eq, decide_eq_true_eq] at h; exact ⟨b, rfl, h⟩
theorem live_ptr {x : Cx} {k st off : Nat} {v : Value} (hl : live x.σ k st = true) (hr : Rel x (.ptr k st off) v) : ∃ i, x.ρ k = some i ∧ v = .pointer (some ⟨i, off, none⟩) := by
  obtain ⟨b, h1, h2⟩ := live_some hl
  simp only [Rel] at hr
  exact ((hr.2.2 b h1).2 h2.symm)
theorem live_sl {x : Cx} {k off n c : Nat} {v : Value} (hl : live x.σ k 0 = true) (hr : Rel x (.sl k off n c) v) : ∃ i, x.ρ k = some i ∧ v = .slice (some ⟨i, off, none⟩) n c ∧ c < capBase ∧ n ≤ c := by
  obtain ⟨b, h1, h2⟩ := live_some hl
  simp only [Rel] at hr
  exact ((hr.2.2 b h1).2 h2.symm)
theorem live_map {x : Cx} {k : Nat} {v : Value} (hl : live x.σ k 0 = true) (hr : Rel x (.map k) v) : ∃ i, x.ρ k = some i ∧ v = .map (some i) := by
  obtain ⟨b, h1, h2⟩ := live_some hl
  simp only [Rel] at hr
  exact ((hr.2.2 b h1).2 h2.symm)
theorem live_vl {x : Cx} {k st off n : Nat} {v : Value} (hl : live x.σ k st = true) (hr : Rel x (.vl k st off n) v) : ∃ l e sz, gt x.σ.h k = some (.vec l e sz st) ∧ VlOk off n v sz (x.ρ k) := by
  obtain ⟨b, h1, h2⟩ := live_some hl
  simp only [Rel] at hr
  obtain ⟨l, e, sz, rfl, h3⟩ := (hr.2.2 b h1).2 h2.symm
  exact ⟨l, e, sz, h1, h3⟩
theorem vecOf_some {σ : Sg} {k st : Nat} {r : List U × TypeId × Nat} (h : vecOf σ k st = some r) : gt σ.h k = some (.vec r.1 r.2.1 r.2.2 st) ∧ live σ k st = true := by
  unfold vecOf at h
  cases hb : gt σ.h k with
  | none => simp [hb] at h
  | some b =>
    cases b with
    | vec l e sz st' =>
      simp only [hb, beq_eq] at h
      by_cases hst : st' = st
      · subst hst; simp at h; subst h; exact ⟨rfl, by simp [live, hb, B.st]⟩
      · simp [hst] at h
    | _ => simp [hb] at h
theorem rowOf_some {σ : Sg} {k : Nat} {l : List U} (h : rowOf σ k = some l) : ∃ e, gt σ.h k = some (.row l e) ∧ live σ k 0 = true := by
  unfold rowOf at h
  cases hb : gt σ.h k with
  | none => simp [hb] at h
  | some b =>
    cases b with
    | row l' e => simp [hb] at h; subst h; exact ⟨e, rfl, by simp [live, hb, B.st]⟩
    | _ => simp [hb] at h
theorem vl_len {off n sz : Nat} {v : Value} {o : Option Nat} (h : VlOk off n v sz o) : ∃ a c, v = .slice a n c := by
  cases o with
  | none => obtain ⟨_, rfl, o, rfl, _⟩ := h; exact ⟨o, 0, rfl⟩
  | some i => rcases h with ⟨_, rfl, a, c, rfl, _⟩ | rfl <;> exact ⟨_, _, rfl⟩
theorem vl_there {x : Cx} (hx : HRel x) {k st off n : Nat} {v : Value} (hl : live x.σ k st = true) (hr : Rel x (.vl k st off n) v) (hn : 0 < n) :
    ∃ i l e sz l', gt x.σ.h k = some (.vec l e sz st) ∧ x.ρ k = some i ∧ v = .slice (some ⟨i, off * sz, none⟩) n (capBase + off) ∧ lk x.s.h i = some (.inl (l', e, sz + 2)) ∧ RelE x l l' ∧ 0 < sz ∧ okL l = true := by
  obtain ⟨l, e, sz, h1, h2⟩ := live_vl hl hr
  obtain ⟨_, k1, k2, h3⟩ := hx.ok k _ h1
  rcases h3 with ⟨_, h3⟩ | ⟨i, l', e1, e2, e3⟩
  · rw [h3] at h2; obtain ⟨_, rfl, _⟩ := h2; omega
  · rw [e1] at h2
    rcases h2 with ⟨_, rfl, _⟩ | h2
    · omega
    · exact ⟨i, l, e, sz, l', h1, e1, h2, e2, e3, k2, k1⟩

theorem there_ok {x : Cx} (hx : HRel x) {u : U} {v : Value} {k : Nat} (hr : Rel x u v) (h : there x.σ u = k) (hk : k ≠ 0) :
    (k = 1 ∧ ∃ a, v = .pointer (some a)) ∨ (k = 2 ∧ ∃ a n c, v = .slice (some a) n c) ∨ (k = 3 ∧ ∃ r, v = .map (some r)) := by
  cases u with
  | ptr k' st off =>
    simp only [there] at h
    cases hl : live x.σ k' st with
    | false => simp [hl] at h; omega
    | true => simp [hl] at h; obtain ⟨i, _, rfl⟩ := live_ptr hl hr; exact .inl ⟨h.symm, _, rfl⟩
  | iptr l => simp only [there] at h; simp only [Rel] at hr; obtain ⟨i, off, _, _, rfl, _⟩ := hr; exact .inl ⟨h.symm, _, rfl⟩
  | sl k' off n c =>
    simp only [there] at h
    cases hl : live x.σ k' 0 with
    | false => simp [hl] at h; omega
    | true => simp [hl] at h; obtain ⟨i, _, rfl, _⟩ := live_sl hl hr; exact .inr (.inl ⟨h.symm, _, _, _, rfl⟩)
  | vl k' st off n =>
    cases n with
    | zero => simp [there] at h; omega
    | succ n =>
      simp only [there] at h
      cases hl : live x.σ k' st with
      | false => simp [hl] at h; omega
      | true =>
        simp [hl] at h
        obtain ⟨i, l, e, sz, l', _, _, rfl, _⟩ := vl_there hx hl hr (Nat.succ_pos _)
        exact .inr (.inl ⟨h.symm, _, _, _, rfl⟩)
  | isl t l =>
    cases l with
    | nil => simp [there] at h; omega
    | cons c l =>
      simp only [there] at h
      simp only [Rel] at hr
      rcases hr with ⟨hr, _⟩ | ⟨i, off, c', rfl, _⟩
      · cases hr
      · exact .inr (.inl ⟨h.symm, _, _, _, rfl⟩)
  | map k' =>
    simp only [there] at h
    cases hl : live x.σ k' 0 with
    | false => simp [hl] at h; omega
    | true => simp [hl] at h; obtain ⟨i, _, rfl⟩ := live_map hl hr; exact .inr (.inr ⟨h.symm, _, rfl⟩)
  | _ => simp [there] at h; omega
theorem nilKind_ok {x : Cx} {u : U} {v : Value} {k : Nat} (hr : Rel x u v) (h : nilKind u = k) (hk : k ≠ 0) : (k = 1 ∧ v = .pointer none) ∨ (k = 2 ∧ v = .slice none 0 0) ∨ (k = 3 ∧ v = .map none) := by
  cases u with
  | nilp => simp only [nilKind] at h; simp only [Rel] at hr; exact .inl ⟨h.symm, hr⟩
  | nils => simp only [nilKind] at h; simp only [Rel] at hr; exact .inr (.inl ⟨h.symm, hr⟩)
  | nilm => simp only [nilKind] at h; simp only [Rel] at hr; exact .inr (.inr ⟨h.symm, hr⟩)
  | _ => simp [nilKind] at h; omega
theorem nilCmp_ok {T : Tb} {x : Cx} (hx : HRel x) {op : BinOp} {t : TypeId} {a b u : U} {va vb : Value} (h : nilCmp T x.σ op t a b = some u) (ha : Rel x a va) (hb : Rel x b vb) : ∃ v, binX T op t va vb = some v ∧ Rel x u v := by
  unfold nilCmp at h
  simp only [beq_eq] at h
  by_cases h0 : kindT T t = 0
  · simp [h0] at h
  · simp only [h0, decide_false, cond_false] at h
    have key : cmpB op = some u →
        (kindT T t = 1 ∧ ((∃ p, va = .pointer (some p)) ∧ vb = .pointer none ∨ va = .pointer none ∧ ∃ p, vb = .pointer (some p))) ∨
        (kindT T t = 2 ∧ ((∃ p n c, va = .slice (some p) n c) ∧ vb = .slice none 0 0 ∨ va = .slice none 0 0 ∧ ∃ p n c, vb = .slice (some p) n c)) ∨
        (kindT T t = 3 ∧ ((∃ p, va = .map (some p)) ∧ vb = .map none ∨ va = .map none ∧ ∃ p, vb = .map (some p))) → ∃ v, binX T op t va vb = some v ∧ Rel x u v := by
      intro hop hk
      have hund : ∀ {k : Nat}, kindT T t = k → k ≠ 0 → (k = 1 → ∃ e, T.und t = some (.pointer e)) ∧ (k = 2 → ∃ e, T.und t = some (.slice e)) ∧ (k = 3 → ∃ e e', T.und t = some (.map e e')) := by
        intro k hk hk0
        unfold kindT at hk
        cases hd : T.und t with
        | none => simp [hd] at hk; omega
        | some d => cases d <;> simp [hd] at hk <;> subst hk <;> simp at hk0 ⊢
      rcases hk with ⟨hk, hv⟩ | ⟨hk, hv⟩ | ⟨hk, hv⟩
      · obtain ⟨e, he⟩ := (hund hk (by omega)).1 rfl
        rcases hv with ⟨⟨p, rfl⟩, rfl⟩ | ⟨rfl, p, rfl⟩ <;> cases op <;> simp [cmpB] at hop <;> subst hop <;> simp [binX, guardX, eqv, he, Rel]
      · obtain ⟨e, he⟩ := (hund hk (by omega)).2.1 rfl
        rcases hv with ⟨⟨p, n, c, rfl⟩, rfl⟩ | ⟨rfl, p, n, c, rfl⟩ <;> cases op <;> simp [cmpB] at hop <;> subst hop <;> simp [binX, guardX, eqv, he, Rel]
      · obtain ⟨e, e', he⟩ := (hund hk (by omega)).2.2 rfl
        rcases hv with ⟨⟨p, rfl⟩, rfl⟩ | ⟨rfl, p, rfl⟩ <;> cases op <;> simp [cmpB] at hop <;> subst hop <;> simp [binX, guardX, eqv, he, Rel]
    by_cases h1 : there x.σ a = kindT T t
    · by_cases h2 : nilKind b = kindT T t
      · simp only [h1, h2, decide_true, cond_true] at h
        refine key h ?_
        rcases there_ok hx ha h1 h0 with ⟨e1, q⟩ | ⟨e1, q⟩ | ⟨e1, q⟩ <;> rcases nilKind_ok hb h2 h0 with ⟨e2, q'⟩ | ⟨e2, q'⟩ | ⟨e2, q'⟩ <;> first | omega | skip
        · exact .inl ⟨e1, .inl ⟨q, q'⟩⟩
        · exact .inr (.inl ⟨e1, .inl ⟨q, q'⟩⟩)
        · exact .inr (.inr ⟨e1, .inl ⟨q, q'⟩⟩)
      · simp [h1, h2] at h
    · simp only [h1, decide_false, cond_false] at h
      by_cases h2 : nilKind a = kindT T t
      · by_cases h3 : there x.σ b = kindT T t
        · simp only [h2, h3, decide_true, cond_true] at h
          refine key h ?_
          rcases there_ok hx hb h3 h0 with ⟨e1, q⟩ | ⟨e1, q⟩ | ⟨e1, q⟩ <;> rcases nilKind_ok ha h2 h0 with ⟨e2, q'⟩ | ⟨e2, q'⟩ | ⟨e2, q'⟩ <;> first | omega | skip
          · exact .inl ⟨e1, .inr ⟨q', q⟩⟩
          · exact .inr (.inl ⟨e1, .inr ⟨q', q⟩⟩)
          · exact .inr (.inr ⟨e1, .inr ⟨q', q⟩⟩)
        · simp [h2, h3] at h
      · simp [h2] at h
theorem bin_sim {T : Tb} {x : Cx} (hx : HRel x) {op : BinOp} {t : TypeId} {a b u : U} {va vb : Value} (h : binU T x.σ op t a b = some u) (ha : Rel x a va) (hb : Rel x b vb) : ∃ v, binX T op t va vb = some v ∧ Rel x u v := by
  unfold binU at h
  cases h1 : g2 (binX T op t) a b with
  | some r => simp only [h1, Option.some.injEq] at h; subst h; exact g2_ok h1 ha hb
  | none => simp only [h1] at h; exact nilCmp_ok hx h ha hb
end Go.Vx
