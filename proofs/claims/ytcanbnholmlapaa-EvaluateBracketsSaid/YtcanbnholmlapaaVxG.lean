/-
  VxG: the operations that act on the call's own heap.
-/
import Derived.Test.YtcanbnholmlapaaVxF
namespace Go.Vx
open Go Go.Rx
set_option linter.unusedVariables false

theorem BOk.mono {x y : Cx} {k : Nat} {b : B} (h : BOk x k b) (hm : Mo x.σ.nx x y) (hρ : y.ρ k = x.ρ k) (hl : ∀ i c, x.ρ k = some i → lk x.s.h i = some c → lk y.s.h i = some c) : BOk y k b := by
  have relm : ∀ {es : List ME} {es' : List MapEntry}, RelM x es es' → RelM y es es' := fun {es es'} e3 => ⟨e3.1, fun j e he => by
    obtain ⟨v, q1, q2, q3, q4⟩ := e3.2 j e he
    exact ⟨v, q1, hm.ke _ _ (Rel.bel _ _ q2) q2, hm.ke _ _ (Rel.bel _ _ q3) q3, q4⟩⟩
  cases b with
  | row l e => obtain ⟨k1, i, l', e1, e2, e3⟩ := h; exact ⟨k1, i, l', by rw [hρ, e1], hl _ _ e1 e2, hm.ke.E e3.bel e3⟩
  | vec l e sz st =>
    obtain ⟨k1, k2, h3⟩ := h
    refine ⟨k1, k2, ?_⟩
    rcases h3 with ⟨h3, h4⟩ | ⟨i, l', e1, e2, e3⟩
    · exact .inl ⟨h3, by rw [hρ, h4]⟩
    · exact .inr ⟨i, l', by rw [hρ, e1], hl _ _ e1 e2, hm.ke.E e3.bel e3⟩
  | map es cl => obtain ⟨i, es', e1, e2, e3⟩ := h; exact ⟨i, es', by rw [hρ, e1], hl _ _ e1 e2, relm e3⟩
/-- no block of the heap's own is read alone -/
theorem BOk.not1 {x : Cx} {k i : Nat} {b : B} (h : BOk x k b) (hi : x.ρ k = some i) {row : List Value} {e : TypeId} : lk x.s.h i ≠ some (.inl (row, e, 1)) := by
  intro hl
  cases b with
  | row l e' => obtain ⟨_, i', l', e1, e2, _⟩ := h; rw [hi] at e1; cases e1; rw [hl] at e2; cases e2
  | vec l e' sz st =>
    obtain ⟨_, _, h3⟩ := h
    rcases h3 with ⟨_, h4⟩ | ⟨i', l', e1, e2, _⟩
    · rw [hi] at h4; cases h4
    · rw [hi] at e1; cases e1; rw [hl] at e2; cases e2
  | map es cl => obtain ⟨i', es', e1, e2, _⟩ := h; rw [hi] at e1; cases e1; rw [hl] at e2; cases e2

/-- ONE BLOCK IS NEW, OR TURNS -/
theorem step1 {x y : Cx} (hx : HRel x) (K : Nat) (bK : B) (hn : x.σ.nx ≤ y.σ.nx) (hK : K < y.σ.nx) (hother : ∀ k, k ≠ K → gt y.σ.h k = gt x.σ.h k ∧ y.ρ k = x.ρ k) (hnew : gt y.σ.h K = some bK)
    (hold : (∃ b0, gt x.σ.h K = some b0 ∧ b0.st ≤ bK.st ∧ (b0.st = bK.st → y.ρ K = x.ρ K ∧ ∀ l e sz st, b0 = .vec l e sz st → ∃ l', bK = .vec l' e sz st)) ∨ (gt x.σ.h K = none ∧ x.σ.nx ≤ K))
    (hrows : ∀ i b, lk x.s.h i = some b → (∀ c, gt x.σ.h K = some c → x.ρ K ≠ some i) → lk y.s.h i = some b)
    (hfresh : ∀ i, y.ρ K = some i → (∃ c, gt x.σ.h K = some c ∧ x.ρ K = some i) ∨ x.s.nx ≤ i) (hbd : ∀ i b, lk y.s.h i = some b → i < y.s.nx) (hB : Mo x.σ.nx x y → BOk y K bK) : Out x y := by
  have hmo : Mo x.σ.nx x y := by
    refine ⟨fun k hk _ => ⟨by omega, fun b' hb' => ?_⟩, fun i row e hl => hrows i _ hl fun c hc he => (hx.ok K c hc).2.not1 he hl⟩
    by_cases e : k = K
    · subst e
      rw [hnew] at hb'; cases hb'
      rcases hold with ⟨b0, h1, h2, h3⟩ | ⟨_, h2⟩
      · exact ⟨b0, h1, h2, h3⟩
      · omega
    · obtain ⟨h1, h2⟩ := hother k e
      exact ⟨b', by rw [← h1, hb'], Nat.le_refl _, fun _ => ⟨h2, fun l e sz st h => ⟨l, h⟩⟩⟩
  have hne : ∀ k b i c, k ≠ K → gt x.σ.h k = some b → x.ρ k = some i → gt x.σ.h K = some c → x.ρ K ≠ some i := fun k b i c hk hb hi hc he => hk (hx.inj k K b c i hb hc hi he)
  refine ⟨⟨fun k b hb => ?_, fun k k' b b' i hb hb' hi hi' => ?_, hbd⟩, hmo, fun F hF i b hb => ?_⟩
  · by_cases e : k = K
    · subst e; rw [hnew] at hb; cases hb; exact ⟨hK, hB hmo⟩
    · obtain ⟨h1, h2⟩ := hother k e
      rw [h1] at hb
      obtain ⟨h3, h4⟩ := hx.ok k b hb
      exact ⟨by omega, h4.mono hmo h2 fun i c hi hl => hrows i c hl fun d hd => hne k b i d e hb hi hd⟩
  · have own : ∀ k b i, k ≠ K → gt y.σ.h k = some b → y.ρ k = some i → gt x.σ.h k = some b ∧ x.ρ k = some i ∧ i < x.s.nx := fun k b i e hb hi => by
      obtain ⟨h1, h2⟩ := hother k e
      rw [h1] at hb
      rw [h2] at hi
      refine ⟨hb, hi, ?_⟩
      have := (hx.ok k b hb).2
      cases b with
      | row l e => obtain ⟨_, i', l', e1, e2, _⟩ := this; rw [hi] at e1; cases e1; exact hx.bd _ _ e2
      | vec l e' sz st =>
        obtain ⟨_, _, h3⟩ := this
        rcases h3 with ⟨_, h4⟩ | ⟨i', l', e1, e2, _⟩
        · rw [hi] at h4; cases h4
        · rw [hi] at e1; cases e1; exact hx.bd _ _ e2
      | map es cl => obtain ⟨i', es', e1, e2, _⟩ := this; rw [hi] at e1; cases e1; exact hx.bd _ _ e2
    by_cases e : k = K
    · by_cases e' : k' = K
      · rw [e, e']
      · exfalso
        subst e
        obtain ⟨q1, q2, q3⟩ := own k' b' i e' hb' hi'
        rcases hfresh i hi with ⟨c, hc, hc'⟩ | hge
        · exact e' (hx.inj k' k b' c i q1 hc q2 hc')
        · omega
    · by_cases e' : k' = K
      · exfalso
        subst e'
        obtain ⟨q1, q2, q3⟩ := own k b i e hb hi
        rcases hfresh i hi' with ⟨c, hc, hc'⟩ | hge
        · exact e (hx.inj k k' b c i q1 hc q2 hc')
        · omega
      · obtain ⟨q1, q2, _⟩ := own k b i e hb hi
        obtain ⟨q3, q4, _⟩ := own k' b' i e' hb' hi'
        exact hx.inj k k' b b' i q1 q3 q2 q4
  · obtain ⟨h1, h2⟩ := hF i b hb
    refine ⟨hrows i b h1 fun c hc => h2 K c hc, fun k c hc hi => ?_⟩
    by_cases e : k = K
    · subst e
      rcases hfresh i hi with ⟨d, hd, hd'⟩ | hge
      · exact h2 k d hd hd'
      · have := hx.bd i b h1; omega
    · obtain ⟨q1, q2⟩ := hother k e
      rw [q1] at hc; rw [q2] at hi
      exact h2 k c hc hi

def setρ (ρ : Nat → Option Nat) (k : Nat) (o : Option Nat) : Nat → Option Nat := fun j => if j = k then o else ρ j
theorem setρ_self (ρ : Nat → Option Nat) (k : Nat) (o : Option Nat) : setρ ρ k o k = o := by simp [setρ]
theorem setρ_ne (ρ : Nat → Option Nat) {k j : Nat} (o : Option Nat) (h : j ≠ k) : setρ ρ k o j = ρ j := by simp [setρ, h]
theorem gt_nx {x : Cx} (hx : HRel x) : gt x.σ.h x.σ.nx = none := by
  cases h : gt x.σ.h x.σ.nx with
  | none => rfl
  | some b => have := (hx.ok _ b h).1; omega
/-- A NEW BLOCK -/
theorem step_new {x : Cx} (hx : HRel x) (b : B) (c : Blk) (hB : ∀ y : Cx, y.ρ x.σ.nx = some x.s.nx → lk y.s.h x.s.nx = some c → Mo x.σ.nx x y → BOk y x.σ.nx b) :
    Out x ⟨setρ x.ρ x.σ.nx (some x.s.nx), newU x.σ b, ⟨(x.s.nx, c) :: x.s.h, x.s.nx + 1⟩⟩ := by
  refine step1 hx x.σ.nx b (by simp [newU]) (by simp [newU]) (fun k hk => ⟨by simp [newU, gt_cons, Ne.symm hk], setρ_ne _ _ hk⟩) (by simp [newU, gt_cons]) (.inr ⟨gt_nx hx, Nat.le_refl _⟩) (fun i d hd _ => ?_) (fun i hi => ?_) (fun i d hd => ?_) (fun hm => ?_)
  · have := hx.bd i d hd
    simp [lk_cons, show x.s.nx ≠ i by omega, hd]
  · change setρ _ _ _ _ = some i at hi; rw [setρ_self] at hi; cases hi; exact .inr (Nat.le_refl _)
  · simp only [lk_cons] at hd
    split at hd
    · show i < x.s.nx + 1; omega
    · exact Nat.lt_succ_of_lt (hx.bd i d hd)
  · exact hB _ (by simp [setρ]) (by simp [lk_cons]) hm
/-- A NEW BLOCK WITH NOTHING BEHIND IT -/
theorem step_none {x : Cx} (hx : HRel x) (e : TypeId) (sz : Nat) (hsz : 0 < sz) : Out x ⟨setρ x.ρ x.σ.nx none, newU x.σ (.vec [] e sz 0), x.s⟩ := by
  refine step1 hx x.σ.nx (.vec [] e sz 0) (by simp [newU]) (by simp [newU]) (fun k hk => ⟨by simp [newU, gt_cons, Ne.symm hk], setρ_ne _ _ hk⟩) (by simp [newU, gt_cons]) (.inr ⟨gt_nx hx, Nat.le_refl _⟩) (fun i d hd _ => hd) (fun i hi => ?_) hx.bd (fun hm => ?_)
  · change setρ _ _ _ _ = some i at hi; rw [setρ_self] at hi; cases hi
  · exact ⟨rfl, hsz, .inl ⟨rfl, by simp [setρ]⟩⟩
theorem ref_new {x : Cx} {b : B} {c : Blk} {st : Nat} (hst : b.st = st) {p : Option Nat → Prop} (hp : p (some x.s.nx)) : Ref ⟨setρ x.ρ x.σ.nx (some x.s.nx), newU x.σ b, ⟨(x.s.nx, c) :: x.s.h, x.s.nx + 1⟩⟩ x.σ.nx st p := by
  refine ⟨by simp [newU], fun b' hb' => ?_⟩
  simp only [newU, gt_cons, if_true, Option.some.injEq] at hb'
  subst hb'
  exact ⟨Nat.le_of_eq hst.symm, fun _ => by simpa [setρ] using hp⟩
/-- A BLOCK TURNS, ITS STAMP AND ITS PLACE DO NOT -/
theorem step_put {x : Cx} (hx : HRel x) {K i : Nat} {b0 bK : B} {c : Blk} (h0 : gt x.σ.h K = some b0) (hi : x.ρ K = some i) {c0 : Blk} (hc0 : lk x.s.h i = some c0) (hst : b0.st = bK.st) (hv : ∀ l e sz st, b0 = .vec l e sz st → ∃ l', bK = .vec l' e sz st)
    (hB : ∀ y : Cx, y.ρ K = some i → lk y.s.h i = some c → Mo x.σ.nx x y → BOk y K bK) : Out x ⟨x.ρ, ⟨ug x.σ.h K bK, x.σ.nx⟩, ⟨up x.s.h i c, x.s.nx⟩⟩ := by
  refine step1 hx K bK (Nat.le_refl _) (hx.ok K _ h0).1 (fun k hk => ⟨by simp [gt_ug, Ne.symm hk], rfl⟩) (by simp [gt_ug, h0]) (.inl ⟨b0, h0, Nat.le_of_eq hst, fun _ => ⟨rfl, hv⟩⟩) (fun j d hd hne => ?_) (fun j hj => .inl ⟨b0, h0, hj⟩) (fun j d hd => ?_) (fun hm => ?_)
  · have : i ≠ j := fun e => hne b0 h0 (by rw [hi, e])
    simp [lk_up, this, hd]
  · simp only [lk_up] at hd
    split at hd
    · rename_i e; subst e; exact hx.bd i _ hc0
    · exact hx.bd j d hd
  · exact hB _ hi (by simp [lk_up, hc0]) hm

theorem zeros_sim {x : Cx} {zu : List U} {z : List Value} (h : RelE x zu z) (n : Nat) : RelE x (zerosU zu n) (zeros z n) := by
  induction n with
  | zero => exact RelE.nil x
  | succ n ih => simp only [zerosU, List.replicate_succ, List.flatten_cons, zeros]; exact h.append ih
theorem zeros_ok {zu : List U} (h : okL zu = true) (n : Nat) : okL (zerosU zu n) = true := by
  induction n with
  | zero => rfl
  | succ n ih => simp only [zerosU, List.replicate_succ, List.flatten_cons]; exact okL_append h ih

section
variable {T : Tb} {x : Cx} (hx : HRel x) {tm : List U} {tv : List Value} (ht : RelE x tm tv)
include hx
theorem newrow_sim {l : List U} {l' : List Value} (hl : RelE x l l') (hk : okL l = true) (e : TypeId) : Out x ⟨setρ x.ρ x.σ.nx (some x.s.nx), newU x.σ (.row l e), Rx.newRow x.s l' e 0⟩ :=
  step_new hx (.row l e) (.inl (l', e, 0)) fun y h1 h2 hm => ⟨hk, x.s.nx, l', h1, h2, hm.ke.E hl.bel hl⟩
theorem newvec_sim {l : List U} {l' : List Value} (hl : RelE x l l') (hk : okL l = true) (e : TypeId) {sz : Nat} (hsz : 0 < sz) : Out x ⟨setρ x.ρ x.σ.nx (some x.s.nx), newU x.σ (.vec l e sz 0), Rx.newRow x.s l' e (sz + 2)⟩ :=
  step_new hx (.vec l e sz 0) (.inl (l', e, sz + 2)) fun y h1 h2 hm => ⟨hk, hsz, .inr ⟨x.s.nx, l', h1, h2, hm.ke.E hl.bel hl⟩⟩
theorem store_sim {t : TypeId} {p u r : U} {pv uv : Value} {σ' : Sg} (h : storeU T x.σ t p u = some (r, σ')) (hp : Rel x p pv) (hu : Rel x u uv) :
    ∃ v y, storeX T x.s t pv uv = some (v, y.s) ∧ y.σ = σ' ∧ Rel y r v ∧ Out x y := by
  unfold storeU at h
  cases p with
  | ptr k st off =>
    simp only at h
    cases hs : sizeX T t with
    | none => simp [hs] at h
    | some n =>
      simp only [hs] at h
      cases hc : cellsO u with
      | none => simp [hc] at h
      | some cs =>
        simp only [hc] at h
        obtain ⟨c1, c2⟩ := cellsO_ok hu hc
        cases hlen : Nat.beq cs.length n with
        | false => simp [hlen] at h
        | true =>
          simp only [hlen, cond_true, c2] at h
          cases hrow : cellsOf x.σ k st with
          | none => simp [hrow] at h
          | some l =>
            simp only [hrow] at h
            obtain ⟨i, lv, e, md, q1, rfl, q2, q3, q4, q5, q6⟩ := cellsOf_some hx hrow hp
            cases hput : putU l off cs with
            | none => simp [hput] at h
            | some l1 =>
              simp only [hput] at h
              obtain ⟨rv, p1, p2, p3⟩ := putU_ok hput q4 c1
              have p4 := p3 q5 c2
              have hst : storeX T x.s t (.pointer (some ⟨i, off, none⟩)) uv = some (undef, ⟨up x.s.h i (.inl (rv, e, md)), x.s.nx⟩) := by
                have hown : ownRow x.s i = some (lv, e, md) := by
                  unfold ownRow
                  rcases q6 with ⟨rfl, _⟩ | ⟨sz, rfl, _⟩ <;> simp [q2]
                simp only [storeX, hs]
                rw [← c1.2, hlen]
                simp only [cond_true, allOne_of c1 c2, hown, p1]
              rcases q6 with ⟨rfl, hg⟩ | ⟨sz, rfl, hz, hg⟩
              · simp only [putOf, hg, Option.some.injEq, Prod.mk.injEq] at h
                obtain ⟨rfl, rfl⟩ := h
                exact ⟨undef, ⟨x.ρ, ⟨ug x.σ.h k (.row l1 e), x.σ.nx⟩, ⟨up x.s.h i (.inl (rv, e, 0)), x.s.nx⟩⟩, hst, rfl, by simp [Rel], step_put hx hg q1 q2 rfl (by simp) fun y h1 h2 hm => ⟨p4, i, rv, h1, h2, hm.ke.E p2.bel p2⟩⟩
              · simp only [putOf, hg, Option.some.injEq, Prod.mk.injEq] at h
                obtain ⟨rfl, rfl⟩ := h
                exact ⟨undef, ⟨x.ρ, ⟨ug x.σ.h k (.vec l1 e sz st), x.σ.nx⟩, ⟨up x.s.h i (.inl (rv, e, sz + 2)), x.s.nx⟩⟩, hst, rfl, by simp [Rel], step_put hx hg q1 q2 rfl (by rintro l e sz st h; cases h; exact ⟨_, rfl⟩) fun y h1 h2 hm => ⟨p4, hz, .inr ⟨i, rv, h1, h2, hm.ke.E p2.bel p2⟩⟩⟩
  | _ => simp at h
theorem makeList_sim {t : TypeId} {n : Nat} {ps : List (Nat × U)} {pv : List (Nat × Value)} {r : U} {σ' : Sg} (h : makeListU T x.σ t n ps = some (r, σ')) (hp : RelPs x ps pv) : ∃ v y, makeListX T x.s t n pv = some (v, y.s) ∧ y.σ = σ' ∧ Rel y r v ∧ Out x y := by
  unfold makeListU at h
  cases hd : T.und t with
  | none => simp [hd] at h
  | some d =>
  cases d with
  | slice e =>
    simp only [hd] at h
    cases hi : T.inf e with
    | none => simp [hi] at h
    | some q =>
      obtain ⟨sz, by_, z⟩ := q
      simp only [hi] at h
      cases h1 : Nat.ble (n * sz) 16777216 with
      | false => simp [h1] at h
      | true =>
        simp only [h1, cond_true] at h
        cases h2 : Nat.ble n 16777216 with
        | false => simp [h2] at h
        | true =>
          simp only [h2, cond_true] at h
          cases h3 : Nat.beq z.cells.toList.length sz with
          | false => simp only [h3, cond_false] at h; cases h
          | true =>
            simp only [h3, cond_true] at h
            cases h4 : ofVL z.cells.toList with
            | none => simp [h4] at h
            | some zu =>
              simp only [h4] at h
              have hzr := (ofVL_ok _ _ h4).2 x
              cases h5 : fillU (fun i => some (i * sz, sz)) (zerosU zu n) ps with
              | none => simp [h5] at h
              | some cs =>
                simp only [h5] at h
                cases h6 : okL cs with
                | false => simp [h6] at h
                | true =>
                  simp only [h6, cond_true, Option.some.injEq, Prod.mk.injEq] at h
                  obtain ⟨rfl, rfl⟩ := h
                  obtain ⟨rv, f1, f2⟩ := fill_sim hp (zeros_sim hzr n) h5
                  have hcap : n < capBase := by have := Nat.le_of_ble_eq_true h2; unfold capBase; omega
                  refine ⟨.slice (some ⟨x.s.nx, 0, none⟩) n n, _, ?_, rfl, ?_, newrow_sim hx f2 h6 e⟩
                  · simp only [makeListX, hd, hi, h1, h3, cond_true, f1, blt_of hcap]
                  · simp only [Rel]
                    exact ⟨rfl, ref_new rfl ⟨x.s.nx, rfl, rfl, hcap, Nat.le_refl _⟩⟩
  | _ => simp [hd] at h
theorem make_sim {t : TypeId} {a b r : U} {va vb : Value} {σ' : Sg} (h : makeU T x.σ t a b = some (r, σ')) (ha : Rel x a va) (hb : Rel x b vb) : ∃ v y, makeX T x.s t va vb = some (v, y.s) ∧ y.σ = σ' ∧ Rel y r v ∧ Out x y := by
  unfold makeU at h
  cases hd : T.und t with
  | none => simp [hd] at h
  | some d =>
  cases d with
  | slice e =>
    cases a with
    | int ka a =>
      cases b with
      | int kb b =>
        simp only [Rel] at ha hb
        subst ha; subst hb
        simp only [hd] at h
        cases hi : T.inf e with
        | none => simp [hi] at h
        | some q =>
          obtain ⟨sz, by_, z⟩ := q
          simp only [hi] at h
          cases h4 : ofVL z.cells.toList with
          | none => simp [h4] at h
          | some zu =>
            simp only [h4] at h
            have hzr := (ofVL_ok _ _ h4).2 x
            cases h6 : okL zu with
            | false => simp [h6] at h
            | true =>
              simp only [h6, cond_true] at h
              cases h3 : Nat.beq z.cells.toList.length sz with
              | false => simp only [h3, cond_false] at h; cases h
              | true =>
                simp only [h3, cond_true] at h
                split at h
                · rename_i hc
                  simp only [Option.some.injEq, Prod.mk.injEq] at h
                  obtain ⟨rfl, rfl⟩ := h
                  obtain ⟨c1, c2, c3, c4⟩ := hc
                  have hwa : IntKind.i64.wrap a = Int.ofNat a.toNat := by rw [wrap_i64 (by omega) (by omega)]; simp; omega
                  have hwb : IntKind.i64.wrap b = Int.ofNat b.toNat := by rw [wrap_i64 (by omega) (by omega)]; simp; omega
                  have hcap : b.toNat < capBase := by unfold capBase; omega
                  refine ⟨.slice (some ⟨x.s.nx, 0, none⟩) a.toNat b.toNat, _, ?_, rfl, ?_, newrow_sim hx (zeros_sim hzr b.toNat) (zeros_ok h6 _) e⟩
                  · simp only [makeX, hd, hi, hwa, hwb, h3, cond_true, blt_of hcap, Nat.ble_eq_true_of_le c3, Nat.ble_eq_true_of_le (show a.toNat ≤ b.toNat by omega)]
                  · simp only [Rel]
                    exact ⟨rfl, ref_new rfl ⟨x.s.nx, rfl, rfl, hcap, by omega⟩⟩
                · cases h
      | _ => simp [hd] at h
    | _ => simp [hd] at h
  | _ => simp [hd] at h
end
end Go.Vx
