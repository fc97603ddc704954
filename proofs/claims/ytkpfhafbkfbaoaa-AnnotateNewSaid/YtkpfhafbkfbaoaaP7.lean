/-
  Texts of the walk: VxK.
-/
import Derived.Test.YtkpfhafbkfbaoaaP6
section
namespace Go.Vx
open Go Go.Rx
set_option linter.unusedVariables false
theorem EvU.pure {P : Program} {f : FuncId} {args : List U} {R : U → Prop} (h : EvU P f args ⟨[], 0⟩ (fun u _ => R u ∧ Bel 0 u)) (ha : BelL 0 args) (σ : Sg) : EvU P f args σ (fun u σ' => R u ∧ σ' = σ) := fun F x vs m w cargs hx hh hfr he hfit hargs => by
  have h0 : HRel ⟨fun _ => none, ⟨[], 0⟩, x.s⟩ := ⟨fun k b hb => by simp [gt] at hb, fun k k' b b' i hb => by simp [gt] at hb, hh.bd⟩
  have hm0 : Mo 0 x ⟨fun _ => none, ⟨[], 0⟩, x.s⟩ := ⟨fun k hk => by omega, fun _ _ _ h => h⟩
  refine (h (fun i b => lk x.s.h i = some b) ⟨fun _ => none, ⟨[], 0⟩, x.s⟩ vs m w cargs rfl h0 (fun i b hb => ⟨hb, fun k c hc => by simp [gt] at hc⟩) (hm0.ke.E ha he) hfit hargs).mono ?_
  rintro e w₁ ⟨y, m₁, u, v, cv, rfl, ⟨hR, hcl⟩, hadv, hrel, hhy, hfry, hru, _, _⟩
  have hmo : Mo x.σ.nx x ⟨x.ρ, x.σ, y.s⟩ := ⟨fun k _ h2 => ⟨h2, fun b hb => ⟨b, hb, Nat.le_refl _, fun _ => ⟨rfl, fun l e sz st h => ⟨l, h⟩⟩⟩⟩, fun i row e hl => (hfry i _ hl).1⟩
  have hm1 : Mo 0 y ⟨x.ρ, x.σ, y.s⟩ := ⟨fun k hk => by omega, fun _ _ _ h => h⟩
  refine ⟨⟨x.ρ, x.σ, y.s⟩, m₁, u, v, cv, rfl, ⟨hR, hx⟩, hadv, hrel, ⟨fun k b hb => ?_, hh.inj, hhy.bd⟩, fun i b hb => ?_, hm1.ke u v hcl hru, hmo.ke, Nat.le_refl _⟩
  · obtain ⟨h1, h2⟩ := hh.ok k b hb
    exact ⟨h1, h2.mono hmo rfl fun i c _ hl => (hfry i c hl).1⟩
  · obtain ⟨h1, h2⟩ := hfr i b hb
    exact ⟨(hfry i b h1).1, h2⟩
def BelB (n : Nat) : B → Prop
  | .row l _ => BelL n l
  | .vec l _ _ _ => BelL n l
  | .map es _ => ∀ e ∈ es, Bel n e.key ∧ Bel n e.val
def BelH (n : Nat) : List (Nat × B) → Prop
  | [] => True
  | (_, b) :: h => BelB n b ∧ BelH n h
def cut (n : Nat) : List (Nat × B) → List (Nat × B)
  | [] => []
  | (k, b) :: h => cond (Nat.blt k n) ((k, b) :: cut n h) (cut n h)
theorem gt_cut (n : Nat) (h : List (Nat × B)) (k : Nat) : gt (cut n h) k = if k < n then gt h k else none := by
  induction h with
  | nil => simp [cut, gt]
  | cons p h ih =>
    obtain ⟨j, b⟩ := p
    simp only [cut]
    by_cases hj : j < n
    · rw [blt_of hj]
      simp only [cond_true, gt_cons, ih]
      by_cases hjk : j = k
      · subst hjk; simp [hj]
      · simp [hjk]
    · rw [blt_not hj]
      simp only [cond_false, gt_cons, ih]
      by_cases hjk : j = k
      · subst hjk; simp [hj]
      · simp [hjk]
theorem belH_get {n : Nat} {h : List (Nat × B)} (hb : BelH n h) {k : Nat} {b : B} (hg : gt h k = some b) : BelB n b := by
  induction h with
  | nil => simp [gt] at hg
  | cons p h ih =>
    obtain ⟨j, c⟩ := p
    simp only [BelH] at hb
    simp only [gt_cons] at hg
    split at hg
    · cases hg; exact hb.1
    · exact ih hb.2 hg
theorem BOk.monoB {n : Nat} {x y : Cx} {k : Nat} {b : B} (h : BOk x k b) (hb : BelB n b) (hm : Mo n x y) (hρ : y.ρ k = x.ρ k) (hl : ∀ i c, x.ρ k = some i → lk x.s.h i = some c → lk y.s.h i = some c) : BOk y k b := by
  cases b with
  | row l e => obtain ⟨k1, i, l', e1, e2, e3⟩ := h; exact ⟨k1, i, l', by rw [hρ, e1], hl _ _ e1 e2, hm.ke.E hb e3⟩
  | vec l e sz st =>
    obtain ⟨k1, k2, h3⟩ := h
    refine ⟨k1, k2, ?_⟩
    rcases h3 with ⟨h3, h4⟩ | ⟨i, l', e1, e2, e3⟩
    · exact .inl ⟨h3, by rw [hρ, h4]⟩
    · exact .inr ⟨i, l', by rw [hρ, e1], hl _ _ e1 e2, hm.ke.E hb e3⟩
  | map es cl =>
    obtain ⟨i, es', e1, e2, e3⟩ := h
    refine ⟨i, es', by rw [hρ, e1], hl _ _ e1 e2, e3.1, fun j e he => ?_⟩
    obtain ⟨v, q1, q2, q3, q4⟩ := e3.2 j e he
    have := hb e (List.mem_of_getElem? he)
    exact ⟨v, q1, hm.ke _ _ this.1 q2, hm.ke _ _ this.2 q3, q4⟩
def junkT : List Bool → List U → List U
  | true :: l, _ :: tm => .junk :: junkT l tm
  | false :: l, u :: tm => u :: junkT l tm
  | _, tm => tm
theorem junk_sim {x : Cx} : ∀ (l : List Bool) {tm : List U} {tv : List Value}, RelE x tm tv → RelE x (junkT l tm) tv
  | [], tm, tv, h => by cases tm <;> exact h
  | true :: l, [], tv, h => h
  | false :: l, [], tv, h => h
  | true :: l, u :: tm, tv, h => by obtain ⟨v, vs, rfl, h1, h2⟩ := h.inv; exact RelE.cons (by simp [Rel]) (junk_sim l h2)
  | false :: l, u :: tm, tv, h => by obtain ⟨v, vs, rfl, h1, h2⟩ := h.inv; exact RelE.cons h1 (junk_sim l h2)
theorem Gh.junk (n0 : Nat) (l : List Bool) (tm : List U) (σ : Sg) : Gh n0 tm σ (junkT l tm) σ := fun F x tv hx h hf he => ⟨x, fun m w hf => Adv.refl hf, hx, h, hf, junk_sim l he, Ke.refl _ _⟩
theorem Gh.cut {n0 n1 : Nat} {tm : List U} {σ : Sg} (h1 : n0 ≤ n1) (h2 : n1 ≤ σ.nx) (hb : BelL n1 tm) (hh : BelH n1 (Vx.cut n1 σ.h)) : Gh n0 tm σ tm ⟨Vx.cut n1 σ.h, n1⟩ := fun F x tv hx hr hf he => by
  subst hx
  have hmo : Mo n1 x ⟨x.ρ, ⟨Vx.cut n1 x.σ.h, n1⟩, x.s⟩ := by
    refine ⟨fun k hk _ => ⟨hk, fun b hb => ?_⟩, fun _ _ _ h => h⟩
    simp only [gt_cut, hk, if_true] at hb
    exact ⟨b, hb, Nat.le_refl _, fun _ => ⟨rfl, fun l e sz st h => ⟨l, h⟩⟩⟩
  have sub : ∀ {k b}, gt (Vx.cut n1 x.σ.h) k = some b → k < n1 ∧ gt x.σ.h k = some b := fun {k b} hg => by
    simp only [gt_cut] at hg
    split at hg
    · exact ⟨by assumption, hg⟩
    · cases hg
  refine ⟨⟨x.ρ, ⟨Vx.cut n1 x.σ.h, n1⟩, x.s⟩, fun m w hf => Adv.refl hf, rfl, ⟨fun k b hg => ?_, fun k k' b b' i g1 g2 => hr.inj k k' b b' i (sub g1).2 (sub g2).2, hr.bd⟩, fun i b hF => ?_, hmo.ke.E hb he, hmo.ke.le h1⟩
  · exact ⟨(sub hg).1, (hr.ok k b (sub hg).2).2.monoB (belH_get hh hg) hmo rfl fun _ _ _ h => h⟩
  · exact ⟨(hf i b hF).1, fun k c hc => (hf i b hF).2 k c (sub hc).2⟩
theorem set_self {l : List Value} {i : Nat} {v : Value} (h : l[i]? = some v) : l.set i v = l := by
  apply List.ext_getElem?
  intro j
  rw [List.getElem?_set]
  split
  · rename_i e; subst e
    have := (List.getElem?_eq_some_iff.1 h).1
    simp only [this, if_true]; exact h.symm
  · rfl
theorem Gh.nilvec {n0 : Nat} {tm : List U} {σ : Sg} (i : Nat) (e : TypeId) (sz : Nat) (hsz : 0 < sz) (h0 : n0 ≤ σ.nx) (hi : nth tm i = some .nils) : Gh n0 tm σ (tm.set i (.vl σ.nx 0 0 0)) (newU σ (.vec [] e sz 0)) := fun F x tv hx hr hf he => by
  subst hx
  have ho := step_none hr e sz hsz
  rw [nth_eq] at hi
  obtain ⟨v, h1, h2⟩ := he.get hi
  simp only [Rel] at h2
  subst h2
  refine ⟨⟨setρ x.ρ x.σ.nx none, newU x.σ (.vec [] e sz 0), x.s⟩, fun m w hf => Adv.refl hf, rfl, ho.h, ho.fr F hf, ?_, ho.mo.ke.le h0⟩
  have := (ho.mo.ke.E he.bel he).set i (rel_nonevec (x := x) (e := e) (sz := sz) (o := none) (by simp))
  rwa [set_self h1] at this
theorem Adv.freeze {m : Nm} {s : S} {w : World} (h : FitsS m s w) {i : Nat} {l : List Value} {e md e1 : Nat} (hl : lk s.h i = some (.inl (l, e, md))) (hmd : md = 0 ∧ e1 = 0 ∨ ∃ sz, md = sz + 2 ∧ e1 = sz + 1) :
    Adv m s w m ⟨up s.h i (.inl (l, e1, 1)), s.nx⟩ w := by
  have old : ∀ j c, lk (up s.h i (.inl (l, e1, 1))) j = some c → ∃ d, lk s.h j = some d ∧ (Own c = true → Own d = true) ∧ (j ≠ i → c = d) := fun j c hc => by
    simp only [lk_up] at hc
    by_cases hij : i = j
    · subst hij
      simp only [if_true, hl, Option.map_some, Option.some.injEq] at hc
      subst hc
      exact ⟨_, hl, fun h => by simp [Own] at h, fun h => absurd rfl h⟩
    · simp only [hij, if_false] at hc
      exact ⟨c, hc, id, fun _ => rfl⟩
  refine ⟨Agree.refl _ _, Nat.le_refl _, fun m' ha => ?_, ?_, fun _ _ _ => rfl, Nat.le_refl _, rfl, rfl, rfl, ?_⟩
  · have hf := h m' ha
    refine ⟨fun j c hc => ?_, fun j k c d hc hd hjk ho => ?_, fun j c hc => ?_⟩
    · by_cases hij : j = i
      · subst hij
        simp only [lk_up, if_true, hl, Option.map_some, Option.some.injEq] at hc
        subst hc
        have hr : RowOk m' j l e w md := hf.ok j _ hl
        rcases hmd with ⟨rfl, rfl⟩ | ⟨sz, rfl, rfl⟩
        · obtain ⟨h0, h1⟩ := hr
          exact ⟨_, _, _, h1, fun k v hk => by simp [h0, renL_eq, hk], fun n hn => absurd hn (by simp)⟩
        · obtain ⟨pr, rest, h1, h2, h3⟩ := hr
          refine ⟨_, _, _, h1, fun k v hk => ?_, fun n hn => ?_⟩
          · have hlt : k < l.length := (List.getElem?_eq_some_iff.1 hk).1
            simp only [List.getElem?_toArray, List.append_assoc, ← h2]
            rw [List.getElem?_append_right (by omega), Nat.add_sub_cancel_left, List.getElem?_append_left (by simpa using hlt)]
            simp [renL_eq, hk]
          · have : n = sz := (Nat.succ.inj hn).symm
            subst this; exact Nat.le_of_add_right_le (Nat.le_of_eq h3)
      · obtain ⟨d, h1, _, h3⟩ := old j c hc
        rw [h3 hij]
        exact hf.ok j d h1
    · obtain ⟨c', h1, h2, _⟩ := old j c hc
      obtain ⟨d', h3, _, _⟩ := old k d hd
      exact hf.inj j k c' d' h1 h3 hjk (h2 ho)
    · obtain ⟨d, h1, _⟩ := old j c hc
      exact hf.bd j d h1
  · rintro b ⟨j, c, hc, ho, rfl⟩
    obtain ⟨d, h1, h2, _⟩ := old j c hc
    exact .inl ⟨j, d, h1, h2 ho, rfl⟩
  · exact Nat.le_refl _
def chunks (sz : Nat) : Nat → List U → List (List U)
  | 0, _ => []
  | n + 1, l => l.take sz :: chunks sz n (l.drop sz)
theorem chunks_len (sz n : Nat) (l : List U) : (chunks sz n l).length = n := by
  induction n generalizing l with
  | zero => rfl
  | succ n ih => simp [chunks, ih]
theorem chunks_rel {x : Cx} {sz : Nat} : ∀ (n : Nat) {l : List U} {vs : List Value}, RelP x l vs → okL l = true → n * sz ≤ l.length → RelR x sz (chunks sz n l) vs
  | 0, l, vs, h, hk, hl => by simp [chunks, RelR]
  | n + 1, l, vs, h, hk, hl => by
    rw [Nat.succ_mul] at hl
    simp only [chunks, RelR]
    refine ⟨by simp; omega, okL_take hk _, ?_, chunks_rel n (h.drop sz) (okL_drop hk _) (by simp; omega)⟩
    rw [relP_iff] at h ⊢
    intro i u hu
    rw [List.getElem?_take] at hu
    split at hu
    · exact h i u hu
    · cases hu
mutual
def fz (K : Nat) (b : B) (sz : Nat) : U → U
  | .sl k off n c => cond (Nat.beq k K) (match b with
    | .row l _ => if off + n * sz ≤ l.length then .isl false (chunks sz n (l.drop off)) else .sl k off n c
    | _ => .sl k off n c) (.sl k off n c)
  | .vl k st off n => cond (Nat.beq k K) (match b with
    | .vec l _ sz' st' => if st' = st ∧ (off + n) * sz' ≤ l.length then .isl false (chunks sz' n (l.drop (off * sz'))) else .vl k st off n
    | _ => .vl k st off n) (.vl k st off n)
  | .ptr k st off => cond (Nat.beq k K) (match b with
    | .row l _ => if st = 0 then .iptr (l.drop off) else .ptr k st off
    | _ => .ptr k st off) (.ptr k st off)
  | .agg l => .agg (fzL K b sz l)
  | .tup l => .tup (fzL K b sz l)
  | .fn f a c => .fn f (fzL K b sz a) (fzL K b sz c)
  | u => u
def fzL (K : Nat) (b : B) (sz : Nat) : List U → List U
  | [] => []
  | u :: l => fz K b sz u :: fzL K b sz l
end
def fzB (K : Nat) (b : B) (sz : Nat) : B → B
  | .row l e => .row (fzL K b sz l) e
  | .vec l e s st => .vec (fzL K b sz l) e s st
  | .map es cl => .map (es.map fun e => { e with val := fz K b sz e.val }) cl
def fzH (K : Nat) (b : B) (sz : Nat) : List (Nat × B) → List (Nat × B)
  | [] => []
  | (k, c) :: h => cond (Nat.beq k K) (fzH K b sz h) ((k, fzB K b sz c) :: fzH K b sz h)
theorem gt_fzH (K : Nat) (b : B) (sz : Nat) (h : List (Nat × B)) (k : Nat) : gt (fzH K b sz h) k = if k = K then none else (gt h k).map (fzB K b sz) := by
  induction h with
  | nil => simp [fzH, gt]
  | cons p h ih =>
    obtain ⟨j, c⟩ := p
    simp only [fzH, beq_eq]
    by_cases hj : j = K
    · subst hj
      simp only [decide_true, cond_true, ih, gt_cons]
      by_cases hk : k = j
      · simp [hk]
      · simp [hk, Ne.symm hk]
    · simp only [hj, decide_false, cond_false, gt_cons, ih]
      by_cases hk : j = k
      · subst hk; simp [hj]
      · simp [hk]
theorem fzB_st (K : Nat) (b : B) (sz : Nat) (c : B) : (fzB K b sz c).st = c.st := by cases c <;> rfl
theorem fz_okC (K : Nat) (b : B) (sz : Nat) (u : U) (h : okC u = true) : okC (fz K b sz u) = true := by
  cases u with
  | sl k off n c =>
    simp only [fz]
    cases Nat.beq k K with
    | false => rfl
    | true =>
      simp only [cond_true]
      cases b with
      | row l e => simp only; split <;> rfl
      | _ => rfl
  | vl k st off n =>
    simp only [fz]
    cases Nat.beq k K with
    | false => rfl
    | true =>
      simp only [cond_true]
      cases b with
      | vec l e s st => simp only; split <;> rfl
      | _ => rfl
  | ptr k st off =>
    simp only [fz]
    cases Nat.beq k K with
    | false => rfl
    | true =>
      simp only [cond_true]
      cases b with
      | row l e => simp only; split <;> rfl
      | _ => rfl
  | agg l => simp [okC] at h
  | tup l => simp [okC] at h
  | junk => simp [okC] at h
  | _ => simp only [fz]; first | exact h | rfl
theorem fzL_ok (K : Nat) (b : B) (sz : Nat) : ∀ l : List U, okL l = true → okL (fzL K b sz l) = true
  | [], _ => rfl
  | u :: l, h => by
    simp only [okL] at h
    obtain ⟨h1, h2⟩ := cond_split h
    simp [fzL, okL, fz_okC K b sz u h1, fzL_ok K b sz l h2]
theorem fzL_len (K : Nat) (b : B) (sz : Nat) : ∀ l : List U, (fzL K b sz l).length = l.length
  | [] => rfl
  | u :: l => by simp [fzL, fzL_len K b sz l]
section
variable {x y : Cx} {K : Nat} {b : B} {sz : Nat} (hg : gt x.σ.h K = some b) (hb : BOk x K b) (hmo : Mo x.σ.nx x y)
  (hrow : ∀ i l e md, x.ρ K = some i → lk x.s.h i = some (.inl (l, e, md)) → (md = 0 ∧ lk y.s.h i = some (.inl (l, 0, 1))) ∨ ∃ s, md = s + 2 ∧ lk y.s.h i = some (.inl (l, s + 1, 1)))
include hg hb hmo hrow
mutual
theorem fz_rel : (u : U) → (v : Value) → Rel x u v → Rel y (fz K b sz u) v
  | .sl k off n c, v, h => by
    have keep := hmo.ke _ _ (Rel.bel _ _ h) h
    simp only [fz, beq_eq]
    by_cases hk : k = K
    · subst hk
      simp only [decide_true, cond_true]
      cases b with
      | row l e =>
        simp only
        split
        · rename_i hlen
          obtain ⟨i, hi, rfl, hc, hnc⟩ := live_sl (x := x) (by simp [live, hg, B.st]) h
          obtain ⟨k1, i', l', e1, e2, e3⟩ := hb
          rw [hi] at e1; cases e1
          have e4 : RelP y l l' := (hmo.ke.E e3.bel e3).1
          rcases hrow i l' e 0 hi e2 with ⟨_, hl⟩ | ⟨s, hs, _⟩
          · simp only [Rel, chunks_len]
            refine .inr ⟨i, off, c, rfl, (fun ht => by cases ht), ?_⟩
            by_cases hn : n = 0
            · exact .inl (List.eq_nil_of_length_eq_zero (by rw [chunks_len, hn]))
            · exact .inr ⟨l', 0, sz, hl, chunks_rel n (e4.drop off) (okL_drop k1 _) (by simp; omega), .inl ⟨hc, hnc⟩⟩
          · omega
        · exact keep
      | _ => exact keep
    · simp only [hk, decide_false, cond_false]; exact keep
  | .vl k st off n, v, h => by
    have keep := hmo.ke _ _ (Rel.bel _ _ h) h
    simp only [fz, beq_eq]
    by_cases hk : k = K
    · subst hk
      simp only [decide_true, cond_true]
      cases b with
      | vec l e sz' st' =>
        simp only
        split
        · rename_i hlen
          obtain ⟨rfl, hlen⟩ := hlen
          obtain ⟨l0, e0, s0, g1, g2⟩ := live_vl (x := x) (by simp [live, hg, B.st]) h
          have := hg.symm.trans g1
          cases this
          obtain ⟨k1, k2, h3⟩ := hb
          rcases h3 with ⟨rfl, h4⟩ | ⟨i, l', e1, e2, e3⟩
          · rw [h4] at g2
            obtain ⟨rfl, rfl, o, rfl, ho⟩ := g2
            simp only [Rel, chunks]
            cases o with
            | none => exact .inl ⟨trivial, .inl rfl⟩
            | some a => exact .inr ⟨a.block, a.off, 0, by obtain ⟨q1, q2, q3⟩ := a; have := ho _ rfl; simp only at this; subst this; rfl, by simp, .inl trivial⟩
          · rw [e1] at g2
            have e4 : RelP y l l' := (hmo.ke.E e3.bel e3).1
            rcases hrow i l' e _ e1 e2 with ⟨h0, _⟩ | ⟨s, hs, hl⟩
            · omega
            · have : s = sz' := by omega
              subst this
              simp only [Rel, chunks_len]
              rcases g2 with ⟨_, rfl, a, c, rfl, ha⟩ | rfl
              · exact .inr ⟨a.block, a.off, c, by obtain ⟨q1, q2, q3⟩ := a; simp only at ha; subst ha; rfl, by simp, .inl rfl⟩
              · refine .inr ⟨i, off * s, capBase + off, rfl, by simp, ?_⟩
                rw [Nat.add_mul] at hlen
                exact .inr ⟨l', s + 1, s, hl, chunks_rel n (e4.drop _) (okL_drop k1 _) (by simp; omega), .inr ⟨by omega, rfl, k2, by simp [capD], by rw [← e3.2]; exact hlen⟩⟩
        · exact keep
      | _ => exact keep
    · simp only [hk, decide_false, cond_false]; exact keep
  | .ptr k st off, v, h => by
    have keep := hmo.ke _ _ (Rel.bel _ _ h) h
    simp only [fz, beq_eq]
    by_cases hk : k = K
    · subst hk
      simp only [decide_true, cond_true]
      cases b with
      | row l e =>
        simp only
        split
        · rename_i hst
          subst hst
          obtain ⟨i, hi, rfl⟩ := live_ptr (x := x) (by simp [live, hg, B.st]) h
          obtain ⟨k1, i', l', e1, e2, e3⟩ := hb
          rw [hi] at e1; cases e1
          have e4 : RelP y l l' := (hmo.ke.E e3.bel e3).1
          rcases hrow i l' e 0 hi e2 with ⟨_, hl⟩ | ⟨s, hs, _⟩
          · simp only [Rel]
            exact ⟨i, off, l', 0, rfl, hl, e4.drop off, okL_drop k1 _⟩
          · omega
        · exact keep
      | _ => exact keep
    · simp only [hk, decide_false, cond_false]; exact keep
  | .agg l, v, h => by
    simp only [Rel, fz] at *
    obtain ⟨vs, rfl, h1, h2, h3⟩ := h
    exact ⟨vs, rfl, fzL_rel l vs h1, by rw [fzL_len]; exact h2, fzL_ok K b sz l h3⟩
  | .tup l, v, h => by
    simp only [Rel, fz] at *
    obtain ⟨vs, rfl, h1, h2⟩ := h
    exact ⟨vs, rfl, fzL_rel l vs h1, by rw [fzL_len]; exact h2⟩
  | .fn f p q, v, h => by
    simp only [Rel, fz] at *
    obtain ⟨va, vb, rfl, h1, h2, h3, h4⟩ := h
    exact ⟨va, vb, rfl, fzL_rel p va h1, by rw [fzL_len]; exact h2, fzL_rel q vb h3, by rw [fzL_len]; exact h4⟩
  | .junk, v, h => by simp [fz, Rel]
  | .bool _, v, h => by simpa [fz, Rel] using h
  | .int _ _, v, h => by simpa [fz, Rel] using h
  | .str _, v, h => by simpa [fz, Rel] using h
  | .nilp, v, h => by simpa [fz, Rel] using h
  | .nils, v, h => by simpa [fz, Rel] using h
  | .nilm, v, h => by simpa [fz, Rel] using h
  | .nilf, v, h => by simpa [fz, Rel] using h
  | .nili, v, h => by simpa [fz, Rel] using h
  | .map k, v, h => by simp only [fz]; exact hmo.ke _ _ (Rel.bel _ _ h) h
  | .iptr l, v, h => by simp only [fz]; exact hmo.ke _ _ (Rel.bel _ _ h) h
  | .isl t l, v, h => by simp only [fz]; exact hmo.ke _ _ (Rel.bel _ _ h) h
theorem fzL_rel : (l : List U) → (vs : List Value) → RelP x l vs → RelP y (fzL K b sz l) vs
  | [], vs, h => by have _ := hg; have _ := hb; have _ := hmo; have _ := hrow; simp [fzL, RelP]
  | u :: l, [], h => by simp [RelP] at h
  | u :: l, v :: vs, h => by simp only [RelP, fzL] at *; exact ⟨fz_rel u v h.1, fzL_rel l vs h.2⟩
end
end
theorem Gh.freeze {n0 : Nat} {tm : List U} {σ : Sg} {K : Nat} {b : B} (sz : Nat) (hg : gt σ.h K = some b) (hb : ∀ es cl, b ≠ .map es cl) : Gh n0 tm σ (fzL K b sz tm) ⟨fzH K b sz σ.h, σ.nx⟩ := fun F x tv hx hr hf he => by
  subst hx
  obtain ⟨hK, hB⟩ := hr.ok K b hg
  have hs : ∃ s' : S, (∀ m w, FitsS m x.s w → Adv m x.s w m s' w) ∧ (∀ i c, lk x.s.h i = some c → x.ρ K ≠ some i → lk s'.h i = some c) ∧ (∀ i c, lk s'.h i = some c → i < s'.nx) ∧
      (∀ i l e md, x.ρ K = some i → lk x.s.h i = some (.inl (l, e, md)) → (md = 0 ∧ lk s'.h i = some (.inl (l, 0, 1))) ∨ ∃ s, md = s + 2 ∧ lk s'.h i = some (.inl (l, s + 1, 1))) := by
    have act : ∀ i l e md e1, x.ρ K = some i → lk x.s.h i = some (.inl (l, e, md)) → (md = 0 ∧ e1 = 0 ∨ ∃ sz, md = sz + 2 ∧ e1 = sz + 1) → ∃ s' : S, (∀ m w, FitsS m x.s w → Adv m x.s w m s' w) ∧ (∀ i c, lk x.s.h i = some c → x.ρ K ≠ some i → lk s'.h i = some c) ∧ (∀ i c, lk s'.h i = some c → i < s'.nx) ∧
      (∀ i l e md, x.ρ K = some i → lk x.s.h i = some (.inl (l, e, md)) → (md = 0 ∧ lk s'.h i = some (.inl (l, 0, 1))) ∨ ∃ s, md = s + 2 ∧ lk s'.h i = some (.inl (l, s + 1, 1))) := by
      intro i l e md e1 hi hl hmd
      refine ⟨⟨up x.s.h i (.inl (l, e1, 1)), x.s.nx⟩, fun m w hf => Adv.freeze hf hl hmd, fun j c hc hne => ?_, fun j c hc => ?_, fun j l' e' md' hj hl' => ?_⟩
      · have : i ≠ j := fun h => hne (by rw [hi, h])
        simp [lk_up, this, hc]
      · simp only [lk_up] at hc
        split at hc
        · rename_i h; subst h; exact hr.bd _ _ hl
        · exact hr.bd j c hc
      · rw [hi] at hj; cases hj
        rw [hl] at hl'; cases hl'
        rcases hmd with ⟨rfl, rfl⟩ | ⟨s, rfl, rfl⟩
        · exact .inl ⟨rfl, by simp [lk_up, hl]⟩
        · exact .inr ⟨s, rfl, by simp [lk_up, hl]⟩
    cases b with
    | map es cl => exact absurd rfl (hb es cl)
    | row l e => obtain ⟨_, i, l', e1, e2, _⟩ := hB; exact act i l' e 0 0 e1 e2 (.inl ⟨rfl, rfl⟩)
    | vec l e s st =>
      obtain ⟨_, _, h3⟩ := hB
      rcases h3 with ⟨_, h4⟩ | ⟨i, l', e1, e2, _⟩
      · exact ⟨x.s, fun m w hf => Adv.refl hf, fun i c hc _ => hc, hr.bd, fun i l e md hi => by rw [h4] at hi; cases hi⟩
      · exact act i l' e (s + 2) (s + 1) e1 e2 (.inr ⟨s, rfl, rfl⟩)
  obtain ⟨s', a1, a2, a3, a4⟩ := hs
  have sub : ∀ {k c}, gt (fzH K b sz x.σ.h) k = some c → k ≠ K ∧ ∃ d, gt x.σ.h k = some d ∧ c = fzB K b sz d := fun {k c} h => by
    rw [gt_fzH] at h
    split at h
    · cases h
    · rename_i hk
      cases hd : gt x.σ.h k with
      | none => simp [hd] at h
      | some d => simp [hd] at h; exact ⟨hk, d, rfl, h.symm⟩
  have hmo : Mo x.σ.nx x ⟨x.ρ, ⟨fzH K b sz x.σ.h, x.σ.nx⟩, s'⟩ := by
    refine ⟨fun k _ h2 => ⟨h2, fun c hc => ?_⟩, fun i row e hl => a2 i _ hl fun h => hB.not1 h hl⟩
    obtain ⟨_, d, h1, rfl⟩ := sub hc
    refine ⟨d, h1, by rw [fzB_st]; exact Nat.le_refl _, fun _ => ⟨rfl, fun l e s st h => ?_⟩⟩
    subst h; exact ⟨_, rfl⟩
  have hfz := fun u v h => fz_rel (y := ⟨x.ρ, ⟨fzH K b sz x.σ.h, x.σ.nx⟩, s'⟩) (sz := sz) hg hB hmo a4 u v h
  have hfzE : ∀ {l : List U} {vs : List Value}, RelE x l vs → RelE ⟨x.ρ, ⟨fzH K b sz x.σ.h, x.σ.nx⟩, s'⟩ (fzL K b sz l) vs := fun {l vs} h => ⟨fzL_rel hg hB hmo a4 l vs h.1, by rw [fzL_len]; exact h.2⟩
  refine ⟨⟨x.ρ, ⟨fzH K b sz x.σ.h, x.σ.nx⟩, s'⟩, a1, rfl, ⟨fun k c hc => ?_, fun k k' c c' i h1 h2 => ?_, a3⟩, fun i c hc => ?_, hfzE he, fun u v _ h => hmo.ke u v (Rel.bel _ _ h) h⟩
  · obtain ⟨hk, d, h1, rfl⟩ := sub hc
    obtain ⟨h2, h3⟩ := hr.ok k d h1
    refine ⟨h2, ?_⟩
    have hne : ∀ i, x.ρ k = some i → x.ρ K ≠ some i := fun i h h' => hk (hr.inj k K d b i h1 hg h h')
    cases d with
    | row l e => obtain ⟨k1, i, l', e1, e2, e3⟩ := h3; exact ⟨fzL_ok _ _ _ _ k1, i, l', e1, a2 i _ e2 (hne i e1), hfzE e3⟩
    | vec l e s st =>
      obtain ⟨k1, k2, h3⟩ := h3
      refine ⟨fzL_ok _ _ _ _ k1, k2, ?_⟩
      rcases h3 with ⟨rfl, h4⟩ | ⟨i, l', e1, e2, e3⟩
      · exact .inl ⟨rfl, h4⟩
      · exact .inr ⟨i, l', e1, a2 i _ e2 (hne i e1), hfzE e3⟩
    | map es cl =>
      obtain ⟨i, es', e1, e2, e3⟩ := h3
      refine ⟨i, es', e1, a2 i _ e2 (hne i e1), by simp [e3.1], fun j e he => ?_⟩
      rw [List.getElem?_map] at he
      cases hj : es[j]? with
      | none => simp [hj] at he
      | some e0 =>
        simp [hj] at he
        subst he
        obtain ⟨v, q1, q2, q3, q4⟩ := e3.2 j e0 hj
        exact ⟨v, q1, hmo.ke _ _ (Rel.bel _ _ q2) q2, hfz _ _ q3, q4⟩
  · obtain ⟨_, d, g1, _⟩ := sub h1
    obtain ⟨_, d', g2, _⟩ := sub h2
    exact hr.inj k k' d d' i g1 g2
  · obtain ⟨h1, h2⟩ := hf i c hc
    refine ⟨a2 i c h1 (h2 K b hg), fun k d hd => ?_⟩
    obtain ⟨_, d', g1, _⟩ := sub hd
    exact h2 k d' g1
end Go.Vx
end
