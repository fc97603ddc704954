/-
  VxN: the rules for regions that draw their order.
-/
import Derived.Test.YtcanbnholmlapaaVxM
namespace Go.Vx
open Go Go.Rx
set_option linter.unusedVariables false

theorem maskE_of {acc : List Nat} {es : List Edge} {e : Edge} {k : Nat} (he : e ∈ es) (hb : Region.binds .any e = true) (h : k = e.on ∨ ∃ x, acc[e.on]? = some x ∧ x.testBit k = true) : (maskE acc es).testBit k = true := by
  induction es with
  | nil => cases he
  | cons d es ih =>
    simp only [maskE, nth_eq]
    rcases List.mem_cons.1 he with rfl | he
    · simp only [hb, cond_true, Nat.testBit_or, Bool.or_eq_true]
      left
      rcases h with rfl | ⟨x, h1, h2⟩
      · left; rw [Nat.testBit_two_pow]; simp
      · right; simp only [h1]; exact h2
    · cases hd : Region.binds .any d with
      | false => simp only [cond_false]; exact ih he
      | true => simp only [cond_true, Nat.testBit_or, Bool.or_eq_true]; exact .inr (ih he)
theorem pre_of {ops : List Oper} (hst : staticOk ops = true) {i k : Nat} {o : Oper} {e : Edge} (ho : ops[i]? = some o) (he : e ∈ o.after.toList) (hb : Region.binds .any e = true) (h : k = e.on ∨ Pre ops e.on k) : Pre ops i k := by
  obtain ⟨g1, _, g3⟩ := masks_get ops []
  have := g3 i o ho
  simp only [List.length_nil, Nat.zero_add] at this
  refine ⟨_, this, maskE_of he hb ?_⟩
  rcases h with h | ⟨x, h1, h2⟩
  · exact .inl h
  · refine .inr ⟨x, ?_, h2⟩
    rw [List.getElem?_take]
    simp [st_lt hst ho e he hb, h1]
theorem Pre.trans {ops : List Oper} (hst : staticOk ops = true) : ∀ (i j k : Nat), Pre ops i j → Pre ops j k → Pre ops i k := by
  intro i
  induction i using Nat.strongRecOn with
  | _ i ih =>
    intro j k h1 h2
    obtain ⟨o, e, ho, he, hb, h⟩ := pre_inv ops h1
    refine pre_of hst ho he hb (.inr ?_)
    rcases h with rfl | h
    · exact h2
    · exact ih e.on (st_lt hst ho e he hb) j k h h2

/-- a region in the order of its text, with what is met on the way -/
def RD (P : Program) (T : Tb) (ops : List Oper) : List Oper → List U → Sg → (List RecU → List U → Sg → Prop) → Prop
  | [], tm, σ, K => K [] tm σ
  | o :: r, tm, σ, K =>
    (wantedU ops tm o = some true ∧ ∃ u, opU T σ tm o.op = some (u, σ) ∧ RD P T ops r (putW tm o.dst u) σ (fun rs => K (⟨tm, o, u, false, false, σ, σ⟩ :: rs))) ∨
    (wantedU ops tm o = some true ∧ ∃ u σ', opU T σ tm o.op = some (u, σ') ∧ RD P T ops r (putW tm o.dst u) σ' (fun rs => K (⟨tm, o, u, true, true, σ, σ'⟩ :: rs))) ∨
    (wantedU ops tm o = some true ∧ ∃ f args u, callU T tm o.op = some (f, args) ∧ EvU P f args σ (fun u' σ' => u' = u ∧ σ' = σ) ∧ RD P T ops r (putW tm o.dst u) σ (fun rs => K (⟨tm, o, u, true, false, σ, σ⟩ :: rs))) ∨
    (wantedU ops tm o = some true ∧ ∃ f args u σ', callU T tm o.op = some (f, args) ∧ EvU P f args σ (fun u' s' => u' = u ∧ s' = σ') ∧ RD P T ops r (putW tm o.dst u) σ' (fun rs => K (⟨tm, o, u, true, true, σ, σ'⟩ :: rs))) ∨
    (wantedU ops tm o = some false ∧ RD P T ops r (putW tm o.dst (.tup [])) σ (fun rs => K (⟨tm, o, .tup [], false, false, σ, σ⟩ :: rs))) ∨
    (wantedU ops tm o = some true ∧ ∃ f args u, callU T tm o.op = some (f, args) ∧ (∀ s, EvU P f args s (fun u' σ' => u' = u ∧ σ' = s)) ∧ RD P T ops r (putW tm o.dst u) σ (fun rs => K (⟨tm, o, u, false, false, σ, σ⟩ :: rs)))
theorem rd_ok {P : Program} {T : Tb} {ops : List Oper} : ∀ (rest : List Oper) (tm : List U) (σ : Sg) (K : List RecU → List U → Sg → Prop), RD P T ops rest tm σ K →
    ∃ rs tm' σ', K rs tm' σ' ∧ rs.length = rest.length ∧ uAt rs σ' 0 = σ ∧ vAt rs tm' 0 = tm ∧
      ∀ (i : Nat) (r : RecU), rs[i]? = some r → rest[i]? = some r.o ∧ Good P T ops r ∧ uAt rs σ' (i + 1) = r.s' ∧ vAt rs tm' (i + 1) = putW r.tm r.o.dst r.u ∧ (r.mv = false → r.s' = r.s) ∧ (r.mv = true → r.act = true)
  | [], tm, σ, K, h => ⟨[], tm, σ, h, rfl, rfl, rfl, fun i r hr => by simp at hr⟩
  | o :: rest, tm, σ, K, h => by
    have step : ∀ (u : U) (ac mv : Bool) (σ1 : Sg), RD P T ops rest (putW tm o.dst u) σ1 (fun rs => K (⟨tm, o, u, ac, mv, σ, σ1⟩ :: rs)) → Good P T ops ⟨tm, o, u, ac, mv, σ, σ1⟩ → (mv = false → σ1 = σ) → (mv = true → ac = true) →
        ∃ rs tm' σ', K rs tm' σ' ∧ rs.length = (o :: rest).length ∧ uAt rs σ' 0 = σ ∧ vAt rs tm' 0 = tm ∧
          ∀ (i : Nat) (r : RecU), rs[i]? = some r → (o :: rest)[i]? = some r.o ∧ Good P T ops r ∧ uAt rs σ' (i + 1) = r.s' ∧ vAt rs tm' (i + 1) = putW r.tm r.o.dst r.u ∧ (r.mv = false → r.s' = r.s) ∧ (r.mv = true → r.act = true) := by
      intro u ac mv σ1 h hg h1 h2
      obtain ⟨rs, tm', σ', g1, g2, g3, g4, g5⟩ := rd_ok rest _ _ _ h
      refine ⟨_, tm', σ', g1, by simp [g2], rfl, rfl, fun i r hr => ?_⟩
      cases i with
      | zero =>
        simp at hr; subst hr
        refine ⟨rfl, hg, ?_, ?_, h1, h2⟩
        · simp only [uAt, List.getElem?_cons_succ]; exact g3
        · simp only [vAt, List.getElem?_cons_succ]; exact g4
      | succ i =>
        simp only [List.getElem?_cons_succ] at hr
        obtain ⟨k1, k2, k3, k4, k5⟩ := g5 i r hr
        refine ⟨by simpa using k1, k2, ?_, ?_, k5⟩
        · simp only [uAt, List.getElem?_cons_succ]; exact k3
        · simp only [vAt, List.getElem?_cons_succ]; exact k4
    simp only [RD] at h
    rcases h with ⟨hw, u, h1, h2⟩ | ⟨hw, u, σ1, h1, h2⟩ | ⟨hw, f, args, u, h1, h2, h3⟩ | ⟨hw, f, args, u, σ1, h1, h2, h3⟩ | ⟨hw, h1⟩ | ⟨hw, f, args, u, h1, h2, h3⟩
    · exact step u false false σ h2 (.inr (.inl ⟨hw, h1, fun _ => rfl⟩)) (fun _ => rfl) (by simp)
    · exact step u true true σ1 h2 (.inr (.inl ⟨hw, h1, by simp⟩)) (by simp) (by simp)
    · exact step u true false σ h3 (.inr (.inr (.inl ⟨hw, rfl, f, args, h1, h2⟩))) (fun _ => rfl) (by simp)
    · exact step u true true σ1 h3 (.inr (.inr (.inl ⟨hw, rfl, f, args, h1, h2⟩))) (by simp) (by simp)
    · exact step _ false false σ h1 (.inl ⟨hw, rfl, rfl, rfl⟩) (fun _ => rfl) (by simp)
    · exact step u false false σ h3 (.inr (.inr (.inr ⟨hw, rfl, rfl, f, args, h1, h2⟩))) (fun _ => rfl) (by simp)

/-- of flag (acts, moves) at i against those from b on -/
def flRow (i mi : Nat) (ac mv : Bool) : List (Bool × Bool) → List Nat → Nat → Bool
  | (ak, mk') :: l, mk :: ms, k => cond (Nat.beq i k) true
      (cond (cond ac ak false) (cond (Nat.blt k i) (Nat.testBit mi k) (Nat.testBit mk i))
        (cond (cond (cond mv (cond ak false true) false) true (cond mk' (cond ac false true) false)) (cond (Nat.blt k i) (Nat.testBit mi k) (Nat.testBit mk i)) true)) && flRow i mi ac mv l ms (k + 1)
  | [], _, _ => true
  | _ :: _, [], _ => false
def flAll (fl : List (Bool × Bool)) (ms : List Nat) : List (Bool × Bool) → List Nat → Nat → Bool
  | (ac, mv) :: l, mi :: mr, i => flRow i mi ac mv fl ms 0 && flAll fl ms l mr (i + 1)
  | [], _, _ => true
  | _ :: _, [], _ => false
def flOk (ops : List Oper) (fl : List (Bool × Bool)) : Bool := flAll fl (masks ops []) fl (masks ops []) 0
theorem flRow_all {i mi : Nat} {ac mv : Bool} : ∀ (l : List (Bool × Bool)) (ms : List Nat) (b : Nat), flRow i mi ac mv l ms b = true → ∀ (j : Nat) (q : Bool × Bool), l[j]? = some q → ∃ mk, ms[j]? = some mk ∧ (i ≠ b + j → (ac = true ∧ q.1 = true ∨ mv = true ∧ q.1 = false ∨ q.2 = true ∧ ac = false) → (b + j < i → mi.testBit (b + j) = true) ∧ (i < b + j → mk.testBit i = true))
  | [], _, _, _ => fun j q h => by simp at h
  | x :: l, [], b, h => by obtain ⟨x1, x2⟩ := x; simp [flRow] at h
  | x :: l, mk :: ms, b, h => fun j q hq => by
    obtain ⟨x1, x2⟩ := x
    simp only [flRow, Bool.and_eq_true] at h
    obtain ⟨h1, h2⟩ := h
    cases j with
    | zero =>
      simp at hq; subst hq
      refine ⟨mk, rfl, fun hne hc => ?_⟩
      rw [Nat.add_zero] at hne ⊢
      simp only [beq_eq, hne, decide_false, cond_false] at h1
      have key : (cond (Nat.blt b i) (Nat.testBit mi b) (Nat.testBit mk i)) = true := by
        rcases hc with ⟨rfl, rfl⟩ | ⟨rfl, rfl⟩ | ⟨rfl, rfl⟩
        · simpa using h1
        · cases ac <;> simpa using h1
        · cases mv <;> cases x1 <;> simpa using h1
      refine ⟨fun hlt => by rw [blt_of hlt] at key; exact key, fun hgt => by rw [blt_not (by omega)] at key; exact key⟩
    | succ j =>
      simp only [List.getElem?_cons_succ] at hq
      obtain ⟨mk', g1, g2⟩ := flRow_all l ms (b + 1) h2 j q hq
      refine ⟨mk', by simpa using g1, ?_⟩
      rw [show b + (j + 1) = b + 1 + j by omega]; exact g2
theorem flAll_all {fl : List (Bool × Bool)} {ms : List Nat} : ∀ (l : List (Bool × Bool)) (mr : List Nat) (b : Nat), flAll fl ms l mr b = true → ∀ (j : Nat) (q : Bool × Bool), l[j]? = some q → ∃ mi, mr[j]? = some mi ∧ flRow (b + j) mi q.1 q.2 fl ms 0 = true
  | [], _, _, _ => fun j q h => by simp at h
  | x :: l, [], b, h => by obtain ⟨x1, x2⟩ := x; simp [flAll] at h
  | x :: l, mi :: mr, b, h => fun j q hq => by
    obtain ⟨x1, x2⟩ := x
    simp only [flAll, Bool.and_eq_true] at h
    obtain ⟨h1, h2⟩ := h
    cases j with
    | zero => simp at hq; subst hq; exact ⟨mi, rfl, h1⟩
    | succ j =>
      simp only [List.getElem?_cons_succ] at hq
      obtain ⟨mi', g1, g2⟩ := flAll_all l mr (b + 1) h2 j q hq
      refine ⟨mi', by simpa using g1, ?_⟩
      rw [show b + (j + 1) = b + 1 + j by omega]; exact g2
theorem fl_pre {ops : List Oper} {rs : List RecU} (h : flOk ops (rs.map fun r => (r.act, r.mv)) = true) {i k : Nat} {r q : RecU} (hr : rs[i]? = some r) (hq : rs[k]? = some q) (hik : i ≠ k) (hc : r.act = true ∧ q.act = true ∨ r.mv = true ∧ q.act = false ∨ q.mv = true ∧ r.act = false) :
    (k < i → Pre ops i k) ∧ (i < k → Pre ops k i) := by
  obtain ⟨mi, h1, h2⟩ := flAll_all _ _ 0 h i (r.act, r.mv) (by simp [hr])
  obtain ⟨mk, h3, h4⟩ := flRow_all _ _ 0 h2 k (q.act, q.mv) (by simp [hq])
  rw [Nat.zero_add, Nat.zero_add] at h4
  obtain ⟨g1, g2⟩ := h4 hik hc
  exact ⟨fun hlt => ⟨mi, h1, g1 hlt⟩, fun hgt => ⟨mk, h3, g2 hgt⟩⟩

section
variable {P : Program} {T : Tb} (hT : TbOk P T) {n0 : Nat} {Q : Exit → List U → Sg → Prop} {tm : List U} {σ : Sg}
include hT
theorem WPU.drawn {id : Nat} {ops : Array Oper} (hst : staticOk ops.toList = true) {rs : List RecU} {tm' : List U} {σ' : Sg} (htr : TrU P T ops.toList tm σ rs tm' σ') (hch : ChU T ops.toList rs) (hQ : Q .normal tm' σ') : WPU P n0 (.region id ops true) tm σ Q := fun hn F x tv m w a hx st hd => by
  refine wp_region_any hT.mixed ?_
  have hno : ∀ k, (Array.replicate ops.size false).getD k false = false := fun k => by
    by_cases hk : k < ops.size <;> simp [Array.getD, hk]
  have hdr := Adv.draw (w.drawn + 1) st.fits
  refine anyU_ok hT ops htr hst hch (n0 := n0) (F := F) (x0 := x) (m0 := m) (w0 := w) (df := []) (fun y tv' m' w' a' h1 h2 h3 h4 h5 h6 => ⟨y, tm', tv', m', h1 ▸ hQ, h2, h3, h4, h5, h6⟩) ops.size (Array.replicate ops.size false) a _ m 0 tm tv x (by simp) (by simp) ?_ ?_ (Nat.zero_le _) ?_ ?_ ?_ ?_ (Ke.refl _ _) (hx ▸ hn) hd
  · intro k q hk; rw [hno] at hk; cases hk
  · have := seesu_none (rs := rs) (tm₀ := tm)
    exact ⟨this.len, fun k r d _ _ _ hL => (by rw [hno] at hL; cases hL), fun k r d g1 g2 _ => this.no k r d g1 g2 (fun x => x), this.other⟩
  · intro e r _ _; rw [hno]; simp
  · rw [htr.s0]; exact hx
  · exact ⟨st.h, st.fr, st.e, (Adv.draw _ st.fits).fits, st.act⟩
  · exact Adv.draw _ st.fits
/-- a region that draws its order: what moves the heap is ordered against all that looks or acts -/
theorem WPU.draw {id : Nat} {ops : Array Oper} (hst : staticOk ops.toList = true) (h : RD P T ops.toList ops.toList tm σ (fun rs tm' σ' => flOk ops.toList (rs.map fun r => (r.act, r.mv)) = true ∧ Q .normal tm' σ')) : WPU P n0 (.region id ops true) tm σ Q := by
  obtain ⟨rs, tm', σ', ⟨hfl, hQ⟩, g2, g3, g4, g5⟩ := rd_ok _ _ _ _ h
  have htr : TrU P T ops.toList tm σ rs tm' σ' := ⟨g2, g3, g4, fun i r hr => by obtain ⟨a, b, c, d, _⟩ := g5 i r hr; exact ⟨a, b, c, d⟩⟩
  -- between two places without a move the heap is the same
  have same : ∀ (p q : Nat), p ≤ q → q ≤ rs.length → (∀ (e : Nat) (r : RecU), p ≤ e → e < q → rs[e]? = some r → r.mv = false) → uAt rs σ' p = uAt rs σ' q := by
    intro p q hpq hq hno
    induction q with
    | zero => have : p = 0 := by omega
              rw [this]
    | succ q ih =>
      rcases Nat.lt_or_ge q p with h | h
      · have : p = q + 1 := by omega
        rw [this]
      · rw [ih h (by omega) fun e r h1 h2 h3 => hno e r h1 (by omega) h3]
        have hr : rs[q]? = some rs[q] := by simp [show q < rs.length by omega]
        obtain ⟨_, _, k3, _, k5, _⟩ := g5 q _ hr
        rw [k3, k5 (hno q _ h (Nat.lt_succ_self _) hr)]
        simp [uAt, hr]
  refine WPU.drawn hT hst htr ⟨fun i k r q hr hq ha hb hlt => (fl_pre hfl hr hq (by omega) (.inl ⟨ha, hb⟩)).1 hlt, fun i k r q hr hq ha _ _ hb hlt => ?_, fun i k r q hr hq ha _ _ hb hlt => ?_⟩ hQ
  · by_cases hm : ∃ (e : Nat) (z : RecU), k ≤ e ∧ e < i ∧ rs[e]? = some z ∧ z.mv = true
    · obtain ⟨e, z, h1, h2, h3, h4⟩ := hm
      have hza := (g5 e z h3).2.2.2.2.2 h4
      have hie := (fl_pre hfl hr h3 (by omega) (.inr (.inr ⟨h4, ha⟩))).1 h2
      rcases Nat.lt_or_ge k e with hke | hke
      · exact .inl (Pre.trans hst i e k hie ((fl_pre hfl h3 hq (by omega) (.inl ⟨hza, hb⟩)).1 hke))
      · have : e = k := by omega
        subst this; exact .inl hie
    · refine .inr (.inl ?_)
      have := same k i (by omega) (by have := (List.getElem?_eq_some_iff.1 hr).1; omega) fun e z h1 h2 h3 => by
        cases hz : z.mv with
        | false => rfl
        | true => exact absurd ⟨e, z, h1, h2, h3, hz⟩ hm
      simpa [uAt, hr, hq] using this
  · by_cases hm : ∃ (e : Nat) (z : RecU), i ≤ e ∧ e ≤ k ∧ rs[e]? = some z ∧ z.mv = true
    · obtain ⟨e, z, h1, h2, h3, h4⟩ := hm
      have hza := (g5 e z h3).2.2.2.2.2 h4
      have hie : i ≠ e := fun h => by subst h; rw [hr] at h3; cases h3; rw [ha] at hza; cases hza
      have hei := (fl_pre hfl h3 hr (fun h => hie h.symm) (.inr (.inl ⟨h4, ha⟩))).1 (by omega)
      rcases Nat.lt_or_ge e k with hek | hek
      · exact .inl (Pre.trans hst k e i ((fl_pre hfl hq h3 (by omega) (.inl ⟨hb, hza⟩)).1 hek) hei)
      · have : e = k := by omega
        subst this; exact .inl hei
    · refine .inr (.inl ?_)
      have := same i (k + 1) (by omega) (by have := (List.getElem?_eq_some_iff.1 hq).1; omega) fun e z h1 h2 h3 => by
        cases hz : z.mv with
        | false => rfl
        | true => exact absurd ⟨e, z, h1, by omega, h3, hz⟩ hm
      have h2 := (htr.all k q hq).2.2.1
      rw [h2] at this
      simpa [uAt, hr] using this.symm
end
end Go.Vx
