/-
  VxM: regions that draw their order, over trees.
-/
import Derived.Test.YtcanbnholmlapaaVxL
namespace Go.Vx
open Go Go.Rx
set_option linter.unusedVariables false

/- WHAT AN OPERATION LOOKS AT -/
theorem evalU_congr {tm tm' : List U} {l : List Operand} (h : ∀ t ∈ tmpsOf l, tm[t]? = tm'[t]?) {x : Operand} (hx : x ∈ l) : evalU tm x = evalU tm' x := by
  cases x with
  | tmp t => simp only [evalU, nth_eq]; exact h t (mem_tmpsOf hx)
  | _ => rfl
theorem evalUL_congr {tm tm' : List U} {l : List Operand} (h : ∀ x ∈ l, evalU tm x = evalU tm' x) : evalUL tm l = evalUL tm' l := by
  induction l with
  | nil => rfl
  | cons x l ih => simp only [evalUL]; rw [h x (by simp), ih fun y hy => h y (by simp [hy])]
theorem evalUP_congr {tm tm' : List U} {l : List (Nat × Operand)} (h : ∀ x ∈ l.map (·.2), evalU tm x = evalU tm' x) : evalUP tm l = evalUP tm' l := by
  induction l with
  | nil => rfl
  | cons x l ih =>
    obtain ⟨i, x⟩ := x
    simp only [evalUP]
    rw [h x (by simp), ih fun y hy => h y (by simp only [List.map_cons, List.mem_cons]; exact .inr hy)]
theorem evalUM_congr {tm tm' : List U} {x : Option Operand} (h : ∀ y, x = some y → evalU tm y = evalU tm' y) : evalUM tm x = evalUM tm' x := by
  cases x with
  | none => rfl
  | some y => simp only [evalUM]; rw [h y rfl]
section
variable {T : Tb} {tm tm' : List U} {σ : Sg} {op : Op}
theorem pureU_congr (h : ∀ x ∈ op.operands.toList, evalU tm x = evalU tm' x) : pureU T σ tm op = pureU T σ tm' op := by
  cases op <;> simp only [Op.operands] at h <;> try rfl
  case move x => simp only [pureU]; exact h x (by simp)
  case assign x => simp only [pureU]; exact h x (by simp)
  case pick c a b => simp only [pureU]; rw [h c (by simp), h a (by simp), h b (by simp)]
  case build t ps => simp only [pureU]; rw [evalUP_congr (by simpa using h)]
  case nilCheck x => simp only [pureU]; rw [h x (by simp)]
  case binOp o t x y ty => simp only [pureU]; rw [h x (by simp), h y (by simp)]
  case unOp o t x => simp only [pureU]; rw [h x (by simp)]
  case convert a b x => simp only [pureU]; rw [h x (by simp)]
  case makeFunc f a b => simp only [pureU]; rw [evalUL_congr fun x hx => h x (by simp at hx ⊢; exact .inl hx), evalUL_congr fun x hx => h x (by simp at hx ⊢; exact .inr hx)]
  case slice t x lo hi mx =>
    simp only [pureU]
    rw [h x (by simp), evalUM_congr (x := lo) fun y hy => h y (by subst hy; simp), evalUM_congr (x := hi) fun y hy => h y (by subst hy; simp), evalUM_congr (x := mx) fun y hy => h y (by subst hy; simp)]
  case fieldAddr t x f => simp only [pureU]; rw [h x (by simp)]
  case field t x f => simp only [pureU]; rw [h x (by simp)]
  case indexAddr t x i => simp only [pureU]; rw [h x (by simp), h i (by simp)]
  case index t x i => simp only [pureU]; rw [h x (by simp), h i (by simp)]
  case extract x i => simp only [pureU]; rw [h x (by simp)]
  case call c =>
    simp only [pureU]
    rw [evalUL_congr (l := c.args.toList) fun x hx => h x (by simp [Call.operands] at hx ⊢; exact .inr hx)]
theorem readU_congr (h : ∀ x ∈ op.operands.toList, evalU tm x = evalU tm' x) : readU T σ tm op = readU T σ tm' op := by
  cases op <;> simp only [Op.operands] at h <;> try rfl
  case load t x => simp only [readU]; rw [h x (by simp)]
  case lookup t x k ok => simp only [readU]; rw [h x (by simp), h k (by simp)]
theorem effU_congr (h : ∀ x ∈ op.operands.toList, evalU tm x = evalU tm' x) : effU T σ tm op = effU T σ tm' op := by
  cases op <;> simp only [Op.operands] at h <;> try rfl
  case box t x => simp only [effU]; rw [h x (by simp)]
  case store t x y => simp only [effU]; rw [h x (by simp), h y (by simp)]
  case buildSlice t n ps => simp only [effU]; rw [evalUP_congr (by simpa using h)]
  case makeSlice t x y => simp only [effU]; rw [h x (by simp), h y (by simp)]
  case makeMap t r => cases r <;> rfl
  case mapUpdate t x y z => simp only [effU]; rw [h x (by simp), h y (by simp), h z (by simp)]
  case insert t x y z => simp only [effU]; rw [h x (by simp), h y (by simp), h z (by simp)]
  case mapEntry t x y => simp only [effU]; rw [h x (by simp), h y (by simp)]
  case entryStore t x y z => simp only [effU]; rw [h x (by simp), h y (by simp), h z (by simp)]
  case call c =>
    simp only [effU]
    rw [evalUL_congr (l := c.args.toList) fun x hx => h x (by simp [Call.operands] at hx ⊢; exact .inr hx)]
theorem callU_congr (h : ∀ x ∈ op.operands.toList, evalU tm x = evalU tm' x) : callU T tm op = callU T tm' op := by
  cases op <;> simp only [Op.operands] at h <;> try rfl
  case call c =>
    simp only [callU]
    rw [evalUL_congr (l := c.args.toList) fun x hx => h x (by simp [Call.operands] at hx ⊢; exact .inr hx)]
    cases hc : c.callee with
    | value f => simp only []; rw [h f (by simp [Call.operands, hc])]
    | _ => rfl
theorem opU_congr (h : ∀ x ∈ op.operands.toList, evalU tm x = evalU tm' x) : opU T σ tm op = opU T σ tm' op := by
  unfold opU
  rw [pureU_congr h, readU_congr h, effU_congr h]
end
theorem looksU {ops : List Oper} {o : Oper} {tm tm' : List U} (h : ∀ t ∈ looksX ops o, tm[t]? = tm'[t]?) : (∀ x ∈ o.op.operands.toList, evalU tm x = evalU tm' x) ∧ wantedU ops tm o = wantedU ops tm' o := by
  unfold looksX at h
  unfold wantedU
  cases hg : o.guard with
  | none =>
    simp only [hg] at h
    exact ⟨fun x hx => evalU_congr h hx, rfl⟩
  | some g =>
    obtain ⟨j, want⟩ := g
    simp only [hg] at h
    cases hd : dstOf ops j with
    | none =>
      simp only [hd] at h
      exact ⟨fun x hx => evalU_congr h hx, by simp only [hd]⟩
    | some d =>
      simp only [hd] at h
      refine ⟨fun x hx => evalU_congr (fun t ht => h t (by simp [ht])) hx, ?_⟩
      simp only [hd, nth_eq]
      rw [h d (by simp)]

/- THE TRACE -/
structure RecU where
  tm : List U
  o : Oper
  u : U
  act : Bool
  mv : Bool
  s : Sg
  s' : Sg
def Good (P : Program) (T : Tb) (ops : List Oper) (r : RecU) : Prop :=
  (wantedU ops r.tm r.o = some false ∧ r.u = .tup [] ∧ r.act = false ∧ r.s' = r.s) ∨
  (wantedU ops r.tm r.o = some true ∧ opU T r.s r.tm r.o.op = some (r.u, r.s') ∧ (r.act = false → r.s' = r.s)) ∨
  (wantedU ops r.tm r.o = some true ∧ r.act = true ∧ ∃ f args, callU T r.tm r.o.op = some (f, args) ∧ EvU P f args r.s (fun u σ => u = r.u ∧ σ = r.s')) ∨
  (wantedU ops r.tm r.o = some true ∧ r.act = false ∧ r.s' = r.s ∧ ∃ f args, callU T r.tm r.o.op = some (f, args) ∧ ∀ s, EvU P f args s (fun u σ => u = r.u ∧ σ = s))
theorem Good.quiet {P : Program} {T : Tb} {ops : List Oper} {r : RecU} (h : Good P T ops r) (ha : r.act = false) : r.s' = r.s := by
  rcases h with ⟨_, _, _, h⟩ | ⟨_, _, h⟩ | ⟨_, h, _⟩ | ⟨_, _, h, _⟩
  · exact h
  · exact h ha
  · rw [ha] at h; cases h
  · exact h
def uAt (rs : List RecU) (σ' : Sg) (p : Nat) : Sg := match rs[p]? with
  | some r => r.s
  | none => σ'
def vAt (rs : List RecU) (tm' : List U) (p : Nat) : List U := match rs[p]? with
  | some r => r.tm
  | none => tm'
structure TrU (P : Program) (T : Tb) (ops : List Oper) (tm₀ : List U) (σ₀ : Sg) (rs : List RecU) (tm' : List U) (σ' : Sg) : Prop where
  len : rs.length = ops.length
  s0 : uAt rs σ' 0 = σ₀
  t0 : vAt rs tm' 0 = tm₀
  all : ∀ (i : Nat) (r : RecU), rs[i]? = some r → ops[i]? = some r.o ∧ Good P T ops r ∧ uAt rs σ' (i + 1) = r.s' ∧ vAt rs tm' (i + 1) = putW r.tm r.o.dst r.u
/-- the checks: what acts is in one order; what does not act sees the same wherever it may come -/
structure ChU (T : Tb) (ops : List Oper) (rs : List RecU) : Prop where
  acts : ∀ (i k : Nat) (r q : RecU), rs[i]? = some r → rs[k]? = some q → r.act = true → q.act = true → k < i → Pre ops i k
  lo : ∀ (i k : Nat) (r q : RecU), rs[i]? = some r → rs[k]? = some q → r.act = false → wantedU ops r.tm r.o = some true → opU T r.s r.tm r.o.op = some (r.u, r.s') → q.act = true → k < i → Pre ops i k ∨ q.s = r.s ∨ opU T q.s r.tm r.o.op = some (r.u, q.s)
  hi : ∀ (i k : Nat) (r q : RecU), rs[i]? = some r → rs[k]? = some q → r.act = false → wantedU ops r.tm r.o = some true → opU T r.s r.tm r.o.op = some (r.u, r.s') → q.act = true → i < k → Pre ops k i ∨ q.s' = r.s ∨ opU T q.s' r.tm r.o.op = some (r.u, q.s')

structure SeesU (tm₀ : List U) (rs : List RecU) (L : Nat → Prop) (tm : List U) : Prop where
  len : tm.length = tm₀.length
  yes : ∀ (k : Nat) (r : RecU) (d : Nat), rs[k]? = some r → r.o.dst = some d → d < tm₀.length → L k → tm[d]? = some r.u
  no : ∀ (k : Nat) (r : RecU) (d : Nat), rs[k]? = some r → r.o.dst = some d → ¬ L k → tm[d]? = tm₀[d]?
  other : ∀ (t : Nat), (∀ (k : Nat) (r : RecU), rs[k]? = some r → r.o.dst ≠ some t) → tm[t]? = tm₀[t]?

section
variable {P : Program} {T : Tb} (hT : TbOk P T) (ops : Array Oper) {tm₀ : List U} {σ₀ : Sg} {rs : List RecU} {tm' : List U} {σ' : Sg}
  (htr : TrU P T ops.toList tm₀ σ₀ rs tm' σ') (hst : staticOk ops.toList = true)
include htr hst
omit hst in
theorem rsu_at {i : Nat} {o : Oper} (ho : ops.toList[i]? = some o) : ∃ r, rs[i]? = some r ∧ r.o = o := by
  have hi : i < rs.length := by rw [htr.len]; exact (List.getElem?_eq_some_iff.1 ho).1
  have hr : rs[i]? = some rs[i] := by simp [hi]
  refine ⟨_, hr, ?_⟩
  have := (htr.all i _ hr).1
  rw [ho] at this
  exact (Option.some.inj this).symm
theorem dstu_one {i k : Nat} {r q : RecU} (hr : rs[i]? = some r) (hq : rs[k]? = some q) (hik : i ≠ k) {d : Tmp} (hd : q.o.dst = some d) : r.o.dst ≠ some d :=
  (st_pair hst (htr.all i r hr).1 (htr.all k q hq).1 hik hd).1
theorem seesu_put {L : Nat → Prop} {tm : List U} (h : SeesU tm₀ rs L tm) {i : Nat} {r : RecU} (hr : rs[i]? = some r) : SeesU tm₀ rs (fun k => L k ∨ k = i) (putW tm r.o.dst r.u) := by
  cases hd : r.o.dst with
  | none =>
    simp only [putW]
    refine ⟨h.len, fun k q d hq hqd hlt hL => ?_, fun k q d hq hqd hL => h.no k q d hq hqd fun x => hL (.inl x), h.other⟩
    rcases hL with hL | rfl
    · exact h.yes k q d hq hqd hlt hL
    · rw [hr] at hq; cases hq; rw [hd] at hqd; cases hqd
  | some d₀ =>
    simp only [putW]
    refine ⟨by simp [h.len], fun k q d hq hqd hlt hL => ?_, fun k q d hq hqd hL => ?_, fun t ht => ?_⟩
    · by_cases hki : k = i
      · subst hki
        rw [hr] at hq; cases hq
        rw [hd] at hqd; cases hqd
        rw [List.getElem?_set_self (by rw [h.len]; exact hlt)]
      · have hne : d₀ ≠ d := fun e => by
          have := dstu_one ops htr hst hr hq (fun x => hki x.symm) hqd
          exact this (by rw [hd, e])
        rw [List.getElem?_set_ne hne]
        rcases hL with hL | hL
        · exact h.yes k q d hq hqd hlt hL
        · exact absurd hL hki
    · have hki : k ≠ i := fun e => hL (.inr e)
      have hne : d₀ ≠ d := fun e => by
        have := dstu_one ops htr hst hr hq (fun x => hki x.symm) hqd
        exact this (by rw [hd, e])
      rw [List.getElem?_set_ne hne]
      exact h.no k q d hq hqd fun x => hL (.inl x)
    · have hne : d₀ ≠ t := fun e => ht i r hr (by rw [hd, e])
      rw [List.getElem?_set_ne hne]
      exact h.other t ht
omit htr hst in
theorem seesu_none : SeesU tm₀ rs (fun _ => False) tm₀ := ⟨rfl, fun _ _ _ _ _ _ h => h.elim, fun _ _ _ _ _ _ => rfl, fun _ _ => rfl⟩
theorem seesu_at (p : Nat) (hp : p ≤ rs.length) : SeesU tm₀ rs (fun k => k < p) (vAt rs tm' p) := by
  induction p with
  | zero =>
    rw [htr.t0]
    have := seesu_none (rs := rs) (tm₀ := tm₀)
    refine ⟨this.len, fun k r d _ _ _ hL => by omega, fun k r d h1 h2 _ => this.no k r d h1 h2 (fun x => x), this.other⟩
  | succ p ih =>
    have hr : rs[p]? = some rs[p] := by simp [show p < rs.length by omega]
    have h5 := (htr.all p _ hr).2.2.2
    have ih' := ih (by omega)
    have e1 : vAt rs tm' p = rs[p].tm := by simp [vAt, hr]
    rw [e1] at ih'
    have := seesu_put ops htr hst ih' hr
    rw [h5]
    refine ⟨this.len, fun k q d a b c hL => this.yes k q d a b c (by omega), fun k q d a b hL => this.no k q d a b (by omega), this.other⟩
omit htr hst in
theorem seesu_same {L : Nat → Prop} {a b : List U} (ha : SeesU tm₀ rs L a) (hb : SeesU tm₀ rs L b) : a = b := by
  apply List.ext_getElem?
  intro t
  by_cases ht : ∀ (k : Nat) (r : RecU), rs[k]? = some r → r.o.dst ≠ some t
  · rw [ha.other t ht, hb.other t ht]
  · have : ∃ (k : Nat) (r : RecU), rs[k]? = some r ∧ r.o.dst = some t := by
      apply Classical.byContradiction
      intro hn
      exact ht fun k r hr hd => hn ⟨k, r, hr, hd⟩
    obtain ⟨k, r, hr, hd⟩ := this
    by_cases hL : L k
    · by_cases hlt : t < tm₀.length
      · rw [ha.yes k r t hr hd hlt hL, hb.yes k r t hr hd hlt hL]
      · rw [List.getElem?_eq_none (by rw [ha.len]; omega), List.getElem?_eq_none (by rw [hb.len]; omega)]
    · rw [ha.no k r t hr hd hL, hb.no k r t hr hd hL]
theorem seesu_looks {L : Nat → Prop} (hL : Closed ops.toList L) {tm : List U} (h : SeesU tm₀ rs L tm) {i : Nat} {r : RecU} (hr : rs[i]? = some r) (hi : ¬ L i)
    (hrd : ∀ o, ops.toList[i]? = some o → ∀ e ∈ o.after.toList, Region.binds .any e = true → L e.on) : ∀ t ∈ looksX ops.toList r.o, tm[t]? = r.tm[t]? := by
  have hil : i < rs.length := (List.getElem?_eq_some_iff.1 hr).1
  have hat := seesu_at ops htr hst i (Nat.le_of_lt hil)
  have e1 : vAt rs tm' i = r.tm := by simp [vAt, hr]
  rw [e1] at hat
  intro (t : Nat) ht
  by_cases hno : ∀ (k : Nat) (q : RecU), rs[k]? = some q → q.o.dst ≠ some t
  · rw [h.other t hno, hat.other t hno]
  · have : ∃ (k : Nat) (q : RecU), rs[k]? = some q ∧ q.o.dst = some t := by
      apply Classical.byContradiction
      intro hn
      exact hno fun k r hr hd => hn ⟨k, r, hr, hd⟩
    obtain ⟨k, q, hq, hd⟩ := this
    have ho := (htr.all i r hr).1
    have hk := (htr.all k q hq).1
    by_cases hik : i = k
    · subst hik
      rw [h.no i q t hq hd hi, hat.no i q t hq hd (by omega)]
    · rcases (st_pair hst ho hk hik hd).2 ht with hp | hp
      · have hLk := ready_pre hst hL hrd hp
        have hlt := pre_lt hst i k hp
        by_cases htl : t < tm₀.length
        · rw [h.yes k q t hq hd htl hLk, hat.yes k q t hq hd htl hlt]
        · rw [List.getElem?_eq_none (by rw [h.len]; omega), List.getElem?_eq_none (by rw [hat.len]; omega)]
      · have hnk : ¬ L k := fun x => hi (closed_pre hst hL k i x hp)
        have hlt := pre_lt hst k i hp
        rw [h.no k q t hq hd hnk, hat.no k q t hq hd (by omega)]
omit hst in
theorem uAt_same {p q : Nat} (hpq : p ≤ q) (hq : q ≤ rs.length) (hno : ∀ (e : Nat) (r : RecU), p ≤ e → e < q → rs[e]? = some r → r.act = false) : uAt rs σ' p = uAt rs σ' q := by
  induction q with
  | zero => have : p = 0 := by omega
            rw [this]
  | succ q ih =>
    rcases Nat.lt_or_ge q p with h | h
    · have : p = q + 1 := by omega
      rw [this]
    · rw [ih h (by omega) fun e r h1 h2 h3 => hno e r h1 (by omega) h3]
      have hr : rs[q]? = some rs[q] := by simp [show q < rs.length by omega]
      obtain ⟨_, g2, g3, _⟩ := htr.all q _ hr
      rw [g3, g2.quiet (hno q _ h (Nat.lt_succ_self _) hr)]
      simp [uAt, hr]
omit htr hst in
/-- the last that acts ahead of p, from i on; the first from p on, ahead of i -/
theorem lastAct {i p : Nat} (h : ∃ (e : Nat) (q : RecU), i < e ∧ e < p ∧ rs[e]? = some q ∧ q.act = true) : ∃ (e : Nat) (q : RecU), i < e ∧ e < p ∧ rs[e]? = some q ∧ q.act = true ∧ ∀ (e' : Nat) (q' : RecU), e < e' → e' < p → rs[e']? = some q' → q'.act = false := by
  obtain ⟨e, q, g1, g2, g3, g5⟩ := h
  have : ∀ (n e : Nat) (q : RecU), p - e = n → i < e → e < p → rs[e]? = some q → q.act = true → ∃ (e : Nat) (q : RecU), i < e ∧ e < p ∧ rs[e]? = some q ∧ q.act = true ∧ ∀ (e' : Nat) (q' : RecU), e < e' → e' < p → rs[e']? = some q' → q'.act = false := by
    intro n
    induction n using Nat.strongRecOn with
    | _ n ihn =>
      intro e q hne g1 g2 g3 g5
      by_cases hmore : ∃ (e' : Nat) (q' : RecU), e < e' ∧ e' < p ∧ rs[e']? = some q' ∧ q'.act = true
      · obtain ⟨e', q', k1, k2, k3, k4⟩ := hmore
        exact ihn (p - e') (by omega) e' q' rfl (by omega) k2 k3 k4
      · exact ⟨e, q, g1, g2, g3, g5, fun e' q' k1 k2 k3 => by cases hb : q'.act with | false => rfl | true => exact absurd ⟨e', q', k1, k2, k3, hb⟩ hmore⟩
  exact this _ e q rfl g1 g2 g3 g5
omit htr hst in
theorem firstAct {i p : Nat} (h : ∃ (e : Nat) (q : RecU), p ≤ e ∧ e < i ∧ rs[e]? = some q ∧ q.act = true) : ∃ (e : Nat) (q : RecU), p ≤ e ∧ e < i ∧ rs[e]? = some q ∧ q.act = true ∧ ∀ (e' : Nat) (q' : RecU), p ≤ e' → e' < e → rs[e']? = some q' → q'.act = false := by
  obtain ⟨e, q, g1, g2, g3, g5⟩ := h
  have : ∀ (e : Nat) (q : RecU), p ≤ e → e < i → rs[e]? = some q → q.act = true → ∃ (e : Nat) (q : RecU), p ≤ e ∧ e < i ∧ rs[e]? = some q ∧ q.act = true ∧ ∀ (e' : Nat) (q' : RecU), p ≤ e' → e' < e → rs[e']? = some q' → q'.act = false := by
    intro e
    induction e using Nat.strongRecOn with
    | _ e ihn =>
      intro q g1 g2 g3 g5
      by_cases hmore : ∃ (e' : Nat) (q' : RecU), p ≤ e' ∧ e' < e ∧ rs[e']? = some q' ∧ q'.act = true
      · obtain ⟨e', q', k1, k2, k3, k4⟩ := hmore
        exact ihn e' k2 q' k1 (by omega) k3 k4
      · exact ⟨e, q, g1, g2, g3, g5, fun e' q' k1 k2 k3 => by cases hb : q'.act with | false => rfl | true => exact absurd ⟨e', q', k1, k2, k3, hb⟩ hmore⟩
  exact this e q g1 g2 g3 g5

variable (hch : ChU T ops.toList rs)
include hT hch
theorem anyU_ok {n0 : Nat} {F : Nat → Blk → Prop} {x0 : Cx} {m0 : Nm} {w0 : World} {E : Exit → Act → World → Prop} {df : List Deferred} (hQ : ∀ y tv m w a, y.σ = σ' → St F y tm' tv m w a → Adv m0 x0.s w0 m y.s w → Ke n0 x0 y → n0 ≤ y.σ.nx → a.defers = df → E .normal a w) :
    ∀ (fuel : Nat) (listed : Array Bool) (a : Act) (w : World) (m : Nm) (p : Nat) (tm : List U) (tv : List Value) (x : Cx), listed.size = ops.size → listed.toList.count false = fuel →
      Closed ops.toList (fun k => listed.getD k false = true) → SeesU tm₀ rs (fun k => listed.getD k false = true) tm → p ≤ rs.length →
      (∀ (e : Nat) (r : RecU), rs[e]? = some r → r.act = true → (listed.getD e false = true ↔ e < p)) → x.σ = uAt rs σ' p → St F x tm tv m w a → Adv m0 x0.s w0 m x.s w → Ke n0 x0 x → n0 ≤ x.σ.nx → a.defers = df →
      wpAny P .any ops E fuel listed a w := by
  have hn : rs.length = ops.size := by simpa using htr.len
  intro fuel
  induction fuel with
  | zero =>
    intro listed a w m p tm tv x hsz hcnt hcl hsees hp hacts hxσ hstt hadv hke hnx hdf
    have hall : ∀ k, k < ops.size → listed.getD k false = true := fun k hk => by
      have hk' : k < listed.size := by omega
      have : listed[k] ≠ false := fun hf => by
        have hm : false ∈ listed.toList := by rw [← hf]; simp
        have := List.count_pos_iff.2 hm
        omega
      have this' : listed[k] = true := by simpa using this
      simp [Array.getD, hk', this']
    have hready : Region.ready .any ops listed = [] := by
      apply List.filter_eq_nil_iff.2
      intro k hk
      simp only [List.mem_range] at hk
      have hk' : k < listed.size := by omega
      have := hall k hk
      simp [Array.getD, hk'] at this
      simp [Array.getD, hk', this]
    refine ⟨hready, ?_⟩
    have es : uAt rs σ' p = σ' := by
      rw [uAt_same ops htr hp (Nat.le_refl _) fun e r h1 h2 h3 => by
        cases hb : r.act with
        | false => rfl
        | true =>
          have := (hacts e r h3 hb).1 (hall e (by omega))
          omega]
      simp [uAt]
    have et : tm = tm' := by
      have h1 := seesu_at ops htr hst rs.length (Nat.le_refl _)
      have e1 : vAt rs tm' rs.length = tm' := by simp [vAt]
      rw [e1] at h1
      refine seesu_same (L := fun k => k < rs.length) ⟨hsees.len, fun k r d g1 g2 g3 g4 => hsees.yes k r d g1 g2 g3 (hall k (by omega)), fun k r d g1 g2 g3 => ?_, hsees.other⟩ h1
      have := (List.getElem?_eq_some_iff.1 g1).1
      exact absurd this g3
    rw [et] at hstt
    exact hQ x tv m w a (hxσ.trans es) hstt hadv hke hnx hdf
  | succ fuel ih =>
    intro listed a w m p tm tv x hsz hcnt hcl hsees hp hacts hxσ hstt hadv hke hnx hdf
    have mem_ready : ∀ i, i ∈ Region.ready .any ops listed ↔ i < ops.size ∧ listed.getD i true = false ∧ ∃ o, ops[i]? = some o ∧ ∀ e ∈ o.after.toList, Region.binds .any e = true → listed.getD e.on false = true := by
      intro i
      unfold Region.ready
      rw [List.mem_filter, List.mem_range]
      refine and_congr_right fun hi => ?_
      have ho : ops[i]? = some ops[i] := by simp [hi]
      simp only [ho, Option.map_some, Option.getD_some, Bool.and_eq_true, Bool.not_eq_true', Array.all_eq_true_iff_forall_mem, Bool.or_eq_true]
      refine and_congr_right fun _ => ?_
      constructor
      · intro h
        refine ⟨_, rfl, fun e he hb => ?_⟩
        rcases h e (by simpa using he) with h1 | h1
        · simp [hb] at h1
        · exact h1
      · rintro ⟨o, ho', h⟩ e he
        cases ho'
        cases hb : Region.binds .any e with
        | false => exact .inl rfl
        | true => exact .inr (h e (by simpa using he) hb)
    refine ⟨fun hnil => ?_, fun i hi => ?_⟩
    · exfalso
      have hex : ∃ i, i < ops.size ∧ listed.getD i true = false := by
        have hpos : 0 < listed.toList.count false := by omega
        obtain ⟨i, hi, e⟩ := List.mem_iff_getElem.1 (List.count_pos_iff.1 hpos)
        simp at hi
        refine ⟨i, by omega, ?_⟩
        simp only [Array.getElem_toList] at e
        simp [Array.getD, hi, e]
      have hmin : ∀ n, n < ops.size → listed.getD n true = false → False := by
        intro n
        induction n using Nat.strongRecOn with
        | _ n ihn =>
          intro hn1 hn2
          have : n ∈ Region.ready .any ops listed := (mem_ready n).2 ⟨hn1, hn2, ops[n], by simp [hn1], fun e he hb => by
            have hlt := st_lt hst (i := n) (o := ops[n]) (by simp [hn1]) e he hb
            have hk' : e.on < listed.size := by omega
            cases hv : listed[e.on] with
            | true => simp [Array.getD, hk', hv]
            | false => exact (ihn e.on hlt (by omega) (by simp [Array.getD, hk', hv])).elim⟩
          rw [hnil] at this
          cases this
      obtain ⟨i, h1, h2⟩ := hex
      exact hmin i h1 h2
    · obtain ⟨hilt, hil, o, ho, hedges⟩ := (mem_ready i).1 hi
      have hisz : i < listed.size := by omega
      have hLi : ¬ listed.getD i false = true := by
        simp [Array.getD, hisz] at hil ⊢
        exact hil
      have hol : ops.toList[i]? = some o := by simpa using ho
      obtain ⟨r, hr, hro⟩ := rsu_at ops htr hol
      subst hro
      have hrd : ∀ q, ops.toList[i]? = some q → ∀ e ∈ q.after.toList, Region.binds .any e = true → listed.getD e.on false = true := fun q hq => by
        rw [hol] at hq; cases hq; exact hedges
      have hlooks := seesu_looks ops htr hst hcl hsees hr hLi hrd
      obtain ⟨_, hgood, hs1, _⟩ := htr.all i r hr
      have hsi : uAt rs σ' i = r.s := by simp [uAt, hr]
      have hget : ∀ k, ((listed.setIfInBounds i true).getD k false = true) ↔ (listed.getD k false = true ∨ k = i) := fun k => by
        by_cases hk : k = i
        · subst hk; simp [Array.getD, hisz]
        · by_cases hks : k < listed.size
          · simp [Array.getD, hks, hk, Ne.symm hk]
          · simp [Array.getD, hks, hk]
      have hcl' : Closed ops.toList (fun k => (listed.setIfInBounds i true).getD k false = true) := fun k q hk hq e he hb => by
        refine (hget e.on).2 (.inl ?_)
        rcases (hget k).1 hk with hk | rfl
        · exact hcl k q hk hq e he hb
        · exact hrd q hq e he hb
      have hsees' : SeesU tm₀ rs (fun k => (listed.setIfInBounds i true).getD k false = true) (putW tm r.o.dst r.u) := by
        have := seesu_put ops htr hst hsees hr
        exact ⟨this.len, fun k q d a b c hL => this.yes k q d a b c ((hget k).1 hL), fun k q d a b hL => this.no k q d a b fun x => hL ((hget k).2 x), this.other⟩
      have hcnt' : (listed.setIfInBounds i true).toList.count false = fuel := by
        have hv : listed[i] = false := by simpa [Array.getD, hisz] using hil
        rw [Array.toList_setIfInBounds, List.count_set (by simpa using hisz)]
        have hc2 : Array.count false listed = fuel + 1 := by simpa using hcnt
        simp [hv]
        omega
      obtain ⟨hopc, hwc⟩ := looksU hlooks
      -- what is left, where nothing acts
      have stay : r.act = false → ∀ y tv' m₁ w₁ a₁, y.σ = uAt rs σ' p → St F y (putW tm r.o.dst r.u) tv' m₁ w₁ a₁ → Adv m0 x0.s w0 m₁ y.s w₁ → Ke n0 x0 y → n0 ≤ y.σ.nx → a₁.defers = df → wpAny P .any ops E fuel (listed.setIfInBounds i true) a₁ w₁ := fun hk y tv' m₁ w₁ a₁ h1 h2 h3 h4 h5 h6 => by
        refine ih _ _ _ m₁ p _ tv' y (by simpa using hsz) hcnt' hcl' hsees' hp (fun e q hq hqk => ?_) h1 h2 h3 h4 h5 h6
        rw [hget]
        by_cases hei : e = i
        · subst hei; rw [hr] at hq; cases hq; rw [hk] at hqk; cases hqk
        · simp only [hei, or_false]; exact hacts e q hq hqk
      -- what is left behind an act
      have past : r.act = true → uAt rs σ' p = r.s ∧ ∀ y tv' m₁ w₁ a₁, y.σ = r.s' → St F y (putW tm r.o.dst r.u) tv' m₁ w₁ a₁ → Adv m0 x0.s w0 m₁ y.s w₁ → Ke n0 x0 y → n0 ≤ y.σ.nx → a₁.defers = df → wpAny P .any ops E fuel (listed.setIfInBounds i true) a₁ w₁ := fun hk => by
        have hpi : p ≤ i := by
          rcases Nat.lt_or_ge i p with h | h
          · exact absurd ((hacts i r hr hk).2 h) hLi
          · exact h
        have hil' : i < rs.length := (List.getElem?_eq_some_iff.1 hr).1
        have hbetween : ∀ (e : Nat) (q : RecU), p ≤ e → e < i → rs[e]? = some q → q.act = false := fun e q h1 h2 h3 => by
          cases hb : q.act with
          | false => rfl
          | true =>
            have := ready_pre hst hcl hrd (hch.acts i e r q hr h3 hk hb h2)
            have := (hacts e q h3 hb).1 this
            omega
        refine ⟨(uAt_same ops htr hpi (by omega) hbetween).trans hsi, fun y tv' m₁ w₁ a₁ h1 h2 h3 h4 h5 h6 => ?_⟩
        refine ih _ _ _ m₁ (i + 1) _ tv' y (by simpa using hsz) hcnt' hcl' hsees' (by omega) (fun e q hq hqk => ?_) (h1.trans hs1.symm) h2 h3 h4 h5 h6
        rw [hget]
        by_cases hei : e = i
        · subst hei; simp
        · simp only [hei, or_false]
          constructor
          · intro hLe
            have := (hacts e q hq hqk).1 hLe
            omega
          · intro hlt
            exact ready_pre hst hcl hrd (hch.acts i e r q hr hq hk hqk (by omega))
      unfold wpOp
      simp only [ho]
      rw [wanted_ok (hstt.act m (Agree.refl _ _)) ops r.o]
      rcases hgood with ⟨hw, hu, ha, _⟩ | ⟨hw, hop, hqu⟩ | ⟨hw, ha, f, args, hcall, hev⟩ | ⟨hw, ha, _, f, args, hcall, hev⟩
      · rw [wantedU_ok hstt.e (hwc.trans hw)]
        simp only [Bool.false_eq_true, if_false]
        rw [hu] at stay
        exact stay ha x _ m w _ hxσ (hstt.skip r.o.dst) hadv hke hnx ((put_defers _ _ _).trans hdf)
      · rw [wantedU_ok hstt.e (hwc.trans hw)]
        simp only [if_true]
        left
        cases ha : r.act with
        | true =>
          obtain ⟨hp1, hp2⟩ := past ha
          have hop' : opU T x.σ tm r.o.op = some (r.u, r.s') := by rw [hxσ, hp1, opU_congr hopc]; exact hop
          exact hstt.op hT r.o hop' fun y tv' m₁ w₁ a₁ e1 st' hadv' hke' hnx' hdf' => hp2 y tv' m₁ w₁ a₁ e1 st' (hadv.trans hadv') (hke.trans (hke'.le hnx)) (by omega) (hdf'.trans hdf)
        | false =>
          have hss := hqu ha
          have hval : opU T (uAt rs σ' p) r.tm r.o.op = some (r.u, uAt rs σ' p) := by
            rcases Nat.lt_or_ge i p with hip | hip
            · by_cases hex : ∃ (e : Nat) (q : RecU), i < e ∧ e < p ∧ rs[e]? = some q ∧ q.act = true
              · obtain ⟨e, q, g1, g2, g3, g5, g6⟩ := lastAct hex
                have es : uAt rs σ' (e + 1) = uAt rs σ' p := uAt_same ops htr (by omega) hp fun e' q' k1 k2 k3 => g6 e' q' (by omega) k2 k3
                have eq' : uAt rs σ' (e + 1) = q.s' := (htr.all e q g3).2.2.1
                rw [← es, eq']
                rcases hch.hi i e r q hr g3 ha hw hop g5 g1 with k4 | k4 | k4
                · have hLe : listed.getD e false = true := (hacts e q g3 g5).2 g2
                  exact absurd (closed_pre hst hcl e i hLe k4) hLi
                · rw [k4, hop, hss]
                · exact k4
              · have es : uAt rs σ' i = uAt rs σ' p := uAt_same ops htr (by omega) hp fun e q k1 k2 k3 => by
                  rcases Nat.lt_or_ge i e with h | h
                  · cases hb : q.act with
                    | false => rfl
                    | true => exact absurd ⟨e, q, h, k2, k3, hb⟩ hex
                  · have : e = i := by omega
                    subst this; rw [hr] at k3; cases k3; exact ha
                rw [← es, hsi, hop, hss]
            · by_cases hex : ∃ (e : Nat) (q : RecU), p ≤ e ∧ e < i ∧ rs[e]? = some q ∧ q.act = true
              · obtain ⟨e, q, g1, g2, g3, g5, g6⟩ := firstAct hex
                have es : uAt rs σ' p = uAt rs σ' e := uAt_same ops htr g1 (by have := (List.getElem?_eq_some_iff.1 g3).1; omega) fun e' q' k1 k2 k3 => g6 e' q' k1 k2 k3
                have eq' : uAt rs σ' e = q.s := by simp [uAt, g3]
                rw [es, eq']
                rcases hch.lo i e r q hr g3 ha hw hop g5 g2 with k4 | k4 | k4
                · have hLe := ready_pre hst hcl hrd k4
                  have := (hacts e q g3 g5).1 hLe
                  omega
                · rw [k4, hop, hss]
                · exact k4
              · have es : uAt rs σ' p = uAt rs σ' i := uAt_same ops htr hip (by have := (List.getElem?_eq_some_iff.1 hr).1; omega) fun e q k1 k2 k3 => by
                  cases hb : q.act with
                  | false => rfl
                  | true => exact absurd ⟨e, q, k1, k2, k3, hb⟩ hex
                rw [es, hsi, hop, hss]
          have hop' : opU T x.σ tm r.o.op = some (r.u, uAt rs σ' p) := by rw [hxσ, opU_congr hopc]; exact hval
          exact hstt.op hT r.o hop' fun y tv' m₁ w₁ a₁ e1 st' hadv' hke' hnx' hdf' => stay ha y tv' m₁ w₁ a₁ e1 st' (hadv.trans hadv') (hke.trans (hke'.le hnx)) (by omega) (hdf'.trans hdf)
      · rw [wantedU_ok hstt.e (hwc.trans hw)]
        simp only [if_true]
        left
        obtain ⟨hp1, hp2⟩ := past ha
        have hev' : EvU P f args x.σ (fun u σ => u = r.u ∧ σ = r.s') := by rw [hxσ, hp1]; exact hev
        refine hstt.call hT r.o ((callU_congr hopc).trans hcall) hev' fun y u tv' m₁ w₁ a₁ hR st' hadv' hke' hnx' hdf' => ?_
        obtain ⟨rfl, hR2⟩ := hR
        exact hp2 y tv' m₁ w₁ a₁ hR2 st' (hadv.trans hadv') (hke.trans (hke'.le hnx)) (by omega) (hdf'.trans hdf)
      · rw [wantedU_ok hstt.e (hwc.trans hw)]
        simp only [if_true]
        left
        refine hstt.call hT r.o ((callU_congr hopc).trans hcall) (hev x.σ) fun y u tv' m₁ w₁ a₁ hR st' hadv' hke' hnx' hdf' => ?_
        obtain ⟨rfl, hR2⟩ := hR
        exact stay ha y tv' m₁ w₁ a₁ (hR2.trans hxσ) st' (hadv.trans hadv') (hke.trans (hke'.le hnx)) (by omega) (hdf'.trans hdf)
end
end Go.Vx
