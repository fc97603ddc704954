/-
  VxR: regions that draw their order, where a fresh block need not be ordered against a look that does not see it: by evaluation of the pairs.
-/
import Derived.Test.YtcanbnholmlapaaVxQ
namespace Go.Vx
open Go Go.Rx
set_option linter.unusedVariables false

/-- the kinds: 0 left out, 1 looks, 2 acts, 3 moves -/
abbrev RK := Nat × RecU
def RH (P : Program) (T : Tb) (ops : List Oper) : List Oper → List U → Sg → List RK → (List RK → List U → Sg → Prop) → Prop
  | [], tm, σ, acc, K => K acc tm σ
  | o :: r, tm, σ, acc, K =>
    (wantedU ops tm o = some true ∧ ∃ u, opU T σ tm o.op = some (u, σ) ∧ RH P T ops r (putW tm o.dst u) σ ((1, ⟨tm, o, u, false, false, σ, σ⟩) :: acc) K) ∨
    (wantedU ops tm o = some true ∧ ∃ u σ', opU T σ tm o.op = some (u, σ') ∧ RH P T ops r (putW tm o.dst u) σ' ((3, ⟨tm, o, u, true, true, σ, σ'⟩) :: acc) K) ∨
    (wantedU ops tm o = some true ∧ ∃ f args u, callU T tm o.op = some (f, args) ∧ EvU P f args σ (fun u' σ' => u' = u ∧ σ' = σ) ∧ RH P T ops r (putW tm o.dst u) σ ((2, ⟨tm, o, u, true, false, σ, σ⟩) :: acc) K) ∨
    (wantedU ops tm o = some true ∧ ∃ f args u σ', callU T tm o.op = some (f, args) ∧ EvU P f args σ (fun u' s' => u' = u ∧ s' = σ') ∧ RH P T ops r (putW tm o.dst u) σ' ((3, ⟨tm, o, u, true, true, σ, σ'⟩) :: acc) K) ∨
    (wantedU ops tm o = some false ∧ RH P T ops r (putW tm o.dst (.tup [])) σ ((0, ⟨tm, o, .tup [], false, false, σ, σ⟩) :: acc) K) ∨
    (wantedU ops tm o = some true ∧ ∃ f args u, callU T tm o.op = some (f, args) ∧ (∀ s, EvU P f args s (fun u' σ' => u' = u ∧ σ' = s)) ∧ RH P T ops r (putW tm o.dst u) σ ((0, ⟨tm, o, u, false, false, σ, σ⟩) :: acc) K)
theorem call_noop {T : Tb} {σ : Sg} {tm : List U} {op : Op} {q : FuncId × List U} (h : callU T tm op = some q) : opU T σ tm op = none := by
  cases op with
  | call c =>
    simp only [callU] at h
    cases hc : c.callee with
    | value f => simp [opU, pureU, readU, effU, hc]
    | _ => simp [hc] at h
  | _ => simp [callU] at h
def kindOk (T : Tb) (ops : List Oper) (x : RK) : Prop :=
  (x.1 = 0 ∧ (wantedU ops x.2.tm x.2.o = some false ∨ ∃ q, callU T x.2.tm x.2.o.op = some q) ∧ x.2.act = false ∧ x.2.mv = false) ∨ (x.1 = 1 ∧ x.2.act = false ∧ x.2.mv = false) ∨ (x.1 = 2 ∧ x.2.act = true ∧ x.2.mv = false) ∨ (x.1 = 3 ∧ x.2.act = true ∧ x.2.mv = true)
theorem RD.mono {P : Program} {T : Tb} {ops : List Oper} : ∀ {rest : List Oper} {tm : List U} {σ : Sg} {K K' : List RecU → List U → Sg → Prop}, (∀ rs tm σ, K rs tm σ → K' rs tm σ) → RD P T ops rest tm σ K → RD P T ops rest tm σ K'
  | [], tm, σ, K, K', hk, h => hk _ _ _ h
  | o :: rest, tm, σ, K, K', hk, h => by
    simp only [RD] at h ⊢
    rcases h with ⟨hw, u, h1, h2⟩ | ⟨hw, u, σ1, h1, h2⟩ | ⟨hw, f, args, u, h1, h2, h3⟩ | ⟨hw, f, args, u, σ1, h1, h2, h3⟩ | ⟨hw, h1⟩ | ⟨hw, f, args, u, h1, h2, h3⟩
    · exact .inl ⟨hw, u, h1, RD.mono (fun _ _ _ h => hk _ _ _ h) h2⟩
    · exact .inr (.inl ⟨hw, u, σ1, h1, RD.mono (fun _ _ _ h => hk _ _ _ h) h2⟩)
    · exact .inr (.inr (.inl ⟨hw, f, args, u, h1, h2, RD.mono (fun _ _ _ h => hk _ _ _ h) h3⟩))
    · exact .inr (.inr (.inr (.inl ⟨hw, f, args, u, σ1, h1, h2, RD.mono (fun _ _ _ h => hk _ _ _ h) h3⟩)))
    · exact .inr (.inr (.inr (.inr (.inl ⟨hw, RD.mono (fun _ _ _ h => hk _ _ _ h) h1⟩))))
    · exact .inr (.inr (.inr (.inr (.inr ⟨hw, f, args, u, h1, h2, RD.mono (fun _ _ _ h => hk _ _ _ h) h3⟩))))
theorem RH.rd {P : Program} {T : Tb} {ops : List Oper} : ∀ {rest : List Oper} {tm : List U} {σ : Sg} {acc : List RK} {K : List RK → List U → Sg → Prop}, RH P T ops rest tm σ acc K →
    RD P T ops rest tm σ (fun rs tm' σ' => ∃ ks : List RK, ks.map (·.2) = rs ∧ (∀ x ∈ ks, kindOk T ops x) ∧ K (ks.reverse ++ acc) tm' σ')
  | [], tm, σ, acc, K, h => ⟨[], rfl, by simp, h⟩
  | o :: rest, tm, σ, acc, K, h => by
    have step : ∀ (k : RK), kindOk T ops k → ∀ (rs : List RecU) (tm' : List U) (σ' : Sg), (∃ ks : List RK, ks.map (·.2) = rs ∧ (∀ x ∈ ks, kindOk T ops x) ∧ K (ks.reverse ++ k :: acc) tm' σ') →
        ∃ ks : List RK, ks.map (·.2) = k.2 :: rs ∧ (∀ x ∈ ks, kindOk T ops x) ∧ K (ks.reverse ++ acc) tm' σ' := by
      rintro k hk rs tm' σ' ⟨ks, h1, h2, h3⟩
      refine ⟨k :: ks, by simp [h1], ?_, by simpa using h3⟩
      intro x hx
      rcases List.mem_cons.1 hx with rfl | hx
      · exact hk
      · exact h2 x hx
    simp only [RH] at h
    simp only [RD]
    rcases h with ⟨hw, u, h1, h2⟩ | ⟨hw, u, σ1, h1, h2⟩ | ⟨hw, f, args, u, h1, h2, h3⟩ | ⟨hw, f, args, u, σ1, h1, h2, h3⟩ | ⟨hw, h1⟩ | ⟨hw, f, args, u, h1, h2, h3⟩
    · exact .inl ⟨hw, u, h1, RD.mono (step (1, _) (.inr (.inl ⟨rfl, rfl, rfl⟩))) (RH.rd h2)⟩
    · exact .inr (.inl ⟨hw, u, σ1, h1, RD.mono (step (3, _) (.inr (.inr (.inr ⟨rfl, rfl, rfl⟩)))) (RH.rd h2)⟩)
    · exact .inr (.inr (.inl ⟨hw, f, args, u, h1, h2, RD.mono (step (2, _) (.inr (.inr (.inl ⟨rfl, rfl, rfl⟩)))) (RH.rd h3)⟩))
    · exact .inr (.inr (.inr (.inl ⟨hw, f, args, u, σ1, h1, h2, RD.mono (step (3, _) (.inr (.inr (.inr ⟨rfl, rfl, rfl⟩)))) (RH.rd h3)⟩)))
    · exact .inr (.inr (.inr (.inr (.inl ⟨hw, RD.mono (step (0, _) (.inl ⟨rfl, .inl hw, rfl, rfl⟩)) (RH.rd h1)⟩))))
    · exact .inr (.inr (.inr (.inr (.inr ⟨hw, f, args, u, h1, h2, RD.mono (step (0, _) (.inl ⟨rfl, .inr ⟨_, h1⟩, rfl, rfl⟩)) (RH.rd h3)⟩))))

/- THE CHECK -/
def allI {α : Type} (p : Nat → α → Bool) : Nat → List α → Bool
  | _, [] => true
  | b, x :: l => p b x && allI p (b + 1) l
theorem allI_at {α : Type} {p : Nat → α → Bool} : ∀ {b : Nat} {l : List α}, allI p b l = true → ∀ {j : Nat} {x : α}, l[j]? = some x → p (b + j) x = true
  | b, [], _, j, x, hx => by simp at hx
  | b, y :: l, h, j, x, hx => by
    simp only [allI, Bool.and_eq_true] at h
    cases j with
    | zero => simp at hx; subst hx; exact h.1
    | succ j =>
      simp only [List.getElem?_cons_succ] at hx
      have := allI_at h.2 hx
      rwa [show b + 1 + j = b + (j + 1) by omega] at this
def isM (k : Nat) : Nat := cond (Nat.beq k 3) 1 0
def trip : Nat → List Nat → List Nat → List (Nat × Nat × Nat)
  | c, k :: ks, m :: ms => (k, m, c) :: trip (c + isM k) ks ms
  | _, _, _ => []
def cntM : List Nat → Nat
  | [] => 0
  | k :: ks => isM k + cntM ks
theorem trip_at : ∀ (ks ms : List Nat) (c j k m : Nat), ks[j]? = some k → ms[j]? = some m → (trip c ks ms)[j]? = some (k, m, c + cntM (ks.take j))
  | [], _, c, j, k, m, h, _ => by simp at h
  | _ :: _, [], c, j, k, m, _, h => by simp at h
  | k0 :: ks, m0 :: ms, c, 0, k, m, h1, h2 => by simp at h1 h2; subst h1; subst h2; simp [trip, cntM]
  | k0 :: ks, m0 :: ms, c, j + 1, k, m, h1, h2 => by
    simp only [List.getElem?_cons_succ] at h1 h2
    simp only [trip, List.getElem?_cons_succ, List.take_succ_cons, cntM]
    rw [trip_at ks ms _ j k m h1 h2]
    simp only [Nat.add_assoc]
def memP (i k : Nat) : List (Nat × Nat) → Bool
  | [] => false
  | p :: l => (Nat.beq i p.1 && Nat.beq k p.2) || memP i k l
theorem memP_of {i k : Nat} : ∀ {l : List (Nat × Nat)}, memP i k l = true → (i, k) ∈ l
  | [], h => by simp [memP] at h
  | p :: l, h => by
    simp only [memP, Bool.or_eq_true, Bool.and_eq_true] at h
    rcases h with ⟨h1, h2⟩ | h
    · rw [Nat.eq_of_beq_eq_true h1, Nat.eq_of_beq_eq_true h2]; simp
    · exact List.mem_cons_of_mem _ (memP_of h)
def okE (pr : List (Nat × Nat)) (i : Nat) (a : Nat × Nat × Nat) (k : Nat) (b : Nat × Nat × Nat) : Bool :=
  cond (Nat.ble 2 b.1)
    (cond (Nat.ble 2 a.1)
      (cond (Nat.blt k i) (Nat.testBit a.2.1 k) true)
      (cond (Nat.beq a.1 1)
        (cond (Nat.blt k i) (Nat.testBit a.2.1 k || (Nat.beq b.2.2 a.2.2 || memP i k pr)) (Nat.testBit b.2.1 i || (Nat.beq a.2.2 (b.2.2 + isM b.1) || memP i k pr)))
        true))
    true
def flE (ops : List Oper) (ks : List Nat) (pr : List (Nat × Nat)) : Bool :=
  let L := trip 0 ks (masks ops [])
  allI (fun i a => allI (fun k b => okE pr i a k b) 0 L) 0 L
/-- one pair: the look comes to the same at the other's place -/
def lookOk (T : Tb) (ks : List RK) (p : Nat × Nat) : Prop := match nth ks p.1, nth ks p.2 with
  | some r, some q => cond (Nat.blt p.2 p.1) (opU T q.2.s r.2.tm r.2.o.op = some (r.2.u, q.2.s)) (opU T q.2.s' r.2.tm r.2.o.op = some (r.2.u, q.2.s'))
  | _, _ => False
def pairsOk (T : Tb) (ks : List RK) : List (Nat × Nat) → Prop
  | [] => True
  | p :: l => lookOk T ks p ∧ pairsOk T ks l
theorem pairsOk_mem {T : Tb} {ks : List RK} : ∀ {l : List (Nat × Nat)}, pairsOk T ks l → ∀ p ∈ l, lookOk T ks p
  | [], _, p, hp => by cases hp
  | q :: l, h, p, hp => by
    rcases List.mem_cons.1 hp with rfl | hp
    · exact h.1
    · exact pairsOk_mem h.2 p hp
theorem cnt_none {ks : List Nat} : ∀ {q p : Nat}, p ≤ q → q ≤ ks.length → cntM (ks.take p) = cntM (ks.take q) → ∀ (e k : Nat), p ≤ e → e < q → ks[e]? = some k → k ≠ 3
  | q, p, hpq, hq, h, e, k, h1, h2, h3 => by
    have mono : ∀ (l : List Nat) (a b : Nat), a ≤ b → cntM (l.take a) ≤ cntM (l.take b) := by
      intro l
      induction l with
      | nil => intro a b _; simp [cntM]
      | cons x l ih =>
        intro a b hab
        cases a with
        | zero => simp [cntM]
        | succ a =>
          cases b with
          | zero => omega
          | succ b => simp only [List.take_succ_cons, cntM]; have := ih a b (by omega); omega
    have succ : ∀ (l : List Nat) (a k : Nat), l[a]? = some k → cntM (l.take (a + 1)) = cntM (l.take a) + isM k := by
      intro l
      induction l with
      | nil => intro a k h; simp at h
      | cons x l ih =>
        intro a k h
        cases a with
        | zero => simp at h; subst h; simp [cntM]
        | succ a => simp only [List.getElem?_cons_succ] at h; simp only [List.take_succ_cons, cntM]; rw [ih a k h]; omega
    intro hk
    have a1 := mono ks p e h1
    have a2 := succ ks e k h3
    have a3 := mono ks (e + 1) q (by omega)
    rw [hk] at a2
    have : isM 3 = 1 := rfl
    omega

section
variable {P : Program} {T : Tb} (hT : TbOk P T) {n0 : Nat} {Q : Exit → List U → Sg → Prop} {tm : List U} {σ : Sg}
include hT
theorem WPU.drawE {id : Nat} {ops : Array Oper} (pr : List (Nat × Nat)) (hst : staticOk ops.toList = true)
    (h : RH P T ops.toList ops.toList tm σ [] (fun ks tm' σ' => flE ops.toList (ks.reverse.map (·.1)) pr = true ∧ pairsOk T ks.reverse pr ∧ Q .normal tm' σ')) : WPU P n0 (.region id ops true) tm σ Q := by
  obtain ⟨rs, tm', σ', ⟨ks, hks, hkk, hfl, hpr, hQ⟩, g2, g3, g4, g5⟩ := rd_ok _ _ _ _ (RH.rd h)
  simp only [List.append_nil, List.reverse_reverse] at hfl hpr
  have htr : TrU P T ops.toList tm σ rs tm' σ' := ⟨g2, g3, g4, fun i r hr => by obtain ⟨a, b, c, d, _⟩ := g5 i r hr; exact ⟨a, b, c, d⟩⟩
  have same : ∀ (p q : Nat), p ≤ q → q ≤ rs.length → (∀ (e : Nat) (r : RecU), p ≤ e → e < q → rs[e]? = some r → r.mv = false) → uAt rs σ' p = uAt rs σ' q := by
    intro p q hpq hq hno
    induction q with
    | zero => have : p = 0 := by omega
              rw [this]
    | succ q ih =>
      rcases Nat.lt_or_ge q p with h | h
      · have : p = q + 1 := by omega
        rw [this]
      · rw [ih h (by omega) fun e r h1 h2 h3 => hno e r h1 (by omega) h3]
        have hr : rs[q]? = some rs[q] := by simp [show q < rs.length by omega]
        obtain ⟨_, _, k3, _, k5, _⟩ := g5 q _ hr
        rw [k3, k5 (hno q _ h (Nat.lt_succ_self _) hr)]
        simp [uAt, hr]
  have hlen : ks.length = rs.length := by rw [← hks]; simp
  -- what stands at a place
  have at_ : ∀ (i : Nat) (r : RecU), rs[i]? = some r → ∃ k, ks[i]? = some (k, r) ∧ kindOk T ops.toList (k, r) := by
    intro i r hr
    rw [← hks] at hr
    simp only [List.getElem?_map] at hr
    cases hk : ks[i]? with
    | none => rw [hk] at hr; simp at hr
    | some x =>
      obtain ⟨k, r'⟩ := x
      rw [hk] at hr; simp at hr; subst hr
      exact ⟨k, rfl, hkk _ (List.mem_of_getElem? hk)⟩
  have trp : ∀ (i k : Nat) (r : RecU), ks[i]? = some (k, r) → ∃ m, (masks ops.toList [])[i]? = some m ∧ (trip 0 (ks.map (·.1)) (masks ops.toList []))[i]? = some (k, m, cntM ((ks.map (·.1)).take i)) := by
    intro i k r hk
    obtain ⟨m1, _, _⟩ := masks_get ops.toList []
    have hi : i < ops.toList.length := by rw [← g2, ← hlen]; exact (List.getElem?_eq_some_iff.1 hk).1
    have hm : i < (masks ops.toList []).length := by rw [m1]; simpa using hi
    refine ⟨(masks ops.toList [])[i], by simp [hm], ?_⟩
    have := trip_at (ks.map (·.1)) (masks ops.toList []) 0 i k _ (by simp [hk]) (show (masks ops.toList [])[i]? = some (masks ops.toList [])[i] by simp [hm])
    rwa [Nat.zero_add] at this
  have chk : ∀ (i k ki kk : Nat) (r q : RecU), ks[i]? = some (ki, r) → ks[k]? = some (kk, q) → ∃ mi mk, (masks ops.toList [])[i]? = some mi ∧ (masks ops.toList [])[k]? = some mk ∧
      okE pr i (ki, mi, cntM ((ks.map (·.1)).take i)) k (kk, mk, cntM ((ks.map (·.1)).take k)) = true := by
    intro i k ki kk r q hi hk
    obtain ⟨mi, e1, e2⟩ := trp i ki r hi
    obtain ⟨mk, e3, e4⟩ := trp k kk q hk
    refine ⟨mi, mk, e1, e3, ?_⟩
    have h1 := allI_at hfl e2
    have h2 := allI_at h1 e4
    simpa using h2
  have nomv : ∀ (p q : Nat), p ≤ q → q ≤ rs.length → cntM ((ks.map (·.1)).take p) = cntM ((ks.map (·.1)).take q) → uAt rs σ' p = uAt rs σ' q := by
    intro p q hpq hq hc
    refine same p q hpq hq fun e r h1 h2 h3 => ?_
    obtain ⟨k, hk, hkd⟩ := at_ e r h3
    have := cnt_none hpq (by simp; omega) hc e k h1 h2 (by simp [hk])
    rcases hkd with h | h | h | h
    · exact h.2.2.2
    · exact h.2.2
    · exact h.2.2
    · exact absurd h.1 this
  have kact : ∀ (i : Nat) (r : RecU), rs[i]? = some r → r.act = true → ∃ k, ks[i]? = some (k, r) ∧ Nat.ble 2 k = true := by
    intro i r hr ha
    obtain ⟨k, hk, hkd⟩ := at_ i r hr
    refine ⟨k, hk, ?_⟩
    rcases hkd with h | h | h | h
    · have := h.2.2.1; simp only [] at this; rw [ha] at this; cases this
    · have := h.2.1; simp only [] at this; rw [ha] at this; cases this
    · have := h.1; simp only [] at this; subst this; rfl
    · have := h.1; simp only [] at this; subst this; rfl
  have kqu : ∀ (i : Nat) (r : RecU), rs[i]? = some r → r.act = false → wantedU ops.toList r.tm r.o = some true → opU T r.s r.tm r.o.op = some (r.u, r.s') → ks[i]? = some (1, r) := by
    intro i r hr ha hw hl
    obtain ⟨k, hk, hkd⟩ := at_ i r hr
    rcases hkd with h | h | h | h
    · rcases h.2.1 with h' | ⟨q, h'⟩
      · simp only [] at h'; rw [hw] at h'; cases h'
      · have := call_noop (σ := r.s) h'; simp only [] at this; rw [hl] at this; cases this
    · have := h.1; simp only [] at this; subst this; exact hk
    · have := h.2.1; simp only [] at this; rw [ha] at this; cases this
    · have := h.2.1; simp only [] at this; rw [ha] at this; cases this
  have succ : ∀ (l : List Nat) (a k : Nat), l[a]? = some k → cntM (l.take (a + 1)) = cntM (l.take a) + isM k := by
    intro l
    induction l with
    | nil => intro a k h; simp at h
    | cons x l ih =>
      intro a k h
      cases a with
      | zero => simp at h; subst h; simp [cntM]
      | succ a => simp only [List.getElem?_cons_succ] at h; simp only [List.take_succ_cons, cntM]; rw [ih a k h]; omega
  refine WPU.drawn hT hst htr ⟨fun i k r q hr hq ha hb hlt => ?_, fun i k r q hr hq ha hw hl hb hlt => ?_, fun i k r q hr hq ha hw hl hb hlt => ?_⟩ hQ
  · obtain ⟨ki, h1, h2⟩ := kact i r hr ha
    obtain ⟨kk, h3, h4⟩ := kact k q hq hb
    obtain ⟨mi, mk, e1, e2, e3⟩ := chk i k ki kk r q h1 h3
    simp only [okE, h2, h4, cond_true, blt_of hlt] at e3
    exact ⟨mi, e1, e3⟩
  · have h1 := kqu i r hr ha hw hl
    obtain ⟨kk, h3, h4⟩ := kact k q hq hb
    obtain ⟨mi, mk, e1, e2, e3⟩ := chk i k 1 kk r q h1 h3
    have hb1 : Nat.ble 2 1 = false := rfl
    have hb2 : Nat.beq 1 1 = true := rfl
    simp only [okE, hb1, hb2, h4, cond_true, cond_false, blt_of hlt, Bool.or_eq_true] at e3
    rcases e3 with e3 | e3 | e3
    · exact .inl ⟨mi, e1, e3⟩
    · have := nomv k i (by omega) (by have := (List.getElem?_eq_some_iff.1 hr).1; omega) (Nat.eq_of_beq_eq_true e3)
      exact .inr (.inl (by simpa [uAt, hr, hq] using this))
    · have := pairsOk_mem hpr _ (memP_of e3)
      simp only [lookOk, nth_eq, h1, h3, blt_of hlt, cond_true] at this
      exact .inr (.inr this)
  · have h1 := kqu i r hr ha hw hl
    obtain ⟨kk, h3, h4⟩ := kact k q hq hb
    obtain ⟨mi, mk, e1, e2, e3⟩ := chk i k 1 kk r q h1 h3
    have hb1 : Nat.ble 2 1 = false := rfl
    have hb2 : Nat.beq 1 1 = true := rfl
    simp only [okE, hb1, hb2, h4, cond_true, cond_false, blt_not (show ¬ k < i by omega), Bool.or_eq_true] at e3
    rcases e3 with e3 | e3 | e3
    · exact .inl ⟨mk, e2, e3⟩
    · have hc : cntM ((ks.map (·.1)).take i) = cntM ((ks.map (·.1)).take (k + 1)) := by
        rw [succ _ k kk (by simp [h3])]; exact Nat.eq_of_beq_eq_true e3
      have := nomv i (k + 1) (by omega) (by have := (List.getElem?_eq_some_iff.1 hq).1; omega) hc
      have h2 := (htr.all k q hq).2.2.1
      rw [h2] at this
      exact .inr (.inl (by simpa [uAt, hr] using this.symm))
    · have := pairsOk_mem hpr _ (memP_of e3)
      simp only [lookOk, nth_eq, h1, h3, blt_not (show ¬ k < i by omega), cond_false] at this
      exact .inr (.inr this)
end

/- BY EVALUATION -/
structure MidE where
  rest : List Oper
  tm : List U
  σ : Sg
  acc : List RK
def stepsE (T : Tb) (ops : List Oper) : List Oper → List U → Sg → List RK → MidE
  | [], tm, σ, acc => ⟨[], tm, σ, acc⟩
  | o :: r, tm, σ, acc => match wantedU ops tm o with
    | some true => (match pureU T σ tm o.op with
      | some u => stepsE T ops r (putW tm o.dst u) σ ((1, ⟨tm, o, u, false, false, σ, σ⟩) :: acc)
      | none => match readU T σ tm o.op with
        | some u => stepsE T ops r (putW tm o.dst u) σ ((1, ⟨tm, o, u, false, false, σ, σ⟩) :: acc)
        | none => match effU T σ tm o.op with
          | some (u, σ') => stepsE T ops r (putW tm o.dst u) σ' ((3, ⟨tm, o, u, true, true, σ, σ'⟩) :: acc)
          | none => ⟨o :: r, tm, σ, acc⟩)
    | some false => stepsE T ops r (putW tm o.dst (.tup [])) σ ((0, ⟨tm, o, .tup [], false, false, σ, σ⟩) :: acc)
    | none => ⟨o :: r, tm, σ, acc⟩
theorem RH.steps {P : Program} {T : Tb} {ops rest : List Oper} {tm : List U} {σ : Sg} {acc : List RK} {K : List RK → List U → Sg → Prop} {m : MidE} (h : stepsE T ops rest tm σ acc = m) (hr : RH P T ops m.rest m.tm m.σ m.acc K) : RH P T ops rest tm σ acc K := by
  subst h
  induction rest generalizing tm σ acc with
  | nil => exact hr
  | cons o r ih =>
    simp only [stepsE] at hr
    cases hw : wantedU ops tm o with
    | none => simp only [hw] at hr; exact hr
    | some b =>
      cases b with
      | false =>
        simp only [hw] at hr
        exact .inr (.inr (.inr (.inr (.inl ⟨hw, ih hr⟩))))
      | true =>
        simp only [hw] at hr
        cases h1 : pureU T σ tm o.op with
        | some u =>
          simp only [h1] at hr
          exact .inl ⟨hw, u, by simp [opU, h1], ih hr⟩
        | none =>
          simp only [h1] at hr
          cases h2 : readU T σ tm o.op with
          | some u =>
            simp only [h2] at hr
            exact .inl ⟨hw, u, by simp [opU, h1, h2], ih hr⟩
          | none =>
            simp only [h2] at hr
            cases h3 : effU T σ tm o.op with
            | none => simp only [h3] at hr; exact hr
            | some q =>
              obtain ⟨u, σ'⟩ := q
              simp only [h3] at hr
              exact .inr (.inl ⟨hw, u, σ', by simp [opU, h1, h2, h3], ih hr⟩)
theorem RH.all {P : Program} {T : Tb} {ops rest : List Oper} {tm tm' : List U} {σ σ' : Sg} {acc acc' : List RK} {K : List RK → List U → Sg → Prop} (h : stepsE T ops rest tm σ acc = ⟨[], tm', σ', acc'⟩) (hk : K acc' tm' σ') : RH P T ops rest tm σ acc K := RH.steps h hk
theorem RH.to {P : Program} {T : Tb} {ops rest rest' : List Oper} {tm tm' : List U} {σ σ' : Sg} {acc acc' : List RK} {K : List RK → List U → Sg → Prop} (h : stepsE T ops rest tm σ acc = ⟨rest', tm', σ', acc'⟩) (hk : RH P T ops rest' tm' σ' acc' K) : RH P T ops rest tm σ acc K := RH.steps h hk
/-- a call that leaves the heap as it is -/
theorem RH.call {P : Program} {T : Tb} {ops r : List Oper} {o : Oper} {tm : List U} {σ : Sg} {acc : List RK} {K : List RK → List U → Sg → Prop} {f : FuncId} {args : List U} {u : U} (hw : wantedU ops tm o = some true) (hc : callU T tm o.op = some (f, args)) (hev : EvU P f args σ (fun u' σ' => u' = u ∧ σ' = σ))
    (h : RH P T ops r (putW tm o.dst u) σ ((2, ⟨tm, o, u, true, false, σ, σ⟩) :: acc) K) : RH P T ops (o :: r) tm σ acc K := .inr (.inr (.inl ⟨hw, f, args, u, hc, hev, h⟩))
/-- a call that makes what its law says -/
theorem RH.callM {P : Program} {T : Tb} {ops r : List Oper} {o : Oper} {tm : List U} {σ σ1 : Sg} {acc : List RK} {K : List RK → List U → Sg → Prop} {f : FuncId} {args : List U} {u : U} (hw : wantedU ops tm o = some true) (hc : callU T tm o.op = some (f, args)) (hev : EvU P f args σ (fun u' σ' => u' = u ∧ σ' = σ1))
    (h : RH P T ops r (putW tm o.dst u) σ1 ((3, ⟨tm, o, u, true, true, σ, σ1⟩) :: acc) K) : RH P T ops (o :: r) tm σ acc K := .inr (.inr (.inr (.inl ⟨hw, f, args, u, σ1, hc, hev, h⟩)))
end Go.Vx
