/-
  VxO: a region's operations by evaluation, as far as it goes.
-/
import Derived.Test.YtcanbnholmlapaaVxN
namespace Go.Vx
open Go Go.Rx

section
variable {K : List U → Sg → Prop} {Q : Exit → List U → Sg → Prop} {tm : List U} {σ : Sg} {i j : Nat}
theorem thenU_n (h : K tm σ) : thenU K Q .normal tm σ := h
theorem thenU_x (h : Q (.exit i) tm σ) : thenU K Q (.exit i) tm σ := h
theorem thenU_r (h : Q .ret tm σ) : thenU K Q .ret tm σ := h
theorem inB_n (h : Q .normal tm σ) : inBlockU i Q .normal tm σ := h
theorem inB_r (h : Q .ret tm σ) : inBlockU i Q .ret tm σ := h
theorem inB_x (h : Q .normal tm σ) : inBlockU i Q (.exit i) tm σ := by simp only [inBlockU, if_true]; exact h
theorem inB_y (hij : ¬ j = i) (h : Q (.exit j) tm σ) : inBlockU i Q (.exit j) tm σ := by simp only [inBlockU, hij, if_false]; exact h
end
structure Mid where
  rest : List Oper
  tm : List U
  σ : Sg
def stepsU (T : Tb) (ops : List Oper) : List Oper → List U → Sg → Mid
  | [], tm, σ => ⟨[], tm, σ⟩
  | o :: r, tm, σ => match wantedU ops tm o with
    | some true => (match opU T σ tm o.op with
      | some (u, σ') => stepsU T ops r (putW tm o.dst u) σ'
      | none => ⟨o :: r, tm, σ⟩)
    | some false => stepsU T ops r (putW tm o.dst (.tup [])) σ
    | none => ⟨o :: r, tm, σ⟩
theorem RU.steps {P : Program} {T : Tb} {ops rest : List Oper} {tm : List U} {σ : Sg} {K : List U → Sg → Prop} {m : Mid} (h : stepsU T ops rest tm σ = m) (hr : RU P T ops m.rest m.tm m.σ K) : RU P T ops rest tm σ K := by
  subst h
  induction rest generalizing tm σ with
  | nil => exact hr
  | cons o r ih =>
    simp only [stepsU] at hr
    simp only [RU]
    cases hw : wantedU ops tm o with
    | none => simp only [hw] at hr; simpa only [RU, hw] using hr
    | some b =>
      cases b with
      | false => simp only [hw] at hr; exact .inr (.inr ⟨rfl, ih hr⟩)
      | true =>
        simp only [hw] at hr
        cases ho : opU T σ tm o.op with
        | none => simp only [ho] at hr; simpa only [RU, hw, ho] using hr
        | some q =>
          obtain ⟨u, σ'⟩ := q
          simp only [ho] at hr
          exact .inl ⟨rfl, u, σ', rfl, ih hr⟩
theorem RU.all {P : Program} {T : Tb} {ops rest : List Oper} {tm tm' : List U} {σ σ' : Sg} {K : List U → Sg → Prop} (h : stepsU T ops rest tm σ = ⟨[], tm', σ'⟩) (hk : K tm' σ') : RU P T ops rest tm σ K := RU.steps h hk
theorem RU.call {P : Program} {T : Tb} {ops r : List Oper} {o : Oper} {tm : List U} {σ : Sg} {K : List U → Sg → Prop} {f : FuncId} {args : List U} {R : U → Sg → Prop} (hw : wantedU ops tm o = some true) (hc : callU T tm o.op = some (f, args)) (hev : EvU P f args σ R)
    (h : ∀ u σ', R u σ' → RU P T ops r (putW tm o.dst u) σ' K) : RU P T ops (o :: r) tm σ K := .inr (.inl ⟨hw, f, args, R, hc, hev, h⟩)

/-- a loop; at the end of a round the state may be seen otherwise -/
theorem WPU.loopG {P : Program} {n0 : Nat} {Q : Exit → List U → Sg → Prop} {tm : List U} {σ : Sg} {c : Code} (I : Nat → List U → Sg → Prop) (n : Nat) (h₀ : I n tm σ)
    (round : ∀ n tm σ, I n tm σ → WPU P n0 c tm σ (thenU (fun tm' σ' => ∃ n' tm'' σ'', n' < n ∧ I n' tm'' σ'' ∧ n0 ≤ σ''.nx ∧ Gh n0 tm' σ' tm'' σ'') Q)) : WPU P n0 (.loop c) tm σ Q := by
  refine WPU.loop I n h₀ fun n tm σ hI => ?_
  refine WPU.after (round n tm σ hI) ?_
  intro e tm1 σ1 hn h
  cases e with
  | normal => obtain ⟨n', tm'', σ'', h1, h2, h3, h4⟩ := h; exact ⟨tm'', σ'', h3, h4, n', h1, h2⟩
  | _ => exact ⟨tm1, σ1, hn, Gh.refl _ _ _, h⟩

/-- slots and names that nobody needs any more -/
theorem Gh.to {n0 n1 : Nat} {tm tm' : List U} {σ σ' : Sg} (mask : List Bool) (ht : junkT mask tm = tm') (hs : (⟨Vx.cut n1 σ.h, n1⟩ : Sg) = σ') (h1 : n0 ≤ n1) (h2 : n1 ≤ σ.nx) (hb : BelL n1 tm') (hh : BelH n1 σ'.h) : Gh n0 tm σ tm' σ' := by
  subst ht; subst hs
  exact (Gh.junk n0 mask tm σ).trans (Gh.cut h1 h2 hb hh)
theorem belR_map {α : Type} {n : Nat} (f : α → List U) (h : ∀ x, BelL n (f x)) (l : List α) : BelR n (l.map f) := by
  rw [belR_iff]
  intro c hc
  obtain ⟨x, _, rfl⟩ := List.mem_map.1 hc
  exact h x
theorem wrapS (i : Nat) (h : i < 9223372036854775807) : IntKind.i64.wrap ((i : Int) + 1) = ((i + 1 : Nat) : Int) := by
  rw [wrap_i64 (by omega) (by omega)]; simp

/- REGIONS THAT DRAW THEIR ORDER, by evaluation -/
def RF (P : Program) (T : Tb) (ops rest : List Oper) (tm : List U) (σ : Sg) (fl : List (Bool × Bool)) (K : List (Bool × Bool) → List U → Sg → Prop) : Prop :=
  RD P T ops rest tm σ (fun rs tm' σ' => K (fl ++ rs.map fun r => (r.act, r.mv)) tm' σ')
theorem RF.eq (P : Program) (T : Tb) (ops : List Oper) {f g : List RecU → List U → Sg → Prop} (h : f = g) {rest : List Oper} {tm : List U} {σ : Sg} (hr : RD P T ops rest tm σ f) : RD P T ops rest tm σ g := h ▸ hr
theorem RF.done {P : Program} {T : Tb} {ops : List Oper} {tm : List U} {σ : Sg} {fl : List (Bool × Bool)} {K : List (Bool × Bool) → List U → Sg → Prop} (h : K fl tm σ) : RF P T ops [] tm σ fl K := by
  simpa [RF, RD] using h
theorem fl_shift {K : List (Bool × Bool) → List U → Sg → Prop} (fl : List (Bool × Bool)) (r : RecU) (a b : Bool) (h1 : r.act = a) (h2 : r.mv = b) :
    (fun (rs : List RecU) (tm : List U) (σ : Sg) => K (fl ++ [(a, b)] ++ rs.map fun r => (r.act, r.mv)) tm σ) = (fun rs => (fun (rs : List RecU) tm σ => K (fl ++ rs.map fun r => (r.act, r.mv)) tm σ) (r :: rs)) := by
  subst h1; subst h2
  funext rs tm σ
  simp
structure MidD where
  rest : List Oper
  tm : List U
  σ : Sg
  fl : List (Bool × Bool)
def stepsD (T : Tb) (ops : List Oper) : List Oper → List U → Sg → List (Bool × Bool) → MidD
  | [], tm, σ, fl => ⟨[], tm, σ, fl⟩
  | o :: r, tm, σ, fl => match wantedU ops tm o with
    | some true => (match pureU T σ tm o.op with
      | some u => stepsD T ops r (putW tm o.dst u) σ (fl ++ [(false, false)])
      | none => match readU T σ tm o.op with
        | some u => stepsD T ops r (putW tm o.dst u) σ (fl ++ [(false, false)])
        | none => match effU T σ tm o.op with
          | some (u, σ') => stepsD T ops r (putW tm o.dst u) σ' (fl ++ [(true, true)])
          | none => ⟨o :: r, tm, σ, fl⟩)
    | some false => stepsD T ops r (putW tm o.dst (.tup [])) σ (fl ++ [(false, false)])
    | none => ⟨o :: r, tm, σ, fl⟩
theorem RF.steps {P : Program} {T : Tb} {ops rest : List Oper} {tm : List U} {σ : Sg} {fl : List (Bool × Bool)} {K : List (Bool × Bool) → List U → Sg → Prop} {m : MidD} (h : stepsD T ops rest tm σ fl = m) (hr : RF P T ops m.rest m.tm m.σ m.fl K) : RF P T ops rest tm σ fl K := by
  subst h
  induction rest generalizing tm σ fl with
  | nil => exact hr
  | cons o r ih =>
    simp only [stepsD] at hr
    cases hw : wantedU ops tm o with
    | none => simp only [hw] at hr; exact hr
    | some b =>
      cases b with
      | false =>
        simp only [hw] at hr
        simp only [RF, RD]
        exact .inr (.inr (.inr (.inr (.inl ⟨hw, RF.eq P T ops (fl_shift fl _ false false rfl rfl) (ih hr)⟩))))
      | true =>
        simp only [hw] at hr
        cases h1 : pureU T σ tm o.op with
        | some u =>
          simp only [h1] at hr
          simp only [RF, RD]
          exact .inl ⟨hw, u, by simp [opU, h1], RF.eq P T ops (fl_shift fl _ false false rfl rfl) (ih hr)⟩
        | none =>
          simp only [h1] at hr
          cases h2 : readU T σ tm o.op with
          | some u =>
            simp only [h2] at hr
            simp only [RF, RD]
            exact .inl ⟨hw, u, by simp [opU, h1, h2], RF.eq P T ops (fl_shift fl _ false false rfl rfl) (ih hr)⟩
          | none =>
            simp only [h2] at hr
            cases h3 : effU T σ tm o.op with
            | none => simp only [h3] at hr; exact hr
            | some q =>
              obtain ⟨u, σ'⟩ := q
              simp only [h3] at hr
              simp only [RF, RD]
              exact .inr (.inl ⟨hw, u, σ', by simp [opU, h1, h2, h3], RF.eq P T ops (fl_shift fl _ true true rfl rfl) (ih hr)⟩)
theorem RF.all {P : Program} {T : Tb} {ops rest : List Oper} {tm tm' : List U} {σ σ' : Sg} {fl fl' : List (Bool × Bool)} {K : List (Bool × Bool) → List U → Sg → Prop} (h : stepsD T ops rest tm σ fl = ⟨[], tm', σ', fl'⟩) (hk : K fl' tm' σ') : RF P T ops rest tm σ fl K := RF.steps h (RF.done hk)
theorem RF.to {P : Program} {T : Tb} {ops rest rest' : List Oper} {tm tm' : List U} {σ σ' : Sg} {fl fl' : List (Bool × Bool)} {K : List (Bool × Bool) → List U → Sg → Prop} (h : stepsD T ops rest tm σ fl = ⟨rest', tm', σ', fl'⟩) (hk : RF P T ops rest' tm' σ' fl' K) : RF P T ops rest tm σ fl K := RF.steps h hk
theorem RU.to {P : Program} {T : Tb} {ops rest rest' : List Oper} {tm tm' : List U} {σ σ' : Sg} {K : List U → Sg → Prop} (h : stepsU T ops rest tm σ = ⟨rest', tm', σ'⟩) (hk : RU P T ops rest' tm' σ' K) : RU P T ops rest tm σ K := RU.steps h hk
/-- a call that leaves the heap as it is -/
theorem RF.call {P : Program} {T : Tb} {ops r : List Oper} {o : Oper} {tm : List U} {σ : Sg} {fl : List (Bool × Bool)} {K : List (Bool × Bool) → List U → Sg → Prop} {f : FuncId} {args : List U} {u : U} (hw : wantedU ops tm o = some true) (hc : callU T tm o.op = some (f, args)) (hev : EvU P f args σ (fun u' σ' => u' = u ∧ σ' = σ))
    (h : RF P T ops r (putW tm o.dst u) σ (fl ++ [(true, false)]) K) : RF P T ops (o :: r) tm σ fl K := by
  simp only [RF, RD]
  exact .inr (.inr (.inl ⟨hw, f, args, u, hc, hev, RF.eq P T ops (fl_shift fl _ true false rfl rfl) h⟩))
theorem RU.pcall {P : Program} {T : Tb} {ops r : List Oper} {o : Oper} {tm : List U} {σ : Sg} {K : List U → Sg → Prop} {f : FuncId} {args : List U} {u : U} (hw : wantedU ops tm o = some true) (hc : callU T tm o.op = some (f, args)) (hev : EvU P f args σ (fun u' σ' => u' = u ∧ σ' = σ))
    (h : RU P T ops r (putW tm o.dst u) σ K) : RU P T ops (o :: r) tm σ K := RU.call hw hc hev (fun u' σ' ⟨h1, h2⟩ => by subst h1; subst h2; exact h)
theorem WPU.drawF {P : Program} {T : Tb} (hT : TbOk P T) {n0 : Nat} {Q : Exit → List U → Sg → Prop} {tm : List U} {σ : Sg} {id : Nat} {ops : Array Oper} (hst : staticOk ops.toList = true) (h : RF P T ops.toList ops.toList tm σ [] (fun fl tm' σ' => flOk ops.toList fl = true ∧ Q .normal tm' σ')) : WPU P n0 (.region id ops true) tm σ Q :=
  WPU.draw hT hst h
/-- a call that comes to the same in every world, and touches nothing -/
theorem EvU.of_closed {P : Program} {f : FuncId} {u : U} {cv : Value} (h : ∀ w, Calls P f #[] w fun e w' => e = .returned cv ∧ RowKit.Below w.heap.size w w' ∧ w.drawn ≤ w'.drawn) (hu : ∀ x, Rel x u cv) (hren : ∀ m, ren m cv = cv) (σ : Sg) : EvU P f [] σ (fun u' σ' => u' = u ∧ σ' = σ) := fun F x vs m w cargs hx hh hfr he hfit hargs => by
  have hvs := he.nil_inv
  subst hvs
  have hca : cargs = [] := by have := hargs.at; simpa [renL] using this.symm
  subst hca
  refine (h w).mono ?_
  rintro e w' ⟨rfl, hb, hdr⟩
  have hsame : ∀ b, b < w.heap.size → w'.heap[b]? = w.heap[b]? := fun b hlt => hb.block b hlt
  refine ⟨x, m, u, cv, cv, rfl, ⟨rfl, hx⟩, ⟨Agree.refl _ _, Nat.le_refl _, fun m' hm' => ?_, fun b h => .inl h, fun b hlt _ => hsame b hlt, hb.size, hb.os, hb.tape, hb.output, hdr⟩, fun m' _ => hren m', hh, hfr, hu x, Ke.refl _ _, Nat.le_refl _⟩
  have hfm := hfit m' hm'
  exact ⟨fun i b hb => (hfm.ok i b hb).world (hsame _ (hfm.size hb)), hfm.inj, hfm.bd⟩
/-- a contract that names nothing of the caller's, over every heap: one result -/
theorem EvU.pure1 {P : Program} {f : FuncId} {args : List U} {u : U} (h : EvU P f args ⟨[], 0⟩ (fun u' _ => u' = u ∧ Bel 0 u')) (ha : BelL 0 args) (σ : Sg) : EvU P f args σ (fun u' σ' => u' = u ∧ σ' = σ) := EvU.pure h ha σ
end Go.Vx
