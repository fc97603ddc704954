/-
  VxJ: what code comes to, over trees: the rules of a walk.
-/
import Derived.Test.YtcanbnholmlapaaVxI
namespace Go.Vx
open Go Go.Rx
set_option linter.unusedVariables false

def putW (tm : List U) (d : Option Tmp) (u : U) : List U := match d with
  | none => tm
  | some d => tm.set d u
theorem putW_ok {x : Cx} {tm : List U} {tv : List Value} (h : RelE x tm tv) {u : U} {v : Value} (hu : Rel x u v) (d : Option Tmp) : RelE x (putW tm d u) (putT tv d v) := by
  cases d with
  | none => exact h
  | some d => exact h.set d hu

structure St (F : Nat → Blk → Prop) (x : Cx) (tm : List U) (tv : List Value) (m : Nm) (w : World) (a : Act) : Prop where
  h : HRel x
  fr : Fr F x
  e : RelE x tm tv
  fits : FitsS m x.s w
  act : ActR m x.s.nx tv a

/-- what a call comes to -/
def EvU (P : Program) (f : FuncId) (args : List U) (σ : Sg) (Q : U → Sg → Prop) : Prop :=
  ∀ F x vs m w cargs, x.σ = σ → HRel x → Fr F x → RelE x args vs → FitsS m x.s w → RelL m x.s.nx vs cargs →
    Calls P f cargs.toArray w fun e w₁ => ∃ y m₁ u v cv, e = .returned cv ∧ Q u y.σ ∧ Adv m x.s w m₁ y.s w₁ ∧ RelS m₁ y.s.nx v cv ∧ HRel y ∧ Fr F y ∧ Rel y u v ∧ Ke x.σ.nx x y ∧ x.σ.nx ≤ y.σ.nx

theorem Mo.nx {x y : Cx} (h : Mo x.σ.nx x y) : x.σ.nx ≤ y.σ.nx := by
  cases hn : x.σ.nx with
  | zero => omega
  | succ n => have := (h.ref n (by omega) (by omega)).1; omega
theorem nc_ok (P : Program) : CallOk P nc := fun f args s v s₁ h => by simp [nc] at h
theorem put_defers (a : Act) (d : Option Tmp) (v : Value) : (a.put d v).defers = a.defers := by cases d <;> rfl

section
variable {P : Program} {T : Tb} (hT : TbOk P T) {F : Nat → Blk → Prop} {x : Cx} {tm : List U} {tv : List Value} {m : Nm} {w : World} {a : Act}
include hT
theorem St.op (st : St F x tm tv m w a) (o : Oper) {u : U} {σ' : Sg} (h : opU T x.σ tm o.op = some (u, σ')) {next : Act → World → Prop} {Q : Exit → Act → World → Prop}
    (hn : ∀ y tv' m₁ w₁ a₁, y.σ = σ' → St F y (putW tm o.dst u) tv' m₁ w₁ a₁ → Adv m x.s w m₁ y.s w₁ → Ke x.σ.nx x y → x.σ.nx ≤ y.σ.nx → a₁.defers = a.defers → next a₁ w₁) : o.wp P a w next Q := by
  obtain ⟨v, y, h1, h2, h3, h4⟩ := op_sim st.h st.e h
  refine op_ok hT (nc_ok P) st.fits st.act o h1 fun m₁ w₁ cv hadv hrel => ?_
  exact hn y (putT tv o.dst v) m₁ w₁ _ h2 ⟨h4.h, h4.fr F st.fr, putW_ok (h4.mo.ke.E st.e.bel st.e) h3 _, hadv.fits, (st.act.ext hadv.agree hadv.nx).put hrel o.dst⟩ hadv h4.mo.ke h4.mo.nx (put_defers _ _ _)
theorem St.call (st : St F x tm tv m w a) (o : Oper) {f : FuncId} {args : List U} (h : callU T tm o.op = some (f, args)) {R : U → Sg → Prop} (hev : EvU P f args x.σ R) {next : Act → World → Prop} {Q : Exit → Act → World → Prop}
    (hn : ∀ y u tv' m₁ w₁ a₁, R u y.σ → St F y (putW tm o.dst u) tv' m₁ w₁ a₁ → Adv m x.s w m₁ y.s w₁ → Ke x.σ.nx x y → x.σ.nx ≤ y.σ.nx → a₁.defers = a.defers → next a₁ w₁) : o.wp P a w next Q := by
  obtain ⟨vs, h1, h2⟩ := call_sim st.e h
  obtain ⟨cargs, g1, g2⟩ := callOf_ok hT st.act o w h1
  unfold Oper.wp
  rw [g1]
  show Calls P f _ w _
  refine (hev F x vs m w cargs rfl st.h st.fr h2 st.fits g2).mono ?_
  rintro e w₁ ⟨y, m₁, u, v, cv, rfl, hR, hadv, hrel, hh, hfr, hru, hke, hnx⟩
  exact hn y u (putT tv o.dst v) m₁ w₁ _ hR ⟨hh, hfr, putW_ok (hke.E st.e.bel st.e) hru _, hadv.fits, (st.act.ext hadv.agree hadv.nx).put hrel o.dst⟩ hadv hke hnx (put_defers _ _ _)
omit hT in
theorem St.skip (st : St F x tm tv m w a) (d : Option Tmp) : St F x (putW tm d (.tup [])) (putT tv d undef) m w (a.put d undef) :=
  ⟨st.h, st.fr, putW_ok st.e (by simp only [Rel]; exact ⟨[], rfl, by simp [RelP], rfl⟩) _, st.fits, st.act.put (relS_refl fun _ => by simp [undef, ren, renL]) d⟩
end

def wantedU (ops : List Oper) (tm : List U) (o : Oper) : Option Bool :=
  match o.guard with
  | none => some true
  | some (j, want) => match dstOf ops j with
    | none => some false
    | some d => match nth tm d with
      | some (.bool b) => some (b == want)
      | some (.tup _) => some false
      | _ => none
theorem wantedU_ok {x : Cx} {ops : List Oper} {tm : List U} {tv : List Value} (ht : RelE x tm tv) {o : Oper} {b : Bool} (h : wantedU ops tm o = some b) : wantedX ops tv o = b := by
  unfold wantedU at h
  unfold wantedX
  cases hg : o.guard with
  | none => simp [hg] at h; simp [h]
  | some g =>
    obtain ⟨j, want⟩ := g
    simp only [hg] at h ⊢
    cases hd : dstOf ops j with
    | none => simp [hd] at h; simp [h]
    | some d =>
      simp only [hd, nth_eq] at h ⊢
      cases hu : tm[d]? with
      | none => simp [hu] at h
      | some u =>
        obtain ⟨v, h1, h2⟩ := ht.get hu
        rw [h1]
        cases u with
        | bool c => simp only [hu, Option.some.injEq] at h; simp only [Rel] at h2; subst h2; simp [h]
        | tup l => simp only [hu, Option.some.injEq] at h; simp only [Rel] at h2; obtain ⟨vs, rfl, _⟩ := h2; simp [h]
        | _ => simp [hu] at h

/-- what is left of a region comes to K -/
def RU (P : Program) (T : Tb) (ops : List Oper) : List Oper → List U → Sg → (List U → Sg → Prop) → Prop
  | [], tm, σ, K => K tm σ
  | o :: r, tm, σ, K =>
    (wantedU ops tm o = some true ∧ ∃ u σ', opU T σ tm o.op = some (u, σ') ∧ RU P T ops r (putW tm o.dst u) σ' K) ∨
    (wantedU ops tm o = some true ∧ ∃ f args R, callU T tm o.op = some (f, args) ∧ EvU P f args σ R ∧ ∀ u σ', R u σ' → RU P T ops r (putW tm o.dst u) σ' K) ∨
    (wantedU ops tm o = some false ∧ RU P T ops r (putW tm o.dst (.tup [])) σ K)

/-- what a piece of code comes to, from slots and a heap -/
def WPU (P : Program) (n0 : Nat) (c : Code) (tm : List U) (σ : Sg) (Q : Exit → List U → Sg → Prop) : Prop :=
  n0 ≤ σ.nx → ∀ F x tv m w a, x.σ = σ → St F x tm tv m w a → a.defers = [] →
    c.wp P (fun e a' w' => ∃ y tm' tv' m', Q e tm' y.σ ∧ St F y tm' tv' m' w' a' ∧ Adv m x.s w m' y.s w' ∧ Ke n0 x y ∧ n0 ≤ y.σ.nx ∧ a'.defers = []) a w

section
variable {P : Program} {n0 : Nat} {Q : Exit → List U → Sg → Prop} {tm : List U} {σ : Sg}
theorem WPU.mono {c : Code} {Q' : Exit → List U → Sg → Prop} (h : WPU P n0 c tm σ Q) (hq : ∀ e tm σ, Q e tm σ → Q' e tm σ) : WPU P n0 c tm σ Q' := fun hn F x tv m w a hx st hd =>
  wp_mono (h hn F x tv m w a hx st hd) fun _ _ _ ⟨y, tm', tv', m', h1, h2⟩ => ⟨y, tm', tv', m', hq _ _ _ h1, h2⟩
def thenU (K : List U → Sg → Prop) (Q : Exit → List U → Sg → Prop) : Exit → List U → Sg → Prop
  | .normal, tm, s => K tm s
  | e, tm, s => Q e tm s
theorem WPU.seq {p q : Code} (h : WPU P n0 p tm σ (thenU (fun tm σ => WPU P n0 q tm σ Q) Q)) : WPU P n0 (.seq p q) tm σ Q := fun hn F x tv m w a hx st hd => by
  refine wp_seq (wp_mono (h hn F x tv m w a hx st hd) ?_)
  rintro e a' w' ⟨y, tm', tv', m', h1, h2, h3, h4, h5, h6⟩
  cases e with
  | normal =>
    refine wp_mono (h1 h5 F y tv' m' w' a' rfl h2 h6) ?_
    rintro e a'' w'' ⟨z, tm'', tv'', m'', g1, g2, g3, g4, g5, g6⟩
    exact ⟨z, tm'', tv'', m'', g1, g2, h3.trans g3, h4.trans g4, g5, g6⟩
  | _ => exact ⟨y, tm', tv', m', h1, h2, h3, h4, h5, h6⟩
theorem WPU.skip (h : Q .normal tm σ) : WPU P n0 .skip tm σ Q := fun hn F x tv m w a hx st hd => wp_skip ⟨x, tm, tv, m, hx ▸ h, st, Adv.refl st.fits, Ke.refl _ _, hx ▸ hn, hd⟩
theorem WPU.ret (h : Q .ret tm σ) : WPU P n0 .ret tm σ Q := fun hn F x tv m w a hx st hd => wp_ret ⟨x, tm, tv, m, hx ▸ h, st, Adv.refl st.fits, Ke.refl _ _, hx ▸ hn, hd⟩
theorem WPU.exit {id : Nat} (h : Q (.exit id) tm σ) : WPU P n0 (.exit id) tm σ Q := fun hn F x tv m w a hx st hd => wp_exit ⟨x, tm, tv, m, hx ▸ h, st, Adv.refl st.fits, Ke.refl _ _, hx ▸ hn, hd⟩
theorem WPU.cond {c : Operand} {p q : Code} {t : Bool} (hc : evalU tm c = some (.bool t)) (h1 : t = true → WPU P n0 p tm σ Q) (h2 : t = false → WPU P n0 q tm σ Q) : WPU P n0 (.cond c p q) tm σ Q := fun hn F x tv m w a hx st hd => by
  obtain ⟨v, e1, e2⟩ := evalU_ok st.e hc
  simp only [Rel] at e2
  subst e2
  have he := (st.act.evalO e1).at
  simp only [ren] at he
  cases t with
  | true => exact wp_cond_true he.symm (h1 rfl hn F x tv m w a hx st hd)
  | false => exact wp_cond_false he.symm (h2 rfl hn F x tv m w a hx st hd)
def inBlockU (id : Nat) (Q : Exit → List U → Sg → Prop) : Exit → List U → Sg → Prop
  | .exit id', tm, s => if id' = id then Q .normal tm s else Q (.exit id') tm s
  | e, tm, s => Q e tm s
theorem WPU.block {id : Nat} {c : Code} (h : WPU P n0 c tm σ (inBlockU id Q)) : WPU P n0 (.block id c) tm σ Q := fun hn F x tv m w a hx st hd => by
  refine wp_block (wp_mono (h hn F x tv m w a hx st hd) ?_)
  rintro e a' w' ⟨y, tm', tv', m', h1, h2⟩
  cases e with
  | exit id' =>
    simp only [Exit.inBlock]
    simp only [inBlockU] at h1
    by_cases hid : id' = id
    · simp only [hid, if_true] at h1 ⊢; exact ⟨y, tm', tv', m', h1, h2⟩
    · simp only [hid, if_false] at h1 ⊢; exact ⟨y, tm', tv', m', h1, h2⟩
  | _ => exact ⟨y, tm', tv', m', h1, h2⟩
/-- a loop: what holds of slots and heap at the head of each round, and a measure -/
theorem WPU.loop {c : Code} (I : Nat → List U → Sg → Prop) (n : Nat) (h₀ : I n tm σ) (round : ∀ n tm σ, I n tm σ → WPU P n0 c tm σ (thenU (fun tm' σ' => ∃ n', n' < n ∧ I n' tm' σ') Q)) : WPU P n0 (.loop c) tm σ Q := by
  intro hn F x tv m w a hx st hd b k cs
  have key : ∀ n tm σ, I n tm σ → n0 ≤ σ.nx → ∀ x tv m w a, x.σ = σ → St F x tm tv m w a → a.defers = [] → ∃ e a' w', (∃ y tm' tv' m', Q e tm' y.σ ∧ St F y tm' tv' m' w' a' ∧ Adv m x.s w m' y.s w' ∧ Ke n0 x y ∧ n0 ≤ y.σ.nx ∧ a'.defers = []) ∧ Arrives P (lone (b.at a (.code c :: .inLoop c :: k)) cs w) b k cs e a' w' := by
    intro n
    induction n using Nat.strongRecOn with
    | _ n ih =>
      intro tm σ hI hn x tv m w a hx st hd
      obtain ⟨e, a₁, w₁, ⟨y, tm₁, tv₁, m₁, hq, hst, hadv, hke, hnx, hdf⟩, harr⟩ := round n tm σ hI hn F x tv m w a hx st hd b (.inLoop c :: k) cs
      cases e with
      | normal =>
        obtain ⟨n', hlt, hI'⟩ := hq
        obtain ⟨e₂, a₂, w₂, ⟨z, tm₂, tv₂, m₂, hq₂, hst₂, hadv₂, hke₂, hnx₂, hdf₂⟩, harr₂⟩ := ih n' hlt tm₁ y.σ hI' hnx y tv₁ m₁ w₁ a₁ rfl hst hdf
        exact ⟨e₂, a₂, w₂, ⟨z, tm₂, tv₂, m₂, hq₂, hst₂, hadv.trans hadv₂, hke.trans hke₂, hnx₂, hdf₂⟩, .of_steps (Steps.trans harr (.one step_inLoop)) harr₂⟩
      | exit id => exact ⟨_, a₁, w₁, ⟨y, tm₁, tv₁, m₁, hq, hst, hadv, hke, hnx, hdf⟩, .pass (x := .inLoop c) rfl (fun _ _ => .inl (by simp)) harr⟩
      | goto l => exact ⟨_, a₁, w₁, ⟨y, tm₁, tv₁, m₁, hq, hst, hadv, hke, hnx, hdf⟩, .pass (x := .inLoop c) rfl (fun _ _ => .inl (by simp)) harr⟩
      | ret => exact ⟨_, a₁, w₁, ⟨y, tm₁, tv₁, m₁, hq, hst, hadv, hke, hnx, hdf⟩, .pass (x := .inLoop c) rfl (fun _ _ => .inl (by simp)) harr⟩
      | panic ch => exact ⟨_, a₁, w₁, ⟨y, tm₁, tv₁, m₁, hq, hst, hadv, hke, hnx, hdf⟩, .pass (x := .inLoop c) rfl (fun _ _ => .inl (by simp)) harr⟩
      | outgrown => exact ⟨_, a₁, w₁, ⟨y, tm₁, tv₁, m₁, hq, hst, hadv, hke, hnx, hdf⟩, .pass (x := .inLoop c) rfl (fun _ _ => .inl (by simp)) harr⟩
  obtain ⟨e, a', w', hq, harr⟩ := key n tm σ h₀ hn x tv m w a hx st hd
  exact ⟨e, a', w', hq, .of_steps (.one step_loop) harr⟩

/-- the state may be seen otherwise -/
def Gh (n0 : Nat) (tm : List U) (σ : Sg) (tm' : List U) (σ' : Sg) : Prop :=
  ∀ F x tv, x.σ = σ → HRel x → Fr F x → RelE x tm tv → ∃ y, (∀ m w, FitsS m x.s w → Adv m x.s w m y.s w) ∧ y.σ = σ' ∧ HRel y ∧ Fr F y ∧ RelE y tm' tv ∧ Ke n0 x y
theorem Gh.refl (n0 : Nat) (tm : List U) (σ : Sg) : Gh n0 tm σ tm σ := fun F x tv hx h hf he => ⟨x, fun m w hf => Adv.refl hf, hx, h, hf, he, Ke.refl _ _⟩
theorem Gh.trans {tm' tm'' : List U} {σ' σ'' : Sg} (h : Gh n0 tm σ tm' σ') (h' : Gh n0 tm' σ' tm'' σ'') : Gh n0 tm σ tm'' σ'' := fun F x tv hx hh hf he => by
  obtain ⟨y, h1, h2, h3, h4, h5, h6⟩ := h F x tv hx hh hf he
  obtain ⟨z, g1, g2, g3, g4, g5, g6⟩ := h' F y tv h2 h3 h4 h5
  exact ⟨z, fun m w hf => (h1 m w hf).trans (g1 m w (h1 m w hf).fits), g2, g3, g4, g5, h6.trans g6⟩
theorem WPU.ghost {c : Code} {tm' : List U} {σ' : Sg} (h : Gh n0 tm σ tm' σ') (hn' : n0 ≤ σ'.nx) (hw : WPU P n0 c tm' σ' Q) : WPU P n0 c tm σ Q := fun hn F x tv m w a hx st hd => by
  obtain ⟨y, h1, h2, h3, h4, h5, h6⟩ := h F x tv hx st.h st.fr st.e
  have hadv := h1 m w st.fits
  refine wp_mono (hw hn' F y tv m w a h2 ⟨h3, h4, h5, hadv.fits, st.act.ext hadv.agree hadv.nx⟩ hd) ?_
  rintro e a' w' ⟨z, tm'', tv'', m'', g1, g2, g3, g4, g5, g6⟩
  exact ⟨z, tm'', tv'', m'', g1, g2, hadv.trans g3, h6.trans g4, g5, g6⟩
/-- the end of a piece, seen otherwise -/
theorem WPU.after {c : Code} {Q' : Exit → List U → Sg → Prop} (h : WPU P n0 c tm σ Q') (hq : ∀ e tm σ, n0 ≤ σ.nx → Q' e tm σ → ∃ tm' σ', n0 ≤ σ'.nx ∧ Gh n0 tm σ tm' σ' ∧ Q e tm' σ') : WPU P n0 c tm σ Q := fun hn F x tv m w a hx st hd => by
  refine wp_mono (h hn F x tv m w a hx st hd) ?_
  rintro e a' w' ⟨y, tm', tv', m', h1, h2, h3, h4, h5, h6⟩
  obtain ⟨tm'', σ'', q1, q2, q3⟩ := hq e tm' y.σ h5 h1
  obtain ⟨z, g1, g2, g3, g4, g5, g6⟩ := q2 F y tv' rfl h2.h h2.fr h2.e
  have hadv := g1 m' w' h2.fits
  exact ⟨z, tm'', tv', m', g2 ▸ q3, ⟨g3, g4, g5, hadv.fits, h2.act.ext hadv.agree hadv.nx⟩, h3.trans hadv, h4.trans g6, g2 ▸ q1, h6⟩

variable {T : Tb} (hT : TbOk P T)
include hT
theorem ru_ok (ops : Array Oper) (E : Exit → Act → World → Prop) {F : Nat → Blk → Prop} {x0 : Cx} {m0 : Nm} {w0 : World} {df : List Deferred} (K : List U → Sg → Prop) :
    ∀ (rest : List Oper) (i : Nat), ops.toList.drop i = rest → ∀ (x : Cx) (tm : List U) (tv : List Value) (m : Nm) (w : World) (a : Act), St F x tm tv m w a → a.defers = df → Adv m0 x0.s w0 m x.s w → Ke n0 x0 x → n0 ≤ x.σ.nx → RU P T ops.toList rest tm x.σ K →
      (∀ y tm' tv' m' w' a', K tm' y.σ → St F y tm' tv' m' w' a' → Adv m0 x0.s w0 m' y.s w' → Ke n0 x0 y → n0 ≤ y.σ.nx → a'.defers = df → E .normal a' w') → wpOps P ops E (List.range' i rest.length) a w
  | [], i, _, x, tm, tv, m, w, a, st, hd, hadv, hke, hn, h, hQ => by
    simp only [List.length_nil, List.range'_zero, wpOps]
    exact hQ x tm tv m w a h st hadv hke hn hd
  | o :: rest, i, hdr, x, tm, tv, m, w, a, st, hd, hadv, hke, hn, h, hQ => by
    have ho : ops[i]? = some o := by
      have := congrArg (fun l => l[0]?) hdr
      simpa using this
    have hd' : ops.toList.drop (i + 1) = rest := by
      have := congrArg List.tail hdr
      simpa using this
    simp only [List.length_cons, List.range'_succ, wpOps, ho, wanted_ok (st.act m (Agree.refl _ _)) ops o]
    simp only [RU] at h
    rcases h with ⟨hw, u, σ', h1, h2⟩ | ⟨hw, f, args, R, h1, h2, h3⟩ | ⟨hw, h1⟩
    · rw [wantedU_ok st.e hw]
      simp only [if_true]
      left
      refine st.op hT o h1 fun y tv' m₁ w₁ a₁ e1 st' hadv' hke' hnx hdf => ?_
      exact ru_ok ops E K rest (i + 1) hd' y _ tv' m₁ w₁ a₁ st' (hdf.trans hd) (hadv.trans hadv') (hke.trans (hke'.le hn)) (by omega) (e1 ▸ h2) hQ
    · rw [wantedU_ok st.e hw]
      simp only [if_true]
      left
      refine st.call hT o h1 h2 fun y u tv' m₁ w₁ a₁ hR st' hadv' hke' hnx hdf => ?_
      exact ru_ok ops E K rest (i + 1) hd' y _ tv' m₁ w₁ a₁ st' (hdf.trans hd) (hadv.trans hadv') (hke.trans (hke'.le hn)) (by omega) (h3 u y.σ hR) hQ
    · rw [wantedU_ok st.e hw]
      simp only [Bool.false_eq_true, if_false]
      exact ru_ok ops E K rest (i + 1) hd' x _ _ m w _ (st.skip o.dst) ((put_defers _ _ _).trans hd) hadv hke hn h1 hQ
theorem WPU.region {id : Nat} {ops : Array Oper} (h : RU P T ops.toList ops.toList tm σ (fun tm' σ' => Q .normal tm' σ')) : WPU P n0 (.region id ops false) tm σ Q := fun hn F x tv m w a hx st hd => by
  subst hx
  refine wp_region ?_
  have := ru_ok hT ops (fun e a' w' => ∃ y tm' tv' m', Q e tm' y.σ ∧ St F y tm' tv' m' w' a' ∧ Adv m x.s w m' y.s w' ∧ Ke n0 x y ∧ n0 ≤ y.σ.nx ∧ a'.defers = []) (F := F) (x0 := x) (m0 := m) (w0 := w) (df := []) (fun tm' σ' => Q .normal tm' σ') ops.toList 0 (by simp) x tm tv m w a st hd (Adv.refl st.fits) (Ke.refl _ _) hn h
    (fun y tm' tv' m' w' a' h1 h2 h3 h4 h5 h6 => ⟨y, tm', tv', m', h1, h2, h3, h4, h5, h6⟩)
  rw [List.range_eq_range']
  simpa using this
end

def resU (T : Tb) (σ : Sg) (tm : List U) : List ResultVar → Option (List U)
  | [] => some []
  | .tmp t :: r => match nth tm t with
    | some v => (match resU T σ tm r with
      | some l => some (v :: l)
      | none => none)
    | none => none
  | .cell a t :: r => match readU T σ tm (.load t (.tmp a)) with
    | some v => (match resU T σ tm r with
      | some l => some (v :: l)
      | none => none)
    | none => none
def oneU : List U → U
  | [v] => v
  | l => .tup l
theorem res_sim {T : Tb} {x : Cx} (hx : HRel x) {tm : List U} {tv : List Value} (ht : RelE x tm tv) : ∀ {rs : List ResultVar} {us : List U}, resU T x.σ tm rs = some us → ∃ vs, resX T tv x.s rs = some vs ∧ RelE x us vs
  | [], us, h => by simp only [resU, Option.some.injEq] at h; subst h; exact ⟨[], rfl, RelE.nil x⟩
  | .tmp t :: rs, us, h => by
    simp only [resU, nth_eq] at h
    cases h1 : tm[t]? with
    | none => simp [h1] at h
    | some u =>
      cases h2 : resU T x.σ tm rs with
      | none => simp [h1, h2] at h
      | some l =>
        simp only [h1, h2, Option.some.injEq] at h
        subst h
        obtain ⟨v, e1, e2⟩ := ht.get h1
        obtain ⟨vs, e3, e4⟩ := res_sim hx ht h2
        exact ⟨v :: vs, by simp [resX, nth_eq, e1, e3], RelE.cons e2 e4⟩
  | .cell a t :: rs, us, h => by
    simp only [resU] at h
    cases h1 : readU T x.σ tm (.load t (.tmp a)) with
    | none => simp [h1] at h
    | some u =>
      cases h2 : resU T x.σ tm rs with
      | none => simp [h1, h2] at h
      | some l =>
        simp only [h1, h2, Option.some.injEq] at h
        subst h
        obtain ⟨v, y, e1, e2, e3, e4⟩ := read_sim hx ht h1
        obtain ⟨vs, e5, e6⟩ := res_sim hx ht h2
        have hp : pureX T tv (.load t (.tmp a)) = none := rfl
        have he : effX T tv x.s (.load t (.tmp a)) = none := rfl
        have hc : callOf T tv (.load t (.tmp a)) = none := rfl
        unfold opX at e1
        simp only [hp, he, hc] at e1
        cases hrd : readX T tv x.s (.load t (.tmp a)) with
        | none => simp [hrd] at e1
        | some v' =>
          simp only [hrd, Option.some.injEq, Prod.mk.injEq] at e1
          obtain ⟨rfl, hs⟩ := e1
          refine ⟨v' :: vs, by simp [resX, hrd, e5], RelE.cons ?_ e6⟩
          have hmo : Mo y.σ.nx y x := by
            refine ⟨fun k hk hk' => ?_, fun i row e hl => by rw [hs]; exact hl⟩
            rw [e2] at hk' ⊢
            refine ⟨hk', fun b hb => ⟨b, hb, Nat.le_refl _, fun _ => ⟨?_, fun l e sz st h => ⟨l, h⟩⟩⟩⟩
            have := (e4.mo.ref k (by rw [← e2]; exact hk) hk').2 b (by rw [e2]; exact hb)
            obtain ⟨b', q1, q2, q3⟩ := this
            rw [hb] at q1; cases q1
            exact (q3 rfl).1.symm
          exact hmo.ke u _ (Rel.bel _ _ e3) e3
theorem one_sim {x : Cx} {us : List U} {vs : List Value} (h : RelE x us vs) : Rel x (oneU us) (oneX vs) := by
  match us, vs, h with
  | [], vs, h => rw [h.nil_inv]; simp only [oneU, oneX, Rel]; exact ⟨[], rfl, by simp [RelP], rfl⟩
  | [u], vs, h => obtain ⟨v, vs', rfl, h1, h2⟩ := h.inv; rw [h2.nil_inv]; exact h1
  | u :: u' :: us, vs, h =>
    obtain ⟨v, vs', rfl, h1, h2⟩ := h.inv
    obtain ⟨v', vs'', rfl, h3, h4⟩ := h2.inv
    simp only [oneU, oneX, Rel]
    exact ⟨_, rfl, h.1, h.2⟩
def padU : Nat → List U → List U
  | 0, l => l
  | n + 1, [] => .tup [] :: padU n []
  | n + 1, v :: l => v :: padU n l
theorem pad_sim {x : Cx} : ∀ (n : Nat) {us : List U} {vs : List Value}, RelE x us vs → RelE x (padU n us) (pad n vs)
  | 0, us, vs, h => h
  | n + 1, [], vs, h => by rw [h.nil_inv]; exact RelE.cons (by simp only [Rel]; exact ⟨[], rfl, by simp [RelP], rfl⟩) (pad_sim n (RelE.nil x))
  | n + 1, u :: us, vs, h => by obtain ⟨v, vs', rfl, h1, h2⟩ := h.inv; exact RelE.cons h1 (pad_sim n h2)

section
variable {P : Program} {T : Tb} (hT : TbOk P T)
include hT
/-- a call out of its body -/
theorem EvU.of_body {f : FuncId} {fn : Func} {c : Code} {args : List U} {σ : Sg} {R : U → Sg → Prop} (hf : T.fn f = some fn) (hb : fn.body = some c)
    (h : WPU P σ.nx c (padU fn.ntmps args) σ fun e tm' σ' => (e = .normal ∨ e = .ret) ∧ ∃ l, resU T σ' tm' fn.results.toList = some l ∧ ∃ u' σ'', σ.nx ≤ σ''.nx ∧ Gh σ.nx [oneU l] σ' [u'] σ'' ∧ R u' σ'') : EvU P f args σ R := fun F x vs m w cargs hx hh hfr he hfit hargs => by
  obtain ⟨hf0, _⟩ := hT.fn f fn hf
  have hcl : cargs.length = vs.length := by rw [← hargs.at]; simp
  refine calls_of_wp hf0 hb ?_
  have hact : ActR m x.s.nx (pad fn.ntmps vs) { tmps := cargs.toArray ++ Array.replicate (fn.ntmps - cargs.toArray.size) undef, defers := [] } := fun m' hm' => by
    simp only [pad_eq, renL_append, hargs m' hm', hcl, List.size_toArray]
    apply Array.ext'
    simp [renL_eq, ren, undef]
  refine wp_mono (h (Nat.le_refl _) F x _ m w _ hx ⟨hh, hfr, pad_sim _ he, hfit, hact⟩ rfl) ?_
  rintro e a' w' ⟨y, tm', tv', m', ⟨hex, l, hres, u', σ'', hnx, hgh, hR⟩, st', hadv, hke, hn, hdf⟩
  obtain ⟨ls, hres', hrl⟩ := res_sim st'.h st'.e hres
  have hrun : ∀ m'', Agree y.s.nx m' m'' → (results fn a'.tmps).run P w' = .ok (ren m'' (oneX ls)) w' := fun m'' hm'' => by
    rw [st'.act m'' hm'']
    exact results_ok hT (st'.fits m'' hm'') hres'
  have hrel : RelS m' y.s.nx (oneX ls) (ren m' (oneX ls)) := fun m'' hm'' => by
    have e1 := hrun m'' hm''
    rw [hrun m' (Agree.refl _ _)] at e1
    simp at e1
    exact e1.symm
  obtain ⟨z, z1, z2, z3, z4, z5, z6⟩ := hgh F y [oneX ls] rfl st'.h st'.fr (RelE.cons (one_sim hrl) (RelE.nil y))
  obtain ⟨v0, vs0, e0, z7, _⟩ := z5.inv
  cases e0
  have hadv2 := z1 m' w' st'.fits
  have hpost : bodyPost P fn (fun e w₁ => ∃ y m₁ u v cv, e = .returned cv ∧ R u y.σ ∧ Adv m x.s w m₁ y.s w₁ ∧ RelS m₁ y.s.nx v cv ∧ HRel y ∧ Fr F y ∧ Rel y u v ∧ Ke x.σ.nx x y ∧ x.σ.nx ≤ y.σ.nx) .ret a' w' :=
    ⟨hdf, _, hrun m' (Agree.refl _ _), z, m', u', oneX ls, _, rfl, z2 ▸ hR, hadv.trans hadv2, hrel.ext (Agree.refl _ _) hadv2.nx, z3, z4, z7, hx ▸ hke.trans z6, by rw [hx, z2]; exact hnx⟩
  rcases hex with rfl | rfl
  · exact hpost
  · exact hpost
end
theorem EvU.mono {P : Program} {f : FuncId} {args : List U} {σ : Sg} {R R' : U → Sg → Prop} (h : EvU P f args σ R) (hr : ∀ u σ', R u σ' → R' u σ') : EvU P f args σ R' := fun F x vs m w cargs hx hh hfr he hfit hargs =>
  (h F x vs m w cargs hx hh hfr he hfit hargs).mono fun _ _ ⟨y, m₁, u, v, cv, h1, h2, h3⟩ => ⟨y, m₁, u, v, cv, h1, hr _ _ h2, h3⟩
end Go.Vx
