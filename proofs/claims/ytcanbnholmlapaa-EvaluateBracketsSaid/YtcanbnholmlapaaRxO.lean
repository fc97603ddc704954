/-
  RxO: rules for bodies over symbolic slots and heaps: what a piece of code comes to.
-/
import Derived.Test.YtcanbnholmlapaaRxN
import Derived.IntWalk
namespace Go.Rx
open Go
set_option linter.unusedVariables false

/-- what a piece of code comes to, from slots and a heap -/
def WP (P : Program) (c : Code) (tm : List Value) (s : S) (Q : Exit → List Value → S → Prop) : Prop :=
  ∀ m w a, FitsS m s w → ActR m s.nx tm a → a.defers = [] →
    c.wp P (fun e a' w' => ∃ m' tm' s', Q e tm' s' ∧ Adv m s w m' s' w' ∧ ActR m' s'.nx tm' a' ∧ a'.defers = []) a w

/-- what a call comes to -/
def Ev (P : Program) (f : FuncId) (args : List Value) (s : S) (v : Value) (s₁ : S) : Prop :=
  ∀ m w cargs, FitsS m s w → RelL m s.nx args cargs → Calls P f cargs.toArray w fun e w₁ => ∃ m₁ cv, e = .returned cv ∧ Adv m s w m₁ s₁ w₁ ∧ RelS m₁ s₁.nx v cv

/-- the heap is known in less -/
def Less (s s' : S) : Prop := s.nx ≤ s'.nx ∧ ∀ i b, lk s'.h i = some b → lk s.h i = some b
theorem Adv.less {m : Nm} {s s' : S} {w : World} (h : FitsS m s w) (hl : Less s s') : Adv m s w m s' w := by
  refine ⟨Agree.refl _ _, hl.1, fun m' ha => ?_, ?_, fun _ _ _ => rfl, Nat.le_refl _, rfl, rfl, rfl, Nat.le_refl _⟩
  · have hf := h m' (ha.mono hl.1)
    exact ⟨fun i b hb => hf.ok i b (hl.2 i b hb), fun i j b c hb hc => hf.inj i j b c (hl.2 i b hb) (hl.2 j c hc), fun i b hb => Nat.lt_of_lt_of_le (hf.bd i b (hl.2 i b hb)) hl.1⟩
  · rintro k ⟨j, d, hd, ho, rfl⟩
    exact .inl ⟨j, d, hl.2 j d hd, ho, rfl⟩

theorem Ev.less {P : Program} {f : FuncId} {args : List Value} {s s₁ s₂ : S} {v : Value} (h : Ev P f args s v s₁) (hl : Less s₁ s₂) : Ev P f args s v s₂ := fun m w cargs hf ha =>
  (h m w cargs hf ha).mono fun _ _ ⟨m₁, cv, he, h1, h2⟩ => ⟨m₁, cv, he, h1.trans (Adv.less h1.fits hl), h2.ext (Agree.refl _ _) hl.1⟩

/-- the operations of a region, if none looks into the heap -/
def opsP (T : Tb) (ops : List Oper) : List Oper → List Value → Option (List Value)
  | [], tm => some tm
  | o :: r, tm => cond (wantedX ops tm o)
    (match pureX T tm o.op with
      | some v => opsP T ops r (putT tm o.dst v)
      | none => none)
    (opsP T ops r (putT tm o.dst undef))
/-- two sets of contracts -/
def orCall (a b : CallX) : CallX := fun f args s => match a f args s with
  | some r => some r
  | none => b f args s
theorem orCall_ok {P : Program} {a b : CallX} (ha : CallOk P a) (hb : CallOk P b) : CallOk P (orCall a b) := fun f args s v s₁ h => by
  unfold orCall at h
  cases h1 : a f args s with
  | some r => simp only [h1, Option.some.injEq] at h; subst h; exact ha f args s v s₁ h1
  | none => simp only [h1] at h; exact hb f args s v s₁ h
theorem less_refl (s : S) : Less s s := ⟨Nat.le_refl _, fun _ _ h => h⟩
theorem wrap_i64 {x : Int} (h1 : -9223372036854775808 ≤ x) (h2 : x ≤ 9223372036854775807) : IntKind.i64.wrap x = x := IntWalk.i64_in x ⟨h1, h2⟩

def isRead : Op → Bool
  | .load _ _ => true
  | .lookup _ _ _ _ => true
  | .slice _ _ _ _ _ => true
  | .call c => match c.callee with
    | .builtin .len => true
    | _ => false
  | _ => false
def isEff : Op → Bool
  | .alloc _ => true
  | .box _ _ => true
  | .store _ _ _ => true
  | .buildSlice _ _ _ => true
  | .makeSlice _ _ _ => true
  | .makeMap _ _ => true
  | .slice _ _ _ _ _ => true
  | .mapUpdate _ _ _ _ => true
  | .insert _ _ _ _ => true
  | .mapEntry _ _ _ => true
  | .entryStore _ _ _ _ => true
  | .call c => match c.callee with
    | .builtin .len => false
    | .builtin .max => false
    | .builtin .min => false
    | _ => true
  | _ => false
/-- what acts is ordered against all that acts or reads -/
def ordRow (e r : Bool) (i mi : Nat) : List Oper → List Nat → Nat → Bool
  | o :: l, mk :: ms, k => cond (cond (Nat.beq i k) true (cond (isEff o.op) (cond (cond e true r) (cond (Nat.testBit mi k) true (Nat.testBit mk i)) true) true)) (ordRow e r i mi l ms (k + 1)) false
  | [], _, _ => true
  | _ :: _, [], _ => false
def ordAll (ops : List Oper) (ms : List Nat) : List Oper → List Nat → Nat → Bool
  | o :: l, mi :: mr, i => cond (ordRow (isEff o.op) (isRead o.op) i mi ops ms 0) (ordAll ops ms l mr (i + 1)) false
  | [], _, _ => true
  | _ :: _, [], _ => false
def ordOk (ops : List Oper) : Bool := ordAll ops (masks ops []) ops (masks ops []) 0
theorem readX_read {T : Tb} {tm : List Value} {s : S} {op : Op} {v : Value} (h : readX T tm s op = some v) : isRead op = true := by
  cases op with
  | load t x => rfl
  | lookup t x k ok => rfl
  | slice t x lo hi mx => rfl
  | call c =>
    obtain ⟨callee, args, ats⟩ := c
    cases callee with
    | builtin b => cases b <;> first | rfl | (simp [readX] at h)
    | _ => simp [readX] at h
  | _ => simp [readX] at h
theorem opX_eff {T : Tb} {call : CallX} {tm : List Value} {s s' : S} {op : Op} {v : Value} (h1 : pureX T tm op = none) (h2 : readX T tm s op = none) (h : opX T call tm s op = some (v, s')) : isEff op = true := by
  unfold opX at h
  simp only [h1, h2] at h
  cases h3 : effX T tm s op with
  | some r =>
    clear h
    cases op with
    | call c =>
      obtain ⟨callee, args, ats⟩ := c
      cases callee with
      | builtin b => cases b <;> first | rfl | (simp [effX] at h3)
      | _ => rfl
    | _ => first | rfl | (simp [effX] at h3)
  | none =>
    simp only [h3] at h
    cases op with
    | call c =>
      obtain ⟨callee, args, ats⟩ := c
      cases callee with
      | value f => rfl
      | invoke r n => rfl
      | builtin b => simp [callOf] at h
    | _ => simp [callOf] at h
theorem ordRow_all {e r : Bool} {i mi : Nat} : ∀ (l : List Oper) (ms : List Nat) (b : Nat), ordRow e r i mi l ms b = true → ∀ j o, l[j]? = some o → ∃ mk, ms[j]? = some mk ∧ (i ≠ b + j → isEff o.op = true → (e = true ∨ r = true) → mi.testBit (b + j) = true ∨ mk.testBit i = true)
  | [], _, _, _ => fun j o h => by simp at h
  | o :: l, [], b, h => by simp [ordRow] at h
  | o :: l, mk :: ms, b, h => fun j q hq => by
    simp only [ordRow] at h
    obtain ⟨h1, h2⟩ := cond_split h
    cases j with
    | zero =>
      simp at hq
      subst hq
      refine ⟨mk, rfl, fun hne he her => ?_⟩
      rw [Nat.add_zero] at hne ⊢
      simp only [beq_eq, hne, decide_false, cond_false, he, cond_true] at h1
      have her' : (bif e then true else r) = true := by rcases her with rfl | rfl <;> simp
      simp only [her', cond_true] at h1
      cases hb : mi.testBit b with
      | true => exact .inl rfl
      | false => simp only [hb, cond_false] at h1; exact .inr h1
    | succ j =>
      simp only [List.getElem?_cons_succ] at hq
      obtain ⟨mk', g1, g2⟩ := ordRow_all l ms (b + 1) h2 j q hq
      refine ⟨mk', by simpa using g1, ?_⟩
      rw [show b + (j + 1) = b + 1 + j by omega]; exact g2
theorem ordAll_all {ops : List Oper} {ms : List Nat} : ∀ (l : List Oper) (mr : List Nat) (b : Nat), ordAll ops ms l mr b = true → ∀ j o, l[j]? = some o → ∃ mi, mr[j]? = some mi ∧ ordRow (isEff o.op) (isRead o.op) (b + j) mi ops ms 0 = true
  | [], _, _, _ => fun j o h => by simp at h
  | o :: l, [], b, h => by simp [ordAll] at h
  | o :: l, mi :: mr, b, h => fun j q hq => by
    simp only [ordAll] at h
    obtain ⟨h1, h2⟩ := cond_split h
    cases j with
    | zero => simp at hq; subst hq; exact ⟨mi, rfl, h1⟩
    | succ j =>
      simp only [List.getElem?_cons_succ] at hq
      obtain ⟨mi', g1, g2⟩ := ordAll_all l mr (b + 1) h2 j q hq
      refine ⟨mi', by simpa using g1, ?_⟩
      rw [show b + (j + 1) = b + 1 + j by omega]; exact g2
theorem trace_of_ops {T : Tb} {call : CallX} {ops : List Oper} : ∀ (l : List Oper) (tm : List Value) (s : S) (tm' : List Value) (s' : S), opsX T call ops l tm s = some (tm', s') →
    ∃ rs, traceX T call ops l tm s = some (rs, tm', s') ∧ ∀ r ∈ rs, (r.2.2.2.1 = 1 → isRead r.2.1.op = true) ∧ (r.2.2.2.1 = 2 → isEff r.2.1.op = true)
  | [], tm, s, tm', s', h => by
    simp only [opsX, Option.some.injEq, Prod.mk.injEq] at h
    obtain ⟨rfl, rfl⟩ := h
    exact ⟨[], rfl, by simp⟩
  | o :: l, tm, s, tm', s', h => by
    have fin : ∀ v k s1, recX T call ops tm s o = some (v, k, s1) → opsX T call ops l (putT tm o.dst v) s1 = some (tm', s') → (k = 1 → isRead o.op = true) → (k = 2 → isEff o.op = true) →
        ∃ rs, traceX T call ops (o :: l) tm s = some (rs, tm', s') ∧ ∀ r ∈ rs, (r.2.2.2.1 = 1 → isRead r.2.1.op = true) ∧ (r.2.2.2.1 = 2 → isEff r.2.1.op = true) := fun v k s1 hr ho h1 h2 => by
      obtain ⟨rs, g1, g2⟩ := trace_of_ops l _ _ _ _ ho
      refine ⟨(tm, o, v, k, s, s1) :: rs, by simp only [traceX, hr, g1], fun r hrm => ?_⟩
      rcases List.mem_cons.1 hrm with rfl | hrm
      · exact ⟨h1, h2⟩
      · exact g2 r hrm
    simp only [opsX] at h
    cases hw : wantedX ops tm o with
    | false =>
      simp only [hw, cond_false] at h
      exact fin undef 0 s (by simp [recX, hw]) h (by omega) (by omega)
    | true =>
      simp only [hw, cond_true] at h
      cases hx : opX T call tm s o.op with
      | none => simp [hx] at h
      | some q =>
        obtain ⟨v, s1⟩ := q
        simp only [hx] at h
        cases h1 : pureX T tm o.op with
        | some u =>
          have hx' := hx
          unfold opX at hx'
          simp only [h1, Option.some.injEq, Prod.mk.injEq] at hx'
          obtain ⟨rfl, rfl⟩ := hx'
          exact fin u 0 s (by simp [recX, hw, h1]) h (by omega) (by omega)
        | none =>
          cases h2 : readX T tm s o.op with
          | some u =>
            have hx' := hx
            unfold opX at hx'
            simp only [h1, h2, Option.some.injEq, Prod.mk.injEq] at hx'
            obtain ⟨rfl, rfl⟩ := hx'
            exact fin u 1 s (by simp [recX, hw, h1, h2]) h (fun _ => readX_read h2) (by omega)
          | none => exact fin v 2 s1 (by simp [recX, hw, h1, h2, hx]) h (by omega) (fun _ => opX_eff h1 h2 hx)
theorem masks_lt {ops : List Oper} (hst : staticOk ops = true) {i k : Nat} {mi : Nat} (hm : (masks ops [])[i]? = some mi) (h : mi.testBit k = true) : k < i := pre_lt hst i k ⟨mi, hm, h⟩
theorem drawX_of_ops {T : Tb} {call : CallX} {ops : List Oper} {tm : List Value} {s : S} {tm' : List Value} {s' : S} (hst : staticOk ops = true) (ho : ordOk ops = true) (h : opsX T call ops ops tm s = some (tm', s')) : drawX T call ops tm s = some (tm', s') := by
  obtain ⟨rs, h1, h2⟩ := trace_of_ops ops tm s tm' s' h
  obtain ⟨hlen, _, _, h4⟩ := trace_ok _ _ _ _ _ _ h1
  have hml := (masks_get ops []).1
  simp only [List.length_nil, Nat.zero_add] at hml
  have hord : ∀ (i : Nat) (r : Rec), rs[i]? = some r → ∀ (k : Nat) (q : Rec), rs[k]? = some q → i ≠ k → q.2.2.2.1 = 2 → (r.2.2.2.1 = 1 ∨ r.2.2.2.1 = 2) → ∀ (mi mk : Nat), (masks ops [])[i]? = some mi → (masks ops [])[k]? = some mk → mi.testBit k = true ∨ mk.testBit i = true := by
    intro i r hr k q hq hik hk2 hr12 mi mk hmi hmk
    obtain ⟨mi', g1, g2⟩ := ordAll_all ops _ 0 ho i r.2.1 (h4 i r hr).1
    rw [hmi] at g1
    cases g1
    obtain ⟨mk', g3, g4⟩ := ordRow_all ops _ 0 g2 k q.2.1 (h4 k q hq).1
    rw [hmk] at g3
    cases g3
    simp only [Nat.zero_add] at g4
    refine g4 hik ((h2 q (List.mem_of_getElem? hq)).2 hk2) ?_
    rcases hr12 with hr1 | hr2
    · exact .inr ((h2 r (List.mem_of_getElem? hr)).1 hr1)
    · exact .inl ((h2 r (List.mem_of_getElem? hr)).2 hr2)
  have hsees : ∀ (i : Nat) (r : Rec) (mi : Nat), rs[i]? = some r → (masks ops [])[i]? = some mi → r.2.2.2.1 = 1 → ∀ (l : List Rec) (ms : List Nat) (b : Nat), (∀ j, l[j]? = rs[b + j]?) → (∀ j, ms[j]? = (masks ops [])[b + j]?) → seesOk T r.1 r.2.1.op r.2.2.1 i mi l ms b = true := by
    intro i r mi hr hmi hr1 l
    induction l with
    | nil => intro ms b _ _; cases ms <;> simp [seesOk]
    | cons x l ih =>
      intro ms b hl hms
      have hb : rs[b]? = some x := by have := hl 0; simpa using this.symm
      have hbl : b < (masks ops []).length := by rw [hml, ← hlen]; exact (List.getElem?_eq_some_iff.1 hb).1
      cases ms with
      | nil => have := hms 0; simp at this; omega
      | cons mk ms =>
        have hmk : (masks ops [])[b]? = some mk := by have := hms 0; simpa using this.symm
        obtain ⟨x1, x2, x3, x4, x5, x6⟩ := x
        simp only [seesOk, Bool.and_eq_true]
        refine ⟨?_, ih ms (b + 1) (fun j => by have := hl (j + 1); rw [show b + 1 + j = b + (j + 1) by omega]; simpa using this) (fun j => by have := hms (j + 1); rw [show b + 1 + j = b + (j + 1) by omega]; simpa using this)⟩
        simp only [beq_eq]
        by_cases hx4 : x4 = 2
        · have hne : i ≠ b := fun e => by
            subst e
            rw [hr] at hb
            cases hb
            simp only at hr1
            omega
          have := hord i r hr b _ hb hne hx4 (.inl hr1) mi mk hmi hmk
          simp only [hx4, decide_true, cond_true]
          cases hlt : Nat.blt b i with
          | true =>
            simp only [cond_true]
            rcases this with h | h
            · simp [h]
            · have := masks_lt hst hmk h
              have := blt_true hlt
              omega
          | false =>
            simp only [cond_false]
            rcases this with h | h
            · have h5 := masks_lt hst hmi h
              exact absurd h5 (blt_false hlt)
            · simp [h]
        · simp [hx4]
  have hacts : ∀ (i : Nat) (r : Rec) (mi : Nat), rs[i]? = some r → (masks ops [])[i]? = some mi → r.2.2.2.1 = 2 → ∀ (l : List Rec) (b : Nat), (∀ j, l[j]? = rs[b + j]?) → actsOk i mi l b = true := by
    intro i r mi hr hmi hr2 l
    induction l with
    | nil => intro b _; simp [actsOk]
    | cons x l ih =>
      intro b hl
      have hb : rs[b]? = some x := by have := hl 0; simpa using this.symm
      have hbl : b < (masks ops []).length := by rw [hml, ← hlen]; exact (List.getElem?_eq_some_iff.1 hb).1
      obtain ⟨x1, x2, x3, x4, x5, x6⟩ := x
      simp only [actsOk, Bool.and_eq_true]
      refine ⟨?_, ih (b + 1) (fun j => by have := hl (j + 1); rw [show b + 1 + j = b + (j + 1) by omega]; simpa using this)⟩
      cases hlt : Nat.blt b i with
      | false => rfl
      | true =>
        simp only [cond_true, beq_eq]
        by_cases hx4 : x4 = 2
        · have hlt' := blt_true hlt
          have hmk : (masks ops [])[b]? = some (masks ops [])[b] := by simp [hbl]
          rcases hord i r hr b _ hb (by omega) hx4 (.inr hr2) mi _ hmi hmk with h | h
          · simp [hx4, h]
          · have := masks_lt hst hmk h
            omega
        · simp [hx4]
  have hrecs : ∀ (l : List Rec) (mr : List Nat) (b : Nat), (∀ j, l[j]? = rs[b + j]?) → (∀ j, mr[j]? = (masks ops [])[b + j]?) → recsOk T rs (masks ops []) l mr b = true := by
    intro l
    induction l with
    | nil => intro mr b _ _; cases mr <;> simp [recsOk]
    | cons x l ih =>
      intro mr b hl hms
      have hb : rs[b]? = some x := by have := hl 0; simpa using this.symm
      have hbl : b < (masks ops []).length := by rw [hml, ← hlen]; exact (List.getElem?_eq_some_iff.1 hb).1
      cases mr with
      | nil => have := hms 0; simp at this; omega
      | cons mi mr =>
        have hmi : (masks ops [])[b]? = some mi := by have := hms 0; simpa using this.symm
        obtain ⟨x1, x2, x3, x4, x5, x6⟩ := x
        simp only [recsOk, Bool.and_eq_true]
        refine ⟨?_, ih mr (b + 1) (fun j => by have := hl (j + 1); rw [show b + 1 + j = b + (j + 1) by omega]; simpa using this) (fun j => by have := hms (j + 1); rw [show b + 1 + j = b + (j + 1) by omega]; simpa using this)⟩
        have hk := (rec_kind (h4 b _ hb).2.1).1
        simp only at hk
        rcases hk with rfl | rfl | rfl
        · rfl
        · simp only [beq_eq]
          exact hsees b _ mi hb hmi rfl rs _ 0 (fun j => by rw [Nat.zero_add]) (fun j => by rw [Nat.zero_add])
        · simp only [beq_eq]
          exact hacts b _ mi hb hmi rfl rs 0 (fun j => by rw [Nat.zero_add])
  unfold drawX
  rw [h1]
  simp only [hst, cond_true]
  rw [hrecs rs _ 0 (fun j => by rw [Nat.zero_add]) (fun j => by rw [Nat.zero_add])]
  rfl

section
variable {P : Program} {Q : Exit → List Value → S → Prop} {tm : List Value} {s : S}

theorem WP.mono {c : Code} {Q' : Exit → List Value → S → Prop} (h : WP P c tm s Q) (hq : ∀ e tm s, Q e tm s → Q' e tm s) : WP P c tm s Q' := fun m w a hf ha hd =>
  wp_mono (h m w a hf ha hd) fun _ _ _ ⟨m', tm', s', h1, h2⟩ => ⟨m', tm', s', hq _ _ _ h1, h2⟩

def thenX (K : List Value → S → Prop) (Q : Exit → List Value → S → Prop) : Exit → List Value → S → Prop
  | .normal, tm, s => K tm s
  | e, tm, s => Q e tm s

theorem WP.seq {x y : Code} (h : WP P x tm s (thenX (fun tm s => WP P y tm s Q) Q)) : WP P (.seq x y) tm s Q := fun m w a hf ha hd => by
  refine wp_seq (wp_mono (h m w a hf ha hd) ?_)
  rintro e a' w' ⟨m', tm', s', h1, h2, h3, h4⟩
  cases e with
  | normal =>
    refine wp_mono (h1 m' w' a' h2.fits h3 h4) ?_
    rintro e a'' w'' ⟨m'', tm'', s'', g1, g2, g3, g4⟩
    exact ⟨m'', tm'', s'', g1, h2.trans g2, g3, g4⟩
  | _ => exact ⟨m', tm', s', h1, h2, h3, h4⟩
theorem WP.skip (h : Q .normal tm s) : WP P .skip tm s Q := fun m _ _ hf ha hd => wp_skip ⟨m, tm, s, h, Adv.refl hf, ha, hd⟩
theorem WP.ret (h : Q .ret tm s) : WP P .ret tm s Q := fun m _ _ hf ha hd => wp_ret ⟨m, tm, s, h, Adv.refl hf, ha, hd⟩
theorem WP.exit {id : Nat} (h : Q (.exit id) tm s) : WP P (.exit id) tm s Q := fun m _ _ hf ha hd => wp_exit ⟨m, tm, s, h, Adv.refl hf, ha, hd⟩
theorem WP.cond {c : Operand} {x y : Code} {t : Bool} (hc : evalO tm c = some (.bool t)) (h1 : t = true → WP P x tm s Q) (h2 : t = false → WP P y tm s Q) : WP P (.cond c x y) tm s Q := fun m w a hf ha hd => by
  have he := (ha.evalO hc).at
  simp only [ren] at he
  cases t with
  | true => exact wp_cond_true he.symm (h1 rfl m w a hf ha hd)
  | false => exact wp_cond_false he.symm (h2 rfl m w a hf ha hd)
def inBlockX (id : Nat) (Q : Exit → List Value → S → Prop) : Exit → List Value → S → Prop
  | .exit id', tm, s => if id' = id then Q .normal tm s else Q (.exit id') tm s
  | e, tm, s => Q e tm s
theorem WP.block {id : Nat} {c : Code} (h : WP P c tm s (inBlockX id Q)) : WP P (.block id c) tm s Q := fun m w a hf ha hd => by
  refine wp_block (wp_mono (h m w a hf ha hd) ?_)
  rintro e a' w' ⟨m', tm', s', h1, h2, h3, h4⟩
  cases e with
  | exit id' =>
    simp only [Exit.inBlock]
    simp only [inBlockX] at h1
    by_cases hid : id' = id
    · simp only [hid, if_true] at h1 ⊢; exact ⟨m', tm', s', h1, h2, h3, h4⟩
    · simp only [hid, if_false] at h1 ⊢; exact ⟨m', tm', s', h1, h2, h3, h4⟩
  | _ => exact ⟨m', tm', s', h1, h2, h3, h4⟩
/-- a loop: what holds of slots and heap at the head of each round, and a measure -/
theorem WP.loop {c : Code} (I : Nat → List Value → S → Prop) (n : Nat) (h₀ : I n tm s) (round : ∀ n tm s, I n tm s → WP P c tm s (thenX (fun tm' s' => ∃ n', n' < n ∧ I n' tm' s') Q)) : WP P (.loop c) tm s Q := by
  intro m w a hf ha hd b k cs
  have key : ∀ n tm s, I n tm s → ∀ m w a, FitsS m s w → ActR m s.nx tm a → a.defers = [] → ∃ e a' w', (∃ m' tm' s', Q e tm' s' ∧ Adv m s w m' s' w' ∧ ActR m' s'.nx tm' a' ∧ a'.defers = []) ∧ Arrives P (lone (b.at a (.code c :: .inLoop c :: k)) cs w) b k cs e a' w' := by
    intro n
    induction n using Nat.strongRecOn with
    | _ n ih =>
      intro tm s hI m w a hf ha hd
      obtain ⟨e, a₁, w₁, ⟨m₁, tm₁, s₁, hq, hadv, hact, hdf⟩, harr⟩ := round n tm s hI m w a hf ha hd b (.inLoop c :: k) cs
      cases e with
      | normal =>
        obtain ⟨n', hlt, hI'⟩ := hq
        obtain ⟨e₂, a₂, w₂, ⟨m₂, tm₂, s₂, hq₂, hadv₂, hact₂, hdf₂⟩, harr₂⟩ := ih n' hlt tm₁ s₁ hI' m₁ w₁ a₁ hadv.fits hact hdf
        exact ⟨e₂, a₂, w₂, ⟨m₂, tm₂, s₂, hq₂, hadv.trans hadv₂, hact₂, hdf₂⟩, .of_steps (Steps.trans harr (.one step_inLoop)) harr₂⟩
      | exit id => exact ⟨_, a₁, w₁, ⟨m₁, tm₁, s₁, hq, hadv, hact, hdf⟩, .pass (x := .inLoop c) rfl (fun _ _ => .inl (by simp)) harr⟩
      | goto l => exact ⟨_, a₁, w₁, ⟨m₁, tm₁, s₁, hq, hadv, hact, hdf⟩, .pass (x := .inLoop c) rfl (fun _ _ => .inl (by simp)) harr⟩
      | ret => exact ⟨_, a₁, w₁, ⟨m₁, tm₁, s₁, hq, hadv, hact, hdf⟩, .pass (x := .inLoop c) rfl (fun _ _ => .inl (by simp)) harr⟩
      | panic ch => exact ⟨_, a₁, w₁, ⟨m₁, tm₁, s₁, hq, hadv, hact, hdf⟩, .pass (x := .inLoop c) rfl (fun _ _ => .inl (by simp)) harr⟩
      | outgrown => exact ⟨_, a₁, w₁, ⟨m₁, tm₁, s₁, hq, hadv, hact, hdf⟩, .pass (x := .inLoop c) rfl (fun _ _ => .inl (by simp)) harr⟩
  obtain ⟨e, a', w', hq, harr⟩ := key n tm s h₀ m w a hf ha hd
  exact ⟨e, a', w', hq, .of_steps (.one step_loop) harr⟩

def setAll : List Value → List Nat → List Value → List Value
  | tm, k :: ks, v :: vs => setAll (tm.set k v) ks vs
  | tm, _, _ => tm
/-- a loop, by the slots that its round writes -/
theorem WP.loopAt {c : Code} (ks : List Nat) (J : Nat → List Value → S → Prop) (n : Nat) (vs₀ : List Value) (hl : vs₀.length = ks.length) (h₀ : J n vs₀ s) (htm : setAll tm ks vs₀ = tm)
    (round : ∀ n vs s, vs.length = ks.length → J n vs s → WP P c (setAll tm ks vs) s (thenX (fun tm' s' => ∃ n' vs', n' < n ∧ vs'.length = ks.length ∧ J n' vs' s' ∧ setAll tm ks vs' = tm') Q)) : WP P (.loop c) tm s Q := by
  refine WP.loop (fun n tm' s' => ∃ vs, vs.length = ks.length ∧ J n vs s' ∧ setAll tm ks vs = tm') n ⟨vs₀, hl, h₀, htm⟩ ?_
  rintro n _ s' ⟨vs, h1, h2, rfl⟩
  refine (round n vs s' h1 h2).mono ?_
  intro e tm' s'' he
  cases e with
  | normal => obtain ⟨n', vs', g1, g2, g3, g4⟩ := he; exact ⟨n', g1, vs', g2, g3, g4⟩
  | _ => exact he

/-- the heap may be known in less from here on -/
theorem WP.less {c : Code} {s' : S} (hl : Less s s') (h : WP P c tm s' Q) : WP P c tm s Q := fun m w a hf ha hd => by
  have h1 := Adv.less hf hl
  refine wp_mono (h m w a h1.fits (ha.ext h1.agree h1.nx) hd) ?_
  rintro e a' w' ⟨m', tm', s'', g1, g2, g3, g4⟩
  exact ⟨m', tm', s'', g1, h1.trans g2, g3, g4⟩

variable {T : Tb} (hT : TbOk P T) {call : CallX} (hC : CallOk P call)
include hT hC
theorem WP.region {id : Nat} {ops : Array Oper} {tm' : List Value} {s' : S} (h : opsX T call ops.toList ops.toList tm s = some (tm', s')) (hQ : Q .normal tm' s') : WP P (.region id ops false) tm s Q := fun m w a hf ha hd => by
  refine wp_region ?_
  have := ops_ok hT hC ops (fun e a' w' => ∃ m' tm' s', Q e tm' s' ∧ Adv m s w m' s' w' ∧ ActR m' s'.nx tm' a' ∧ a'.defers = []) ops.toList 0 (by simp) m s w tm a tm' s' hf ha h
    (fun m' w' a' h1 h2 h3 => ⟨m', tm', s', hQ, h1, h2, h3.trans hd⟩)
  rw [List.range_eq_range']
  simpa using this
theorem WP.draw {id : Nat} {ops : Array Oper} {tm' : List Value} {s' : S} (h : drawX T call ops.toList tm s = some (tm', s')) (hQ : Q .normal tm' s') : WP P (.region id ops true) tm s Q := fun m w a hf ha hd =>
  draw_ok hT hC ops hf ha h id fun m' w' a' h1 h2 h3 => ⟨m', tm', s', hQ, h1, h2, h3.trans hd⟩
/-- a region that draws its order: what acts in it is ordered against all that acts or reads -/
theorem WP.drawO {id : Nat} {ops : Array Oper} {tm' : List Value} {s' : S} (hst : staticOk ops.toList = true) (ho : ordOk ops.toList = true) (h : opsX T call ops.toList ops.toList tm s = some (tm', s')) (hQ : Q .normal tm' s') : WP P (.region id ops true) tm s Q :=
  WP.draw hT hC (drawX_of_ops hst ho h) hQ
/-- a region that draws its order and looks into no heap -/
theorem WP.drawP {id : Nat} {ops : Array Oper} {tm' : List Value} (hst : staticOk ops.toList = true) (h : opsP T ops.toList ops.toList tm = some tm') (hQ : Q .normal tm' s) : WP P (.region id ops true) tm s Q := by
  have key : ∀ l tm tm', opsP T ops.toList l tm = some tm' → ∃ rs, traceX T call ops.toList l tm s = some (rs, tm', s) ∧ ∀ r ∈ rs, r.2.2.2.1 = 0 := by
    intro l
    induction l with
    | nil => intro tm tm' h; simp only [opsP, Option.some.injEq] at h; subst h; exact ⟨[], rfl, by simp⟩
    | cons o l ih =>
      intro tm tm' h
      simp only [opsP] at h
      simp only [traceX, recX]
      cases hw : wantedX ops.toList tm o with
      | false =>
        simp only [hw, cond_false] at h ⊢
        obtain ⟨rs, h1, h2⟩ := ih _ _ h
        refine ⟨(tm, o, undef, 0, s, s) :: rs, by rw [h1], fun r hr => ?_⟩
        rcases List.mem_cons.1 hr with rfl | hr
        · rfl
        · exact h2 r hr
      | true =>
        simp only [hw, cond_true] at h ⊢
        cases hp : pureX T tm o.op with
        | none => simp [hp] at h
        | some v =>
          simp only [hp] at h ⊢
          obtain ⟨rs, h1, h2⟩ := ih _ _ h
          refine ⟨(tm, o, v, 0, s, s) :: rs, by rw [h1], fun r hr => ?_⟩
          rcases List.mem_cons.1 hr with rfl | hr
          · rfl
          · exact h2 r hr
  obtain ⟨rs, h1, h2⟩ := key _ _ _ h
  have hlen := (trace_ok _ _ _ _ _ _ h1).1
  have hm := (masks_get ops.toList []).1
  have hrs : ∀ (R : List Rec) (l : List Rec) (mr : List Nat) (b : Nat), l.length ≤ mr.length → (∀ r ∈ l, r.2.2.2.1 = 0) → recsOk T R (masks ops.toList []) l mr b = true := by
    intro R l
    induction l with
    | nil => intro mr b _ _; cases mr <;> simp [recsOk]
    | cons x l ih =>
      intro mr b hl h0
      obtain ⟨x1, x2, x3, x4, x5, x6⟩ := x
      cases mr with
      | nil => simp at hl
      | cons mi mr =>
        have hx : x4 = 0 := h0 (x1, x2, x3, x4, x5, x6) (by simp)
        subst hx
        simp only [recsOk, beq_eq, decide_true, cond_true, Bool.true_and]
        exact ih mr (b + 1) (by simpa using hl) (fun r hr => h0 r (by simp [hr]))
  refine WP.draw hT hC (s' := s) ?_ hQ
  unfold drawX
  rw [h1]
  simp only [hst, cond_true]
  rw [hrs rs rs _ 0 (by rw [hm, hlen]; simp) h2]
  rfl
omit hC in
/-- a call out of its body -/
theorem Ev.of_body {f : FuncId} {fn : Func} {c : Code} {args : List Value} {v : Value} {s₁ : S} (hf : T.fn f = some fn) (hb : fn.body = some c)
    (h : WP P c (pad fn.ntmps args) s fun e tm' s' => (e = .normal ∨ e = .ret) ∧ ∃ l s₂, resX T tm' s' fn.results.toList = some l ∧ oneX l = v ∧ Less s' s₂ ∧ s₂ = s₁) : Ev P f args s v s₁ := fun m w cargs hfit hargs => by
  obtain ⟨hf0, _⟩ := hT.fn f fn hf
  have hcl : cargs.length = args.length := by rw [← hargs.at]; simp
  refine calls_of_wp hf0 hb ?_
  have hact : ActR m s.nx (pad fn.ntmps args) { tmps := cargs.toArray ++ Array.replicate (fn.ntmps - cargs.toArray.size) undef, defers := [] } := fun m' hm' => by
    simp only [pad_eq, renL_append, hargs m' hm', hcl, List.size_toArray]
    apply Array.ext'
    simp [renL_eq, ren, undef]
  refine wp_mono (h m w _ hfit hact rfl) ?_
  rintro e a' w' ⟨m', tm', s', ⟨he, l, s₂, hres, rfl, hless, rfl⟩, hadv, hact', hdf⟩
  have hfin := hadv.fits
  have hrun : ∀ m'', Agree s'.nx m' m'' → (results fn a'.tmps).run P w' = .ok (ren m'' (oneX l)) w' := fun m'' hm'' => by
    rw [hact' m'' hm'']
    exact results_ok hT (hfin m'' hm'') hres
  have hrel : RelS m' s'.nx (oneX l) (ren m' (oneX l)) := fun m'' hm'' => by
    have e1 := hrun m'' hm''
    rw [hrun m' (Agree.refl _ _)] at e1
    simp at e1
    exact e1.symm
  have hpost : bodyPost P fn (fun e w₁ => ∃ m₁ cv, e = .returned cv ∧ Adv m s w m₁ s₂ w₁ ∧ RelS m₁ s₂.nx (oneX l) cv) .ret a' w' :=
    ⟨hdf, _, hrun m' (Agree.refl _ _), m', _, rfl, hadv.trans (Adv.less hfin hless), hrel.ext (Agree.refl _ _) hless.1⟩
  rcases he with rfl | rfl
  · exact hpost
  · exact hpost
end

/-- calls that are given by contracts; all others are not made -/
theorem callOk_of (P : Program) (call : CallX) (h : ∀ f args s v s₁, call f args s = some (v, s₁) → Ev P f args s v s₁) : CallOk P call := fun f args s v s₁ hc => h f args s v s₁ hc
end Go.Rx
