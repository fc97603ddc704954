/-
  RxP: a region, one operation at a time.
-/
import Derived.Test.YtcanbnholmlapaaRxO
namespace Go.Rx
open Go

/-- A CALL WHOSE ARGUMENTS AND RESULT HOLD NO ADDRESS, walked from no heap at all: it comes to the same over every heap, and leaves it as it was. -/
theorem Ev.frame0 {P : Program} {f : FuncId} {args : List Value} {v : Value} {s₁ : S} (h : Ev P f args ⟨[], 0⟩ v s₁) (ha : ∀ m, renL m args = args) (hv : ∀ m, ren m v = v) (s : S) : Ev P f args s v s := fun m w cargs hf hargs => by
  have hc : cargs = args := by rw [← hargs.at, ha]
  subst hc
  have h0 : FitsS ⟨id, id, id⟩ ⟨[], 0⟩ w := fun m' _ => ⟨fun i b hb => by simp [lk] at hb, fun i j b c hb => by simp [lk] at hb, fun i b hb => by simp [lk] at hb⟩
  refine (h ⟨id, id, id⟩ w cargs h0 (fun m' _ => ha m')).mono ?_
  rintro e w₁ ⟨m₁, cv, rfl, h1, h2⟩
  have hsame : ∀ b, b < w.heap.size → w₁.heap[b]? = w.heap[b]? := fun b hb => h1.same b hb fun ⟨i, c, hc, _⟩ => by simp [lk] at hc
  refine ⟨m, cv, rfl, ⟨Agree.refl _ _, Nat.le_refl _, fun m' hm' => ?_, fun b hb => .inl hb, fun b hb _ => hsame b hb, h1.size, h1.os, h1.tape, h1.output, h1.drawn⟩, fun m' _ => ?_⟩
  · have hfm := hf m' hm'
    exact ⟨fun i b hb => (hfm.ok i b hb).world (hsame _ (hfm.size hb)), hfm.inj, hfm.bd⟩
  · rw [hv, ← h2.at, hv]
theorem less_none {s : S} {n : Nat} (h : s.nx ≤ n) : Less s ⟨[], n⟩ := ⟨h, fun i b hb => by simp [lk] at hb⟩
/-- the operations that need no table -/
def p0 (tm : List Value) (op : Op) : Option Value :=
  match op with
  | .move x => evalO tm x
  | .assign x => evalO tm x
  | .pick c a b => match evalO tm c with
    | some (.bool true) => evalO tm a
    | some (.bool false) => evalO tm b
    | _ => none
  | .nilCheck x => match evalO tm x with
    | some (.pointer (some a)) => some (.pointer (some a))
    | _ => none
  | .binOp op _ x y _ => match evalO tm x, evalO tm y with
    | some (.int k a), some (.int k' b) => intX op k a k' b
    | _, _ => none
  | .unOp op _ x => match evalO tm x with
    | some a => unX op a
    | none => none
  | .makeFunc fn first cap => match evalL tm first.toList, evalL tm cap.toList with
    | some a, some b => some (.func fn a.toArray b.toArray)
    | _, _ => none
  | .extract x i => match evalO tm x with
    | some a => extractX a i
    | none => none
  | .call c => match c.callee with
    | .builtin .max => match evalL tm c.args.toList with
      | some (x :: l) => foldX max2X x l
      | _ => none
    | .builtin .min => match evalL tm c.args.toList with
      | some (x :: l) => foldX min2X x l
      | _ => none
    | _ => none
  | _ => none
theorem p0_pure (T : Tb) {tm : List Value} {op : Op} {v : Value} (h : p0 tm op = some v) : pureX T tm op = some v := by
  cases op with
  | nilCheck x =>
    simp only [p0] at h
    simp only [pureX]
    cases hx : evalO tm x with
    | none => simp [hx] at h
    | some u =>
      cases u with
      | pointer p => cases p with
        | none => simp [hx] at h
        | some a => simpa [hx] using h
      | _ => simp [hx] at h
  | binOp o t x y ty =>
    simp only [p0] at h
    simp only [pureX]
    cases hx : evalO tm x with
    | none => simp [hx] at h
    | some u =>
      cases hy : evalO tm y with
      | none => simp [hx, hy] at h
      | some u' =>
        cases u with
        | int k a => cases u' with
          | int k' b => simpa [hx, hy, binX] using h
          | _ => simp [hx, hy] at h
        | _ => simp [hx, hy] at h
  | call c =>
    obtain ⟨callee, args, ats⟩ := c
    simp only [p0] at h
    simp only [pureX]
    cases callee with
    | builtin b => cases b <;> first | exact h | (simp at h)
    | _ => simp at h
  | move x => exact h
  | assign x => exact h
  | pick c a b => exact h
  | unOp o t x => exact h
  | makeFunc f a b => exact h
  | extract x i => exact h
  | _ => simp [p0] at h

theorem w_none {ops : List Oper} {tm : List Value} {o : Oper} (hg : o.guard = none) : wantedX ops tm o = true := by simp [wantedX, hg]
theorem w_yes {ops : List Oper} {tm : List Value} {o : Oper} {j : Nat} {w w' : Bool} {d : Tmp} (hg : o.guard = some (j, w)) (hd : dstOf ops j = some d) (ht : nth tm d = some (.bool w')) (hb : (w' == w) = true) : wantedX ops tm o = true := by simp [wantedX, hg, hd, ht, hb]
theorem w_no {ops : List Oper} {tm : List Value} {o : Oper} {j : Nat} {w w' : Bool} {d : Tmp} (hg : o.guard = some (j, w)) (hd : dstOf ops j = some d) (ht : nth tm d = some (.bool w')) (hb : (w' == w) = false) : wantedX ops tm o = false := by simp [wantedX, hg, hd, ht, hb]
/-- what is left of a region comes to K -/
def RO (T : Tb) (call : CallX) (ops rest : List Oper) (tm : List Value) (s : S) (K : List Value → S → Prop) : Prop := ∃ tm' s', opsX T call ops rest tm s = some (tm', s') ∧ K tm' s'
section
variable {T : Tb} {call : CallX} {ops rest : List Oper} {o : Oper} {tm : List Value} {s : S} {K : List Value → S → Prop}
theorem RO.nil (h : K tm s) : RO T call ops [] tm s K := ⟨tm, s, rfl, h⟩
theorem RO.yes {v : Value} {s' : S} (hw : wantedX ops tm o = true) (hx : opX T call tm s o.op = some (v, s')) (h : RO T call ops rest (putT tm o.dst v) s' K) : RO T call ops (o :: rest) tm s K := by
  obtain ⟨tm', s'', h1, h2⟩ := h
  exact ⟨tm', s'', by simp only [opsX, hw, cond_true, hx, h1], h2⟩
theorem RO.p {v : Value} (hw : wantedX ops tm o = true) (hx : p0 tm o.op = some v) (h : RO T call ops rest (putT tm o.dst v) s K) : RO T call ops (o :: rest) tm s K :=
  RO.yes hw (by simp only [opX, p0_pure T hx]) h
theorem RO.no (hw : wantedX ops tm o = false) (h : RO T call ops rest (putT tm o.dst undef) s K) : RO T call ops (o :: rest) tm s K := by
  obtain ⟨tm', s'', h1, h2⟩ := h
  exact ⟨tm', s'', by simp only [opsX, hw, cond_false, h1], h2⟩
end
theorem opX_rem {T : Tb} {call : CallX} {tm : List Value} {s : S} {t ty : TypeId} {x y : Operand} {k : IntKind} {a b : Int} (hx : evalO tm x = some (.int k a)) (hy : evalO tm y = some (.int k b)) (h : b ≠ 0) : opX T call tm s (.binOp .rem t x y ty) = some (.int k (a.tmod b), s) := by
  simp [opX, pureX, hx, hy, binX, intX, h]
theorem opX_quo {T : Tb} {call : CallX} {tm : List Value} {s : S} {t ty : TypeId} {x y : Operand} {k : IntKind} {a b : Int} (hx : evalO tm x = some (.int k a)) (hy : evalO tm y = some (.int k b)) (h : b ≠ 0) : opX T call tm s (.binOp .quo t x y ty) = some (.int k (k.wrap (a.tdiv b)), s) := by
  simp [opX, pureX, hx, hy, binX, intX, h]
theorem opX_call {T : Tb} {call : CallX} {tm : List Value} {s : S} {op : Op} {f : FuncId} {args : List Value} {r : Value × S} (h1 : pureX T tm op = none) (h2 : readX T tm s op = none) (h3 : effX T tm s op = none) (h4 : callOf T tm op = some (f, args)) (h5 : call f args s = some r) : opX T call tm s op = some r := by
  simp [opX, h1, h2, h3, h4, h5]

theorem opX_bin {T : Tb} {call : CallX} {tm : List Value} {s : S} {op : BinOp} {t ty : TypeId} {x y : Operand} {a b v : Value} (hx : evalO tm x = some a) (hy : evalO tm y = some b) (h : binX T op t a b = some v) : opX T call tm s (.binOp op t x y ty) = some (v, s) := by
  simp [opX, pureX, hx, hy, h]
/-- out of no heap at all: the call returns; nothing that was there has turned -/
theorem Ev.closed {P : Program} {f : FuncId} {args : List Value} {v : Value} {s₁ : S} (h : Ev P f args ⟨[], 0⟩ v s₁) (ha : ∀ m, renL m args = args) (hv : ∀ m, ren m v = v) (w : World) :
    Calls P f args.toArray w fun e w' => e = .returned v ∧ RowKit.Below w.heap.size w w' := by
  have h0 : FitsS ⟨id, id, id⟩ ⟨[], 0⟩ w := fun m' _ => ⟨fun i b hb => by simp [lk] at hb, fun i j b c hb => by simp [lk] at hb, fun i b hb => by simp [lk] at hb⟩
  refine (h ⟨id, id, id⟩ w args h0 (fun m' _ => ha m')).mono ?_
  rintro e w₁ ⟨m₁, cv, rfl, h1, h2⟩
  refine ⟨by rw [← h2.at, hv], h1.below fun b hb => ?_⟩
  obtain ⟨i, c, hc, _⟩ := hb
  simp [lk] at hc

section
variable {P : Program} {Q : Exit → List Value → S → Prop} {tm : List Value} {s : S} {T : Tb} (hT : TbOk P T) {call : CallX} (hC : CallOk P call)
include hT hC
theorem WP.reg {id : Nat} {ops : Array Oper} (h : ∀ K : List Value → S → Prop, (∀ tm s, Q .normal tm s → K tm s) → RO T call ops.toList ops.toList tm s K) : WP P (.region id ops false) tm s Q := by
  obtain ⟨tm', s', h1, h2⟩ := h (Q .normal) (fun _ _ h => h)
  exact WP.region hT hC h1 h2
theorem WP.regO {id : Nat} {ops : Array Oper} (hst : staticOk ops.toList = true) (ho : ordOk ops.toList = true) (h : ∀ K : List Value → S → Prop, (∀ tm s, Q .normal tm s → K tm s) → RO T call ops.toList ops.toList tm s K) : WP P (.region id ops true) tm s Q := by
  obtain ⟨tm', s', h1, h2⟩ := h (Q .normal) (fun _ _ h => h)
  exact WP.drawO hT hC hst ho h1 h2
omit hT hC in
/-- a cut: what holds between two pieces of code -/
theorem WP.cut {x y : Code} (I : List Value → S → Prop) (h : WP P x tm s fun e tm' s' => e = .normal ∧ I tm' s') (h2 : ∀ tm' s', I tm' s' → WP P y tm' s' Q) : WP P (.seq x y) tm s Q := by
  refine WP.seq (h.mono ?_)
  rintro e tm' s' ⟨rfl, hi⟩
  exact h2 tm' s' hi
end
end Go.Rx
