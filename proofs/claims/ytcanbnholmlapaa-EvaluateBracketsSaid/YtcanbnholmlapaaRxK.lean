/-
  RxK: all operations that make or write memory together; one operation; the operations of a region in the order of the text.
-/
import Derived.Test.YtcanbnholmlapaaRxJ
namespace Go.Rx
open Go

/-- the slots of an activation, under every naming that goes on from here -/
def ActR (m : Nm) (n : Nat) (tm : List Value) (a : Act) : Prop := ∀ m', Agree n m m' → a.tmps = ⟨renL m' tm⟩
theorem ActR.ext {m m' : Nm} {n n' : Nat} {tm : List Value} {a : Act} (h : ActR m n tm a) (ha : Agree n m m') (hn : n ≤ n') : ActR m' n' tm a := fun k hk => h k (ha.trans hk hn)
theorem ActR.evalO {m : Nm} {n : Nat} {tm : List Value} {a : Act} (h : ActR m n tm a) {x : Operand} {v : Value} (hx : evalO tm x = some v) : RelS m n v (a.eval x) := fun m' ha => (evalO_ok (h m' ha) hx).symm
theorem renL_set (m : Nm) (tm : List Value) (d : Nat) (v : Value) : renL m (tm.set d v) = (renL m tm).set d (ren m v) := by simp [renL_eq, List.map_set]
theorem ActR.put {m : Nm} {n : Nat} {tm : List Value} {a : Act} (h : ActR m n tm a) {v cv : Value} (hv : RelS m n v cv) (d : Option Tmp) : ActR m n (putT tm d v) (a.put d cv) := fun m' ha => by
  cases d with
  | none => exact h m' ha
  | some d => simp only [Act.put, putT, h m' ha, renL_set, hv m' ha, List.setIfInBounds_toArray]

section
variable {P : Program} {T : Tb} (hT : TbOk P T) {m : Nm} {s : S} {w : World} (hf : FitsS m s w)
include hT hf

theorem eff_ok {tm : List Value} {a : Act} (ha : ActR m s.nx tm a) (o : Oper) {v : Value} {s₁ : S} (h : effX T tm s o.op = some (v, s₁)) :
    ∃ m₁ w₁ cv nxt, (execOp a.eval o).run P w = .ok nxt w₁ ∧ (nxt = .value cv ∨ (nxt = .skip ∧ cv = undef)) ∧ Adv m s w m₁ s₁ w₁ ∧ RelS m₁ s₁.nx v cv := by
  obtain ⟨dst, op, type, pos, after, guard⟩ := o
  simp only at h
  have hval : ∀ {x : Sem Value}, Eff P m s w x v s₁ → ∃ m₁ w₁ cv nxt, (do let y ← x; pure (Next.value y) : Sem Next).run P w = .ok nxt w₁ ∧ (nxt = .value cv ∨ (nxt = .skip ∧ cv = undef)) ∧ Adv m s w m₁ s₁ w₁ ∧ RelS m₁ s₁.nx v cv := by
    rintro x ⟨m₁, w₁, cv, h1, h2, h3⟩
    exact ⟨m₁, w₁, cv, _, by simp only [Sem.run_bind, h1, Result.andThen_ok, Sem.run_pure], .inl rfl, h2, h3⟩
  have hunit : ∀ {x : Sem Unit}, EffU P m s w x s₁ ∧ v = undef → ∃ m₁ w₁ cv nxt, (do x; pure Next.skip : Sem Next).run P w = .ok nxt w₁ ∧ (nxt = .value cv ∨ (nxt = .skip ∧ cv = undef)) ∧ Adv m s w m₁ s₁ w₁ ∧ RelS m₁ s₁.nx v cv := by
    rintro x ⟨⟨m₁, w₁, h1, h2⟩, rfl⟩
    exact ⟨m₁, w₁, undef, _, by simp only [Sem.run_bind, h1, Result.andThen_ok, Sem.run_pure], .inr ⟨rfl, rfl⟩, h2, relS_refl fun _ => by simp [undef, ren, renL]⟩
  unfold effX at h
  cases op with
  | alloc e =>
    simp only at h
    cases hi : T.inf e with
    | none => simp [hi] at h
    | some x =>
      obtain ⟨x1, x2, z⟩ := x
      simp only [hi, Option.some.injEq, Prod.mk.injEq] at h
      obtain ⟨rfl, rfl⟩ := h
      have hz := (run_zero hT m w hi).1
      have hzc := zero_cells hT hi
      simp only at hz hzc
      refine hval ⟨_, _, .pointer (some ⟨w.heap.size, 0, none⟩), ?_, new_row hf (relL_plain hzc) e 0, relS_new _ _ _ _ (Nat.lt_succ_self _)⟩
      simp [Instr.alloc, hz, newVar, Go.newRow]
  | box e x =>
    simp only at h
    cases hx : evalO tm x with
    | none => simp [hx] at h
    | some u =>
      simp only [hx, Option.some.injEq, Prod.mk.injEq] at h
      obtain ⟨rfl, rfl⟩ := h
      refine hval ⟨_, _, .pointer (some ⟨w.heap.size, 0, none⟩), ?_, new_row hf (ha.evalO hx).cells e 0, relS_new _ _ _ _ (Nat.lt_succ_self _)⟩
      simp [Instr.box, newVar, Go.newRow]
  | store t p x =>
    simp only at h
    cases hp : evalO tm p with
    | none => simp [hp] at h
    | some u =>
      cases hx : evalO tm x with
      | none => simp [hp, hx] at h
      | some u' =>
        simp only [hp, hx] at h
        exact hunit (store_ok hT hf (ha.evalO hp) (ha.evalO hx) h)
  | buildSlice t n ps =>
    simp only at h
    cases hp : evalP tm ps.toList with
    | none => simp [hp] at h
    | some qs =>
      simp only [hp] at h
      have e1 : (ps.map fun (i, x) => (i, a.eval x)) = (ps.toList.map fun p => (p.1, a.eval p.2)).toArray := by cases ps; simp
      have := makeList_ok hT hf (cps := ps.toList.map fun p => (p.1, a.eval p.2)) (fun m' hm' => (evalP_ok (ha m' hm') hp).symm) h
      simp only [execOp]
      rw [e1]
      exact hval this
  | makeSlice t l c =>
    simp only at h
    cases hp : evalO tm l with
    | none => simp [hp] at h
    | some u =>
      cases hx : evalO tm c with
      | none => simp [hp, hx] at h
      | some u' =>
        simp only [hp, hx] at h
        exact hval (make_ok hT hf (ha.evalO hp) (ha.evalO hx) h)
  | makeMap t r =>
    cases r with
    | some r => simp at h
    | none =>
      simp only [Option.some.injEq, Prod.mk.injEq] at h
      obtain ⟨rfl, rfl⟩ := h
      refine hval ⟨_, _, .map (some w.heap.size), ?_, Adv.alloc hf (.map #[] 0) (.inr ([], 0)) 0 ?_, fun m' hm' => ?_⟩
      · simp [Instr.makeMap]
      · intro m' hm'
        have e1 := (hm' s.nx (Nat.lt_succ_self _)).1
        simp only [BlkOk, e1, (set_blk m s.nx w.heap.size 0 0).1]
        show (w.heap.push _)[w.heap.size]? = _
        simp
      · have e1 := (hm' s.nx (Nat.lt_succ_self _)).1
        simp only [ren, e1, (set_blk m s.nx w.heap.size 0 0).1]
  | slice t x lo hi mx =>
    simp only at h
    cases hx : evalO tm x with
    | none => simp [hx] at h
    | some u =>
      cases h1 : evalM tm lo with
      | none => simp [hx, h1] at h
      | some l =>
        cases h2 : evalM tm hi with
        | none => simp [hx, h1, h2] at h
        | some hh =>
          cases h3 : evalM tm mx with
          | none => simp [hx, h1, h2, h3] at h
          | some mm =>
            simp only [hx, h1, h2, h3] at h
            exact hval (sliceE_ok hT hf (ha.evalO hx) (fun m' hm' => (evalM_ok (ha m' hm') h1).symm) (fun m' hm' => (evalM_ok (ha m' hm') h2).symm) (fun m' hm' => (evalM_ok (ha m' hm') h3).symm) h)
  | mapUpdate t q k x =>
    simp only at h
    cases h1 : evalO tm q with
    | none => simp [h1] at h
    | some u1 =>
      cases h2 : evalO tm k with
      | none => simp [h1, h2] at h
      | some u2 =>
        cases h3 : evalO tm x with
        | none => simp [h1, h2, h3] at h
        | some u3 =>
          simp only [h1, h2, h3] at h
          exact hunit (mapUp_ok hT hf (ha.evalO h1) (ha.evalO h2) (ha.evalO h3) h)
  | insert t q k x =>
    simp only at h
    cases h1 : evalO tm q with
    | none => simp [h1] at h
    | some u1 =>
      cases h2 : evalO tm k with
      | none => simp [h1, h2] at h
      | some u2 =>
        cases h3 : evalO tm x with
        | none => simp [h1, h2, h3] at h
        | some u3 =>
          simp only [h1, h2, h3] at h
          exact hunit (mapUp_ok hT hf (ha.evalO h1) (ha.evalO h2) (ha.evalO h3) h)
  | mapEntry t q k =>
    simp only at h
    cases h1 : evalO tm q with
    | none => simp [h1] at h
    | some u1 =>
      cases h2 : evalO tm k with
      | none => simp [h1, h2] at h
      | some u2 =>
        simp only [h1, h2] at h
        exact hval (mapEnt_ok hT hf (ha.evalO h1) (ha.evalO h2) h)
  | entryStore t q k x =>
    simp only at h
    cases h1 : evalO tm q with
    | none => simp [h1] at h
    | some u1 =>
      cases h2 : evalO tm k with
      | none => simp [h1, h2] at h
      | some u2 =>
        cases h3 : evalO tm x with
        | none => simp [h1, h2, h3] at h
        | some u3 =>
          simp only [h1, h2, h3] at h
          exact hunit (entSt_ok hf (ha.evalO h1) (ha.evalO h2) (ha.evalO h3) h)
  | call c =>
    obtain ⟨callee, args, ats⟩ := c
    simp only at h
    cases callee with
    | builtin b =>
      cases b with
      | append =>
        simp only at h
        cases hx : evalL tm args.toList with
        | none => simp [hx] at h
        | some vs =>
          rcases vs with _ | ⟨x, _ | ⟨y, _ | ⟨z, l⟩⟩⟩
          · simp [hx] at h
          · simp [hx] at h
          · obtain ⟨ats⟩ := ats
            rcases ats with _ | ⟨t, _ | ⟨xt, _ | ⟨q, r⟩⟩⟩
            · simp [hx] at h
            · simp [hx] at h
            · simp only [hx] at h
              have e0 := evalA_ok (ha m (Agree.refl _ _)) hx
              simp only [renL] at e0
              have r1 : RelS m s.nx x (ren m x) := fun m' hm' => by
                have e1 := evalA_ok (ha m' hm') hx
                rw [e0] at e1
                simp only [renL] at e1
                simp at e1; exact e1.1.symm
              have r2 : RelS m s.nx y (ren m y) := fun m' hm' => by
                have e1 := evalA_ok (ha m' hm') hx
                rw [e0] at e1
                simp only [renL] at e1
                simp at e1; exact e1.2.symm
              obtain ⟨m₁, w₁, cv, g1, g2, g3⟩ := append_ok hT hf (ty := type) r1 r2 h
              refine ⟨m₁, w₁, cv, .value cv, ?_, .inl rfl, g2, g3⟩
              simp only [execOp, Sem.run_bind, resolve, Sem.run_pure, Result.andThen_ok, invoke, builtin, e0]
              rw [g1]; rfl
            · simp [hx] at h
          · simp [hx] at h
      | copy =>
        simp only at h
        cases hx : evalL tm args.toList with
        | none => simp [hx] at h
        | some vs =>
          rcases vs with _ | ⟨x, _ | ⟨y, _ | ⟨z, l⟩⟩⟩
          · simp [hx] at h
          · simp [hx] at h
          · obtain ⟨ats⟩ := ats
            rcases ats with _ | ⟨t, ts⟩
            · simp [hx] at h
            · simp only [hx] at h
              have e0 := evalA_ok (ha m (Agree.refl _ _)) hx
              simp only [renL] at e0
              have r1 : RelS m s.nx x (ren m x) := fun m' hm' => by
                have e1 := evalA_ok (ha m' hm') hx
                rw [e0] at e1
                simp only [renL] at e1
                simp at e1; exact e1.1.symm
              have r2 : RelS m s.nx y (ren m y) := fun m' hm' => by
                have e1 := evalA_ok (ha m' hm') hx
                rw [e0] at e1
                simp only [renL] at e1
                simp at e1; exact e1.2.symm
              obtain ⟨m₁, w₁, cv, g1, g2, g3⟩ := copy_ok hT hf (ty := type) (ts := ts) r1 r2 h
              refine ⟨m₁, w₁, cv, .value cv, ?_, .inl rfl, g2, g3⟩
              simp only [execOp, Sem.run_bind, resolve, Sem.run_pure, Result.andThen_ok, invoke, builtin, e0]
              rw [g1]; rfl
          · simp [hx] at h
      | delete =>
        simp only at h
        cases hx : evalL tm args.toList with
        | none => simp [hx] at h
        | some vs =>
          rcases vs with _ | ⟨x, _ | ⟨y, _ | ⟨z, l⟩⟩⟩
          · simp [hx] at h
          · simp [hx] at h
          · obtain ⟨ats⟩ := ats
            rcases ats with _ | ⟨t, ts⟩
            · simp [hx] at h
            · simp only [hx] at h
              have e0 := evalA_ok (ha m (Agree.refl _ _)) hx
              simp only [renL] at e0
              have r1 : RelS m s.nx x (ren m x) := fun m' hm' => by
                have e1 := evalA_ok (ha m' hm') hx
                rw [e0] at e1
                simp only [renL] at e1
                simp at e1; exact e1.1.symm
              have r2 : RelS m s.nx y (ren m y) := fun m' hm' => by
                have e1 := evalA_ok (ha m' hm') hx
                rw [e0] at e1
                simp only [renL] at e1
                simp at e1; exact e1.2.symm
              obtain ⟨m₁, w₁, cv, g1, g2, g3⟩ := del_ok hT hf (ty := type) (ts := ts) r1 r2 h
              refine ⟨m₁, w₁, cv, .value cv, ?_, .inl rfl, g2, g3⟩
              simp only [execOp, Sem.run_bind, resolve, Sem.run_pure, Result.andThen_ok, invoke, builtin, e0]
              rw [g1]; rfl
          · simp [hx] at h
      | _ => simp at h
    | _ => simp at h
  | _ => simp at h
end

/-- what a call gives, symbolically, is what it comes to -/
def CallOk (P : Program) (call : CallX) : Prop :=
  ∀ f args s v s₁, call f args s = some (v, s₁) → ∀ m w cargs, FitsS m s w → RelL m s.nx args cargs →
    Calls P f cargs.toArray w fun e w₁ => ∃ m₁ cv, e = .returned cv ∧ Adv m s w m₁ s₁ w₁ ∧ RelS m₁ s₁.nx v cv

section
variable {P : Program} {T : Tb} (hT : TbOk P T) {call : CallX} (hC : CallOk P call)
include hT

theorem callOf_ok {m : Nm} {n : Nat} {tm : List Value} {a : Act} (ha : ActR m n tm a) (o : Oper) (w : World) {f : FuncId} {args : List Value} (h : callOf T tm o.op = some (f, args)) :
    ∃ cargs, (execOp a.eval o).run P w = .ok (.enter f cargs.toArray) w ∧ RelL m n args cargs := by
  obtain ⟨dst, op, type, pos, after, guard⟩ := o
  simp only at h
  unfold callOf at h
  cases op with
  | call c =>
    obtain ⟨callee, as, ats⟩ := c
    simp only at h
    cases callee with
    | value g =>
      simp only at h
      cases hg : evalO tm g with
      | none => simp [hg] at h
      | some u =>
        cases u with
        | func fn first cap =>
          cases fn with
          | func k =>
            simp only [hg] at h
            cases hk : T.fn k with
            | none => simp [hk] at h
            | some fn =>
              simp only [hk] at h
              cases hb : fn.body.isSome with
              | false => simp [hb] at h
              | true =>
                simp only [hb, cond_true] at h
                cases hl : evalL tm as.toList with
                | none => simp [hl] at h
                | some vs =>
                  simp only [hl, Option.some.injEq, Prod.mk.injEq] at h
                  obtain ⟨rfl, rfl⟩ := h
                  obtain ⟨hfn, hname⟩ := hT.fn k fn hk
                  obtain ⟨first⟩ := first
                  obtain ⟨cap⟩ := cap
                  have e0 := evalO_ok (ha m (Agree.refl _ _)) hg
                  have e1 := evalA_ok (ha m (Agree.refl _ _)) hl
                  refine ⟨renL m first ++ renL m vs ++ renL m cap, ?_, fun m' hm' => ?_⟩
                  · have hnb : fn.body.isNone = false := by cases hbb : fn.body <;> simp_all
                    simp only [ren, renA_mk] at e0
                    simp only [execOp, Sem.run_bind, resolve, e0, e1, Deferred.ofValue, Sem.run_pure, Result.andThen_ok, invoke, callFunc, run_program, hfn, hname hb, hnb, Bool.false_eq_true, if_false]
                    simp
                  · have e0' := evalO_ok (ha m' hm') hg
                    have e1' := evalA_ok (ha m' hm') hl
                    rw [e0] at e0'
                    rw [e1] at e1'
                    simp only [ren, renA_mk] at e0'
                    simp at e0' e1'
                    rw [renL_append, renL_append, e0'.1, e0'.2, e1']
          | _ => simp [hg] at h
        | _ => simp [hg] at h
    | _ => simp at h
  | _ => simp at h

include hC
theorem op_ok {m : Nm} {s : S} {w : World} (hf : FitsS m s w) {tm : List Value} {a : Act} (ha : ActR m s.nx tm a) (o : Oper) {v : Value} {s₁ : S} (h : opX T call tm s o.op = some (v, s₁))
    {next : Act → World → Prop} {Q : Exit → Act → World → Prop} (hn : ∀ m₁ w₁ cv, Adv m s w m₁ s₁ w₁ → RelS m₁ s₁.nx v cv → next (a.put o.dst cv) w₁) : o.wp P a w next Q := by
  unfold opX at h
  unfold Oper.wp
  cases h1 : pureX T tm o.op with
  | some u =>
    simp only [h1, Option.some.injEq, Prod.mk.injEq] at h
    obtain ⟨rfl, rfl⟩ := h
    have hrun := fun m' hm' => pure_ok hT m' w (ha m' hm') o h1
    rw [hrun m (Agree.refl _ _)]
    refine hn m w _ (Adv.refl hf) fun m' hm' => ?_
    have e1 := hrun m' hm'
    rw [hrun m (Agree.refl _ _)] at e1
    simp at e1; exact e1.symm
  | none =>
    simp only [h1] at h
    cases h2 : readX T tm s o.op with
    | some u =>
      simp only [h2, Option.some.injEq, Prod.mk.injEq] at h
      obtain ⟨rfl, rfl⟩ := h
      have hrun := fun m' hm' => read_ok hT m' w (hf m' hm') (ha m' hm') o h2
      rw [hrun m (Agree.refl _ _)]
      refine hn m w _ (Adv.refl hf) fun m' hm' => ?_
      have e1 := hrun m' hm'
      rw [hrun m (Agree.refl _ _)] at e1
      simp at e1; exact e1.symm
    | none =>
      simp only [h2] at h
      cases h3 : effX T tm s o.op with
      | some r =>
        simp only [h3, Option.some.injEq] at h
        subst h
        obtain ⟨m₁, w₁, cv, nxt, g1, g2, g3, g4⟩ := eff_ok hT hf ha o h3
        rw [g1]
        rcases g2 with rfl | ⟨rfl, rfl⟩
        · exact hn m₁ w₁ cv g3 g4
        · exact hn m₁ w₁ undef g3 g4
      | none =>
        simp only [h3] at h
        cases h4 : callOf T tm o.op with
        | none => simp [h4] at h
        | some q =>
          obtain ⟨f, args⟩ := q
          simp only [h4] at h
          obtain ⟨cargs, g1, g2⟩ := callOf_ok hT ha o w h4
          rw [g1]
          show Calls P f _ w _
          refine (hC f args s v s₁ h m w cargs hf g2).mono ?_
          rintro e w₁ ⟨m₁, cv, rfl, g3, g4⟩
          exact hn m₁ w₁ cv g3 g4

/-- the same, where the act that runs is another one that has the same operands -/
theorem op_okN {m : Nm} {s : S} {w : World} (hf : FitsS m s w) {tm : List Value} {a : Act} (ha : ActR m s.nx tm a) (o : Oper) {a' : Act} (hex : execOp a'.eval o = execOp a.eval o) {v : Value} {s₁ : S} (h : opX T call tm s o.op = some (v, s₁))
    {next : Act → World → Prop} {Q : Exit → Act → World → Prop} (hn : ∀ m₁ w₁ cv, Adv m s w m₁ s₁ w₁ → RelS m₁ s₁.nx v cv → next (a'.put o.dst cv) w₁) : o.wp P a' w next Q := by
  unfold opX at h
  unfold Oper.wp
  rw [hex]
  cases h1 : pureX T tm o.op with
  | some u =>
    simp only [h1, Option.some.injEq, Prod.mk.injEq] at h
    obtain ⟨rfl, rfl⟩ := h
    have hrun := fun m' hm' => pure_ok hT m' w (ha m' hm') o h1
    rw [hrun m (Agree.refl _ _)]
    refine hn m w _ (Adv.refl hf) fun m' hm' => ?_
    have e1 := hrun m' hm'
    rw [hrun m (Agree.refl _ _)] at e1
    simp at e1; exact e1.symm
  | none =>
    simp only [h1] at h
    cases h2 : readX T tm s o.op with
    | some u =>
      simp only [h2, Option.some.injEq, Prod.mk.injEq] at h
      obtain ⟨rfl, rfl⟩ := h
      have hrun := fun m' hm' => read_ok hT m' w (hf m' hm') (ha m' hm') o h2
      rw [hrun m (Agree.refl _ _)]
      refine hn m w _ (Adv.refl hf) fun m' hm' => ?_
      have e1 := hrun m' hm'
      rw [hrun m (Agree.refl _ _)] at e1
      simp at e1; exact e1.symm
    | none =>
      simp only [h2] at h
      cases h3 : effX T tm s o.op with
      | some r =>
        simp only [h3, Option.some.injEq] at h
        subst h
        obtain ⟨m₁, w₁, cv, nxt, g1, g2, g3, g4⟩ := eff_ok hT hf ha o h3
        rw [g1]
        rcases g2 with rfl | ⟨rfl, rfl⟩
        · exact hn m₁ w₁ cv g3 g4
        · exact hn m₁ w₁ undef g3 g4
      | none =>
        simp only [h3] at h
        cases h4 : callOf T tm o.op with
        | none => simp [h4] at h
        | some q =>
          obtain ⟨f, args⟩ := q
          simp only [h4] at h
          obtain ⟨cargs, g1, g2⟩ := callOf_ok hT ha o w h4
          rw [g1]
          show Calls P f _ w _
          refine (hC f args s v s₁ h m w cargs hf g2).mono ?_
          rintro e w₁ ⟨m₁, cv, rfl, g3, g4⟩
          exact hn m₁ w₁ cv g3 g4

omit hC hT in
theorem ren_bool {m : Nm} {v : Value} {b : Bool} (h : ren m v = .bool b) : v = .bool b := by
  cases v with
  | pointer a => cases a <;> simp [ren] at h
  | slice a n c => cases a <;> simp [ren] at h
  | map r => cases r <;> simp [ren] at h
  | chan r => cases r <;> simp [ren] at h
  | bool b' => simpa [ren] using h
  | _ => simp [ren] at h
omit hC hT in
theorem wanted_ok {m : Nm} {tm : List Value} {a : Act} (ha : a.tmps = ⟨renL m tm⟩) (ops : Array Oper) (o : Oper) : Region.wanted o (yielded ops a.tmps) = wantedX ops.toList tm o := by
  unfold Region.wanted wantedX
  cases o.guard with
  | none => rfl
  | some g =>
    obtain ⟨j, want⟩ := g
    simp only [yielded, dstOf, nth_eq, ha]
    have hj : ops.toList[j]? = ops[j]? := by simp
    rw [hj]
    cases ops[j]? with
    | none => simp
    | some q =>
      simp only [Option.bind_some]
      cases hd : q.dst with
      | none => simp
      | some d =>
        simp only [Option.bind_some, List.getElem?_toArray, renL_eq, List.getElem?_map]
        cases tm[d]? with
        | none => simp
        | some v =>
          simp only [Option.map_some]
          cases v with
          | pointer p => cases p <;> simp [ren]
          | slice p n c => cases p <;> simp [ren]
          | map r => cases r <;> simp [ren]
          | chan r => cases r <;> simp [ren]
          | bool b => simp [ren]
          | _ => simp [ren]

theorem ops_ok (ops : Array Oper) (Q : Exit → Act → World → Prop) : ∀ (rest : List Oper) (i : Nat), ops.toList.drop i = rest → ∀ (m : Nm) (s : S) (w : World) (tm : List Value) (a : Act) (tm' : List Value) (s' : S), FitsS m s w → ActR m s.nx tm a →
    opsX T call ops.toList rest tm s = some (tm', s') → (∀ m' w' a', Adv m s w m' s' w' → ActR m' s'.nx tm' a' → a'.defers = a.defers → Q .normal a' w') → wpOps P ops Q (List.range' i rest.length) a w
  | [], i, _, m, s, w, tm, a, tm', s', hf, ha, h, hQ => by
    simp only [opsX, Option.some.injEq, Prod.mk.injEq] at h
    obtain ⟨rfl, rfl⟩ := h
    simp only [List.length_nil, List.range'_zero, wpOps]
    exact hQ m w a (Adv.refl hf) ha rfl
  | o :: rest, i, hd, m, s, w, tm, a, tm', s', hf, ha, h, hQ => by
    have ho : ops[i]? = some o := by
      have := congrArg (fun l => l[0]?) hd
      simpa using this
    have hd' : ops.toList.drop (i + 1) = rest := by
      have := congrArg List.tail hd
      simpa using this
    have put_defers : ∀ (d : Option Tmp) (x : Value), (a.put d x).defers = a.defers := fun d x => by cases d <;> rfl
    simp only [opsX] at h
    simp only [List.length_cons, List.range'_succ, wpOps, ho, wanted_ok (ha m (Agree.refl _ _)) ops o]
    cases hw : wantedX ops.toList tm o with
    | true =>
      simp only [hw, cond_true] at h
      simp only [if_true]
      left
      cases hx : opX T call tm s o.op with
      | none => simp [hx] at h
      | some r =>
        obtain ⟨v, s₁⟩ := r
        simp only [hx] at h
        refine op_ok hT hC hf ha o hx fun m₁ w₁ cv hadv hrel => ?_
        exact ops_ok ops Q rest (i + 1) hd' m₁ s₁ w₁ _ _ tm' s' hadv.fits ((ha.ext hadv.agree hadv.nx).put hrel o.dst) h (fun m' w' a' h1 h2 h3 => hQ m' w' a' (hadv.trans h1) h2 (h3.trans (put_defers _ _)))
    | false =>
      simp only [hw, cond_false] at h
      simp only [Bool.false_eq_true, if_false]
      exact ops_ok ops Q rest (i + 1) hd' m s w _ _ tm' s' hf (ha.put (relS_refl fun _ => by simp [undef, ren, renL]) o.dst) h (fun m' w' a' h1 h2 h3 => hQ m' w' a' h1 h2 (h3.trans (put_defers _ _)))
end
end Go.Rx
