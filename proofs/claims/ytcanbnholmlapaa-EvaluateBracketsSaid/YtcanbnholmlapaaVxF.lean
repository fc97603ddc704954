/-
  VxF: all the operations that leave the heap as it is.
-/
import Derived.Test.YtcanbnholmlapaaVxE
namespace Go.Vx
open Go Go.Rx
set_option linter.unusedVariables false

theorem fieldAt_sim {T : Tb} {x : Cx} {st : TypeId} {a u : U} {va : Value} {f : Nat} (h : fieldAtU T x.σ st a f = some u) (ha : Rel x a va) : ∃ v, fieldAtX T st va f = some v ∧ Rel x u v := by
  unfold fieldAtU at h
  unfold fieldAtX
  cases hd : T.und st with
  | none => simp [hd] at h
  | some d =>
  cases d with
  | struct fs =>
    simp only [hd] at h ⊢
    cases hf : nth fs.toList f with
    | none => simp [hf] at h
    | some fd =>
      simp only [hf] at h ⊢
      cases hs : sizeX T fd.type with
      | none => simp [hs] at h
      | some n =>
        cases n with
        | zero => simp [hs] at h
        | succ n =>
          simp only [hs] at h
          cases a with
          | ptr k s off =>
            simp only at h
            cases hl : live x.σ k s with
            | false => simp [hl] at h
            | true =>
              simp only [hl, cond_true, Option.some.injEq] at h
              subst h
              obtain ⟨i, hi, rfl⟩ := live_ptr hl ha
              exact ⟨_, rfl, rel_ptr ha hi⟩
          | iptr l =>
            simp only [Option.some.injEq] at h
            subst h
            simp only [Rel] at ha
            obtain ⟨i, off, row, e, rfl, h2, h3, h4⟩ := ha
            refine ⟨_, rfl, ?_⟩
            simp only [Rel]
            exact ⟨i, off + fd.offset, row, e, rfl, h2, by rw [← List.drop_drop]; exact h3.drop _, okL_drop h4 _⟩
          | _ => simp at h
  | _ => simp [hd] at h
theorem field_sim {T : Tb} {x : Cx} {st : TypeId} {a u : U} {va : Value} {f : Nat} (h : fieldU T st a f = some u) (ha : Rel x a va) : ∃ v, fieldX T st va f = some v ∧ Rel x u v := by
  unfold fieldU at h
  unfold fieldX
  cases hd : T.und st with
  | none => simp [hd] at h
  | some d =>
  cases d with
  | struct fs =>
    simp only [hd] at h ⊢
    cases hf : nth fs.toList f with
    | none => simp [hf] at h
    | some fd =>
      simp only [hf] at h ⊢
      cases a with
      | agg cs =>
        simp only [Rel] at ha
        obtain ⟨vs, rfl, h1, h2, h3⟩ := ha
        exact part_sim h ⟨h1, h2⟩ h3
      | _ => simp at h
  | _ => simp [hd] at h
theorem inR_of {i : Int} {n : Nat} (h : 0 ≤ i ∧ i < n) : inR i n = true := by
  unfold inR
  cases i with
  | ofNat k => exact blt_of (by have := h.2; simp at this; exact this)
  | negSucc k => have := h.1; omega
theorem indexAt_sim {T : Tb} {x : Cx} (hx : HRel x) {t : TypeId} {a b u : U} {va vb : Value} (h : indexAtU T x.σ t a b = some u) (ha : Rel x a va) (hb : Rel x b vb) : ∃ v, indexAtX T t va vb = some v ∧ Rel x u v := by
  unfold indexAtU at h
  cases b with
  | int k i =>
    simp only [Rel] at hb
    subst hb
    simp only [indexAtX]
    simp only at h
    cases hd : T.und t with
    | none => simp [hd] at h
    | some d =>
    cases d with
    | slice e =>
      simp only [hd] at h
      cases hs : sizeX T e with
      | none => simp [hs] at h
      | some sz =>
        simp only [hs] at h
        cases a with
        | sl k off n c =>
          simp only at h
          cases hl : live x.σ k 0 with
          | false => simp [hl] at h
          | true =>
            simp only [hl, cond_true] at h
            split at h
            · rename_i hin
              simp only [Option.some.injEq] at h
              subst h
              obtain ⟨i', hi, rfl, _⟩ := live_sl hl ha
              refine ⟨_, by simp only [inR_of hin, cond_true, hs] <;> rfl, ?_⟩
              obtain ⟨b, q1, q2⟩ := live_some hl
              simp only [Rel] at ha ⊢
              exact ⟨rfl, ha.2.1, fun b hb => ⟨Nat.zero_le _, fun _ => ⟨i', hi, rfl⟩⟩⟩
            · cases h
        | vl k st off n =>
          simp only at h
          cases hv : vecOf x.σ k st with
          | none => simp [hv] at h
          | some q =>
            obtain ⟨l, e', sz'⟩ := q
            obtain ⟨hg, hl⟩ := vecOf_some hv
            simp only [hv, beq_eq] at h
            by_cases hz : sz' = sz
            · subst hz
              simp only [decide_true, cond_true] at h
              split at h
              · rename_i hin
                simp only [Option.some.injEq] at h
                subst h
                obtain ⟨i', l0, e0, sz0, l', h1, h2, rfl, h4, h5, h6, h7⟩ := vl_there hx hl ha (by omega)
                have := hg.symm.trans h1
                cases this
                refine ⟨_, by simp only [inR_of ⟨hin.1, hin.2.1⟩, cond_true, hs] <;> rfl, ?_⟩
                simp only [Rel] at ha ⊢
                refine ⟨rfl, ha.2.1, fun b hb => ⟨(ha.2.2 b hb).1, fun _ => ⟨i', h2, rfl⟩⟩⟩
              · cases h
            · simp [hz] at h
        | isl tt l =>
          simp only at h
          split at h
          · rename_i hin
            cases hc : l[i.toNat]? with
            | none => simp [hc] at h
            | some c =>
              simp only [hc, beq_eq] at h
              by_cases hz : c.length = sz
              · simp only [hz, decide_true, cond_true, Option.some.injEq] at h
                subst h
                simp only [Rel] at ha
                rcases ha with ⟨rfl, _⟩ | ⟨i', off, c', rfl, ht, hrow⟩
                · simp at hc
                · rcases hrow with rfl | ⟨row, e', sz', g1, g2, g3⟩
                  · simp at hc
                  · obtain ⟨q1, q2, q3⟩ := relR_get g2 _ _ hc
                    refine ⟨_, by simp only [inR_of hin, cond_true, hs] <;> rfl, ?_⟩
                    simp only [Rel]
                    refine ⟨i', off + i.toNat * sz, row, e', rfl, g1, ?_, q2⟩
                    rw [List.drop_drop] at q3
                    rw [← hz, q1]; exact q3
              · simp [hz] at h
          · cases h
        | _ => simp at h
    | array n e =>
      simp only [hd] at h
      cases hs : sizeX T e with
      | none => simp [hs] at h
      | some sz =>
        simp only [hs] at h
        cases a with
        | ptr k st off =>
          simp only at h
          cases hl : live x.σ k st with
          | false => simp [hl] at h
          | true =>
            simp only [hl, cond_true] at h
            split at h
            · rename_i hin
              simp only [Option.some.injEq] at h
              subst h
              obtain ⟨i', hi, rfl⟩ := live_ptr hl ha
              exact ⟨_, by simp only [inR_of hin, cond_true, hs] <;> rfl, rel_ptr ha hi⟩
            · cases h
        | iptr l =>
          simp only at h
          split at h
          · rename_i hin
            simp only [Option.some.injEq] at h
            subst h
            simp only [Rel] at ha
            obtain ⟨i', off, row, e', rfl, h2, h3, h4⟩ := ha
            refine ⟨_, by simp only [inR_of hin, cond_true, hs] <;> rfl, ?_⟩
            simp only [Rel]
            exact ⟨i', _, row, e', rfl, h2, by rw [← List.drop_drop]; exact h3.drop _, okL_drop h4 _⟩
          · cases h
        | _ => simp at h
    | _ => simp [hd] at h
  | _ => simp at h
theorem index_sim {T : Tb} {x : Cx} {t : TypeId} {a b u : U} {va vb : Value} (h : indexU T t a b = some u) (ha : Rel x a va) (hb : Rel x b vb) : ∃ v, indexX T t va vb = some v ∧ Rel x u v := by
  unfold indexU at h
  cases a with
  | agg cs =>
    simp only at h
    cases b with
    | int k i =>
      simp only [Rel] at ha hb
      subst hb
      obtain ⟨vs, rfl, h1, h2, h3⟩ := ha
      simp only at h
      cases hd : T.und t with
      | none => simp [hd] at h
      | some d =>
      cases d with
      | array n e =>
        simp only [hd] at h
        split at h
        · rename_i hin
          cases hs : sizeX T e with
          | none => simp [hs] at h
          | some sz =>
            simp only [hs] at h
            obtain ⟨v, q1, q2⟩ := part_sim h ⟨h1, h2⟩ h3
            exact ⟨v, by simp only [indexX, hd, inR_of hin, cond_true, hs]; exact q1, q2⟩
        · cases h
      | _ => simp [hd] at h
    | _ => simp at h
  | _ => exact g2_ok h ha hb

theorem len_sim {T : Tb} {x : Cx} (hx : HRel x) {t : TypeId} {a u : U} {va : Value} (h : lenU T x.σ t a = some u) (ha : Rel x a va) :
    ∃ v, (lenX T t va = some v ∨ (lenX T t va = none ∧ ∃ kt et r, T.und t = some (.map kt et) ∧ va = .map r ∧ (match r with
          | none => some (Value.int .i64 0)
          | some r => match lk x.s.h r with
            | some (.inr (es, _)) => some (.int .i64 es.length)
            | _ => none) = some v)) ∧ Rel x u v := by
  unfold lenU at h
  unfold lenX
  cases hd : T.und t with
  | none => simp [hd] at h
  | some d =>
  cases d with
  | string =>
    simp only [hd] at h ⊢
    cases a with
    | str s => simp only [Option.some.injEq] at h; subst h; simp only [Rel] at ha; subst ha; exact ⟨_, .inl rfl, by simp [Rel]⟩
    | _ => simp at h
  | slice e =>
    simp only [hd] at h ⊢
    cases a with
    | nils => simp only [Option.some.injEq] at h; subst h; simp only [Rel] at ha; subst ha; exact ⟨_, .inl rfl, by simp [Rel]⟩
    | sl k off n c =>
      simp only at h
      cases hl : live x.σ k 0 with
      | false => simp [hl] at h
      | true =>
        simp only [hl, cond_true, Option.some.injEq] at h
        subst h
        obtain ⟨i, _, rfl, _⟩ := live_sl hl ha
        exact ⟨_, .inl rfl, by simp [Rel]⟩
    | vl k st off n =>
      simp only at h
      cases hl : live x.σ k st with
      | false => simp [hl] at h
      | true =>
        simp only [hl, cond_true, Option.some.injEq] at h
        subst h
        obtain ⟨_, _, _, _, hv⟩ := live_vl hl ha
        obtain ⟨o, c, rfl⟩ := vl_len hv
        exact ⟨_, .inl rfl, by simp [Rel]⟩
    | isl tt l =>
      simp only [Option.some.injEq] at h
      subst h
      simp only [Rel] at ha
      rcases ha with ⟨rfl, rfl | ⟨_, rfl⟩⟩ | ⟨_, _, _, rfl, _⟩ <;> exact ⟨_, .inl rfl, by simp [Rel]⟩
    | _ => simp at h
  | array n e =>
    simp only [hd] at h ⊢
    cases a <;> simp at h <;> subst h <;> exact ⟨_, .inl rfl, by simp [Rel]⟩
  | map kt et =>
    simp only [hd] at h ⊢
    cases a with
    | nilm =>
      simp only [Option.some.injEq] at h; subst h; simp only [Rel] at ha; subst ha
      exact ⟨_, .inr ⟨trivial, kt, et, none, rfl, rfl, rfl⟩, by simp [Rel]⟩
    | map k =>
      simp only at h
      cases hg : gt x.σ.h k with
      | none => simp [hg] at h
      | some b =>
        cases b with
        | map es cl =>
          simp only [hg, Option.some.injEq] at h
          subst h
          obtain ⟨i, hi, rfl⟩ := live_map (x := x) (by simp [live, hg, B.st]) ha
          obtain ⟨_, i', es', e1, e2, e3⟩ := hx.ok k _ hg
          rw [hi] at e1; cases e1
          exact ⟨.int .i64 es'.length, .inr ⟨trivial, kt, et, some i, rfl, rfl, by simp [e2]⟩, by simp [Rel, e3.1]⟩
        | _ => simp [hg] at h
    | _ => simp at h
  | _ => simp [hd] at h

theorem pure_sim {T : Tb} {x : Cx} (hx : HRel x) {tm : List U} {tv : List Value} (ht : RelE x tm tv) {op : Op} {u : U} (h : pureU T x.σ tm op = some u) : Sim T x tv op u x.σ := by
  have one : ∀ v, pureX T tv op = some v → Rel x u v → Sim T x tv op u x.σ := fun v h1 h2 => Sim.same hx (opX_pure h1) h2
  unfold pureU at h
  cases op with
  | move o => obtain ⟨v, h1, h2⟩ := evalU_ok ht h; exact one v (by simp [pureX, h1]) h2
  | assign o => obtain ⟨v, h1, h2⟩ := evalU_ok ht h; exact one v (by simp [pureX, h1]) h2
  | pick c a b =>
    simp only at h
    cases hc : evalU tm c with
    | none => simp [hc] at h
    | some cu =>
      obtain ⟨cv, c1, c2⟩ := evalU_ok ht hc
      cases cu with
      | bool t =>
        simp only [Rel] at c2
        subst c2
        cases t with
        | true => simp only [hc] at h; obtain ⟨v, h1, h2⟩ := evalU_ok ht h; exact one v (by simp [pureX, c1, h1]) h2
        | false => simp only [hc] at h; obtain ⟨v, h1, h2⟩ := evalU_ok ht h; exact one v (by simp [pureX, c1, h1]) h2
      | _ => simp [hc] at h
  | build t ps =>
    simp only at h
    cases hp : evalUP tm ps.toList with
    | none => simp [hp] at h
    | some qs =>
      simp only [hp] at h
      obtain ⟨vs, h1, h2⟩ := evalUP_ok ht hp
      obtain ⟨v, h3, h4⟩ := build_sim h h2
      exact one v (by simp [pureX, h1, h3]) h4
  | nilCheck o =>
    simp only at h
    cases ho : evalU tm o with
    | none => simp [ho] at h
    | some a =>
      obtain ⟨va, a1, a2⟩ := evalU_ok ht ho
      cases a with
      | ptr k st off =>
        simp only [ho] at h
        cases hl : live x.σ k st with
        | false => simp [hl] at h
        | true =>
          simp only [hl, cond_true, Option.some.injEq] at h
          subst h
          obtain ⟨i, hi, rfl⟩ := live_ptr hl a2
          exact one _ (by simp [pureX, a1]) a2
      | iptr l =>
        simp only [ho, Option.some.injEq] at h
        subst h
        have a3 := a2
        simp only [Rel] at a2
        obtain ⟨i, off, row, e, rfl, _⟩ := a2
        exact one _ (by simp [pureX, a1]) a3
      | fn f p q =>
        cases f with
        | func g =>
          simp only [ho, Option.some.injEq] at h
          subst h
          have a3 := a2
          simp only [Rel] at a2
          obtain ⟨i, off, rfl, _⟩ := a2
          exact one _ (by simp [pureX, a1]) a3
        | _ => simp [ho] at h
      | _ => simp [ho] at h
  | binOp o t a b ty =>
    simp only at h
    cases ha : evalU tm a with
    | none => simp [ha] at h
    | some au =>
      cases hb : evalU tm b with
      | none => simp [ha, hb] at h
      | some bu =>
        simp only [ha, hb] at h
        obtain ⟨va, a1, a2⟩ := evalU_ok ht ha
        obtain ⟨vb, b1, b2⟩ := evalU_ok ht hb
        obtain ⟨v, h1, h2⟩ := bin_sim hx h a2 b2
        exact one v (by simp [pureX, a1, b1, h1]) h2
  | unOp o t a =>
    simp only at h
    cases ha : evalU tm a with
    | none => simp [ha] at h
    | some au =>
      simp only [ha] at h
      obtain ⟨va, a1, a2⟩ := evalU_ok ht ha
      obtain ⟨v, h1, h2⟩ := g1_ok h a2
      exact one v (by simp [pureX, a1, h1]) h2
  | convert s d a =>
    simp only at h
    cases ha : evalU tm a with
    | none => simp [ha] at h
    | some au =>
      simp only [ha] at h
      obtain ⟨va, a1, a2⟩ := evalU_ok ht ha
      obtain ⟨v, h1, h2⟩ := g1_ok h a2
      exact one v (by simp [pureX, a1, h1]) h2
  | makeFunc f a b =>
    simp only at h
    cases ha : evalUL tm a.toList with
    | none => simp [ha] at h
    | some au =>
      cases hb : evalUL tm b.toList with
      | none => simp [ha, hb] at h
      | some bu =>
        simp only [ha, hb, Option.some.injEq] at h
        subst h
        obtain ⟨va, a1, a2⟩ := evalUL_ok ht ha
        obtain ⟨vb, b1, b2⟩ := evalUL_ok ht hb
        exact one _ (by simp [pureX, a1, b1] <;> rfl) (by simp only [Rel]; exact ⟨va, vb, rfl, a2.1, a2.2, b2.1, b2.2⟩)
  | slice t a lo hi mx =>
    simp only at h
    cases ha : evalU tm a with
    | none => simp [ha] at h
    | some au =>
      cases h1 : evalUM tm lo with
      | none => simp [ha, h1] at h
      | some lo' =>
        cases h2 : evalUM tm hi with
        | none => simp [ha, h1, h2] at h
        | some hi' =>
          cases h3 : evalUM tm mx with
          | none => simp [ha, h1, h2, h3] at h
          | some mx' =>
            simp only [ha, h1, h2, h3] at h
            obtain ⟨va, a1, a2⟩ := evalU_ok ht ha
            have e1 := evalUM_ok ht h1
            have e2 := evalUM_ok ht h2
            have e3 := evalUM_ok ht h3
            rcases slice_sim hx h a2 with ⟨v, s1, s2⟩ | ⟨s0, v, s1, s2⟩ | ⟨s0, s1, v, s2, s3⟩
            · exact one v (by simp [pureX, a1, e1, e2, e3, s1]) s2
            · exact Sim.same hx (opX_read (by simp [pureX, a1, e1, e2, e3, s0]) (by simp [readX, a1, e1, e2, e3, s1])) s2
            · exact ⟨v, bump x, opX_effX (by simp [pureX, a1, e1, e2, e3, s0]) (by simp [readX, a1, e1, e2, e3, s1]) (by simp [effX, a1, e1, e2, e3, s2]), rfl, s3, bump_out hx⟩
  | fieldAddr t a f =>
    simp only at h
    cases ha : evalU tm a with
    | none => simp [ha] at h
    | some au =>
      simp only [ha] at h
      obtain ⟨va, a1, a2⟩ := evalU_ok ht ha
      obtain ⟨v, h1, h2⟩ := fieldAt_sim h a2
      exact one v (by simp [pureX, a1, h1]) h2
  | field t a f =>
    simp only at h
    cases ha : evalU tm a with
    | none => simp [ha] at h
    | some au =>
      simp only [ha] at h
      obtain ⟨va, a1, a2⟩ := evalU_ok ht ha
      obtain ⟨v, h1, h2⟩ := field_sim h a2
      exact one v (by simp [pureX, a1, h1]) h2
  | indexAddr t a b =>
    simp only at h
    cases ha : evalU tm a with
    | none => simp [ha] at h
    | some au =>
      cases hb : evalU tm b with
      | none => simp [ha, hb] at h
      | some bu =>
        simp only [ha, hb] at h
        obtain ⟨va, a1, a2⟩ := evalU_ok ht ha
        obtain ⟨vb, b1, b2⟩ := evalU_ok ht hb
        obtain ⟨v, h1, h2⟩ := indexAt_sim hx h a2 b2
        exact one v (by simp [pureX, a1, b1, h1]) h2
  | index t a b =>
    simp only at h
    cases ha : evalU tm a with
    | none => simp [ha] at h
    | some au =>
      cases hb : evalU tm b with
      | none => simp [ha, hb] at h
      | some bu =>
        simp only [ha, hb] at h
        obtain ⟨va, a1, a2⟩ := evalU_ok ht ha
        obtain ⟨vb, b1, b2⟩ := evalU_ok ht hb
        obtain ⟨v, h1, h2⟩ := index_sim h a2 b2
        exact one v (by simp [pureX, a1, b1, h1]) h2
  | extract a i =>
    simp only at h
    cases ha : evalU tm a with
    | none => simp [ha] at h
    | some au =>
      simp only [ha] at h
      obtain ⟨va, a1, a2⟩ := evalU_ok ht ha
      cases au with
      | tup l =>
        simp only [Rel] at a2
        obtain ⟨vs, rfl, q1, q2⟩ := a2
        simp only [extractU, nth_eq] at h
        obtain ⟨v, h1, h2⟩ := (show RelE x l vs from ⟨q1, q2⟩).get h
        exact one v (by simp [pureX, a1, extractX, nth_eq, h1]) h2
      | _ => simp [extractU] at h
  | call c =>
    simp only at h
    obtain ⟨callee, args, ats⟩ := c
    cases callee with
    | builtin b =>
      cases b with
      | len =>
        simp only at h
        cases ha : evalUL tm args.toList with
        | none => simp [ha] at h
        | some us =>
          obtain ⟨vs, a1, a2⟩ := evalUL_ok ht ha
          cases hats : ats.toList with
          | nil => simp [ha, hats] at h
          | cons t ts =>
            cases us with
            | nil => simp [ha] at h
            | cons a l =>
              cases l with
              | cons _ _ => simp [ha] at h
              | nil =>
                obtain ⟨va, vs', rfl, r1, r2⟩ := a2.inv
                rw [r2.nil_inv] at a1
                simp only [ha, hats] at h
                obtain ⟨v, q1, q2⟩ := len_sim hx h r1
                rcases q1 with q1 | ⟨q0, kt, et, r, hd, rfl, q1⟩
                · exact one v (by simp [pureX, a1, hats, q1]) q2
                · refine Sim.same hx (opX_read (by simp [pureX, a1, hats, q0]) ?_) q2
                  cases r with
                  | none => simp only [readX, a1, hats, hd]; exact q1
                  | some r => simp only [readX, a1, hats, hd]; exact q1
      | max =>
        simp only at h
        cases ha : evalUL tm args.toList with
        | none => simp [ha] at h
        | some us =>
          obtain ⟨vs, a1, a2⟩ := evalUL_ok ht ha
          cases us with
          | nil => simp [ha] at h
          | cons a l =>
            obtain ⟨va, vs', rfl, r1, r2⟩ := a2.inv
            simp only [ha] at h
            cases h1 : toV a with
            | none => simp [h1] at h
            | some v1 =>
              cases h2 : toVL l with
              | none => simp [h1, h2] at h
              | some v2 =>
                simp only [h1, h2] at h
                have e1 := (toV_iff a v1 h1 x va).1 r1
                have e2 := (toVL_iff l v2 h2 x vs').1 r2
                subst e1; subst e2
                cases h3 : foldX max2X va vs' with
                | none => simp [h3] at h
                | some r =>
                  simp only [h3] at h
                  exact one r (by simp [pureX, a1, h3]) ((ofV_ok r u h).2 x)
      | min =>
        simp only at h
        cases ha : evalUL tm args.toList with
        | none => simp [ha] at h
        | some us =>
          obtain ⟨vs, a1, a2⟩ := evalUL_ok ht ha
          cases us with
          | nil => simp [ha] at h
          | cons a l =>
            obtain ⟨va, vs', rfl, r1, r2⟩ := a2.inv
            simp only [ha] at h
            cases h1 : toV a with
            | none => simp [h1] at h
            | some v1 =>
              cases h2 : toVL l with
              | none => simp [h1, h2] at h
              | some v2 =>
                simp only [h1, h2] at h
                have e1 := (toV_iff a v1 h1 x va).1 r1
                have e2 := (toVL_iff l v2 h2 x vs').1 r2
                subst e1; subst e2
                cases h3 : foldX min2X va vs' with
                | none => simp [h3] at h
                | some r =>
                  simp only [h3] at h
                  exact one r (by simp [pureX, a1, h3]) ((ofV_ok r u h).2 x)
      | _ => simp at h
    | _ => simp at h
  | _ => simp at h

theorem find_sim {T : Tb} {x : Cx} {kt : TypeId} {k : Value} : ∀ {es : List ME} {vs : List MapEntry} (i : Nat) {r : Option (Nat × U)}, RelM x es vs → findU T kt k es i = some r →
    (r = none ∧ findX T kt k vs i = some none) ∨ ∃ j u v, r = some (j, u) ∧ findX T kt k vs i = some (some (j, v)) ∧ Rel x u v ∧ i ≤ j ∧ ∃ e e', es[j - i]? = some e ∧ e.val = u ∧ vs[j - i]? = some e' ∧ Rel x e.key e'.key ∧ e'.born = e.born ∧ e'.val = v
  | [], vs, i, r, hm, h => by
    simp only [findU, Option.some.injEq] at h
    subst h
    have : vs = [] := by have := hm.1; simpa using this.symm
    subst this
    exact .inl ⟨rfl, rfl⟩
  | e :: es, [], i, r, hm, h => by have := hm.1; simp at this
  | e :: es, e' :: vs, i, r, hm, h => by
    obtain ⟨v0, q0, q1, q2, q3⟩ := hm.2 0 e rfl
    simp at q0; subst q0
    have hm' : RelM x es vs := ⟨by have := hm.1; simpa using this, fun j d hd => by simpa using hm.2 (j + 1) d (by simpa using hd)⟩
    simp only [findU] at h
    cases hk : toV e.key with
    | none => simp [hk] at h
    | some k' =>
      simp only [hk] at h
      have ek := (toV_iff _ _ hk x _).1 q1
      cases he : eqv T 50 kt k k' with
      | none => simp [he] at h
      | some b =>
        cases b with
        | true =>
          simp only [he, Option.some.injEq] at h
          subst h
          exact .inr ⟨i, e.val, e'.val, rfl, by simp [findX, ek, he], q2, Nat.le_refl _, e, e', by simp, rfl, by simp, q1, q3, rfl⟩
        | false =>
          simp only [he] at h
          rcases find_sim (i + 1) hm' h with ⟨h1, h2⟩ | ⟨j, u, v, h1, h2, h3, h4, d, d', h5, h6, h7, h8⟩
          · exact .inl ⟨h1, by simp [findX, ek, he, h2]⟩
          · refine .inr ⟨j, u, v, h1, by simp [findX, ek, he, h2], h3, by omega, d, d', ?_, h6, ?_, h8⟩
            · rw [show j - i = (j - (i + 1)) + 1 by omega]; simpa using h5
            · rw [show j - i = (j - (i + 1)) + 1 by omega]; simpa using h7
theorem load_sim {T : Tb} {x : Cx} {t : TypeId} {l : List U} {off : Nat} {u : U} {lv : List Value} (h : loadU T t l off = some u) (hl : RelP x l lv) (hk : okL l = true) :
    ∃ v, (match T.und t with
        | none => none
        | some d => cond (isAggD d) (match sizeX T t with
            | some n => match seg lv off n with
              | some cs => some (.agg cs.toArray)
              | none => none
            | none => none) (nth lv off)) = some v ∧ Rel x u v := by
  unfold loadU at h
  cases hd : T.und t with
  | none => simp [hd] at h
  | some d =>
    simp only [hd] at h ⊢
    cases ha : isAggD d with
    | true =>
      simp only [ha, cond_true] at h ⊢
      cases hs : sizeX T t with
      | none => simp [hs] at h
      | some n =>
        simp only [hs] at h ⊢
        cases hg : segU l off n with
        | none => simp [hg] at h
        | some cs =>
          simp only [hg, Option.some.injEq] at h
          subst h
          obtain ⟨h1, rfl⟩ := segU_some hg
          have hlen := RelP.len hl
          rw [seg_of (by omega)]
          refine ⟨_, rfl, ?_⟩
          simp only [Rel]
          have := (hl.drop off).takeE
          have e1 : RelE x ((l.drop off).take n) ((lv.drop off).take n) := by
            refine RelE.mk' (by simp; omega) fun i u hu => ?_
            rw [List.getElem?_take] at hu ⊢
            split at hu
            · rename_i hlt; simp only [hlt, if_true]; exact (relP_iff x _ _).1 (hl.drop off) i u hu
            · cases hu
          exact ⟨_, rfl, e1.1, e1.2, okL_take (okL_drop hk _) _⟩
    | false =>
      simp only [ha, cond_false, nth_eq] at h ⊢
      exact (relP_iff x _ _).1 hl _ _ h
theorem cellsOf_some {x : Cx} (hx : HRel x) {k st : Nat} {l : List U} (h : cellsOf x.σ k st = some l) {off : Nat} {v : Value} (hr : Rel x (.ptr k st off) v) :
    ∃ i lv e md, x.ρ k = some i ∧ v = .pointer (some ⟨i, off, none⟩) ∧ lk x.s.h i = some (.inl (lv, e, md)) ∧ md ≠ 1 ∧ RelE x l lv ∧ okL l = true ∧
      ((md = 0 ∧ gt x.σ.h k = some (.row l e)) ∨ (∃ sz, md = sz + 2 ∧ 0 < sz ∧ gt x.σ.h k = some (.vec l e sz st))) := by
  unfold cellsOf at h
  cases hg : gt x.σ.h k with
  | none => simp [hg] at h
  | some b =>
    cases b with
    | row l' e =>
      simp only [hg, beq_eq] at h
      by_cases hst : 0 = st
      · subst hst
        simp at h
        subst h
        obtain ⟨i, hi, rfl⟩ := live_ptr (x := x) (by simp [live, hg, B.st]) hr
        obtain ⟨_, k1, i', lv, e1, e2, e3⟩ := hx.ok k _ hg
        rw [hi] at e1; cases e1
        exact ⟨i, lv, e, 0, hi, rfl, e2, by omega, e3, k1, .inl ⟨rfl, rfl⟩⟩
      · simp [hst] at h
    | vec l' e sz st' =>
      simp only [hg, beq_eq] at h
      by_cases hst : st' = st
      · subst hst
        simp at h
        subst h
        obtain ⟨i, hi, rfl⟩ := live_ptr (x := x) (by simp [live, hg, B.st]) hr
        obtain ⟨_, k1, k2, h3⟩ := hx.ok k _ hg
        rcases h3 with ⟨h4, h5⟩ | ⟨i', lv, e1, e2, e3⟩
        · rw [hi] at h5; cases h5
        · rw [hi] at e1; cases e1
          exact ⟨i, lv, e, sz + 2, hi, rfl, e2, by omega, e3, k1, .inr ⟨sz, rfl, k2, rfl⟩⟩
      · simp [hst] at h
    | map es cl => simp [hg] at h
theorem read_sim {T : Tb} {x : Cx} (hx : HRel x) {tm : List U} {tv : List Value} (ht : RelE x tm tv) {op : Op} {u : U} (h : readU T x.σ tm op = some u) : Sim T x tv op u x.σ := by
  unfold readU at h
  cases op with
  | load t o =>
    simp only at h
    cases ho : evalU tm o with
    | none => simp [ho] at h
    | some a =>
      obtain ⟨va, a1, a2⟩ := evalU_ok ht ho
      cases a with
      | ptr k st off =>
        simp only [ho] at h
        cases hc : cellsOf x.σ k st with
        | none => simp [hc] at h
        | some l =>
          simp only [hc] at h
          obtain ⟨i, lv, e, md, q1, rfl, q2, _, q3, q4, _⟩ := cellsOf_some hx hc a2
          obtain ⟨v, r1, r2⟩ := load_sim h q3.1 q4
          exact Sim.same hx (opX_read (by simp [pureX]) (by simp only [readX, a1, q2]; exact r1)) r2
      | iptr l =>
        simp only [ho] at h
        simp only [Rel] at a2
        obtain ⟨i, off, row, e, rfl, g1, g2, g3⟩ := a2
        obtain ⟨v, r1, r2⟩ := load_sim h g2 g3
        refine Sim.same hx (opX_read (by simp [pureX]) (v := v) ?_) r2
        simp only [readX, a1, g1]
        cases hd : T.und t with
        | none => simp [hd] at r1
        | some d =>
          simp only [hd] at r1 ⊢
          cases ha : isAggD d with
          | true =>
            simp only [ha, cond_true] at r1 ⊢
            cases hs : sizeX T t with
            | none => simp [hs] at r1
            | some n => simp only [hs, seg, List.drop_drop, Nat.add_zero] at r1 ⊢; exact r1
          | false =>
            simp only [ha, cond_false, nth_eq, List.getElem?_drop, Nat.add_zero] at r1 ⊢
            exact r1
      | _ => simp [ho] at h
  | lookup t a b ok =>
    simp only at h
    cases hd : T.und t with
    | none => simp [hd] at h
    | some d =>
    cases d with
    | map kt et =>
      cases ha : evalU tm a with
      | none => simp [hd, ha] at h
      | some m =>
        cases hb : evalU tm b with
        | none => simp [hd, ha, hb] at h
        | some ku =>
          simp only [hd, ha, hb] at h
          obtain ⟨va, a1, a2⟩ := evalU_ok ht ha
          obtain ⟨vb, b1, b2⟩ := evalU_ok ht hb
          cases hk : toV ku with
          | none => simp [hk] at h
          | some kv =>
            simp only [hk] at h
            have ekv := (toV_iff _ _ hk x vb).1 b2
            subst ekv
            cases hkey : keyX T 50 kt vb with
            | false => simp [hkey] at h
            | true =>
              simp only [hkey, cond_true] at h
              have key : ∀ (es : List ME) (vs : List MapEntry), (va = .map none ∧ vs = [] ∨ ∃ i cl, va = .map (some i) ∧ lk x.s.h i = some (.inr (vs, cl))) → RelM x es vs → (match findU T kt vb es 0 with
                    | none => none
                    | some (some (_, v)) => some (cond ok (.tup [v, .bool true]) v)
                    | some none => match T.inf et with
                      | some (_, _, z) => (match ofV z with
                        | some zu => some (cond ok (.tup [zu, .bool false]) zu)
                        | none => none)
                      | none => none) = some u → Sim T x tv (.lookup t a b ok) u x.σ := by
                intro es vs e1 e3 h
                have fin : ∀ v, readX T tv x.s (.lookup t a b ok) = some v → Rel x u v → Sim T x tv (.lookup t a b ok) u x.σ := fun v h1 h2 => Sim.same hx (opX_read (by simp [pureX]) h1) h2
                have tup2 : ∀ (p : U) (q : Value) (bb : Bool), Rel x p q → Rel x (cond ok (.tup [p, .bool bb]) p) (cond ok (.tuple #[q, .bool bb]) q) := fun p q bb hpq => by
                  cases ok with
                  | false => exact hpq
                  | true => simp only [cond_true, Rel]; exact ⟨[q, .bool bb], rfl, by simp [RelP, hpq, Rel], rfl⟩
                cases hf : findU T kt vb es 0 with
                | none => simp [hf] at h
                | some r' =>
                  rcases find_sim 0 e3 hf with ⟨rfl, h2⟩ | ⟨j, w, v, rfl, h2, h3, _⟩
                  · simp only [hf] at h
                    cases hi : T.inf et with
                    | none => simp [hi] at h
                    | some q =>
                      obtain ⟨q1, q2, z⟩ := q
                      simp only [hi] at h
                      cases hz : ofV z with
                      | none => simp [hz] at h
                      | some zu =>
                        simp only [hz, Option.some.injEq] at h
                        subst h
                        have hrd : readX T tv x.s (.lookup t a b ok) = some (cond ok (.tuple #[z, .bool false]) z) := by
                          rcases e1 with ⟨rfl, rfl⟩ | ⟨i, cl, rfl, e1⟩
                          · simp only [readX, hd, a1, b1, hkey, cond_true, h2, hi]
                          · simp only [readX, hd, a1, b1, hkey, cond_true, e1, h2, hi]
                        exact fin _ hrd (tup2 _ _ _ ((ofV_ok _ _ hz).2 x))
                  · simp only [hf, Option.some.injEq] at h
                    subst h
                    have hrd : readX T tv x.s (.lookup t a b ok) = some (cond ok (.tuple #[v, .bool true]) v) := by
                      rcases e1 with ⟨rfl, rfl⟩ | ⟨i, cl, rfl, e1⟩
                      · simp only [readX, hd, a1, b1, hkey, cond_true, h2]
                      · simp only [readX, hd, a1, b1, hkey, cond_true, e1, h2]
                    exact fin _ hrd (tup2 _ _ _ h3)
              cases m with
              | nilm =>
                simp only [Rel] at a2
                exact key [] [] (.inl ⟨a2, rfl⟩) ⟨rfl, by simp⟩ h
              | map r =>
                simp only at h
                cases hg : gt x.σ.h r with
                | none => simp [hg] at h
                | some bb =>
                  cases bb with
                  | map es cl =>
                    simp only [hg] at h
                    obtain ⟨i, hi, rfl⟩ := live_map (x := x) (by simp [live, hg, B.st]) a2
                    obtain ⟨_, i', es', e1, e2, e3⟩ := hx.ok r _ hg
                    rw [hi] at e1; cases e1
                    exact key es es' (.inr ⟨i, cl, rfl, e2⟩) e3 h
                  | _ => simp [hg] at h
              | _ => simp at h
    | _ => simp [hd] at h
  | _ => simp at h
end Go.Vx
