/-
  VxC: the operations over trees are those of Rx over what the trees stand for: the operations that leave the heap as it is.
-/
import Derived.Test.YtcanbnholmlapaaVxB
namespace Go.Vx
open Go Go.Rx
set_option linter.unusedVariables false

mutual
theorem toV_iff : (u : U) → (v : Value) → toV u = some v → ∀ (x : Cx) (v' : Value), Rel x u v' ↔ v' = v
  | .bool b, v, h, x, v' => by simp only [toV, Option.some.injEq] at h; subst h; simp [Rel]
  | .int k n, v, h, x, v' => by simp only [toV, Option.some.injEq] at h; subst h; simp [Rel]
  | .str l, v, h, x, v' => by simp only [toV, Option.some.injEq] at h; subst h; simp [Rel]
  | .nilp, v, h, x, v' => by simp only [toV, Option.some.injEq] at h; subst h; simp [Rel]
  | .nils, v, h, x, v' => by simp only [toV, Option.some.injEq] at h; subst h; simp [Rel]
  | .nilm, v, h, x, v' => by simp only [toV, Option.some.injEq] at h; subst h; simp [Rel]
  | .nilf, v, h, x, v' => by simp only [toV, Option.some.injEq] at h; subst h; simp [Rel]
  | .nili, v, h, x, v' => by simp only [toV, Option.some.injEq] at h; subst h; simp [Rel]
  | .agg l, v, h, x, v' => by
    simp only [toV] at h
    cases hk : okL l with
    | false => simp [hk] at h
    | true =>
      simp only [hk, cond_true] at h
      cases hl : toVL l with
      | none => simp [hl] at h
      | some vs =>
        simp only [hl, Option.some.injEq] at h
        subst h
        have := toVL_iff l vs hl x
        simp only [Rel, hk, and_true]
        constructor
        · rintro ⟨ws, rfl, h1, h2⟩; rw [(this ws).1 ⟨h1, h2⟩]
        · rintro rfl; exact ⟨vs, rfl, ((this vs).2 rfl).1, ((this vs).2 rfl).2⟩
  | .junk, v, h, x, v' => by simp [toV] at h
  | .ptr _ _ _, v, h, x, v' => by simp [toV] at h
  | .iptr _, v, h, x, v' => by simp [toV] at h
  | .sl _ _ _ _, v, h, x, v' => by simp [toV] at h
  | .vl _ _ _ _, v, h, x, v' => by simp [toV] at h
  | .isl _ _, v, h, x, v' => by simp [toV] at h
  | .map _, v, h, x, v' => by simp [toV] at h
  | .fn _ _ _, v, h, x, v' => by simp [toV] at h
  | .tup _, v, h, x, v' => by simp [toV] at h
theorem toVL_iff : (l : List U) → (vs : List Value) → toVL l = some vs → ∀ (x : Cx) (ws : List Value), RelE x l ws ↔ ws = vs
  | [], vs, h, x, ws => by
    simp only [toVL, Option.some.injEq] at h
    subst h
    exact ⟨fun h => h.nil_inv, fun h => h ▸ RelE.nil x⟩
  | u :: l, vs, h, x, ws => by
    simp only [toVL] at h
    cases hu : toV u with
    | none => simp [hu] at h
    | some v =>
      cases hl : toVL l with
      | none => simp [hu, hl] at h
      | some vs' =>
        simp only [hu, hl, Option.some.injEq] at h
        subst h
        constructor
        · intro hr
          obtain ⟨w, ws', rfl, h1, h2⟩ := hr.inv
          rw [(toV_iff u v hu x w).1 h1, (toVL_iff l vs' hl x ws').1 h2]
        · rintro rfl
          exact RelE.cons ((toV_iff u v hu x v).2 rfl) ((toVL_iff l vs' hl x vs').2 rfl)
end
mutual
theorem ofV_ok : (v : Value) → (u : U) → ofV v = some u → plain v = true ∧ ∀ x : Cx, Rel x u v
  | .bool b, u, h => by simp only [ofV, Option.some.injEq] at h; subst h; simp [Rel, plain]
  | .int k n, u, h => by simp only [ofV, Option.some.injEq] at h; subst h; simp [Rel, plain]
  | .string s, u, h => by simp only [ofV, Option.some.injEq] at h; subst h; simp [Rel, plain]
  | .pointer none, u, h => by simp only [ofV, Option.some.injEq] at h; subst h; simp [Rel, plain]
  | .slice none n c, u, h => by
    simp only [ofV] at h
    split at h
    · simp only [Option.some.injEq] at h; subst h; simp [Rel, plain]
    · cases h
  | .map none, u, h => by simp only [ofV, Option.some.injEq] at h; subst h; simp [Rel, plain]
  | .nilFunc, u, h => by simp only [ofV, Option.some.injEq] at h; subst h; simp [Rel, plain]
  | .nilIface, u, h => by simp only [ofV, Option.some.injEq] at h; subst h; simp [Rel, plain]
  | .agg ⟨l⟩, u, h => by
    simp only [ofV] at h
    cases hl : ofVL l with
    | none => simp [hl] at h
    | some us =>
      simp only [hl] at h
      cases hk : okL us with
      | false => simp [hk] at h
      | true =>
        simp only [hk, cond_true, Option.some.injEq] at h
        subst h
        obtain ⟨h1, h2⟩ := ofVL_ok l us hl
        exact ⟨by simp [plain, h1], fun x => by simp only [Rel]; exact ⟨l, rfl, (h2 x).1, (h2 x).2, hk⟩⟩
  | .float _ _, u, h => by simp [ofV] at h
  | .complex _ _ _, u, h => by simp [ofV] at h
  | .pointer (some _), u, h => by simp [ofV] at h
  | .slice (some _) _ _, u, h => by simp [ofV] at h
  | .map (some _), u, h => by simp [ofV] at h
  | .chan _, u, h => by simp [ofV] at h
  | .func _ _ _, u, h => by simp [ofV] at h
  | .iface _ _, u, h => by simp [ofV] at h
  | .tuple _, u, h => by simp [ofV] at h
theorem ofVL_ok : (l : List Value) → (us : List U) → ofVL l = some us → plainL l = true ∧ ∀ x : Cx, RelE x us l
  | [], us, h => by simp only [ofVL, Option.some.injEq] at h; subst h; exact ⟨by simp [plainL], fun x => RelE.nil x⟩
  | v :: l, us, h => by
    simp only [ofVL] at h
    cases hv : ofV v with
    | none => simp [hv] at h
    | some u =>
      cases hl : ofVL l with
      | none => simp [hv, hl] at h
      | some us' =>
        simp only [hv, hl, Option.some.injEq] at h
        subst h
        obtain ⟨h1, h2⟩ := ofV_ok v u hv
        obtain ⟨h3, h4⟩ := ofVL_ok l us' hl
        exact ⟨by simp [plainL, h1, h3], fun x => RelE.cons (h2 x) (h4 x)⟩
end

section
variable {x : Cx} {tm : List U} {tv : List Value} (ht : RelE x tm tv)
include ht
theorem evalU_ok {o : Operand} {u : U} (h : evalU tm o = some u) : ∃ v, evalO tv o = some v ∧ Rel x u v := by
  cases o with
  | tmp t =>
    simp only [evalU, nth_eq] at h
    obtain ⟨v, h1, h2⟩ := ht.get h
    exact ⟨v, by simp [evalO, nth_eq, h1], h2⟩
  | const v =>
    obtain ⟨h1, h2⟩ := ofV_ok v u h
    exact ⟨v, by simp [evalO, h1], h2 x⟩
  | func f =>
    simp only [evalU, Option.some.injEq] at h
    subst h
    exact ⟨_, rfl, by simp only [Rel]; exact ⟨[], [], rfl, by simp [RelP], rfl, by simp [RelP], rfl⟩⟩
  | global g => simp [evalU] at h
theorem evalUL_ok {l : List Operand} {us : List U} (h : evalUL tm l = some us) : ∃ vs, evalL tv l = some vs ∧ RelE x us vs := by
  induction l generalizing us with
  | nil => simp only [evalUL, Option.some.injEq] at h; subst h; exact ⟨[], rfl, RelE.nil x⟩
  | cons o l ih =>
    simp only [evalUL] at h
    cases h1 : evalU tm o with
    | none => simp [h1] at h
    | some u =>
      cases h2 : evalUL tm l with
      | none => simp [h1, h2] at h
      | some us' =>
        simp only [h1, h2, Option.some.injEq] at h
        subst h
        obtain ⟨v, e1, r1⟩ := evalU_ok ht h1
        obtain ⟨vs, e2, r2⟩ := ih h2
        exact ⟨v :: vs, by simp [evalL, e1, e2], RelE.cons r1 r2⟩
/-- numbered parts -/
inductive RelPs (x : Cx) : List (Nat × U) → List (Nat × Value) → Prop
  | nil : RelPs x [] []
  | cons {i : Nat} {u : U} {v : Value} {l : List (Nat × U)} {m : List (Nat × Value)} : Rel x u v → RelPs x l m → RelPs x ((i, u) :: l) ((i, v) :: m)
theorem evalUP_ok {l : List (Nat × Operand)} {us : List (Nat × U)} (h : evalUP tm l = some us) : ∃ vs, evalP tv l = some vs ∧ RelPs x us vs := by
  induction l generalizing us with
  | nil => simp only [evalUP, Option.some.injEq] at h; subst h; exact ⟨[], rfl, .nil⟩
  | cons o l ih =>
    obtain ⟨i, o⟩ := o
    simp only [evalUP] at h
    cases h1 : evalU tm o with
    | none => simp [h1] at h
    | some u =>
      cases h2 : evalUP tm l with
      | none => simp [h1, h2] at h
      | some us' =>
        simp only [h1, h2, Option.some.injEq] at h
        subst h
        obtain ⟨v, e1, r1⟩ := evalU_ok ht h1
        obtain ⟨vs, e2, r2⟩ := ih h2
        exact ⟨(i, v) :: vs, by simp [evalP, e1, e2], .cons r1 r2⟩
theorem evalUM_ok {o : Option Operand} {r : Option Value} (h : evalUM tm o = some r) : evalM tv o = some r := by
  cases o with
  | none => simpa [evalUM, evalM] using h
  | some o =>
    simp only [evalUM] at h
    cases h1 : evalU tm o with
    | none => simp [h1] at h
    | some u =>
      obtain ⟨v, e1, r1⟩ := evalU_ok ht h1
      cases u with
      | int k n =>
        simp only [h1, Option.some.injEq] at h
        simp only [Rel] at r1
        subst r1; subst h
        simp [evalM, e1]
      | _ => simp [h1] at h
end

theorem g1_ok {x : Cx} {f : Value → Option Value} {u r : U} {v : Value} (h : g1 f u = some r) (hr : Rel x u v) : ∃ rv, f v = some rv ∧ Rel x r rv := by
  unfold g1 at h
  cases h1 : toV u with
  | none => simp [h1] at h
  | some v0 =>
    simp only [h1] at h
    cases h2 : f v0 with
    | none => simp [h2] at h
    | some rv =>
      simp only [h2] at h
      rw [(toV_iff u v0 h1 x v).1 hr]
      exact ⟨rv, h2, (ofV_ok rv r h).2 x⟩
theorem g2_ok {x : Cx} {f : Value → Value → Option Value} {a b r : U} {va vb : Value} (h : g2 f a b = some r) (ha : Rel x a va) (hb : Rel x b vb) : ∃ rv, f va vb = some rv ∧ Rel x r rv := by
  unfold g2 at h
  cases h1 : toV a with
  | none => simp [h1] at h
  | some v1 =>
    cases h2 : toV b with
    | none => simp [h1, h2] at h
    | some v2 =>
      simp only [h1, h2] at h
      cases h3 : f v1 v2 with
      | none => simp [h3] at h
      | some rv =>
        simp only [h3] at h
        rw [(toV_iff a v1 h1 x va).1 ha, (toV_iff b v2 h2 x vb).1 hb]
        exact ⟨rv, h3, (ofV_ok rv r h).2 x⟩

theorem one_of_ok {x : Cx} {u : U} {v : Value} (hr : Rel x u v) (hn : okC u = true) : v.oneCell' = true := by
  cases u with
  | junk => simp [okC] at hn
  | agg l => simp [okC] at hn
  | tup l => simp [okC] at hn
  | ptr k st off => simp only [Rel] at hr; exact hr.1
  | sl k off n c => simp only [Rel] at hr; exact hr.1
  | vl k st off n => simp only [Rel] at hr; exact hr.1
  | map k => simp only [Rel] at hr; exact hr.1
  | iptr l => simp only [Rel] at hr; obtain ⟨_, _, _, _, rfl, _⟩ := hr; rfl
  | isl t l => simp only [Rel] at hr; rcases hr with ⟨_, rfl | ⟨_, rfl⟩⟩ | ⟨_, _, _, rfl, _⟩ <;> rfl
  | fn f a b => simp only [Rel] at hr; obtain ⟨_, _, rfl, _⟩ := hr; rfl
  | _ => simp only [Rel] at hr; subst hr; rfl
theorem allOne_of {x : Cx} {l : List U} {vs : List Value} (hr : RelE x l vs) (hk : okL l = true) : allOne vs = true := by
  induction l generalizing vs with
  | nil => rw [hr.nil_inv]; rfl
  | cons u l ih =>
    obtain ⟨v, vs', rfl, h1, h2⟩ := hr.inv
    simp only [okL] at hk
    obtain ⟨k1, k2⟩ := cond_split hk
    simp [allOne, one_of_ok h1 k1, ih h2 k2]
theorem cellsO_ok {x : Cx} {u : U} {v : Value} {cs : List U} (hr : Rel x u v) (h : cellsO u = some cs) : RelE x cs v.cells.toList ∧ okL cs = true := by
  have one : okC u = true → cs = [u] → RelE x cs v.cells.toList ∧ okL cs = true := fun h1 h2 => by
    subst h2
    have := one_of_ok hr h1
    have e : v.cells = #[v] := by cases v <;> first | rfl | (simp [Value.oneCell'] at this)
    rw [e]
    exact ⟨RelE.cons hr (RelE.nil x), by simp [okL, h1]⟩
  cases u with
  | junk => simp [cellsO] at h
  | tup l => simp [cellsO] at h
  | agg l =>
    simp only [cellsO, Option.some.injEq] at h
    subst h
    simp only [Rel] at hr
    obtain ⟨vs, rfl, h1, h2, h3⟩ := hr
    exact ⟨⟨h1, h2⟩, h3⟩
  | _ => simp only [cellsO, Option.some.injEq] at h; exact one rfl h.symm

/-- what one step leaves -/
structure Out (x y : Cx) : Prop where
  h : HRel y
  mo : Mo x.σ.nx x y
  fr : ∀ F, Fr F x → Fr F y
def nc : CallX := fun _ _ _ => none
def Sim (T : Tb) (x : Cx) (tv : List Value) (op : Op) (u : U) (σ' : Sg) : Prop := ∃ v y, opX T nc tv x.s op = some (v, y.s) ∧ y.σ = σ' ∧ Rel y u v ∧ Out x y

theorem Mo.refl (n : Nat) (x : Cx) : Mo n x x := ⟨fun k _ h2 => ⟨h2, fun b hb => ⟨b, hb, Nat.le_refl _, fun _ => ⟨rfl, fun l e sz st h => ⟨l, h⟩⟩⟩⟩, fun _ _ _ h => h⟩
theorem Out.refl {x : Cx} (h : HRel x) : Out x x := ⟨h, Mo.refl _ _, fun _ h => h⟩
theorem Sim.same {T : Tb} {x : Cx} {tv : List Value} {op : Op} {u : U} {v : Value} (hx : HRel x) (h : opX T nc tv x.s op = some (v, x.s)) (hr : Rel x u v) : Sim T x tv op u x.σ := ⟨v, x, h, rfl, hr, Out.refl hx⟩
theorem opX_pure {T : Tb} {call : CallX} {tv : List Value} {s : S} {op : Op} {v : Value} (h : pureX T tv op = some v) : opX T call tv s op = some (v, s) := by simp [opX, h]
theorem opX_read {T : Tb} {call : CallX} {tv : List Value} {s : S} {op : Op} {v : Value} (h0 : pureX T tv op = none) (h : readX T tv s op = some v) : opX T call tv s op = some (v, s) := by simp [opX, h, h0]
theorem opX_effX {T : Tb} {call : CallX} {tv : List Value} {s : S} {op : Op} {r : Value × S} (h0 : pureX T tv op = none) (h1 : readX T tv s op = none) (h : effX T tv s op = some r) : opX T call tv s op = some r := by simp [opX, h, h0, h1]
/-- one more name for nothing -/
def bump (x : Cx) : Cx := ⟨x.ρ, x.σ, ⟨x.s.h, x.s.nx + 1⟩⟩
theorem bump_mo (n : Nat) (x : Cx) : Mo n x (bump x) := ⟨fun k _ h2 => ⟨h2, fun b hb => ⟨b, hb, Nat.le_refl _, fun _ => ⟨rfl, fun l e sz st h => ⟨l, h⟩⟩⟩⟩, fun _ _ _ h => h⟩
theorem bump_rel {x : Cx} {u : U} {v : Value} (h : Rel x u v) : Rel (bump x) u v := (bump_mo x.σ.nx x).ke u v (Rel.bel u v h) h
theorem bumpE {x : Cx} {l : List U} {vs : List Value} (h : RelE x l vs) : RelE (bump x) l vs := (bump_mo x.σ.nx x).ke.E h.bel h
theorem bump_out {x : Cx} (h : HRel x) : Out x (bump x) := by
  refine ⟨⟨fun k b hb => ?_, h.inj, fun i b hb => Nat.lt_succ_of_lt (h.bd i b hb)⟩, bump_mo _ _, fun F hF => hF⟩
  obtain ⟨h1, h2⟩ := h.ok k b hb
  refine ⟨h1, ?_⟩
  cases b with
  | row l e => obtain ⟨k1, i, l', e1, e2, e3⟩ := h2; exact ⟨k1, i, l', e1, e2, bumpE e3⟩
  | vec l e sz st =>
    obtain ⟨k1, k2, h3⟩ := h2
    refine ⟨k1, k2, ?_⟩
    rcases h3 with h3 | ⟨i, l', e1, e2, e3⟩
    · exact .inl h3
    · exact .inr ⟨i, l', e1, e2, bumpE e3⟩
  | map es cl =>
    obtain ⟨i, es', e1, e2, e3⟩ := h2
    refine ⟨i, es', e1, e2, e3.1, fun j e he => ?_⟩
    obtain ⟨v, q1, q2, q3, q4⟩ := e3.2 j e he
    exact ⟨v, q1, bump_rel q2, bump_rel q3, q4⟩
end Go.Vx
