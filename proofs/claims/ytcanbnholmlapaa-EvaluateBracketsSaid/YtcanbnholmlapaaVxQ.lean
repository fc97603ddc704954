/-
  VxQ: a call whose arguments are rows of the caller's own, which it only reads: by its contract over trees.
-/
import Derived.Test.YtcanbnholmlapaaVxP
namespace Go.Vx
open Go Go.Rx
set_option linter.unusedVariables false

/-- the rows that are read alone -/
def immB : Option Blk → Option Blk
  | some (.inl (l, e, 1)) => some (.inl (l, e, 1))
  | _ => none
def pickH (g : Nat → Option Blk) : Hp → Hp
  | [] => []
  | (i, _) :: h => match g i with
    | some b => (i, b) :: pickH g h
    | none => pickH g h
theorem lk_pick (g : Nat → Option Blk) : ∀ (h : Hp) (i : Nat), lk (pickH g h) i = (match lk h i with | some _ => g i | none => none)
  | [], i => by simp [pickH, lk]
  | (j, b) :: h, i => by
    have ih := lk_pick g h i
    simp only [pickH]
    cases hg : g j with
    | none =>
      simp only [lk_cons]
      by_cases e : j = i
      · subst e
        simp only [if_true]
        rw [ih, hg]
        split <;> rfl
      · simp only [e, if_false]; exact ih
    | some c =>
      simp only [lk_cons]
      by_cases e : j = i
      · subst e; simp [hg]
      · simp only [e, if_false]; exact ih
def onlyI (s : S) : S := ⟨pickH (fun i => immB (lk s.h i)) s.h, s.nx⟩
theorem lk_onlyI (s : S) (i : Nat) : lk (onlyI s).h i = immB (lk s.h i) := by
  simp only [onlyI, lk_pick]
  cases h : lk s.h i with
  | none => rfl
  | some b => simp
theorem immB_some {o : Option Blk} {b : Blk} (h : immB o = some b) : o = some b ∧ ∃ l e, b = .inl (l, e, 1) := by
  unfold immB at h
  split at h
  · simp at h; subst h; exact ⟨rfl, _, _, rfl⟩
  · cases h
theorem less_onlyI (s : S) : Less s (onlyI s) := ⟨Nat.le_refl _, fun i b hb => by rw [lk_onlyI] at hb; exact (immB_some hb).1⟩

/-- A CALL THAT ONLY READS WHAT THE CALLER HAS MADE, and returns plain data -/
theorem EvU.view {P : Program} {f : FuncId} {args args' : List U} {σ : Sg} {u : U} {v : Value} (h : EvU P f args ⟨[], 0⟩ (fun u' _ => u' = u ∧ Bel 0 u')) (ha : BelL 0 args) (hu : toV u = some v) (hren : ∀ m, ren m v = v) {σ1 : Sg} (hg : Gh 0 args' σ args σ1) : EvU P f args' σ (fun u' σ' => u' = u ∧ σ' = σ) := fun F x vs m w cargs hx hh hfr he hfit hargs => by
  obtain ⟨y1, a1, a2, a3, a4, a5, a6⟩ := hg F x vs hx hh hfr he
  have hadv1 := a1 m w hfit
  have hadv2 := Adv.less hadv1.fits (less_onlyI y1.s)
  have hmo : Mo 0 y1 (cx (onlyI y1.s)) := ⟨fun k hk => by omega, fun i row e hl => by show lk (onlyI y1.s).h i = _; rw [lk_onlyI, hl]; rfl⟩
  have hno : ∀ b, ¬ Owns m (onlyI y1.s) b := fun b ⟨i, c, hc, ho, _⟩ => by
    rw [lk_onlyI] at hc
    obtain ⟨_, l, e, rfl⟩ := immB_some hc
    simp [Own] at ho
  refine (h (fun _ _ => False) (cx (onlyI y1.s)) vs m w cargs rfl ⟨fun k b hb => by simp [cx, gt] at hb, fun k k' b b' i hb => by simp [cx, gt] at hb, fun i b hb => ?_⟩ (fun _ _ hF => hF.elim) (hmo.ke.E ha a5) hadv2.fits (hargs.ext (Agree.refl _ _) (Nat.le_trans hadv1.nx hadv2.nx))).mono ?_
  · have hb' : lk (onlyI y1.s).h i = some b := hb
    rw [lk_onlyI] at hb'
    exact a3.bd i b (immB_some hb').1
  rintro e w₂ ⟨y2, m₂, u', v', cv, rfl, ⟨rfl, _⟩, hadv, hrel, _, _, hru, _, _⟩
  have hv := (toV_iff u' v hu y2 v').1 hru
  subst hv
  have hcv : cv = v' := by rw [← hrel.at, hren]
  subst hcv
  have hsame : ∀ b, b < w.heap.size → w₂.heap[b]? = w.heap[b]? := fun b hlt => hadv.same b hlt (hno b)
  refine ⟨x, m, u', cv, cv, rfl, ⟨rfl, hx⟩, ⟨Agree.refl _ _, Nat.le_refl _, fun m' hm' => ?_, fun b h => .inl h, fun b hlt _ => hsame b hlt, hadv.size, hadv.os, hadv.tape, hadv.output, hadv.drawn⟩, fun m' _ => hren m', hh, hfr, (toV_iff u' cv hu x cv).2 rfl, Ke.refl _ _, Nat.le_refl _⟩
  have hfm := hfit m' hm'
  exact ⟨fun i b hb => (hfm.ok i b hb).world (hsame _ (hfm.size hb)), hfm.inj, hfm.bd⟩
end Go.Vx
