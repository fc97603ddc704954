/-
  VxY: more ways to see a state otherwise: nil in a cell, and an empty slice, as a row that grows; full slices; strings put together; rows made at once.
-/
import Derived.Test.YtcanbnholmlapaaVxX
namespace Go.Vx
open Go Go.Rx
set_option linter.unusedVariables false

/-- a row of its own with other words for its cells -/
theorem Gh.row {n0 : Nat} {tm : List U} {σ : Sg} {K : Nat} {q q' : List U} {e : TypeId} (hg : gt σ.h K = some (.row q e)) (hk : okL q' = true) (hrel : ∀ x vs, x.σ = σ → HRel x → RelE x q vs → RelE x q' vs) : Gh n0 tm σ tm ⟨ug σ.h K (.row q' e), σ.nx⟩ := fun F x tv hx hr hf he => by
  subst hx
  let y : Cx := ⟨x.ρ, ⟨ug x.σ.h K (.row q' e), x.σ.nx⟩, x.s⟩
  have hgt : ∀ k, gt y.σ.h k = if K = k then some (.row q' e) else gt x.σ.h k := fun k => by
    show gt (ug x.σ.h K (.row q' e)) k = _
    rw [gt_ug, hg]; rfl
  have hmo : Mo x.σ.nx x y := ⟨fun k _ h2 => ⟨h2, fun b hb => by
    rw [hgt] at hb
    by_cases ek : K = k
    · subst ek
      simp only [if_true, Option.some.injEq] at hb
      subst hb
      exact ⟨_, hg, Nat.le_refl _, fun _ => ⟨rfl, fun l e sz st h => by cases h⟩⟩
    · simp only [ek, if_false] at hb
      exact ⟨b, hb, Nat.le_refl _, fun _ => ⟨rfl, fun l e sz st h => ⟨l, h⟩⟩⟩⟩, fun _ _ _ h => h⟩
  refine ⟨y, fun m w hf => Adv.refl hf, rfl, ⟨fun k b hb => ?_, fun k k' b b' i hb hb' => ?_, hr.bd⟩, fun i b hF => ?_, hmo.ke.E he.bel he, fun u v hb hr => hmo.ke u v (Rel.bel u v hr) hr⟩
  · rw [hgt] at hb
    by_cases ek : K = k
    · subst ek
      simp only [if_true, Option.some.injEq] at hb
      subst hb
      obtain ⟨h1, k1, i, l', e1, e2, e3⟩ := hr.ok K _ hg
      have := hrel x l' rfl hr e3
      exact ⟨h1, hk, i, l', e1, e2, hmo.ke.E this.bel this⟩
    · simp only [ek, if_false] at hb
      obtain ⟨h1, h2⟩ := hr.ok k b hb
      exact ⟨h1, h2.mono hmo rfl fun _ _ _ h => h⟩
  · have old : ∀ k b, gt y.σ.h k = some b → ∃ c, gt x.σ.h k = some c := fun k b hb => by
      rw [hgt] at hb
      by_cases ek : K = k
      · subst ek; exact ⟨_, hg⟩
      · simp only [ek, if_false] at hb; exact ⟨b, hb⟩
    obtain ⟨c, hc⟩ := old k b hb
    obtain ⟨c', hc'⟩ := old k' b' hb'
    exact hr.inj k k' c c' i hc hc'
  · obtain ⟨h1, h2⟩ := hf i b hF
    refine ⟨h1, fun k c hc => ?_⟩
    rw [hgt] at hc
    by_cases ek : K = k
    · subst ek; exact h2 _ _ hg
    · simp only [ek, if_false] at hc; exact h2 k c hc
/-- a new row that grows, still nothing, that nobody names -/
theorem Gh.fresh {n0 : Nat} {tm : List U} {σ : Sg} (e : TypeId) (sz : Nat) (hsz : 0 < sz) (h0 : n0 ≤ σ.nx) : Gh n0 tm σ tm (newU σ (.vec [] e sz 0)) := fun F x tv hx hr hf he => by
  subst hx
  have ho := step_none hr e sz hsz
  exact ⟨⟨setρ x.ρ x.σ.nx none, newU x.σ (.vec [] e sz 0), x.s⟩, fun m w hf => Adv.refl hf, rfl, ho.h, ho.fr F hf, ho.mo.ke.E he.bel he, ho.mo.ke.le h0⟩
theorem Gh.nilC {n0 : Nat} {tm : List U} {σ : Sg} (K i : Nat) {q : List U} {e0 : TypeId} (e : TypeId) (sz : Nat) (hsz : 0 < sz) (h0 : n0 ≤ σ.nx) (hg : gt σ.h K = some (.row q e0)) (hi : nth q i = some .nils) : Gh n0 tm σ tm ⟨ug (newU σ (.vec [] e sz 0)).h K (.row (q.set i (.vl σ.nx 0 0 0)) e0), σ.nx + 1⟩ := fun F x tv hx hr hf he => by
  subst hx
  have hK := (hr.ok K _ hg).1
  obtain ⟨_, k1, _⟩ := hr.ok K _ hg
  have ho := step_none hr e sz hsz
  rw [nth_eq] at hi
  -- the fresh row first
  let y : Cx := ⟨setρ x.ρ x.σ.nx none, newU x.σ (.vec [] e sz 0), x.s⟩
  have hgy : gt y.σ.h K = some (.row q e0) := by
    show gt ((x.σ.nx, _) :: x.σ.h) K = _
    rw [gt_cons, if_neg (by omega), hg]
  let z : Cx := ⟨y.ρ, ⟨ug y.σ.h K (.row (q.set i (.vl x.σ.nx 0 0 0)) e0), y.σ.nx⟩, y.s⟩
  have hgt : ∀ k, gt z.σ.h k = if K = k then some (.row (q.set i (.vl x.σ.nx 0 0 0)) e0) else gt y.σ.h k := fun k => by
    show gt (ug y.σ.h K _) k = _
    rw [gt_ug, hgy]; rfl
  have hmo : Mo y.σ.nx y z := ⟨fun k _ h2 => ⟨h2, fun b hb => by
    rw [hgt] at hb
    by_cases ek : K = k
    · subst ek
      simp only [if_true, Option.some.injEq] at hb
      subst hb
      exact ⟨_, hgy, Nat.le_refl _, fun _ => ⟨rfl, fun l e sz st h => by cases h⟩⟩
    · simp only [ek, if_false] at hb
      exact ⟨b, hb, Nat.le_refl _, fun _ => ⟨rfl, fun l e sz st h => ⟨l, h⟩⟩⟩⟩, fun _ _ _ h => h⟩
  have hey := ho.mo.ke.E he.bel he
  have hfy := ho.fr F hf
  refine ⟨z, fun m w hf => Adv.refl hf, rfl, ⟨fun k b hb => ?_, fun k k' b b' j hb hb' => ?_, ho.h.bd⟩, fun j b hF => ?_, hmo.ke.E hey.bel hey, fun u v hb hr => hmo.ke u v (Rel.bel u v (ho.mo.ke.le h0 u v hb hr)) (ho.mo.ke.le h0 u v hb hr)⟩
  · rw [hgt] at hb
    by_cases ek : K = k
    · subst ek
      simp only [if_true, Option.some.injEq] at hb
      subst hb
      obtain ⟨h1, k1, j, l', e1, e2, e3⟩ := ho.h.ok K _ hgy
      refine ⟨h1, ?_, j, l', e1, e2, ?_⟩
      · refine (okL_iff _).2 fun u hu => ?_
        rcases List.mem_or_eq_of_mem_set hu with h | h
        · exact (okL_iff q).1 k1 u h
        · subst h; rfl
      · obtain ⟨v, h3, h4⟩ := e3.get hi
        simp only [Rel] at h4
        subst h4
        have := e3.set i (rel_nonevec (x := x) (e := e) (sz := sz) (o := none) (by simp))
        rw [set_self h3] at this
        exact hmo.ke.E this.bel this
    · simp only [ek, if_false] at hb
      obtain ⟨h1, h2⟩ := ho.h.ok k b hb
      exact ⟨h1, h2.mono hmo rfl fun _ _ _ h => h⟩
  · have old : ∀ k b, gt z.σ.h k = some b → ∃ c, gt y.σ.h k = some c := fun k b hb => by
      rw [hgt] at hb
      by_cases ek : K = k
      · subst ek; exact ⟨_, hgy⟩
      · simp only [ek, if_false] at hb; exact ⟨b, hb⟩
    obtain ⟨c, hc⟩ := old k b hb
    obtain ⟨c', hc'⟩ := old k' b' hb'
    exact ho.h.inj k k' c c' j hc hc'
  · obtain ⟨h1, h2⟩ := hfy j b hF
    refine ⟨h1, fun k c hc => ?_⟩
    rw [hgt] at hc
    by_cases ek : K = k
    · subst ek; exact h2 _ _ hgy
    · simp only [ek, if_false] at hc; exact h2 k c hc
/-- an empty slice as a row that grows -/
theorem Gh.empS {n0 n : Nat} {l : List (Nat × U)} {σ : Sg} (i : Nat) {K off : Nat} (e : TypeId) (sz : Nat) (hsz : 0 < sz) (h0 : n0 ≤ σ.nx) (hi : evS n l (.tmp i) = some (.sl K off 0 0)) (hlv : live σ K 0 = true) (hd : dOk n (some i) = true) : Gh n0 (fr n l) σ (fr n ((i, .vl σ.nx 0 0 0) :: l)) (newU σ (.vec [] e sz 0)) := fun F x tv hx hr hf he => by
  subst hx
  have ho := step_none hr e sz hsz
  have h1 := ev_fr hi
  simp only [evalU, nth_eq] at h1
  obtain ⟨v, h2, h3⟩ := he.get h1
  obtain ⟨j, hj, rfl, _⟩ := live_sl hlv h3
  refine ⟨⟨setρ x.ρ x.σ.nx none, newU x.σ (.vec [] e sz 0), x.s⟩, fun m w hf => Adv.refl hf, rfl, ho.h, ho.fr F hf, ?_, ho.mo.ke.le h0⟩
  have := (ho.mo.ke.E he.bel he).set i (rel_nonevec (x := x) (e := e) (sz := sz) (o := some ⟨j, off, none⟩) (by simp))
  rw [set_self h2] at this
  have h5 := put_fr (n := n) (l := l) (d := some i) (.vl x.σ.nx 0 0 0) hd
  simp only [putW, putS] at h5
  rwa [h5] at this
theorem len_cI (k : IntKind) (x : Int) : (cI k x).length = 1 := rfl
theorem len_cB (x : Bool) : (cB x).length = 1 := rfl
theorem len_cS (x : List UInt8) : (cS x).length = 1 := rfl
theorem len_cL {α : Type} (c : α → List U) (x : List α) : (cL c x).length = 1 := rfl
section
variable {T : Tb} {σ σ' : Sg} {n : Nat} {l : List (Nat × U)} {u v w : U}
/-- a full slice -/
def cutF {α : Type} (l : List α) (hi : Int) : Option (List α) := if 0 ≤ hi ∧ hi ≤ (l.length : Int) ∧ hi < 18446744073709551616 then some (l.take hi.toNat) else none
theorem sl_full {α : Type} (c : α → List U) {t e : TypeId} {sz : Nat} {b : Bool} {xs ys : List α} {k k' : IntKind} {hi : Int} (hd : T.und t = some (.slice e)) (hs : sizeX T e = some sz) (hc : ∀ x, (c x).length = sz) (h : cutF xs hi = some ys) : sliceU T σ t (.isl b (xs.map c)) none (some (.int k hi)) (some (.int k' hi)) = some (.isl true (ys.map c)) := by
  unfold cutF at h
  split at h
  · rename_i hp
    simp only [Option.some.injEq] at h
    have e1 : inR hi (xs.length + 1) = true := inR_of ⟨hp.1, by omega⟩
    have e2 : inR hi (hi.toNat + 1) = true := inR_of ⟨hp.1, by omega⟩
    have hb : boundsX xs.length xs.length none (some (.int k hi)) (some (.int k' hi)) = some (0, hi.toNat, hi.toNat) := by simp [boundsX, bound1, e1, e2]
    have hcap : hi.toNat < capBase := by simp only [capBase]; omega
    have hbe : Nat.beq hi.toNat hi.toNat = true := by simp [beq_eq]
    simp only [sliceU, hd, hs, all_len hc xs, if_true, List.length_map, hb, hcap, hbe, cutL_map, ← h, List.drop_zero]
  · cases h
theorem sx_add {a b : List UInt8} (h : a.length + b.length ≤ 9223372036854775807) : strX .add ⟨⟨a⟩⟩ ⟨⟨b⟩⟩ = some (.string ⟨(a ++ b).toArray⟩) := by
  have : ¬ (((a.length + b.length : Nat) : Int) > 9223372036854775807) := by omega
  simp only [strX, this, if_false]
/- rows made at once -/
theorem op_mk {t e : TypeId} {x y : Operand} {k k' : IntKind} {a : Int} {sz by_ : Nat} {z : Value} {zu : List U} (hx : evS n l x = some (.int k a)) (hy : evS n l y = some (.int k' a)) (hd : T.und t = some (.slice e)) (hi : T.inf e = some (sz, by_, z)) (hz : ofVL z.cells.toList = some zu) (hk : okL zu = true) (hl : Nat.beq z.cells.toList.length sz = true) (ha : 0 ≤ a ∧ by_ * a.toNat ≤ 281474976710656 ∧ a ≤ 281474976710656) : opU T σ (fr n l) (.makeSlice t x y) = some (.sl σ.nx 0 a.toNat a.toNat, newU σ (.row (zerosU zu a.toNat) e)) := by
  refine op_ms hx hy ?_
  simp only [makeU, hd, hi, hz, hk, hl, cond_true, ha.1, Int.le_refl, ha.2.1, ha.2.2, and_self, if_true]
theorem zeros_map {α : Type} (c : α → List U) (d : α) {zu : List U} (h : c d = zu) (m : Nat) : zerosU zu m = ((List.replicate m d).map c).flatten := by
  subst h
  simp [zerosU]
end
end Go.Vx
