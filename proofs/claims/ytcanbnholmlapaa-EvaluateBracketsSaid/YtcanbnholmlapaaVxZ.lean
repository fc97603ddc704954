/-
  VxZ: functions that let a row of their caller grow and hand it back; calls that turn a row; maps of plain keys.
-/
import Derived.Test.YtcanbnholmlapaaVxY
namespace Go.Vx
open Go Go.Rx
set_option linter.unusedVariables false

/-- the state seen otherwise behind a call -/
theorem EvU.post {P : Program} {f : FuncId} {args : List U} {σ : Sg} {R R' : U → Sg → Prop} (h : EvU P f args σ R) (hg : ∀ u σ1, R u σ1 → ∃ u' σ2, σ.nx ≤ σ2.nx ∧ Gh σ.nx [u] σ1 [u'] σ2 ∧ R' u' σ2) : EvU P f args σ R' := fun F x vs m w cargs hx hh hfr he hfit hargs => by
  refine (h F x vs m w cargs hx hh hfr he hfit hargs).mono ?_
  rintro e w₁ ⟨y, m₁, u, v, cv, h1, h2, h3, h4, h5, h6, h7, h8, h9⟩
  obtain ⟨u', σ2, g1, g2, g3⟩ := hg u y.σ h2
  obtain ⟨z, z1, z2, z3, z4, z5, z6⟩ := g2 F y [v] rfl h5 h6 (RelE.cons h7 (RelE.nil y))
  obtain ⟨v0, vs0, e0, z7, _⟩ := z5.inv
  cases e0
  have hadv2 := z1 m₁ w₁ h3.fits
  exact ⟨z, m₁, u', v, cv, h1, z2 ▸ g3, h3.trans hadv2, h4.ext (Agree.refl _ _) hadv2.nx, z3, z4, z7, by rw [hx] at h8 ⊢; exact h8.trans z6, by rw [hx, z2]; exact g1⟩
mutual
theorem rU_bel0 (π : Nat → Nat) : (u : U) → Bel 0 u → rU π u = u
  | .ptr k _ _, h => by simp [Bel] at h
  | .sl k _ _ _, h => by simp [Bel] at h
  | .vl k _ _ _, h => by simp [Bel] at h
  | .map k, h => by simp [Bel] at h
  | .iptr l, h => by simp only [Bel] at h; simp [rU, rUL_bel0 π l h]
  | .isl t l, h => by simp only [Bel] at h; simp [rU, rUR_bel0 π l h]
  | .fn f a b, h => by simp only [Bel] at h; simp [rU, rUL_bel0 π a h.1, rUL_bel0 π b h.2]
  | .agg l, h => by simp only [Bel] at h; simp [rU, rUL_bel0 π l h]
  | .tup l, h => by simp only [Bel] at h; simp [rU, rUL_bel0 π l h]
  | .junk, _ => rfl
  | .bool _, _ => rfl
  | .int _ _, _ => rfl
  | .str _, _ => rfl
  | .nilp, _ => rfl
  | .nils, _ => rfl
  | .nilm, _ => rfl
  | .nilf, _ => rfl
  | .nili, _ => rfl
theorem rUL_bel0 (π : Nat → Nat) : (l : List U) → BelL 0 l → rUL π l = l
  | [], _ => rfl
  | u :: l, h => by simp only [BelL] at h; simp [rUL, rU_bel0 π u h.1, rUL_bel0 π l h.2]
theorem rUR_bel0 (π : Nat → Nat) : (l : List (List U)) → BelR 0 l → rUR π l = l
  | [], _ => rfl
  | c :: l, h => by simp only [BelR] at h; simp [rUR, rUL_bel0 π c h.1, rUR_bel0 π l h.2]
end
/-- A FUNCTION THAT LETS ITS FIRST ARGUMENT GROW AND RETURNS IT, over every heap -/
theorem EvU.acc1 {α : Type} (c : α → List U) {P : Program} {f : FuncId} {xs ys : List α} {e : TypeId} {sz : Nat} {as : List U} (hc : ∀ x, BelL 0 (c x)) (ha : BelL 0 as)
    (h : ∀ t, EvU P f (.vl 0 t 0 xs.length :: as) ⟨[(0, .vec (xs.map c).flatten e sz t)], 1⟩ (fun u σ' => ∃ t', u = .vl 0 t' 0 ys.length ∧ σ' = ⟨[(0, .vec (ys.map c).flatten e sz t')], 1⟩))
    (σ : Sg) {K t : Nat} (hK : Nat.blt K σ.nx = true) (hg : gt σ.h K = some (.vec (xs.map c).flatten e sz t)) :
    EvU P f (.vl K t 0 xs.length :: as) σ (fun u σ' => ∃ t', u = .vl K t' 0 ys.length ∧ σ' = ⟨ug σ.h K (.vec (ys.map c).flatten e sz t'), σ.nx⟩) := by
  have hlt : K < σ.nx := Nat.le_of_ble_eq_true hK
  have hfl : ∀ l : List α, BelL 0 (l.map c).flatten := fun l => bel_flat 0 hc l
  have h1 := EvU.frame [K] (h t) σ (by simp) (by simpa using hlt) (by
      simp only [BelL, Bel]
      exact ⟨by simp, (BelL.le (Nat.zero_le _) as ha)⟩) (by
      intro k b hb
      simp only [gt, beq_eq] at hb
      by_cases hk : 0 = k
      · subst hk
        simp only [decide_true, cond_true, Option.some.injEq] at hb
        subst hb
        refine ⟨by simp, (BelL.le (Nat.zero_le _) _ (hfl xs)), ?_⟩
        simp only [nm, rB, rUL_bel0 _ _ (hfl xs)]
        exact hg
      · simp [hk] at hb)
  have hargs : rUL (nm [K] σ.nx) (.vl 0 t 0 xs.length :: as) = .vl K t 0 xs.length :: as := by
    simp only [rUL, rU, nm, rUL_bel0 _ _ ha]
  rw [hargs] at h1
  refine EvU.post h1 ?_
  rintro u σ1 ⟨u0, σ0, ⟨t', rfl, rfl⟩, _, rfl, rfl⟩
  refine ⟨.vl K t' 0 ys.length, ⟨ug σ.h K (.vec (ys.map c).flatten e sz t'), σ.nx⟩, Nat.le_refl _, ?_, t', rfl, rfl⟩
  have hs : frS [K] σ ⟨[(0, .vec (ys.map c).flatten e sz t')], 1⟩ = ⟨(K, .vec (ys.map c).flatten e sz t') :: dropH [K] σ.h, σ.nx⟩ := by
    simp [frS, renH, nm, rB, rUL_bel0 _ _ (hfl ys)]
  rw [hs]
  have := Gh.same (n0 := σ.nx) (tm := [rU (nm [K] σ.nx) (.vl 0 t' 0 ys.length)]) (σ := ⟨(K, .vec (ys.map c).flatten e sz t') :: dropH [K] σ.h, σ.nx⟩) (ug σ.h K (.vec (ys.map c).flatten e sz t')) (fun k => by
    rw [gt_ug, gt_cons, gt_dropH]
    by_cases hk : K = k
    · subst hk; simp [hg]
    · have : ¬ k = K := fun h => hk h.symm
      simp [hk, this])
  exact this
section
variable {P : Program} {T : Tb} {ops r : List Oper} {o : Oper} {n : Nat} {l : List (Nat × U)} {σ : Sg} {K : List U → Sg → Prop}
/-- a call, whatever it leaves -/
theorem RS.callx {f : FuncId} {args : List U} {R : U → Sg → Prop} (hw : wantedU ops (fr n l) o = some true) (hc : callU T (fr n l) o.op = some (f, args)) (hev : EvU P f args σ R) {d : Tmp} (he : o.dst = some d) (hd : Nat.blt d n = true) (hk : ∀ u σ', R u σ' → RU P T ops r (fr n ((d, u) :: l)) σ' K) : RU P T ops (o :: r) (fr n l) σ K :=
  RU.call hw hc hev (fun u σ' h => by rw [he, put_fr (d := some d) u hd]; exact hk u σ' h)
theorem RS.callxn {f : FuncId} {args : List U} {R : U → Sg → Prop} (hw : wantedU ops (fr n l) o = some true) (hc : callU T (fr n l) o.op = some (f, args)) (hev : EvU P f args σ R) (he : o.dst = none) (hk : ∀ u σ', R u σ' → RU P T ops r (fr n l) σ' K) : RU P T ops (o :: r) (fr n l) σ K :=
  RU.call hw hc hev (fun u σ' h => by rw [he]; exact hk u σ' h)
end
/-- nothing handed on as a row that grows -/
theorem EvU.nil1 {P : Program} {f : FuncId} {as : List U} {σ : Sg} {R : U → Sg → Prop} (e : TypeId) (sz : Nat) (hsz : 0 < sz) (h : EvU P f (.vl σ.nx 0 0 0 :: as) (newU σ (.vec [] e sz 0)) R) : EvU P f (.nils :: as) σ R :=
  EvU.ghost (Gh.nilvec 0 e sz hsz (Nat.le_refl _) rfl) (by simp [newU]) h
section
variable {Q : Exit → List U → Sg → Prop} {K : List U → Sg → Prop} {tm : List U} {σ : Sg} {i j n0 : Nat} {E : List U → Sg → Prop}
theorem q1 (h : K tm σ) : thenU K Q .normal tm σ := h
theorem q2 (h : Q (.exit i) tm σ) : thenU K Q (.exit i) tm σ := h
theorem q3 (h : Q .ret tm σ) : thenU K Q .ret tm σ := h
theorem q4 (h : Q .normal tm σ) : inBlockU i Q .normal tm σ := h
theorem q5 (h : Q .ret tm σ) : inBlockU i Q .ret tm σ := h
theorem q6 (h : Q .normal tm σ) : inBlockU i Q (.exit i) tm σ := inB_x h
theorem q7 (hij : ¬ j = i) (h : Q (.exit j) tm σ) : inBlockU i Q (.exit j) tm σ := inB_y hij h
theorem q8 (h : ∃ tm' σ', E tm' σ' ∧ n0 ≤ σ'.nx ∧ Gh n0 tm σ tm' σ') : thruU n0 E Q .normal tm σ := h
theorem q9 (h : Q .ret tm σ) : thruU n0 E Q .ret tm σ := h
theorem q0 (h : Q (.exit i) tm σ) : thruU n0 E Q (.exit i) tm σ := h
end
end Go.Vx
