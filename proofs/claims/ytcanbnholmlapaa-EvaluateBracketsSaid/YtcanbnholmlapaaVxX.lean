/-
  VxX: frames of few slots (a list of slot and value; all other slots say nothing), and one lemma for each operation over them.
-/
import Derived.Test.YtcanbnholmlapaaVxW
namespace Go.Vx
open Go Go.Rx
set_option linter.unusedVariables false

def lookS : List (Nat × U) → Nat → Option U
  | [], _ => none
  | (j, u) :: l, i => cond (Nat.beq j i) (some u) (lookS l i)
def frG (l : List (Nat × U)) : Nat → Nat → List U
  | 0, _ => []
  | n + 1, i => ((lookS l i).getD .junk) :: frG l n (i + 1)
def fr (n : Nat) (l : List (Nat × U)) : List U := frG l n 0
theorem frG_len (l : List (Nat × U)) : ∀ n i, (frG l n i).length = n
  | 0, _ => rfl
  | n + 1, i => by simp [frG, frG_len l n]
theorem frG_get (l : List (Nat × U)) : ∀ n i k, k < n → (frG l n i)[k]? = some ((lookS l (i + k)).getD .junk)
  | 0, _, _, h => by omega
  | n + 1, i, 0, _ => by simp [frG]
  | n + 1, i, k + 1, h => by
    simp only [frG, List.getElem?_cons_succ]
    rw [frG_get l n (i + 1) k (by omega), show i + 1 + k = i + (k + 1) by omega]
theorem fr_len (n : Nat) (l : List (Nat × U)) : (fr n l).length = n := frG_len l n 0
theorem fr_get (n : Nat) (l : List (Nat × U)) {k : Nat} (h : k < n) : (fr n l)[k]? = some ((lookS l k).getD .junk) := by
  have := frG_get l n 0 k h
  simpa [fr] using this
theorem fr_ext {n : Nat} {l : List (Nat × U)} {t : List U} (hl : t.length = n) (h : ∀ k, k < n → t[k]? = some ((lookS l k).getD .junk)) : t = fr n l := by
  apply List.ext_getElem?
  intro k
  by_cases hk : k < n
  · rw [h k hk, fr_get n l hk]
  · rw [List.getElem?_eq_none (by omega), List.getElem?_eq_none (by rw [fr_len]; omega)]
def evS (n : Nat) (l : List (Nat × U)) : Operand → Option U
  | .tmp t => cond (Nat.blt t n) (lookS l t) none
  | .const v => ofV v
  | .func f => some (.fn (.func f) [] [])
  | .global _ => none
theorem ev_fr {n : Nat} {l : List (Nat × U)} {o : Operand} {u : U} (h : evS n l o = some u) : evalU (fr n l) o = some u := by
  cases o with
  | tmp t =>
    simp only [evS] at h
    cases hb : Nat.blt t n with
    | false => rw [hb] at h; cases h
    | true =>
      rw [hb] at h
      simp only [cond_true] at h
      simp only [evalU, nth_eq]
      have ht : t < n := Nat.le_of_ble_eq_true hb
      rw [fr_get n l ht, h]; rfl
  | const v => exact h
  | func f => exact h
  | global g => cases h
def evSL (n : Nat) (l : List (Nat × U)) : List Operand → Option (List U)
  | [] => some []
  | x :: r => match evS n l x with
    | some v => (match evSL n l r with
      | some q => some (v :: q)
      | none => none)
    | none => none
theorem evL_fr {n : Nat} {l : List (Nat × U)} : ∀ {os : List Operand} {us : List U}, evSL n l os = some us → evalUL (fr n l) os = some us
  | [], us, h => h
  | o :: os, us, h => by
    simp only [evSL] at h
    cases h1 : evS n l o with
    | none => simp [h1] at h
    | some v =>
      cases h2 : evSL n l os with
      | none => simp [h1, h2] at h
      | some q =>
        simp only [h1, h2] at h
        simp only [evalUL, ev_fr h1, evL_fr h2]
        exact h
def evSP (n : Nat) (l : List (Nat × U)) : List (Nat × Operand) → Option (List (Nat × U))
  | [] => some []
  | (i, x) :: r => match evS n l x with
    | some v => (match evSP n l r with
      | some q => some ((i, v) :: q)
      | none => none)
    | none => none
theorem evP_fr {n : Nat} {l : List (Nat × U)} : ∀ {os : List (Nat × Operand)} {us : List (Nat × U)}, evSP n l os = some us → evalUP (fr n l) os = some us
  | [], us, h => h
  | (i, o) :: os, us, h => by
    simp only [evSP] at h
    cases h1 : evS n l o with
    | none => simp [h1] at h
    | some v =>
      cases h2 : evSP n l os with
      | none => simp [h1, h2] at h
      | some q =>
        simp only [h1, h2] at h
        simp only [evalUP, ev_fr h1, evP_fr h2]
        exact h
def putS (l : List (Nat × U)) : Option Tmp → U → List (Nat × U)
  | none, _ => l
  | some d, u => (d, u) :: l
def dOk (n : Nat) : Option Tmp → Bool
  | none => true
  | some d => Nat.blt d n
theorem put_fr {n : Nat} {l : List (Nat × U)} {d : Option Tmp} (u : U) (hd : dOk n d = true) : putW (fr n l) d u = fr n (putS l d u) := by
  cases d with
  | none => rfl
  | some d =>
    have hlt : d < n := Nat.le_of_ble_eq_true hd
    refine fr_ext (by simp [putW, fr_len]) fun k hk => ?_
    simp only [putW, List.getElem?_set, fr_len, putS, lookS, beq_eq]
    by_cases e : d = k
    · subst e; simp [hlt]
    · simp only [e, if_false, decide_false, cond_false]; exact fr_get n l hk
/- REGIONS -/
section
variable {P : Program} {T : Tb} {ops r : List Oper} {o : Oper} {n : Nat} {l : List (Nat × U)} {σ σ' : Sg} {K : List U → Sg → Prop} {u : U}
theorem RS.op (hw : wantedU ops (fr n l) o = some true) (h : opU T σ (fr n l) o.op = some (u, σ')) {d : Tmp} (he : o.dst = some d) (hd : Nat.blt d n = true) (hk : RU P T ops r (fr n ((d, u) :: l)) σ' K) : RU P T ops (o :: r) (fr n l) σ K :=
  .inl ⟨hw, u, σ', h, by rw [he, put_fr (d := some d) u hd]; exact hk⟩
theorem RS.opn (hw : wantedU ops (fr n l) o = some true) (h : opU T σ (fr n l) o.op = some (u, σ')) (he : o.dst = none) (hk : RU P T ops r (fr n l) σ' K) : RU P T ops (o :: r) (fr n l) σ K :=
  .inl ⟨hw, u, σ', h, by rw [he]; exact hk⟩
theorem RS.no (hw : wantedU ops (fr n l) o = some false) {d : Tmp} (he : o.dst = some d) (hd : Nat.blt d n = true) (hk : RU P T ops r (fr n ((d, .tup []) :: l)) σ K) : RU P T ops (o :: r) (fr n l) σ K :=
  .inr (.inr ⟨hw, by rw [he, put_fr (d := some d) _ hd]; exact hk⟩)
theorem RS.non (hw : wantedU ops (fr n l) o = some false) (he : o.dst = none) (hk : RU P T ops r (fr n l) σ K) : RU P T ops (o :: r) (fr n l) σ K :=
  .inr (.inr ⟨hw, by rw [he]; exact hk⟩)
theorem RS.done (h : K (fr n l) σ) : RU P T ops [] (fr n l) σ K := h
theorem RS.call {f : FuncId} {args : List U} (hw : wantedU ops (fr n l) o = some true) (hc : callU T (fr n l) o.op = some (f, args)) (hev : EvU P f args σ (fun u' σ' => u' = u ∧ σ' = σ)) {d : Tmp} (he : o.dst = some d) (hd : Nat.blt d n = true) (hk : RU P T ops r (fr n ((d, u) :: l)) σ K) : RU P T ops (o :: r) (fr n l) σ K :=
  RU.pcall hw hc hev (by rw [he, put_fr (d := some d) u hd]; exact hk)
theorem RS.fcall {f : FuncId} {args args' : List U} {σ1 : Sg} (hw : wantedU ops (fr n l) o = some true) (hc : callU T (fr n l) o.op = some (f, args)) (hg : Gh σ.nx args σ args' σ1) (hn : σ.nx ≤ σ1.nx) (hev : EvU P f args' σ1 (fun u' σ' => u' = u ∧ σ' = σ1)) {d : Tmp} (he : o.dst = some d) (hd : Nat.blt d n = true) (hk : RU P T ops r (fr n ((d, u) :: l)) σ1 K) : RU P T ops (o :: r) (fr n l) σ K :=
  RU.fcall hw hc hg hn hev (by rw [he, put_fr (d := some d) u hd]; exact hk)
theorem want1 {j : Nat} {want b : Bool} {d : Tmp} (hg : o.guard = some (j, want)) (hj : dstOf ops j = some d) (hl : evS n l (.tmp d) = some (.bool b)) (hb : b = want) : wantedU ops (fr n l) o = some true := by
  have := ev_fr hl
  simp only [evalU] at this
  simp [wantedU, hg, hj, this, hb]
theorem want0 {j : Nat} {want b : Bool} {d : Tmp} (hg : o.guard = some (j, want)) (hj : dstOf ops j = some d) (hl : evS n l (.tmp d) = some (.bool b)) (hb : b = !want) : wantedU ops (fr n l) o = some false := by
  have := ev_fr hl
  simp only [evalU] at this
  cases want <;> simp [wantedU, hg, hj, this, hb]
theorem wantT {j : Nat} {want : Bool} {d : Tmp} {q : List U} (hg : o.guard = some (j, want)) (hj : dstOf ops j = some d) (hl : evS n l (.tmp d) = some (.tup q)) : wantedU ops (fr n l) o = some false := by
  have := ev_fr hl
  simp only [evalU] at this
  simp [wantedU, hg, hj, this]
end
section
variable {P : Program} {T : Tb} {ops r : List Oper} {o : Oper} {n : Nat} {l : List (Nat × U)} {σ σ' : Sg} {acc : List RK} {K : List RK → List U → Sg → Prop} {u : U}
theorem RD.look (hw : wantedU ops (fr n l) o = some true) (h : opU T σ (fr n l) o.op = some (u, σ)) {d : Tmp} (he : o.dst = some d) (hd : Nat.blt d n = true) (hk : RH P T ops r (fr n ((d, u) :: l)) σ ((1, ⟨fr n l, o, u, false, false, σ, σ⟩) :: acc) K) : RH P T ops (o :: r) (fr n l) σ acc K :=
  .inl ⟨hw, u, h, by rw [he, put_fr (d := some d) u hd]; exact hk⟩
theorem RD.act (hw : wantedU ops (fr n l) o = some true) (h : opU T σ (fr n l) o.op = some (u, σ')) {d : Tmp} (he : o.dst = some d) (hd : Nat.blt d n = true) (hk : RH P T ops r (fr n ((d, u) :: l)) σ' ((3, ⟨fr n l, o, u, true, true, σ, σ'⟩) :: acc) K) : RH P T ops (o :: r) (fr n l) σ acc K :=
  .inr (.inl ⟨hw, u, σ', h, by rw [he, put_fr (d := some d) u hd]; exact hk⟩)
theorem RD.actn (hw : wantedU ops (fr n l) o = some true) (h : opU T σ (fr n l) o.op = some (u, σ')) (he : o.dst = none) (hk : RH P T ops r (fr n l) σ' ((3, ⟨fr n l, o, u, true, true, σ, σ'⟩) :: acc) K) : RH P T ops (o :: r) (fr n l) σ acc K :=
  .inr (.inl ⟨hw, u, σ', h, by rw [he]; exact hk⟩)
theorem RD.non (hw : wantedU ops (fr n l) o = some false) (he : o.dst = none) (hk : RH P T ops r (fr n l) σ ((0, ⟨fr n l, o, .tup [], false, false, σ, σ⟩) :: acc) K) : RH P T ops (o :: r) (fr n l) σ acc K :=
  .inr (.inr (.inr (.inr (.inl ⟨hw, by rw [he]; exact hk⟩))))
theorem RD.no (hw : wantedU ops (fr n l) o = some false) {d : Tmp} (he : o.dst = some d) (hd : Nat.blt d n = true) (hk : RH P T ops r (fr n ((d, .tup []) :: l)) σ ((0, ⟨fr n l, o, .tup [], false, false, σ, σ⟩) :: acc) K) : RH P T ops (o :: r) (fr n l) σ acc K :=
  .inr (.inr (.inr (.inr (.inl ⟨hw, by rw [he, put_fr (d := some d) _ hd]; exact hk⟩))))
theorem RD.free {f : FuncId} {args : List U} (hw : wantedU ops (fr n l) o = some true) (hc : callU T (fr n l) o.op = some (f, args)) (hev : ∀ s, EvU P f args s (fun u' σ' => u' = u ∧ σ' = s)) {d : Tmp} (he : o.dst = some d) (hd : Nat.blt d n = true) (hk : RH P T ops r (fr n ((d, u) :: l)) σ ((0, ⟨fr n l, o, u, false, false, σ, σ⟩) :: acc) K) : RH P T ops (o :: r) (fr n l) σ acc K :=
  .inr (.inr (.inr (.inr (.inr ⟨hw, f, args, u, hc, hev, by rw [he, put_fr (d := some d) u hd]; exact hk⟩))))
theorem RD.call {f : FuncId} {args : List U} (hw : wantedU ops (fr n l) o = some true) (hc : callU T (fr n l) o.op = some (f, args)) (hev : EvU P f args σ (fun u' σ' => u' = u ∧ σ' = σ)) {d : Tmp} (he : o.dst = some d) (hd : Nat.blt d n = true) (hk : RH P T ops r (fr n ((d, u) :: l)) σ ((2, ⟨fr n l, o, u, true, false, σ, σ⟩) :: acc) K) : RH P T ops (o :: r) (fr n l) σ acc K :=
  RH.call hw hc hev (by rw [he, put_fr (d := some d) u hd]; exact hk)
theorem RD.fcall {f : FuncId} {args args' : List U} {σ1 : Sg} (hw : wantedU ops (fr n l) o = some true) (hc : callU T (fr n l) o.op = some (f, args)) (hg : Gh σ.nx args σ args' σ1) (hn : σ.nx ≤ σ1.nx) (hev : EvU P f args' σ1 (fun u' σ' => u' = u ∧ σ' = σ1)) {d : Tmp} (he : o.dst = some d) (hd : Nat.blt d n = true) (hk : RH P T ops r (fr n ((d, u) :: l)) σ1 ((3, ⟨fr n l, o, u, true, true, σ, σ1⟩) :: acc) K) : RH P T ops (o :: r) (fr n l) σ acc K :=
  RH.fcall hw hc hg hn hev (by rw [he, put_fr (d := some d) u hd]; exact hk)
theorem RD.done (h : K acc (fr n l) σ) : RH P T ops [] (fr n l) σ acc K := h
end
/- THE STATE SEEN OTHERWISE -/
def subS (l : List (Nat × U)) : List (Nat × U) → Prop
  | [] => True
  | (i, u) :: r => lookS l i = some u ∧ subS l r
theorem subS_look {l : List (Nat × U)} : ∀ {r : List (Nat × U)}, subS l r → ∀ i u, lookS r i = some u → lookS l i = some u
  | [], _, i, u, h => by cases h
  | (j, v) :: r, hs, i, u, h => by
    simp only [subS] at hs
    simp only [lookS, beq_eq] at h
    by_cases e : j = i
    · subst e; simp at h; subst h; exact hs.1
    · simp only [e, decide_false, cond_false] at h; exact subS_look hs.2 i u h
theorem relE_fr {x : Cx} {n : Nat} {l : List (Nat × U)} {tv : List Value} (hl : tv.length = n) (h : ∀ i u, i < n → lookS l i = some u → ∃ v, tv[i]? = some v ∧ Rel x u v) : RelE x (fr n l) tv := by
  refine RelE.mk' (by rw [fr_len, hl]) fun i u hi => ?_
  have hlt : i < n := by have := (List.getElem?_eq_some_iff.1 hi).1; rwa [fr_len] at this
  rw [fr_get n l hlt] at hi
  cases hk : lookS l i with
  | none =>
    rw [hk] at hi
    simp at hi; subst hi
    exact ⟨tv[i], List.getElem?_eq_getElem (by omega), by simp [Rel]⟩
  | some w =>
    rw [hk] at hi
    simp at hi; subst hi
    exact h i w hlt hk
theorem relE_look {x : Cx} {n : Nat} {l : List (Nat × U)} {tv : List Value} (he : RelE x (fr n l) tv) {i : Nat} {u : U} (hi : i < n) (h : lookS l i = some u) : ∃ v, tv[i]? = some v ∧ Rel x u v :=
  he.get (by rw [fr_get n l hi, h]; rfl)
theorem Gh.sub {n0 n : Nat} {l l' : List (Nat × U)} {σ : Sg} (h : subS l l') : Gh n0 (fr n l) σ (fr n l') σ := fun F x tv hx hr hf he =>
  ⟨x, fun m w hf => Adv.refl hf, hx, hr, hf, relE_fr (by rw [← he.2, fr_len]) (fun i u hi hl => relE_look he hi (subS_look h i u hl)), Ke.refl _ _⟩
/-- a frame out of the first slots -/
def numS : Nat → List U → List (Nat × U)
  | _, [] => []
  | i, u :: l => (i, u) :: numS (i + 1) l
theorem lookS_num : ∀ (l : List U) (i k : Nat) (u : U), lookS (numS i l) k = some u → i ≤ k ∧ l[k - i]? = some u
  | [], i, k, u, h => by cases h
  | v :: l, i, k, u, h => by
    simp only [numS, lookS, beq_eq] at h
    by_cases e : i = k
    · subst e; simp at h; subst h; simp
    · simp only [e, decide_false, cond_false] at h
      obtain ⟨h1, h2⟩ := lookS_num l (i + 1) k u h
      refine ⟨by omega, ?_⟩
      rw [show k - i = (k - (i + 1)) + 1 by omega]
      simpa using h2
theorem padU_get : ∀ (n : Nat) (l : List U) (k : Nat) (u : U), l[k]? = some u → (padU n l)[k]? = some u
  | 0, l, k, u, h => h
  | n + 1, [], k, u, h => by simp at h
  | n + 1, v :: l, 0, u, h => by simpa [padU] using h
  | n + 1, v :: l, k + 1, u, h => by simp only [padU, List.getElem?_cons_succ] at *; exact padU_get n l k u h
theorem padU_len : ∀ (n : Nat) (l : List U), l.length ≤ n → (padU n l).length = n
  | 0, l, h => by simp [padU]; exact List.eq_nil_of_length_eq_zero (by omega)
  | n + 1, [], h => by simp [padU, padU_len n [] (by simp)]
  | n + 1, v :: l, h => by simp [padU, padU_len n l (by simpa using h)]
theorem Gh.start {n0 n : Nat} {args : List U} {σ : Sg} (h : args.length ≤ n) : Gh n0 (padU n args) σ (fr n (numS 0 args)) σ := fun F x tv hx hr hf he =>
  ⟨x, fun m w hf => Adv.refl hf, hx, hr, hf, relE_fr (by rw [← he.2, padU_len n args h]) (fun i u hi hl => by
    obtain ⟨_, h2⟩ := lookS_num args 0 i u hl
    exact he.get (padU_get n args i u (by simpa using h2))), Ke.refl _ _⟩
def BelS (n : Nat) : List (Nat × U) → Prop
  | [] => True
  | (_, u) :: l => Bel n u ∧ BelS n l
theorem belS_look {n : Nat} : ∀ {l : List (Nat × U)}, BelS n l → ∀ i u, lookS l i = some u → Bel n u
  | [], _, i, u, h => by cases h
  | (j, v) :: l, hb, i, u, h => by
    simp only [BelS] at hb
    simp only [lookS, beq_eq] at h
    by_cases e : j = i
    · subst e; simp at h; subst h; exact hb.1
    · simp only [e, decide_false, cond_false] at h; exact belS_look hb.2 i u h
theorem belL_fr {n1 n : Nat} {l : List (Nat × U)} (h : BelS n1 l) : BelL n1 (fr n l) := by
  rw [belL_iff]
  intro u hu
  obtain ⟨i, hi, rfl⟩ := List.getElem_of_mem hu
  have hlt : i < n := by rwa [fr_len] at hi
  have := fr_get n l hlt
  rw [List.getElem?_eq_getElem hi] at this
  simp only [Option.some.injEq] at this
  rw [this]
  cases hk : lookS l i with
  | none => simp [Bel]
  | some w => exact belS_look h i w hk
/-- slots and names that nobody needs any more -/
theorem Gh.toS {n0 n1 n : Nat} {l l' : List (Nat × U)} {σ σ' : Sg} (ht : subS l l') (hs : (⟨Vx.cut n1 σ.h, n1⟩ : Sg) = σ') (h1 : n0 ≤ n1) (h2 : n1 ≤ σ.nx) (hb : BelS n1 l') (hh : BelH n1 σ'.h) : Gh n0 (fr n l) σ (fr n l') σ' := by
  subst hs
  exact (Gh.sub ht).trans (Gh.cut h1 h2 (belL_fr hb) hh)
theorem Gh.eqS {n0 n : Nat} {l l' : List (Nat × U)} {σ σ' : Sg} (ht : subS l l') (hs : σ = σ') : Gh n0 (fr n l) σ (fr n l') σ' := by
  subst hs
  exact Gh.sub ht
def fzS (K : Nat) (b : B) (sz : Nat) : List (Nat × U) → List (Nat × U)
  | [] => []
  | (i, u) :: l => (i, fz K b sz u) :: fzS K b sz l
theorem lookS_fz (K : Nat) (b : B) (sz : Nat) : ∀ (l : List (Nat × U)) (i : Nat), lookS (fzS K b sz l) i = (lookS l i).map (fz K b sz)
  | [], i => rfl
  | (j, u) :: l, i => by
    simp only [fzS, lookS, beq_eq, lookS_fz K b sz l i]
    by_cases e : j = i <;> simp [e]
theorem fzL_fr (K : Nat) (b : B) (sz n : Nat) (l : List (Nat × U)) : fzL K b sz (fr n l) = fr n (fzS K b sz l) := by
  refine fr_ext (by rw [fzL_len, fr_len]) fun k hk => ?_
  have hm : ∀ (t : List U) (k : Nat), (fzL K b sz t)[k]? = (t[k]?).map (fz K b sz) := by
    intro t
    induction t with
    | nil => intro k; simp [fzL]
    | cons u t ih => intro k; cases k <;> simp [fzL, ih]
  rw [hm, fr_get n l hk, lookS_fz]
  cases lookS l k with
  | none => simp [fz_junk]
  | some w => rfl
theorem Gh.fzS {n0 n : Nat} {l l' : List (Nat × U)} {σ : Sg} {h' : List (Nat × B)} (K : Nat) (b : B) (sz : Nat) (hg : gt σ.h K = some b) (hb : ∀ es cl, b ≠ .map es cl) (ht : Vx.fzS K b sz l = l') (hh : fzH K b sz σ.h = h') : Gh n0 (fr n l) σ (fr n l') ⟨h', σ.nx⟩ := by
  subst ht; subst hh
  rw [← fzL_fr]
  exact Gh.freeze sz hg hb
inductive WkS : List (Nat × U) → List (Nat × U) → Prop
  | nil : WkS [] []
  | cons {i : Nat} {u u' : U} {l l' : List (Nat × U)} (h : Wk u u') (h' : WkS l l') : WkS ((i, u) :: l) ((i, u') :: l')
theorem WkS.look : ∀ {l l' : List (Nat × U)}, WkS l l' → ∀ i u', lookS l' i = some u' → ∃ u, lookS l i = some u ∧ Wk u u'
  | _, _, .nil, i, u', h => by cases h
  | _, _, .cons (i := j) h h', i, u', hu => by
    simp only [lookS, beq_eq] at hu ⊢
    by_cases e : j = i
    · subst e; simp at hu; subst hu; exact ⟨_, by simp, h⟩
    · simp only [e, decide_false, cond_false] at hu ⊢; exact h'.look i u' hu
theorem Gh.wkS {n0 n : Nat} {l l' : List (Nat × U)} {σ : Sg} (h : WkS l l') : Gh n0 (fr n l) σ (fr n l') σ := fun F x tv hx hr hf he =>
  ⟨x, fun m w hf => Adv.refl hf, hx, hr, hf, relE_fr (by rw [← he.2, fr_len]) (fun i u hi hl => by
    obtain ⟨w, h1, h2⟩ := h.look i u hl
    obtain ⟨v, h3, h4⟩ := relE_look he hi h1
    exact ⟨v, h3, h2.rel h4⟩), Ke.refl _ _⟩
theorem Gh.nilS {n0 n : Nat} {l : List (Nat × U)} {σ : Sg} (i : Nat) (e : TypeId) (sz : Nat) (hsz : 0 < sz) (h0 : n0 ≤ σ.nx) (hi : evS n l (.tmp i) = some .nils) (hd : dOk n (some i) = true) : Gh n0 (fr n l) σ (fr n ((i, .vl σ.nx 0 0 0) :: l)) (newU σ (.vec [] e sz 0)) := by
  have h1 := ev_fr hi
  have h2 := Gh.nilvec (n0 := n0) (σ := σ) i e sz hsz h0 (tm := fr n l) h1
  have h3 := put_fr (n := n) (l := l) (d := some i) (.vl σ.nx 0 0 0) hd
  simp only [putW, putS] at h3
  rwa [h3] at h2
/- BRANCHES, THE END -/
theorem WPU.condS {P : Program} {n0 n : Nat} {Q : Exit → List U → Sg → Prop} {l : List (Nat × U)} {σ : Sg} {c : Operand} {p q : Code} {t : Bool} (hc : evS n l c = some (.bool t)) (h1 : t = true → WPU P n0 p (fr n l) σ Q) (h2 : t = false → WPU P n0 q (fr n l) σ Q) : WPU P n0 (.cond c p q) (fr n l) σ Q := WPU.cond (ev_fr hc) h1 h2
theorem res_t {T : Tb} {σ : Sg} {n : Nat} {l : List (Nat × U)} {t : Tmp} {rs : List ResultVar} {u : U} {us : List U} (h : evS n l (.tmp t) = some u) (hr : resU T σ (fr n l) rs = some us) : resU T σ (fr n l) (.tmp t :: rs) = some (u :: us) := by
  have := ev_fr h
  simp only [evalU] at this
  simp [resU, this, hr]
theorem res_n {T : Tb} {σ : Sg} {n : Nat} {l : List (Nat × U)} : resU T σ (fr n l) [] = some [] := rfl
theorem res_c {T : Tb} {σ : Sg} {n : Nat} {l : List (Nat × U)} {a : Tmp} {t : TypeId} {rs : List ResultVar} {u : U} {us : List U} (h : opU T σ (fr n l) (.load t (.tmp a)) = some (u, σ)) (hr : resU T σ (fr n l) rs = some us) : resU T σ (fr n l) (.cell a t :: rs) = some (u :: us) := by
  have : readU T σ (fr n l) (.load t (.tmp a)) = some u := by
    have hp : pureU T σ (fr n l) (.load t (.tmp a)) = none := rfl
    have he : effU T σ (fr n l) (.load t (.tmp a)) = none := rfl
    unfold opU at h
    rw [hp] at h
    simp only at h
    cases hr : readU T σ (fr n l) (.load t (.tmp a)) with
    | none => rw [hr, he] at h; cases h
    | some v => rw [hr] at h; simp at h; rw [h]
  simp [resU, this, hr]
/- OPERATIONS -/
section
variable {T : Tb} {σ σ' : Sg} {n : Nat} {l : List (Nat × U)} {u v w : U}
theorem op_p {op : Op} (h : pureU T σ (fr n l) op = some u) : opU T σ (fr n l) op = some (u, σ) := by simp [opU, h]
theorem op_r {op : Op} (h0 : pureU T σ (fr n l) op = none) (h : readU T σ (fr n l) op = some u) : opU T σ (fr n l) op = some (u, σ) := by simp [opU, h, h0]
theorem op_e {op : Op} {q : U × Sg} (h0 : pureU T σ (fr n l) op = none) (h1 : readU T σ (fr n l) op = none) (h : effU T σ (fr n l) op = some q) : opU T σ (fr n l) op = some q := by simp [opU, h, h0, h1]
theorem op_move {x : Operand} (h : evS n l x = some u) : opU T σ (fr n l) (.move x) = some (u, σ) := op_p (ev_fr h)
theorem op_assign {x : Operand} (h : evS n l x = some u) : opU T σ (fr n l) (.assign x) = some (u, σ) := op_p (ev_fr h)
theorem op_pick1 {c a b : Operand} {t : Bool} (hc : evS n l c = some (.bool t)) (ht : t = true) (h : evS n l a = some u) : opU T σ (fr n l) (.pick c a b) = some (u, σ) := op_p (by subst ht; simp only [pureU, ev_fr hc]; exact ev_fr h)
theorem op_pick0 {c a b : Operand} {t : Bool} (hc : evS n l c = some (.bool t)) (ht : t = false) (h : evS n l b = some u) : opU T σ (fr n l) (.pick c a b) = some (u, σ) := op_p (by subst ht; simp only [pureU, ev_fr hc]; exact ev_fr h)
theorem op_nc1 {x : Operand} {k st off : Nat} (h : evS n l x = some (.ptr k st off)) (hl : live σ k st = true) : opU T σ (fr n l) (.nilCheck x) = some (.ptr k st off, σ) := op_p (by simp only [pureU, ev_fr h, hl, cond_true])
theorem op_nc2 {x : Operand} {q : List U} (h : evS n l x = some (.iptr q)) : opU T σ (fr n l) (.nilCheck x) = some (.iptr q, σ) := op_p (by simp only [pureU, ev_fr h])
theorem op_nc3 {x : Operand} {f : FuncId} {a b : List U} (h : evS n l x = some (.fn (.func f) a b)) : opU T σ (fr n l) (.nilCheck x) = some (.fn (.func f) a b, σ) := op_p (by simp only [pureU, ev_fr h])
theorem op_build {t : TypeId} {ps : Array (Nat × Operand)} {qs : List (Nat × U)} (h : evSP n l ps.toList = some qs) (hb : buildU T t qs = some u) : opU T σ (fr n l) (.build t ps) = some (u, σ) := op_p (by simp only [pureU, evP_fr h, hb])
theorem op_bin {op : BinOp} {t t' : TypeId} {x y : Operand} (hx : evS n l x = some v) (hy : evS n l y = some w) (h : g2 (binX T op t) v w = some u) : opU T σ (fr n l) (.binOp op t x y t') = some (u, σ) := op_p (by simp only [pureU, ev_fr hx, ev_fr hy, binU, h])
theorem op_nil {op : BinOp} {t t' : TypeId} {x y : Operand} (hx : evS n l x = some v) (hy : evS n l y = some w) (h0 : g2 (binX T op t) v w = none) (h : nilCmp T σ op t v w = some u) : opU T σ (fr n l) (.binOp op t x y t') = some (u, σ) := op_p (by simp only [pureU, ev_fr hx, ev_fr hy, binU, h0, h])
theorem op_int {op : BinOp} {t t' : TypeId} {x y : Operand} {k k' : IntKind} {a b : Int} {r : Value} (hx : evS n l x = some (.int k a)) (hy : evS n l y = some (.int k' b)) (h : intX op k a k' b = some r) (hr : ofV r = some u) : opU T σ (fr n l) (.binOp op t x y t') = some (u, σ) := op_bin hx hy (by simp only [g2, toV, binX, h, hr])
theorem op_str {op : BinOp} {t t' : TypeId} {x y : Operand} {a b : List UInt8} {r : Value} (hx : evS n l x = some (.str a)) (hy : evS n l y = some (.str b)) (h : strX op ⟨⟨a⟩⟩ ⟨⟨b⟩⟩ = some r) (hr : ofV r = some u) : opU T σ (fr n l) (.binOp op t x y t') = some (u, σ) := op_bin hx hy (by simp only [g2, toV, binX, h, hr])
theorem op_un {op : UnOp} {t : TypeId} {x : Operand} {r : Value} (hx : evS n l x = some v) (h : toV v = some (r)) {q : Value} (hu : unX op r = some q) (hq : ofV q = some u) : opU T σ (fr n l) (.unOp op t x) = some (u, σ) := op_p (by simp only [pureU, ev_fr hx, g1, h, hu, hq])
theorem op_conv {s d : TypeId} {x : Operand} {r q : Value} (hx : evS n l x = some v) (h : toV v = some r) (hu : convX T s d r = some q) (hq : ofV q = some u) : opU T σ (fr n l) (.convert s d x) = some (u, σ) := op_p (by simp only [pureU, ev_fr hx, g1, h, hu, hq])
theorem op_fun {f : Fn} {first cap : Array Operand} {a b : List U} (h1 : evSL n l first.toList = some a) (h2 : evSL n l cap.toList = some b) : opU T σ (fr n l) (.makeFunc f first cap) = some (.fn f a b, σ) := op_p (by simp only [pureU, evL_fr h1, evL_fr h2])
theorem op_fa {t : TypeId} {x : Operand} {f : Nat} {fs : Array Field} {fd : Field} {s k st off : Nat} (hd : T.und t = some (.struct fs)) (hf : nth fs.toList f = some fd) (hs : sizeX T fd.type = some (s + 1)) (hx : evS n l x = some (.ptr k st off)) (hl : live σ k st = true) {off' : Nat} (ho : off + fd.offset = off') : opU T σ (fr n l) (.fieldAddr t x f) = some (.ptr k st off', σ) := op_p (by subst ho; simp only [pureU, ev_fr hx, fieldAtU, hd, hf, hs, hl, cond_true])
theorem op_fi {t : TypeId} {x : Operand} {f : Nat} {fs : Array Field} {fd : Field} {s : Nat} {q : List U} (hd : T.und t = some (.struct fs)) (hf : nth fs.toList f = some fd) (hs : sizeX T fd.type = some (s + 1)) (hx : evS n l x = some (.iptr q)) {q' : List U} (hq : q.drop fd.offset = q') : opU T σ (fr n l) (.fieldAddr t x f) = some (.iptr q', σ) := op_p (by subst hq; simp only [pureU, ev_fr hx, fieldAtU, hd, hf, hs])
theorem op_field {t : TypeId} {x : Operand} {f : Nat} (hx : evS n l x = some v) (h : fieldU T t v f = some u) : opU T σ (fr n l) (.field t x f) = some (u, σ) := op_p (by simp only [pureU, ev_fr hx, h])
theorem op_ext {x : Operand} {i : Nat} {q : List U} (hx : evS n l x = some (.tup q)) (h : nth q i = some u) : opU T σ (fr n l) (.extract x i) = some (u, σ) := op_p (by simp only [pureU, ev_fr hx, extractU, h])
theorem op_ia {t : TypeId} {x i : Operand} (hx : evS n l x = some v) (hi : evS n l i = some w) (h : indexAtU T σ t v w = some u) : opU T σ (fr n l) (.indexAddr t x i) = some (u, σ) := op_p (by simp only [pureU, ev_fr hx, ev_fr hi, h])
theorem op_index {t : TypeId} {x i : Operand} (hx : evS n l x = some v) (hi : evS n l i = some w) (h : indexU T t v w = some u) : opU T σ (fr n l) (.index t x i) = some (u, σ) := op_p (by simp only [pureU, ev_fr hx, ev_fr hi, h])
/-- an element of a list -/
theorem ia_isl {α : Type} (c : α → List U) {t e : TypeId} {sz : Nat} {b : Bool} {xs : List α} {k : IntKind} {i : Int} {x : α} (hd : T.und t = some (.slice e)) (hs : sizeX T e = some sz) (hc : ∀ x, (c x).length = sz) (hx : idxO xs i = some x) {q : List U} (hq : c x = q) : indexAtU T σ t (.isl b (xs.map c)) (.int k i) = some (.iptr q) := by
  subst hq
  obtain ⟨h1, h2, h3⟩ := idxO_some c hx
  have : Nat.beq (c x).length sz = true := by simp [beq_eq, hc]
  simp only [indexAtU, hd, hs, List.length_map, h1, h2, and_self, if_true, h3, this, cond_true]
theorem ia_vl {α : Type} (c : α → List U) {t e e' : TypeId} {sz : Nat} {K st : Nat} {xs : List α} {k : IntKind} {i : Int} {x : α} (hd : T.und t = some (.slice e)) (hs : sizeX T e = some sz) (hz : 0 < sz) (hc : ∀ x, (c x).length = sz) (hv : vecOf σ K st = some ((xs.map c).flatten, e', sz)) (hx : idxO xs i = some x) : indexAtU T σ t (.vl K st 0 xs.length) (.int k i) = some (.ptr K st (0 * sz + i.toNat * sz)) := by
  obtain ⟨h1, h2, h3⟩ := idxO_get hx
  have hne := vec_ne hc hz hx
  have hb : Nat.beq sz sz = true := by simp [beq_eq]
  simp only [indexAtU, hd, hs, hv, hb, cond_true, h1, h2, ne_eq, hne, not_false_eq_true, and_self, if_true]
theorem ld_vec {α : Type} (c : α → List U) {t e' : TypeId} {d : TypeDesc} {sz K st : Nat} {xs : List α} {i : Int} {x : α} {o : Operand} (hd : T.und t = some d) (ha : isAggD d = true) (hs : sizeX T t = some sz) (hc : ∀ x, (c x).length = sz) (ho : evS n l o = some (.ptr K st (0 * sz + i.toNat * sz))) (hv : gt σ.h K = some (.vec (xs.map c).flatten e' sz st)) (hx : idxO xs i = some x) {q : List U} (hq : c x = q) : opU T σ (fr n l) (.load t o) = some (.agg q, σ) := by
  subst hq
  refine op_r rfl ?_
  have hb : Nat.beq st st = true := by simp [beq_eq]
  simp only [readU, ev_fr ho, cellsOf, hv, hb, cond_true, loadU, hd, ha, hs, vec_seg hc hx]
theorem ld_vec1 {α : Type} (c : α → List U) {t e' : TypeId} {d : TypeDesc} {K st : Nat} {xs : List α} {i : Int} {x : α} {o : Operand} (f : α → U) (hd : T.und t = some d) (ha : isAggD d = false) (hc : ∀ x, c x = [f x]) (ho : evS n l o = some (.ptr K st (0 * 1 + i.toNat * 1))) (hv : gt σ.h K = some (.vec (xs.map c).flatten e' 1 st)) (hx : idxO xs i = some x) : opU T σ (fr n l) (.load t o) = some (f x, σ) := by
  refine op_r rfl ?_
  have hb : Nat.beq st st = true := by simp [beq_eq]
  simp only [readU, ev_fr ho, cellsOf, hv, hb, cond_true, loadU, hd, ha, cond_false, vec_nth (fun x => by rw [hc]; rfl) hc hx]
theorem op_slice {t : TypeId} {x : Operand} {lo hi mx : Option Operand} {a b c : Option Value} (hx : evS n l x = some v) (h1 : evalUM (fr n l) lo = some a) (h2 : evalUM (fr n l) hi = some b) (h3 : evalUM (fr n l) mx = some c) (h : sliceU T σ t v a b c = some u) : opU T σ (fr n l) (.slice t x lo hi mx) = some (u, σ) := op_p (by simp only [pureU, ev_fr hx, h1, h2, h3, h])
theorem em_n : evalUM (fr n l) none = some none := rfl
theorem em_s {o : Operand} {k : IntKind} {z : Int} (h : evS n l o = some (.int k z)) : evalUM (fr n l) (some o) = some (some (.int k z)) := by simp only [evalUM, ev_fr h]
theorem sl_isl {α : Type} (c : α → List U) {t e : TypeId} {sz a h m : Nat} {b : Bool} {xs ys : List α} {lo hi : Option Value} (hd : T.und t = some (.slice e)) (hs : sizeX T e = some sz) (hc : ∀ x, (c x).length = sz) (hb : boundsX xs.length xs.length lo hi none = some (a, h, m)) (hy : cutL (xs.map c) a h = ys.map c) : sliceU T σ t (.isl b (xs.map c)) lo hi none = some (.isl (cond b (Nat.beq h xs.length) false) (ys.map c)) := by
  simp only [sliceU, hd, hs, all_len hc xs, if_true, List.length_map, hb, hy]
theorem op_len {x : Operand} {t : TypeId} {args : Array Operand} {ts : Array TypeId} (ha : args.toList = [x]) {q : List TypeId} (ht : ts.toList = t :: q) (hx : evS n l x = some v) (h : lenU T σ t v = some u) : opU T σ (fr n l) (.call { callee := .builtin .len, args := args, argTypes := ts }) = some (u, σ) := op_p (by simp only [pureU, ha, ht, evalUL, ev_fr hx, h])
theorem len_isl {α : Type} (c : α → List U) {t e : TypeId} {b : Bool} {xs : List α} (hd : T.und t = some (.slice e)) : lenU T σ t (.isl b (xs.map c)) = some (.int .i64 xs.length) := by simp [lenU, hd]
theorem op_max {x : Operand} {xs : List Operand} {args : Array Operand} {ts : Array TypeId} {us : List U} {a r : Value} {b : List Value} (ha : args.toList = x :: xs) (hx : evS n l x = some v) (hl : evSL n l xs = some us) (h1 : toV v = some a) (h2 : toVL us = some b) (h : foldX max2X a b = some r) (hr : ofV r = some u) : opU T σ (fr n l) (.call { callee := .builtin .max, args := args, argTypes := ts }) = some (u, σ) := op_p (by simp only [pureU, ha, evalUL, ev_fr hx, evL_fr hl, h1, h2, h, hr])
theorem op_min {x : Operand} {xs : List Operand} {args : Array Operand} {ts : Array TypeId} {us : List U} {a r : Value} {b : List Value} (ha : args.toList = x :: xs) (hx : evS n l x = some v) (hl : evSL n l xs = some us) (h1 : toV v = some a) (h2 : toVL us = some b) (h : foldX min2X a b = some r) (hr : ofV r = some u) : opU T σ (fr n l) (.call { callee := .builtin .min, args := args, argTypes := ts }) = some (u, σ) := op_p (by simp only [pureU, ha, evalUL, ev_fr hx, evL_fr hl, h1, h2, h, hr])
theorem ld_agg {t : TypeId} {x : Operand} {d : TypeDesc} {k st off sz : Nat} {q cs : List U} (hd : T.und t = some d) (ha : isAggD d = true) (hs : sizeX T t = some sz) (hx : evS n l x = some (.ptr k st off)) (hc : cellsOf σ k st = some q) (h : segU q off sz = some cs) : opU T σ (fr n l) (.load t x) = some (.agg cs, σ) := op_r rfl (by simp only [readU, ev_fr hx, hc, loadU, hd, ha, hs, h, cond_true])
theorem ld_one {t : TypeId} {x : Operand} {d : TypeDesc} {k st off : Nat} {q : List U} (hd : T.und t = some d) (ha : isAggD d = false) (hx : evS n l x = some (.ptr k st off)) (hc : cellsOf σ k st = some q) (h : nth q off = some u) : opU T σ (fr n l) (.load t x) = some (u, σ) := op_r rfl (by simp only [readU, ev_fr hx, hc, loadU, hd, ha, h, cond_false])
theorem li_agg {t : TypeId} {x : Operand} {d : TypeDesc} {sz : Nat} {q cs : List U} (hd : T.und t = some d) (ha : isAggD d = true) (hs : sizeX T t = some sz) (hx : evS n l x = some (.iptr q)) (h : segU q 0 sz = some cs) : opU T σ (fr n l) (.load t x) = some (.agg cs, σ) := op_r rfl (by simp only [readU, ev_fr hx, loadU, hd, ha, hs, h, cond_true])
theorem li_one {t : TypeId} {x : Operand} {d : TypeDesc} {q : List U} (hd : T.und t = some d) (ha : isAggD d = false) (hx : evS n l x = some (.iptr q)) (h : nth q 0 = some u) : opU T σ (fr n l) (.load t x) = some (u, σ) := op_r rfl (by simp only [readU, ev_fr hx, loadU, hd, ha, h, cond_false])
theorem op_box {e : TypeId} {x : Operand} {cs : List U} (hx : evS n l x = some v) (h : cellsO v = some cs) (hk : okL cs = true) : opU T σ (fr n l) (.box e x) = some (.ptr σ.nx 0 0, newU σ (.row cs e)) := op_e rfl rfl (by simp only [effU, ev_fr hx, h, hk, cond_true])
theorem op_alloc {e : TypeId} {a b : Nat} {z : Value} {zu : List U} (hi : T.inf e = some (a, b, z)) (hz : ofVL z.cells.toList = some zu) (hk : okL zu = true) : opU T σ (fr n l) (.alloc e) = some (.ptr σ.nx 0 0, newU σ (.row zu e)) := op_e rfl rfl (by simp only [effU, hi, hz, hk, cond_true])
theorem op_store {t : TypeId} {a x : Operand} {k st off sz : Nat} {cs q q' : List U} (hs : sizeX T t = some sz) (ha : evS n l a = some (.ptr k st off)) (hx : evS n l x = some v) (hc : cellsO v = some cs) (hl : Nat.beq cs.length sz = true) (hk : okL cs = true) (hg : cellsOf σ k st = some q) (hp : putU q off cs = some q') (hσ : putOf σ k q' = some σ') : opU T σ (fr n l) (.store t a x) = some (.junk, σ') := op_e rfl rfl (by simp only [effU, ev_fr ha, ev_fr hx, storeU, hs, hc, hl, hk, cond_true, hg, hp, hσ])
theorem op_bs {t : TypeId} {k : Nat} {ps : Array (Nat × Operand)} {qs : List (Nat × U)} {q : U × Sg} (h : evSP n l ps.toList = some qs) (hb : makeListU T σ t k qs = some q) : opU T σ (fr n l) (.buildSlice t k ps) = some q := op_e rfl rfl (by simp only [effU, evP_fr h, hb])
theorem op_ms {t : TypeId} {x y : Operand} {q : U × Sg} (hx : evS n l x = some v) (hy : evS n l y = some w) (hb : makeU T σ t v w = some q) : opU T σ (fr n l) (.makeSlice t x y) = some q := op_e rfl rfl (by simp only [effU, ev_fr hx, ev_fr hy, hb])
theorem op_app {x y : Operand} {t xt : TypeId} {args : Array Operand} {ts : Array TypeId} {q : U × Sg} (ha : args.toList = [x, y]) (ht : ts.toList = [t, xt]) (hx : evS n l x = some v) (hy : evS n l y = some w) (h : appendU T σ t xt v w = some q) : opU T σ (fr n l) (.call { callee := .builtin .append, args := args, argTypes := ts }) = some q := op_e rfl rfl (by simp only [effU, ha, ht, evalUL, ev_fr hx, ev_fr hy, h])
theorem op_call {c : Call} {f : Operand} {g : FuncId} {fn : Func} {first cap as : List U} (hc : c.callee = .value f) (hf : evS n l f = some (.fn (.func g) first cap)) (hg : T.fn g = some fn) (hb : fn.body.isSome = true) (ha : evSL n l c.args.toList = some as) {args : List U} (he : first ++ as ++ cap = args) : callU T (fr n l) (.call c) = some (g, args) := by subst he; simp only [callU, hc, ev_fr hf, hg, hb, cond_true, evL_fr ha]
/-- a row that grows by a list -/
theorem app_new {α : Type} (c : α → List U) (ys : List α) {t xt e e2 : TypeId} {sz by_ : Nat} {z : Value} (hd : T.und t = some (.slice e)) (hd2 : T.und xt = some (.slice e2)) (hi : T.inf e = some (sz + 1, by_, z)) (hz : Nat.beq z.cells.toList.length (sz + 1) = true) (hw : srcU σ (sz + 1) w = some (ys.length, (ys.map c).flatten)) (hr : ys.length * by_ ≤ 140737488355328 ∧ ys.length ≤ 140737488355328) : appendU T σ t xt .nils w = some (.vl σ.nx 0 0 ys.length, newU σ (.vec (ys.map c).flatten e (sz + 1) 0)) := by
  simp only [appendU, hd, hd2, hi, hz, cond_true, hw, hr, and_self, if_true]
theorem app_emp {α : Type} (c : α → List U) (ys : List α) {t xt e e2 : TypeId} {sz by_ a off : Nat} {z : Value} {q : List U} (hd : T.und t = some (.slice e)) (hd2 : T.und xt = some (.slice e2)) (hi : T.inf e = some (sz + 1, by_, z)) (hz : Nat.beq z.cells.toList.length (sz + 1) = true) (hq : rowOf σ a = some q) (ho : Nat.ble off q.length = true) (hw : srcU σ (sz + 1) w = some (ys.length, (ys.map c).flatten)) (hr : ys.length * by_ ≤ 140737488355328 ∧ ys.length ≤ 140737488355328) : appendU T σ t xt (.sl a off 0 0) w = some (.vl σ.nx 0 0 ys.length, newU σ (.vec (ys.map c).flatten e (sz + 1) 0)) := by
  have ho' := Nat.le_of_ble_eq_true ho
  have : segU q off (0 * (sz + 1)) = some [] := by simp [segU, ho']
  simp only [appendU, hd, hd2, hi, hz, cond_true, hw, hq, this, hr, and_self, if_true]
theorem app_vl {α : Type} (c : α → List U) (ys : List α) {t xt e e2 : TypeId} {sz by_ a st : Nat} {z : Value} {xs : List α} (hd : T.und t = some (.slice e)) (hd2 : T.und xt = some (.slice e2)) (hi : T.inf e = some (sz + 1, by_, z)) (hz : Nat.beq z.cells.toList.length (sz + 1) = true) (hc : ∀ x, (c x).length = sz + 1) (hg : gt σ.h a = some (.vec (xs.map c).flatten e (sz + 1) st)) (hw : srcU σ (sz + 1) w = some (ys.length, (ys.map c).flatten)) (hr : (xs.length + ys.length) * by_ ≤ 140737488355328 ∧ xs.length + ys.length ≤ 140737488355328) : appendU T σ t xt (.vl a st 0 xs.length) w = some (.vl a (st + 1) 0 (xs ++ ys).length, ⟨ug σ.h a (.vec ((xs ++ ys).map c).flatten e (sz + 1) (st + 1)), σ.nx⟩) := by
  have b1 : Nat.beq st st = true := by simp [beq_eq]
  have b2 : Nat.beq e e = true := by simp [beq_eq]
  have b3 : Nat.beq (sz + 1) (sz + 1) = true := by simp [beq_eq]
  have hs := seg_all hc xs
  have hl := flat_len hc xs
  rw [flat_app, List.length_append]
  simp only [appendU, hd, hd2, hi, hz, cond_true, hw, hg, b1, b2, b3, hs, hl, hr.1, hr.2, true_and, and_true, or_true, if_true]
theorem app_full {α : Type} (c : α → List U) (ys : List α) {t xt e e2 : TypeId} {sz by_ : Nat} {z : Value} {xs : List α} (hd : T.und t = some (.slice e)) (hd2 : T.und xt = some (.slice e2)) (hi : T.inf e = some (sz + 1, by_, z)) (hz : Nat.beq z.cells.toList.length (sz + 1) = true) (hc : ∀ x, (c x).length = sz + 1) (hw : srcU σ (sz + 1) w = some (ys.length, (ys.map c).flatten)) (hk : 0 < ys.length) (hr : (xs.length + ys.length) * by_ ≤ 140737488355328 ∧ xs.length + ys.length ≤ 140737488355328) : appendU T σ t xt (.isl true (xs.map c)) w = some (.vl σ.nx 0 0 (xs ++ ys).length, newU σ (.vec ((xs ++ ys).map c).flatten e (sz + 1) 0)) := by
  rw [flat_app, List.length_append]
  simp only [appendU, hd, hd2, hi, hz, cond_true, hw, List.length_map, hr, hk, all_len hc xs, and_self, if_true]
theorem src_isl {α : Type} (c : α → List U) {sz : Nat} {b : Bool} {xs : List α} (hc : ∀ x, (c x).length = sz) : srcU σ sz (.isl b (xs.map c)) = some (xs.length, (xs.map c).flatten) := by simp only [srcU, all_len hc xs, if_true, List.length_map]
theorem src_vl {α : Type} (c : α → List U) {sz K st : Nat} {e : TypeId} {xs : List α} (hc : ∀ x, (c x).length = sz) (hv : vecOf σ K st = some ((xs.map c).flatten, e, sz)) : srcU σ sz (.vl K st 0 xs.length) = some (xs.length, (xs.map c).flatten) := by
  have b : Nat.beq sz sz = true := by simp [beq_eq]
  simp only [srcU, hv, b, cond_true, seg_all hc xs]
theorem src_row {α : Type} (c : α → List U) (ys : List α) {sz K off k : Nat} {q cs : List U} (hq : rowOf σ K = some q) (hs : segU q off (k * sz) = some cs) (hl : k = ys.length) (hc : cs = (ys.map c).flatten) : srcU σ sz (.sl K off k k) = some (ys.length, (ys.map c).flatten) := by
  subst hl; subst hc
  simp only [srcU, hq, hs]
theorem sz_of {t : TypeId} {a b : Nat} {z : Value} (h : T.inf t = some (a, b, z)) : sizeX T t = some a := by simp only [sizeX, h]
theorem vo {K st : Nat} {q : List U} {e : TypeId} {sz : Nat} (h : gt σ.h K = some (.vec q e sz st)) : vecOf σ K st = some (q, e, sz) := by
  have b : Nat.beq st st = true := by simp [beq_eq]
  simp only [vecOf, h, b, cond_true]
theorem len_vl {t e e' : TypeId} {K st m sz : Nat} {q : List U} (hd : T.und t = some (.slice e)) (h : gt σ.h K = some (.vec q e' sz st)) : lenU T σ t (.vl K st 0 m) = some (.int .i64 m) := by
  have b : Nat.beq st st = true := by simp [beq_eq]
  simp only [lenU, hd, live, h, B.st, b, cond_true]
end
theorem bool_tf (b : Bool) : b = true ∨ b = false := by cases b <;> simp
theorem ix_add (k : IntKind) (a b : Int) : intX .add k a k b = some (.int k (k.wrap (a + b))) := by simp [intX]
theorem ix_sub (k : IntKind) (a b : Int) : intX .sub k a k b = some (.int k (k.wrap (a - b))) := by simp [intX]
theorem ix_mul (k : IntKind) (a b : Int) : intX .mul k a k b = some (.int k (k.wrap (a * b))) := by simp [intX]
theorem ix_quo (k : IntKind) {a b : Int} (h : ¬ b = 0) : intX .quo k a k b = some (.int k (k.wrap (a.tdiv b))) := by simp [intX, h]
theorem ix_rem (k : IntKind) {a b : Int} (h : ¬ b = 0) : intX .rem k a k b = some (.int k (a.tmod b)) := by simp [intX, h]
theorem ix_eql (k : IntKind) (a b : Int) : intX .eql k a k b = some (.bool (a == b)) := by simp [intX]
theorem ix_neq (k : IntKind) (a b : Int) : intX .neq k a k b = some (.bool (a != b)) := by simp [intX]
theorem ix_lss (k : IntKind) (a b : Int) : intX .lss k a k b = some (.bool (decide (a < b))) := by simp [intX]
theorem ix_leq (k : IntKind) (a b : Int) : intX .leq k a k b = some (.bool (decide (a ≤ b))) := by simp [intX]
theorem ix_gtr (k : IntKind) (a b : Int) : intX .gtr k a k b = some (.bool (decide (a > b))) := by simp [intX]
theorem ix_geq (k : IntKind) (a b : Int) : intX .geq k a k b = some (.bool (decide (a ≥ b))) := by simp [intX]
end Go.Vx
