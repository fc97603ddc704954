/-
  VxV: sorting a row of its own by a total order: the plain list; calls that leave the world as it is; a view for calls that return nothing.
-/
import Derived.Test.YtcanbnholmlapaaVxZ
import Derived.Test.YtcanbnholmlapaaVxS
import Derived.Shelf.SlSortCmp.WholeK
namespace Go.Vx
open Go Go.Rx Go.Proofs Go.Sort
set_option linter.unusedVariables false

theorem EvU.of_same {P : Program} {f : FuncId} {us : List U} {vs : List Value} {u : U} {cv : Value} (hv : toVL us = some vs) (hr : ∀ m, renL m vs = vs) (hu : toV u = some cv) (hru : ∀ m, ren m cv = cv) (h : ∀ w, Calls P f vs.toArray w fun e w' => e = .returned cv ∧ w' = w) (σ : Sg) : EvU P f us σ (fun u' σ' => u' = u ∧ σ' = σ) := fun F x ws m w cargs hx hh hfr he hfit hargs => by
  have := (toVL_iff us vs hv x ws).1 he
  subst this
  have hca : cargs = ws := by rw [← hargs.at, hr]
  subst hca
  refine (h w).mono ?_
  rintro e w' ⟨rfl, rfl⟩
  exact ⟨x, m, u, cv, cv, rfl, ⟨rfl, hx⟩, Adv.refl hfit, fun m' _ => hru m', hh, hfr, (toV_iff u cv hu x cv).2 rfl, Ke.refl _ _, Nat.le_refl _⟩
/-- a call that only reads what the caller has made, and returns nothing -/
theorem EvU.view0 {P : Program} {f : FuncId} {args args' : List U} {σ : Sg} (h : EvU P f args ⟨[], 0⟩ (fun u' _ => u' = .tup [] ∧ Bel 0 u')) (ha : BelL 0 args) {σ1 : Sg} (hg : Gh 0 args' σ args σ1) : EvU P f args' σ (fun u' σ' => u' = .tup [] ∧ σ' = σ) := fun F x vs m w cargs hx hh hfr he hfit hargs => by
  obtain ⟨y1, a1, a2, a3, a4, a5, a6⟩ := hg F x vs hx hh hfr he
  have hadv1 := a1 m w hfit
  have hadv2 := Adv.less hadv1.fits (less_onlyI y1.s)
  have hmo : Mo 0 y1 (cx (onlyI y1.s)) := ⟨fun k hk => by omega, fun i row e hl => by show lk (onlyI y1.s).h i = _; rw [lk_onlyI, hl]; rfl⟩
  have hno : ∀ b, ¬ Owns m (onlyI y1.s) b := fun b ⟨i, c, hc, ho, _⟩ => by
    rw [lk_onlyI] at hc
    obtain ⟨_, l, e, rfl⟩ := immB_some hc
    simp [Own] at ho
  refine (h (fun _ _ => False) (cx (onlyI y1.s)) vs m w cargs rfl ⟨fun k b hb => by simp [cx, gt] at hb, fun k k' b b' i hb => by simp [cx, gt] at hb, fun i b hb => ?_⟩ (fun _ _ hF => hF.elim) (hmo.ke.E ha a5) hadv2.fits (hargs.ext (Agree.refl _ _) (Nat.le_trans hadv1.nx hadv2.nx))).mono ?_
  · have hb' : lk (onlyI y1.s).h i = some b := hb
    rw [lk_onlyI] at hb'
    exact a3.bd i b (immB_some hb').1
  rintro e w₂ ⟨y2, m₂, u', v', cv, rfl, ⟨rfl, _⟩, hadv, hrel, _, _, hru, _, _⟩
  simp only [Rel] at hru
  obtain ⟨q, rfl, _, hq⟩ := hru
  have : q = [] := List.eq_nil_of_length_eq_zero (by simpa using hq.symm)
  subst this
  have hcv : cv = .tuple ⟨[]⟩ := by rw [← hrel.at]; simp [ren, renL]
  subst hcv
  have hsame : ∀ b, b < w.heap.size → w₂.heap[b]? = w.heap[b]? := fun b hlt => hadv.same b hlt (hno b)
  refine ⟨x, m, .tup [], .tuple ⟨[]⟩, .tuple ⟨[]⟩, rfl, ⟨rfl, hx⟩, ⟨Agree.refl _ _, Nat.le_refl _, fun m' hm' => ?_, fun b h => .inl h, fun b hlt _ => hsame b hlt, hadv.size, hadv.os, hadv.tape, hadv.output, hadv.drawn⟩, fun m' _ => by simp [ren, renL], hh, hfr, by simp only [Rel]; exact ⟨[], rfl, by simp [RelP], rfl⟩, Ke.refl _ _, Nat.le_refl _⟩
  have hfm := hfit m' hm'
  exact ⟨fun i b hb => (hfm.ok i b hb).world (hsame _ (hfm.size hb)), hfm.inj, hfm.bd⟩
/- THE PLAIN SORT -/
def insB {α : Type} (lt : α → α → Bool) (x : α) : List α → List α
  | [] => [x]
  | y :: l => cond (lt y x) (y :: insB lt x l) (x :: y :: l)
def srt {α : Type} (lt : α → α → Bool) : List α → List α
  | [] => []
  | x :: l => insB lt x (srt lt l)
theorem insB_perm {α : Type} (lt : α → α → Bool) (x : α) : ∀ l, (insB lt x l).Perm (x :: l)
  | [] => .refl _
  | y :: l => by
    simp only [insB]
    cases lt y x with
    | true => exact ((insB_perm lt x l).cons y).trans (.swap _ _ _)
    | false => exact .refl _
theorem srt_perm {α : Type} (lt : α → α → Bool) : ∀ l, (srt lt l).Perm l
  | [] => .refl _
  | x :: l => (insB_perm lt x _).trans ((srt_perm lt l).cons x)
def Asc {α : Type} (lt : α → α → Bool) (l : List α) : Prop := l.Pairwise (fun x y => lt y x = false)
theorem insB_asc {α : Type} {lt : α → α → Bool} (h : SWO lt) (x : α) : ∀ {l}, Asc lt l → Asc lt (insB lt x l)
  | [], _ => by simp [insB, Asc]
  | y :: l, ha => by
    simp only [insB]
    unfold Asc at ha ⊢
    rw [List.pairwise_cons] at ha
    cases hy : lt y x with
    | true =>
      simp only [cond_true]
      rw [List.pairwise_cons]
      refine ⟨fun z hz => ?_, insB_asc h x ha.2⟩
      have := (insB_perm lt x l).mem_iff.1 hz
      rcases List.mem_cons.1 this with rfl | hz
      · cases hzy : lt z y with
        | false => rfl
        | true => have := h.trans y z y hy hzy; rw [h.irrefl] at this; cases this
      · exact ha.1 z hz
    | false =>
      simp only [cond_false]
      rw [List.pairwise_cons]
      refine ⟨fun z hz => ?_, List.pairwise_cons.2 ha⟩
      rcases List.mem_cons.1 hz with rfl | hz
      · exact hy
      · exact h.ntrans z y x (ha.1 z hz) hy
theorem srt_asc {α : Type} {lt : α → α → Bool} (h : SWO lt) : ∀ l, Asc lt (srt lt l)
  | [] => by simp [srt, Asc]
  | x :: l => insB_asc h x (srt_asc h l)
theorem asc_unique {α : Type} {lt : α → α → Bool} (hanti : ∀ x y, lt x y = false → lt y x = false → x = y) : ∀ {a b : List α}, Asc lt a → Asc lt b → a.Perm b → a = b
  | [], b, _, _, hp => by rw [hp.nil_eq]
  | x :: a, [], _, _, hp => by have := hp.length_eq; simp at this
  | x :: a, y :: b, ha, hb, hp => by
    unfold Asc at ha hb
    have ha' := ha
    have hb' := hb
    rw [List.pairwise_cons] at ha hb
    have hxy : x = y := by
      have h1 : x ∈ y :: b := hp.mem_iff.1 (by simp)
      have h2 : y ∈ x :: a := hp.mem_iff.2 (by simp)
      rcases List.mem_cons.1 h1 with h1 | h1
      · exact h1
      · rcases List.mem_cons.1 h2 with h2 | h2
        · exact h2.symm
        · exact hanti x y (hb.1 x h1) (ha.1 y h2)
    subst hxy
    rw [asc_unique hanti ha.2 hb.2 (List.Perm.cons_inv hp)]
theorem srt_of {α : Type} [Inhabited α] {lt : α → α → Bool} (h : SWO lt) (hanti : ∀ x y, lt x y = false → lt y x = false → x = y) {ds ds' : List α} (hp : PermIn 0 ds.toArray.size ds.toArray ds'.toArray) (hs : SortedIn lt 0 ds.toArray.size ds'.toArray) : ds' = srt lt ds := by
  obtain ⟨h1, _, h3⟩ := hp
  simp only [List.size_toArray] at h1 h3 hs
  have hp : ds'.Perm ds := by
    have e1 : (ds'.toArray.extract 0 ds.length).toList = ds' := by simp [← h1]
    have e2 : (ds.toArray.extract 0 ds.length).toList = ds := by simp
    rwa [e1, e2] at h3
  refine asc_unique hanti ?_ (srt_asc h ds) (hp.trans (srt_perm lt ds).symm)
  unfold Asc
  rw [List.pairwise_iff_getElem]
  intro i j hi hj hij
  have := hs i j (Nat.zero_le _) hij (by omega)
  simpa [hi, hj] using this
/-- A ROW OF ITS OWN, SORTED -/
theorem EvU.srtT {α : Type} [Inhabited α] {P : Program} {f g : FuncId} {enc : α → List Value} {encU : α → List U} {k : Nat} (hk : ∀ x, (enc x).length = k) (hk0 : 0 < k) (henc : ∀ x, toVL (encU x) = some (enc x)) (hok : ∀ x, okL (encU x) = true) (hren : ∀ m x, renL m (enc x) = enc x)
    {cf : α → α → Int} (hO : SWO (ltOf cf)) (hanti : ∀ x y, ltOf cf x y = false → ltOf cf y x = false → x = y)
    (hs : ∀ (blk off cap : Nat) (d : Array α) (w : World), HoldsK enc k w blk off d → blk < w.heap.size → d.size < 4611686018427387904 →
      Calls P f #[.slice (some ⟨blk, off, none⟩) d.size cap, .func (.func g) #[] #[]] w fun e w' => e = .returned (.tuple #[]) ∧ ∃ d' n os, PermIn 0 d.size d d' ∧ SortedIn (ltOf cf) 0 d.size d' ∧ w' = sortWorldK enc k w blk off n d' os)
    {σ : Sg} {K st : Nat} {e : TypeId} (ds : List α) (hne : ds ≠ []) (hlen : ds.length < 4611686018427387904) (hg : gt σ.h K = some (.vec ((ds.map encU).flatten) e k st)) :
    EvU P f [.vl K st 0 ds.length, .fn (.func g) [] []] σ (fun u σ' => u = .tup [] ∧ σ' = ⟨ug σ.h K (.vec (((srt (ltOf cf) ds).map encU).flatten) e k st), σ.nx⟩) := by
  have h := EvU.sort (P := P) (f := f) (g := g) hk hk0 henc hok hren (R := fun d d' => PermIn 0 d.size d d' ∧ SortedIn (ltOf cf) 0 d.size d') (fun blk off cap d w h1 h2 h3 => (hs blk off cap d w h1 h2 h3).mono fun e w' ⟨he, d', n, os, hp, hsrt, hw⟩ => ⟨he, d', n, os, ⟨hp, hsrt⟩, hp.1, hw⟩) (σ := σ) (K := K) (st := st) (e := e) ds hne hlen hg
  refine h.mono ?_
  rintro u σ' ⟨rfl, ds', ⟨hp, hsrt⟩, _, rfl⟩
  exact ⟨rfl, by rw [srt_of hO hanti hp hsrt]⟩
end Go.Vx
