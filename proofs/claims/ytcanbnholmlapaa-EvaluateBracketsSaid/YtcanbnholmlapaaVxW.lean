/-
  VxW: what the printed walks lean on: partial functions in steps, lists as rows, a loop with its way out.
-/
import Derived.Test.YtcanbnholmlapaaVxT
namespace Go.Vx
open Go Go.Rx
set_option linter.unusedVariables false

def bindO {α β : Type} (o : Option α) (k : α → Option β) : Option β := match o with
  | some a => k a
  | none => none
theorem bindO_some {α β : Type} {o : Option α} {k : α → Option β} {r : β} (h : bindO o k = some r) : ∃ a, o = some a ∧ k a = some r := by
  cases o with
  | none => cases h
  | some a => exact ⟨a, rfl, h⟩
@[simp] theorem bindO_s {α β : Type} (a : α) (k : α → Option β) : bindO (some a) k = k a := rfl
@[simp] theorem bindO_n {α β : Type} (k : α → Option β) : bindO none k = none := rfl
theorem cond_t {β : Type} {c : Bool} {a b : Option β} {r : Option β} (h : c = true) (hF : cond c a b = r) : a = r := by subst h; exact hF
theorem cond_f {β : Type} {c : Bool} {a b : Option β} {r : Option β} (h : c = false) (hF : cond c a b = r) : b = r := by subst h; exact hF
/-- a step that must be possible -/
def needO {β : Type} (p : Prop) [Decidable p] (k : Option β) : Option β := if p then k else none
theorem needO_some {β : Type} {p : Prop} [Decidable p] {k : Option β} {r : β} (h : needO p k = some r) : p ∧ k = some r := by
  unfold needO at h
  split at h
  · rename_i hp; exact ⟨hp, h⟩
  · cases h
theorem needO_of {β : Type} {p : Prop} [Decidable p] {k : Option β} (h : p) : needO p k = k := by simp [needO, h]
def idxO {α : Type} (l : List α) (i : Int) : Option α := if 0 ≤ i ∧ i < (l.length : Int) then l[i.toNat]? else none
theorem idxO_some {α : Type} (c : α → List U) {l : List α} {i : Int} {x : α} (h : idxO l i = some x) : 0 ≤ i ∧ i < (l.length : Int) ∧ (l.map c)[i.toNat]? = some (c x) := by
  unfold idxO at h
  split at h
  · rename_i hp; exact ⟨hp.1, hp.2, by simp [h]⟩
  · cases h
theorem idxO_get {α : Type} {l : List α} {i : Int} {x : α} (h : idxO l i = some x) : 0 ≤ i ∧ i < (l.length : Int) ∧ l[i.toNat]? = some x := by
  unfold idxO at h
  split at h
  · rename_i hp; exact ⟨hp.1, hp.2, h⟩
  · cases h
theorem idxO_nat {α : Type} {l : List α} (i : Nat) : idxO l (i : Int) = l[i]? := by
  unfold idxO
  by_cases h : i < l.length
  · simp [h]
  · simp [h]
/-- cells of plain elements -/
def cI (k : IntKind) (n : Int) : List U := [.int k n]
def cB (b : Bool) : List U := [.bool b]
def cS (s : List UInt8) : List U := [.str s]
def cL {α : Type} (c : α → List U) (l : List α) : List U := [.isl false (l.map c)]
theorem bel_cI (n : Nat) (k : IntKind) (x : Int) : BelL n (cI k x) := by simp [cI, BelL, Bel]
theorem bel_cB (n : Nat) (x : Bool) : BelL n (cB x) := by simp [cB, BelL, Bel]
theorem bel_cS (n : Nat) (x : List UInt8) : BelL n (cS x) := by simp [cS, BelL, Bel]
theorem bel_cL {α : Type} {c : α → List U} (n : Nat) (h : ∀ x, BelL n (c x)) (x : List α) : BelL n (cL c x) := by simp [cL, BelL, Bel, belR_map c h x]
theorem all_len {α : Type} {c : α → List U} {sz : Nat} (h : ∀ x, (c x).length = sz) (l : List α) : ((l.map c).all fun r => Nat.beq r.length sz) = true := by
  simp [h]
theorem flat_len {α : Type} {c : α → List U} {sz : Nat} (h : ∀ x, (c x).length = sz) (l : List α) : ((l.map c).flatten).length = l.length * sz := by
  induction l with
  | nil => simp
  | cons x l ih => simp only [List.map_cons, List.flatten_cons, List.length_append, ih, h, List.length_cons, Nat.succ_mul]; omega
theorem flat_app {α : Type} (c : α → List U) (l k : List α) : ((l ++ k).map c).flatten = (l.map c).flatten ++ (k.map c).flatten := by simp
theorem flat_one {α : Type} (c : α → List U) (x : α) : (([x] : List α).map c).flatten = c x := by simp
theorem seg_all {α : Type} {c : α → List U} {sz : Nat} (h : ∀ x, (c x).length = sz) (l : List α) : segU (l.map c).flatten (0 * sz) (l.length * sz) = some (l.map c).flatten := by
  have := flat_len h l
  simp only [segU, Nat.zero_mul, Nat.zero_add, this, Nat.le_refl, if_true, List.drop_zero]
  rw [← this, List.take_length]
theorem flat_drop {α : Type} {c : α → List U} {sz : Nat} (h : ∀ x, (c x).length = sz) (l : List α) (i : Nat) : ((l.map c).flatten).drop (i * sz) = ((l.drop i).map c).flatten := by
  induction i generalizing l with
  | zero => simp
  | succ i ih =>
    cases l with
    | nil => simp
    | cons x l =>
      simp only [List.map_cons, List.flatten_cons, List.drop_succ_cons, Nat.succ_mul]
      rw [Nat.add_comm, ← List.drop_drop, List.drop_append_of_le_length (by rw [h]; exact Nat.le_refl _)]
      rw [show (c x).drop sz = [] from List.drop_eq_nil_of_le (by rw [h]; exact Nat.le_refl _), List.nil_append, ih]
theorem flat_take {α : Type} {c : α → List U} {sz : Nat} (h : ∀ x, (c x).length = sz) (l : List α) (i : Nat) : ((l.map c).flatten).take (i * sz) = ((l.take i).map c).flatten := by
  induction i generalizing l with
  | zero => simp
  | succ i ih =>
    cases l with
    | nil => simp
    | cons x l =>
      simp only [List.map_cons, List.flatten_cons, List.take_succ_cons, Nat.succ_mul]
      rw [Nat.add_comm, List.take_append, h, List.take_of_length_le (by rw [h]; omega), Nat.add_sub_cancel_left, ih]
theorem chunks_flat {α : Type} {c : α → List U} {sz : Nat} (h : ∀ x, (c x).length = sz) (l : List α) : chunks sz l.length (l.map c).flatten = l.map c := by
  induction l with
  | nil => rfl
  | cons x l ih =>
    simp only [List.map_cons, List.flatten_cons, List.length_cons, chunks]
    rw [List.take_append_of_le_length (by rw [h]; exact Nat.le_refl _), List.take_of_length_le (by rw [h]; exact Nat.le_refl _), List.drop_append_of_le_length (by rw [h]; exact Nat.le_refl _), List.drop_eq_nil_of_le (by rw [h]; exact Nat.le_refl _), List.nil_append, ih]
/-- an element of a row that grows -/
theorem vec_seg {α : Type} {c : α → List U} {sz : Nat} (h : ∀ x, (c x).length = sz) {l : List α} {i : Int} {x : α} (hx : idxO l i = some x) : segU (l.map c).flatten (0 * sz + i.toNat * sz) sz = some (c x) := by
  obtain ⟨h1, h2, h3⟩ := idxO_get hx
  have hlt : i.toNat < l.length := by omega
  have hl := flat_len h l
  have hle : i.toNat * sz + sz ≤ l.length * sz := by rw [← Nat.succ_mul]; exact Nat.mul_le_mul_right _ (by omega)
  simp only [segU, Nat.zero_mul, Nat.zero_add, hl, hle, if_true, flat_drop h, Option.some.injEq]
  have hd : l.drop i.toNat = x :: l.drop (i.toNat + 1) := by
    rw [List.drop_eq_getElem_cons hlt]
    rw [List.getElem?_eq_getElem hlt] at h3
    rw [Option.some.inj h3]
  rw [hd]
  simp only [List.map_cons, List.flatten_cons]
  rw [List.take_append_of_le_length (by rw [h]; exact Nat.le_refl _), List.take_of_length_le (by rw [h]; exact Nat.le_refl _)]
theorem vec_ne {α : Type} {c : α → List U} {sz : Nat} (h : ∀ x, (c x).length = sz) (hz : 0 < sz) {l : List α} {i : Int} {x : α} (hx : idxO l i = some x) : ((l.map c).flatten = []) = False := by
  obtain ⟨h1, h2, h3⟩ := idxO_get hx
  have hl := flat_len h l
  simp only [eq_iff_iff, iff_false]
  intro e
  rw [e] at hl
  have : 0 < l.length * sz := Nat.mul_pos (by omega) hz
  simp at hl
  omega
theorem vec_nth {α : Type} {c : α → List U} (h : ∀ x, (c x).length = 1) {u : α → U} (hu : ∀ x, c x = [u x]) {l : List α} {i : Int} {x : α} (hx : idxO l i = some x) : nth (l.map c).flatten (0 * 1 + i.toNat * 1) = some (u x) := by
  have := vec_seg h hx
  obtain ⟨h1, h2⟩ := segU_some this
  rw [hu] at h2
  rw [nth_eq]
  have h3 := congrArg (fun l : List U => l[0]?) h2
  simp only [List.getElem?_take, List.getElem?_drop] at h3
  simpa using h3.symm
/- parts of lists -/
def cutO {α : Type} (l : List α) (lo hi : Int) : Option (List α) := if 0 ≤ lo ∧ lo ≤ hi ∧ hi ≤ (l.length : Int) then some ((l.take hi.toNat).drop lo.toNat) else none
theorem cutL_map {α : Type} (c : α → List U) (l : List α) (a b : Nat) : cutL (l.map c) a b = ((l.take b).drop a).map c := by simp [cutL, List.map_drop, List.map_take]
theorem cutO_some {α : Type} {l k : List α} {lo hi : Int} (h : cutO l lo hi = some k) : 0 ≤ lo ∧ lo ≤ hi ∧ hi ≤ (l.length : Int) ∧ (l.take hi.toNat).drop lo.toNat = k := by
  unfold cutO at h
  split at h
  · rename_i hp; exact ⟨hp.1, hp.2.1, hp.2.2, Option.some.inj h⟩
  · cases h
theorem bnd_hi {n m : Nat} {k : IntKind} {hi : Int} (h1 : 0 ≤ hi) (h2 : hi ≤ (n : Int)) : boundsX m n none (some (.int k hi)) none = some (0, hi.toNat, n) := by
  have : inR hi (n + 1) = true := inR_of ⟨by omega, by omega⟩
  simp [boundsX, bound1, this]
theorem bnd_lo {n : Nat} {k : IntKind} {lo : Int} (h1 : 0 ≤ lo) (h2 : lo ≤ (n : Int)) : boundsX n n (some (.int k lo)) none none = some (lo.toNat, n, n) := by
  have : inR lo (n + 1) = true := inR_of ⟨by omega, by omega⟩
  simp [boundsX, bound1, this]
theorem bnd_both {n m : Nat} {k k' : IntKind} {lo hi : Int} (h1 : 0 ≤ lo) (h2 : lo ≤ hi) (h3 : hi ≤ (n : Int)) : boundsX m n (some (.int k lo)) (some (.int k' hi)) none = some (lo.toNat, hi.toNat, n) := by
  have e1 : inR hi (n + 1) = true := inR_of ⟨by omega, by omega⟩
  have e2 : inR lo (hi.toNat + 1) = true := inR_of ⟨by omega, by omega⟩
  simp [boundsX, bound1, e1, e2]
theorem bnd_all (n : Nat) : boundsX n n none none none = some (0, n, n) := by simp [boundsX]

theorem tf_ : (true == false) = false := rfl
theorem ft_ : (false == true) = false := rfl
/-- at the end of a piece: the state as one wants it; all other ways out as they are -/
def thruU (n0 : Nat) (E : List U → Sg → Prop) (Q : Exit → List U → Sg → Prop) : Exit → List U → Sg → Prop
  | .normal, tm, σ => ∃ tm' σ', E tm' σ' ∧ n0 ≤ σ'.nx ∧ Gh n0 tm σ tm' σ'
  | e, tm, σ => Q e tm σ
theorem thru_r {n0 : Nat} {E : List U → Sg → Prop} {Q : Exit → List U → Sg → Prop} {tm : List U} {σ : Sg} (h : Q .ret tm σ) : thruU n0 E Q .ret tm σ := h
theorem thru_x {n0 : Nat} {E : List U → Sg → Prop} {Q : Exit → List U → Sg → Prop} {tm : List U} {σ : Sg} {i : Nat} (h : Q (.exit i) tm σ) : thruU n0 E Q (.exit i) tm σ := h
theorem thru_n {n0 : Nat} {E : List U → Sg → Prop} {Q : Exit → List U → Sg → Prop} {tm : List U} {σ : Sg} (h : ∃ tm' σ', E tm' σ' ∧ n0 ≤ σ'.nx ∧ Gh n0 tm σ tm' σ') : thruU n0 E Q .normal tm σ := h
theorem WPU.joinK {P : Program} {n0 : Nat} {Q : Exit → List U → Sg → Prop} {tm : List U} {σ : Sg} {c : Code} (E : List U → Sg → Prop) (out : ∀ tm σ, E tm σ → Q .normal tm σ) (h : WPU P n0 c tm σ (thruU n0 E Q)) : WPU P n0 c tm σ Q := by
  refine WPU.after h ?_
  intro e tm1 σ1 hn h
  cases e with
  | normal => obtain ⟨tm'', σ'', h1, h2, h3⟩ := h; exact ⟨tm'', σ'', h2, h3, out _ _ h1⟩
  | _ => exact ⟨tm1, σ1, hn, Gh.refl _ _ _, h⟩
/-- a loop in its block: one way out -/
theorem WPU.loopK {P : Program} {n0 : Nat} {Q : Exit → List U → Sg → Prop} {tm : List U} {σ : Sg} {c : Code} {id : Nat} (I : Nat → List U → Sg → Prop) (E : List U → Sg → Prop) (n : Nat) (h₀ : I n tm σ)
    (out : ∀ tm σ, E tm σ → Q .normal tm σ)
    (round : ∀ n tm σ, I n tm σ → WPU P n0 c tm σ (thenU (fun tm' σ' => ∃ n' tm'' σ'', n' < n ∧ I n' tm'' σ'' ∧ n0 ≤ σ''.nx ∧ Gh n0 tm' σ' tm'' σ'') (inBlockU id (thruU n0 E Q)))) : WPU P n0 (.block id (.loop c)) tm σ Q := by
  refine WPU.joinK E out ?_
  refine WPU.block ?_
  exact WPU.loopG I n h₀ round
/-- the state seen otherwise ahead of a call -/
theorem EvU.ghost {P : Program} {f : FuncId} {args args' : List U} {σ σ' : Sg} {R : U → Sg → Prop} (hg : Gh σ.nx args σ args' σ') (hn : σ.nx ≤ σ'.nx) (h : EvU P f args' σ' R) : EvU P f args σ R := fun F x vs m w cargs hx hh hfr he hfit hargs => by
  obtain ⟨y, g1, g2, g3, g4, g5, g6⟩ := hg F x vs hx hh hfr he
  have hadv := g1 m w hfit
  refine (h F y vs m w cargs g2 g3 g4 g5 hadv.fits (hargs.ext (Agree.refl _ _) hadv.nx)).mono ?_
  rintro e w₁ ⟨z, m₁, u, v, cv, h1, h2, h3, h4, h5, h6, h7, h8, h9⟩
  refine ⟨z, m₁, u, v, cv, h1, h2, hadv.trans h3, h4, h5, h6, h7, ?_, ?_⟩
  · have g6' : Ke x.σ.nx x y := by rw [hx]; exact g6
    exact g6'.trans (h8.le (by rw [hx, g2]; exact hn))
  · rw [hx]; exact Nat.le_trans hn (by rw [← g2]; exact h9)

/-- the same state in other words -/
theorem WPU.eqv {P : Program} {n0 : Nat} {Q : Exit → List U → Sg → Prop} {tm tm' : List U} {σ σ' : Sg} {c : Code} (ht : tm = tm') (hs : σ = σ') (h : WPU P n0 c tm' σ' Q) : WPU P n0 c tm σ Q := by subst ht; subst hs; exact h
theorem Gh.eqv {n0 : Nat} {tm tm' : List U} {σ σ' : Sg} (ht : tm = tm') (hs : σ = σ') : Gh n0 tm σ tm' σ' := by subst ht; subst hs; exact Gh.refl _ _ _
/- A WEAKER WORD FOR A VALUE: nil as an empty list; a full slice as any -/
mutual
inductive Wk : U → U → Prop
  | refl (u : U) : Wk u u
  | nil (t : Bool) : Wk .nils (.isl t [])
  | full (l : List (List U)) : Wk (.isl true l) (.isl false l)
  | agg {l l' : List U} (h : WkL l l') : Wk (.agg l) (.agg l')
  | tup {l l' : List U} (h : WkL l l') : Wk (.tup l) (.tup l')
inductive WkL : List U → List U → Prop
  | nil : WkL [] []
  | cons {u u' : U} {l l' : List U} (h : Wk u u') (h' : WkL l l') : WkL (u :: l) (u' :: l')
end
theorem WkL.refl : ∀ l, WkL l l
  | [] => .nil
  | u :: l => .cons (.refl u) (WkL.refl l)
theorem Wk.okC {u u' : U} (h : Wk u u') : Vx.okC u' = Vx.okC u := by cases h <;> rfl
theorem WkL.len : ∀ {l l' : List U}, WkL l l' → l'.length = l.length
  | _, _, .nil => rfl
  | _, _, .cons _ h => by simp [h.len]
theorem WkL.okL : ∀ {l l' : List U}, WkL l l' → Vx.okL l' = Vx.okL l
  | _, _, .nil => rfl
  | _, _, .cons h h' => by simp [Vx.okL, h.okC, h'.okL]
mutual
theorem Wk.rel {x : Cx} {u u' : U} {v : Value} (h : Wk u u') (hr : Rel x u v) : Rel x u' v := by
  cases h with
  | refl => exact hr
  | nil t => simp only [Rel] at hr ⊢; exact .inl ⟨trivial, .inl hr⟩
  | full l =>
    simp only [Rel] at hr ⊢
    rcases hr with hr | ⟨i, off, c, h1, h2, h3⟩
    · exact .inl hr
    · exact .inr ⟨i, off, c, h1, by simp, h3⟩
  | agg h =>
    simp only [Rel] at hr ⊢
    obtain ⟨vs, h1, h2, h3, h4⟩ := hr
    exact ⟨vs, h1, WkL.rel h h2, by rw [h.len, h3], by rw [h.okL, h4]⟩
  | tup h =>
    simp only [Rel] at hr ⊢
    obtain ⟨vs, h1, h2, h3⟩ := hr
    exact ⟨vs, h1, WkL.rel h h2, by rw [h.len, h3]⟩
theorem WkL.rel {x : Cx} {l l' : List U} {vs : List Value} (h : WkL l l') (hr : RelP x l vs) : RelP x l' vs := by
  cases h with
  | nil => exact hr
  | cons h h' =>
    cases vs with
    | nil => simp [RelP] at hr
    | cons v vs => simp only [RelP] at hr ⊢; exact ⟨Wk.rel h hr.1, WkL.rel h' hr.2⟩
end
theorem Gh.wk {n0 : Nat} {tm tm' : List U} {σ : Sg} (h : WkL tm tm') : Gh n0 tm σ tm' σ := fun F x tv hx hr hf he => ⟨x, fun m w hf => Adv.refl hf, hx, hr, hf, ⟨h.rel he.1, by rw [h.len]; exact he.2⟩, Ke.refl _ _⟩
/- A ROW THAT GROWS BECOMES A LIST -/
theorem Gh.fz {n0 : Nat} {tm tm' : List U} {σ : Sg} {h' : List (Nat × B)} (K : Nat) (b : B) (sz : Nat) (hg : gt σ.h K = some b) (hb : ∀ es cl, b ≠ .map es cl) (ht : fzL K b sz tm = tm') (hh : fzH K b sz σ.h = h') : Gh n0 tm σ tm' ⟨h', σ.nx⟩ := by
  subst ht; subst hh; exact Gh.freeze sz hg hb
theorem fz_vl {α : Type} {c : α → List U} {sz : Nat} (h : ∀ x, (c x).length = sz) (l : List α) (K s : Nat) (e : TypeId) (st : Nat) : fz K (.vec (l.map c).flatten e sz st) s (.vl K st 0 l.length) = .isl false (l.map c) := by
  have hl := flat_len h l
  have hc := chunks_flat h l
  simp [fz, beq_eq, hl, hc]
theorem fz_vn {K k : Nat} (h : Nat.beq k K = false) (b : B) (sz st off n : Nat) : fz K b sz (.vl k st off n) = .vl k st off n := by simp [fz, h]
theorem fz_sn {K k : Nat} (h : Nat.beq k K = false) (b : B) (sz off n c : Nat) : fz K b sz (.sl k off n c) = .sl k off n c := by simp [fz, h]
theorem fz_pn {K k : Nat} (h : Nat.beq k K = false) (b : B) (sz st off : Nat) : fz K b sz (.ptr k st off) = .ptr k st off := by simp [fz, h]
theorem fz_sl (K : Nat) (l : List U) (e : TypeId) (sz n : Nat) (h : n * sz ≤ l.length) : fz K (.row l e) sz (.sl K 0 n n) = .isl true (chunks sz n l) := by
  have : Nat.beq n n = true := by simp [beq_eq]
  simp [fz, beq_eq, h]
theorem fz_p0 (K : Nat) (l : List U) (e : TypeId) (sz : Nat) : fz K (.row l e) sz (.ptr K 0 0) = .iptr l := by simp [fz, beq_eq]
theorem fz_int (K : Nat) (b : B) (sz : Nat) (k : IntKind) (n : Int) : fz K b sz (.int k n) = .int k n := by simp [fz]
theorem fz_bool (K : Nat) (b : B) (sz : Nat) (x : Bool) : fz K b sz (.bool x) = .bool x := by simp [fz]
theorem fz_str (K : Nat) (b : B) (sz : Nat) (x : List UInt8) : fz K b sz (.str x) = .str x := by simp [fz]
theorem fz_nils (K : Nat) (b : B) (sz : Nat) : fz K b sz .nils = .nils := by simp [fz]
theorem fz_nilp (K : Nat) (b : B) (sz : Nat) : fz K b sz .nilp = .nilp := by simp [fz]
theorem fz_nilm (K : Nat) (b : B) (sz : Nat) : fz K b sz .nilm = .nilm := by simp [fz]
theorem fz_nilf (K : Nat) (b : B) (sz : Nat) : fz K b sz .nilf = .nilf := by simp [fz]
theorem fz_junk (K : Nat) (b : B) (sz : Nat) : fz K b sz .junk = .junk := by simp [fz]
theorem fz_isl (K : Nat) (b : B) (sz : Nat) (t : Bool) (l : List (List U)) : fz K b sz (.isl t l) = .isl t l := by simp [fz]
theorem fz_map (K : Nat) (b : B) (sz : Nat) (k : Nat) : fz K b sz (.map k) = .map k := by simp [fz]
theorem fz_agg (K : Nat) (b : B) (sz : Nat) (l : List U) : fz K b sz (.agg l) = .agg (fzL K b sz l) := by simp [fz]
theorem fz_tup (K : Nat) (b : B) (sz : Nat) (l : List U) : fz K b sz (.tup l) = .tup (fzL K b sz l) := by simp [fz]
theorem fz_fn (K : Nat) (b : B) (sz : Nat) (f : Fn) (a c : List U) : fz K b sz (.fn f a c) = .fn f (fzL K b sz a) (fzL K b sz c) := by simp [fz]
theorem fzL_nil (K : Nat) (b : B) (sz : Nat) : fzL K b sz [] = [] := by simp [fzL]
theorem fzL_cons (K : Nat) (b : B) (sz : Nat) (u : U) (l : List U) : fzL K b sz (u :: l) = fz K b sz u :: fzL K b sz l := by simp [fzL]
/- cells that name nothing stay -/
mutual
theorem fz_bel {K : Nat} (b : B) (sz : Nat) : (u : U) → Bel K u → fz K b sz u = u
  | .sl k _ _ _, h => fz_sn (by simp only [Bel] at h; simp [beq_eq]; omega) _ _ _ _ _
  | .vl k _ _ _, h => fz_vn (by simp only [Bel] at h; simp [beq_eq]; omega) _ _ _ _ _
  | .ptr k _ _, h => fz_pn (by simp only [Bel] at h; simp [beq_eq]; omega) _ _ _ _
  | .agg l, h => by simp only [Bel] at h; rw [fz_agg, fzL_bel b sz l h]
  | .tup l, h => by simp only [Bel] at h; rw [fz_tup, fzL_bel b sz l h]
  | .fn f a c, h => by simp only [Bel] at h; rw [fz_fn, fzL_bel b sz a h.1, fzL_bel b sz c h.2]
  | .int _ _, _ => fz_int _ _ _ _ _
  | .bool _, _ => fz_bool _ _ _ _
  | .str _, _ => fz_str _ _ _ _
  | .nils, _ => fz_nils _ _ _
  | .nilp, _ => fz_nilp _ _ _
  | .nilm, _ => fz_nilm _ _ _
  | .nilf, _ => fz_nilf _ _ _
  | .nili, _ => by simp [fz]
  | .junk, _ => fz_junk _ _ _
  | .isl _ _, _ => fz_isl _ _ _ _ _
  | .iptr _, _ => by simp [fz]
  | .map _, _ => fz_map _ _ _ _
theorem fzL_bel {K : Nat} (b : B) (sz : Nat) : (l : List U) → BelL K l → fzL K b sz l = l
  | [], _ => fzL_nil _ _ _
  | u :: l, h => by simp only [BelL] at h; rw [fzL_cons, fz_bel b sz u h.1, fzL_bel b sz l h.2]
end
theorem belL_app (n : Nat) : ∀ (a b : List U), BelL n a → BelL n b → BelL n (a ++ b)
  | [], b, _, h => h
  | u :: a, b, h, h' => by simp only [BelL] at h; simp only [List.cons_append, BelL]; exact ⟨h.1, belL_app n a b h.2 h'⟩
theorem bel_flat {α : Type} {c : α → List U} (n : Nat) (h : ∀ x, BelL n (c x)) : ∀ l : List α, BelL n (l.map c).flatten
  | [] => by simp [BelL]
  | x :: l => by simp only [List.map_cons, List.flatten_cons]; exact belL_app n _ _ (h x) (bel_flat n h l)
/-- a call whose arguments are seen otherwise first -/
theorem RU.fcall {P : Program} {T : Tb} {ops r : List Oper} {o : Oper} {tm : List U} {σ σ1 : Sg} {K : List U → Sg → Prop} {f : FuncId} {args args' : List U} {u : U} (hw : wantedU ops tm o = some true) (hc : callU T tm o.op = some (f, args)) (hg : Gh σ.nx args σ args' σ1) (hn : σ.nx ≤ σ1.nx) (hev : EvU P f args' σ1 (fun u' σ' => u' = u ∧ σ' = σ1))
    (h : RU P T ops r (putW tm o.dst u) σ1 K) : RU P T ops (o :: r) tm σ K := RU.call hw hc (EvU.ghost hg hn hev) (fun u' σ' ⟨h1, h2⟩ => by subst h1; subst h2; exact h)
theorem RH.fcall {P : Program} {T : Tb} {ops r : List Oper} {o : Oper} {tm : List U} {σ σ1 : Sg} {acc : List RK} {K : List RK → List U → Sg → Prop} {f : FuncId} {args args' : List U} {u : U} (hw : wantedU ops tm o = some true) (hc : callU T tm o.op = some (f, args)) (hg : Gh σ.nx args σ args' σ1) (hn : σ.nx ≤ σ1.nx) (hev : EvU P f args' σ1 (fun u' σ' => u' = u ∧ σ' = σ1))
    (h : RH P T ops r (putW tm o.dst u) σ1 ((3, ⟨tm, o, u, true, true, σ, σ1⟩) :: acc) K) : RH P T ops (o :: r) tm σ acc K := RH.callM hw hc (EvU.ghost hg hn hev) h

theorem tk_all {α : Type} {c : α → List U} {sz : Nat} (h : ∀ x, (c x).length = sz) (l : List α) : List.take (l.length * sz) (l.map c).flatten = (l.map c).flatten := by
  rw [← flat_len h l, List.take_length]
theorem cut_hi {α : Type} (c : α → List U) {l k : List α} {hi : Int} (kk : IntKind) (h : cutO l 0 hi = some k) : boundsX l.length l.length none (some (.int kk hi)) none = some (0, hi.toNat, l.length) ∧ cutL (l.map c) 0 hi.toNat = k.map c := by
  obtain ⟨h1, h2, h3, h4⟩ := cutO_some h
  exact ⟨bnd_hi h2 h3, by rw [cutL_map, ← h4]; rfl⟩
theorem cut_lo {α : Type} (c : α → List U) {l k : List α} {lo : Int} (kk : IntKind) (h : cutO l lo (l.length : Int) = some k) : boundsX l.length l.length (some (.int kk lo)) none none = some (lo.toNat, l.length, l.length) ∧ cutL (l.map c) lo.toNat l.length = k.map c := by
  obtain ⟨h1, h2, h3, h4⟩ := cutO_some h
  exact ⟨bnd_lo h1 h2, by rw [cutL_map, ← h4]; simp⟩
theorem cut_both {α : Type} (c : α → List U) {l k : List α} {lo hi : Int} (kk kk' : IntKind) (h : cutO l lo hi = some k) : boundsX l.length l.length (some (.int kk lo)) (some (.int kk' hi)) none = some (lo.toNat, hi.toNat, l.length) ∧ cutL (l.map c) lo.toNat hi.toNat = k.map c := by
  obtain ⟨h1, h2, h3, h4⟩ := cutO_some h
  exact ⟨bnd_both h1 h2 h3, by rw [cutL_map, ← h4]⟩
/-- an element of a row that grows: what a load of it wants -/
theorem vec_at {α : Type} {c : α → List U} {sz : Nat} (h : ∀ x, (c x).length = sz) (hz : 0 < sz) {l : List α} {i : Int} {x : α} (hx : idxO l i = some x) :
    0 ≤ i ∧ i < (l.length : Int) ∧ ((l.map c).flatten = []) = False ∧ (i.toNat * sz + sz ≤ l.length * sz) ∧ List.take sz (List.drop (i.toNat * sz) (l.map c).flatten) = c x := by
  obtain ⟨h1, h2, h3⟩ := idxO_get hx
  have hs := vec_seg h hx
  obtain ⟨s1, s2⟩ := segU_some hs
  rw [Nat.zero_mul, Nat.zero_add] at s1 s2
  rw [flat_len h] at s1
  exact ⟨h1, h2, vec_ne h hz hx, s1, s2.symm⟩
theorem vec_at1 {α : Type} {c : α → List U} {u : α → U} (hu : ∀ x, c x = [u x]) {l : List α} {i : Int} {x : α} (hx : idxO l i = some x) :
    0 ≤ i ∧ i < (l.length : Int) ∧ ((l.map c).flatten = []) = False ∧ nth (l.map c).flatten i.toNat = some (u x) := by
  obtain ⟨h1, h2, h3⟩ := idxO_get hx
  have h := vec_nth (c := c) (fun x => by rw [hu]; rfl) hu hx
  rw [Nat.zero_mul, Nat.zero_add, Nat.mul_one] at h
  exact ⟨h1, h2, vec_ne (sz := 1) (fun x => by rw [hu]; rfl) (by omega) hx, h⟩
end Go.Vx
