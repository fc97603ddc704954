/-
  VxA: values as trees. What never turns is a tree; what a call has made and may still write is a row of its own heap, under a name and a stamp. How such values read in the symbolic heaps of Rx.
-/
import Derived.Test.YtcanbnholmlapaaRxP
namespace Go.Vx
open Go Go.Rx

inductive U where
  | junk
  | bool (b : Bool)
  | int (k : IntKind) (n : Int)
  | str (s : List UInt8)
  | nilp
  | ptr (k st off : Nat)
  | iptr (l : List U)
  | nils
  | sl (k off n c : Nat)
  | vl (k st off n : Nat)
  | isl (t : Bool) (l : List (List U))
  | nilm
  | map (k : Nat)
  | fn (f : Fn) (first cap : List U)
  | nilf
  | nili
  | agg (l : List U)
  | tup (l : List U)
  deriving Inhabited

def U.cells : U → List U
  | .agg l => l
  | u => [u]

/-- what may lie in a cell -/
def okC : U → Bool
  | .junk => false
  | .agg _ => false
  | .tup _ => false
  | _ => true
def okL : List U → Bool
  | [] => true
  | u :: l => cond (okC u) (okL l) false
theorem okL_iff (l : List U) : okL l = true ↔ ∀ u ∈ l, okC u = true := by
  induction l with
  | nil => simp [okL]
  | cons u l ih => cases h : okC u <;> simp [okL, h, ih]

structure ME where
  key : U
  val : U
  born : Nat

/-- a block of the call's own: a row that is whole; a row that grows (elements of sz cells; nothing may lie behind it as long as it is empty); a map -/
inductive B where
  | row (l : List U) (e : TypeId)
  | vec (l : List U) (e : TypeId) (sz st : Nat)
  | map (es : List ME) (cl : Nat)

structure Sg where
  h : List (Nat × B)
  nx : Nat

def gt : List (Nat × B) → Nat → Option B
  | [], _ => none
  | (j, b) :: h, i => cond (Nat.beq j i) (some b) (gt h i)
def ug : List (Nat × B) → Nat → B → List (Nat × B)
  | [], _, _ => []
  | (j, b) :: h, i, c => cond (Nat.beq j i) ((j, c) :: h) ((j, b) :: ug h i c)
def rg : List (Nat × B) → Nat → List (Nat × B)
  | [], _ => []
  | (j, b) :: h, i => cond (Nat.beq j i) (rg h i) ((j, b) :: rg h i)
theorem gt_cons (j : Nat) (b : B) (h : List (Nat × B)) (i : Nat) : gt ((j, b) :: h) i = if j = i then some b else gt h i := by
  simp only [gt, beq_eq]; by_cases e : j = i <;> simp [e]
theorem gt_ug (h : List (Nat × B)) (i : Nat) (c : B) (j : Nat) : gt (ug h i c) j = if i = j then (gt h i).map (fun _ => c) else gt h j := by
  induction h with
  | nil => simp [ug, gt]
  | cons x h ih =>
    obtain ⟨k, b⟩ := x
    simp only [ug, beq_eq]
    by_cases e : k = i
    · subst e
      simp only [decide_true, cond_true, gt_cons]
      by_cases e2 : k = j <;> simp [e2]
    · simp only [e, decide_false, cond_false, gt_cons, ih]
      by_cases e2 : i = j
      · subst e2; simp [e]
      · by_cases e3 : k = j <;> simp [e2, e3]
theorem gt_rg (h : List (Nat × B)) (i j : Nat) : gt (rg h i) j = if i = j then none else gt h j := by
  induction h with
  | nil => simp [rg, gt]
  | cons x h ih =>
    obtain ⟨k, b⟩ := x
    simp only [rg, beq_eq]
    by_cases e : k = i
    · subst e
      simp only [decide_true, cond_true, gt_cons, ih]
      by_cases e2 : k = j <;> simp [e2]
    · simp only [e, decide_false, cond_false, gt_cons, ih]
      by_cases e2 : i = j
      · subst e2; simp [e]
      · by_cases e3 : k = j <;> simp [e2, e3]

def B.st : B → Nat
  | .vec _ _ _ st => st
  | _ => 0

structure Cx where
  ρ : Nat → Option Nat
  σ : Sg
  s : S

/-- a name under its stamp: where the stamp is the row's own, it stands for this one -/
def Ref (x : Cx) (k st : Nat) (p : Option Nat → Prop) : Prop := k < x.σ.nx ∧ ∀ b, gt x.σ.h k = some b → st ≤ b.st ∧ (st = b.st → p (x.ρ k))
/-- a part of a row that grows -/
def VlOk (off n : Nat) (v : Value) (sz : Nat) : Option Nat → Prop
  | none => off = 0 ∧ n = 0 ∧ ∃ o, v = .slice o 0 0 ∧ ∀ a, o = some a → a.spot = none
  | some i => (0 < off ∧ n = 0 ∧ ∃ a c, v = .slice (some a) 0 c ∧ a.spot = none) ∨ v = .slice (some ⟨i, off * sz, none⟩) n (capBase + off)

mutual
def Rel (x : Cx) : U → Value → Prop
  | .junk, _ => True
  | .bool b, v => v = .bool b
  | .int k n, v => v = .int k n
  | .str l, v => v = .string ⟨⟨l⟩⟩
  | .nilp, v => v = .pointer none
  | .ptr k st off, v => v.oneCell' = true ∧ Ref x k st fun o => ∃ i, o = some i ∧ v = .pointer (some ⟨i, off, none⟩)
  | .iptr l, v => ∃ i off row e, v = .pointer (some ⟨i, off, none⟩) ∧ lk x.s.h i = some (.inl (row, e, 1)) ∧ RelP x l (row.drop off) ∧ okL l = true
  | .nils, v => v = .slice none 0 0
  | .sl k off n c, v => v.oneCell' = true ∧ Ref x k 0 fun o => ∃ i, o = some i ∧ v = .slice (some ⟨i, off, none⟩) n c ∧ c < capBase ∧ n ≤ c
  | .vl k st off n, v => v.oneCell' = true ∧ k < x.σ.nx ∧ ∀ b, gt x.σ.h k = some b → st ≤ b.st ∧ (st = b.st → ∃ l e sz, b = .vec l e sz st ∧ VlOk off n v sz (x.ρ k))
  | .isl t l, v => (l = [] ∧ (v = .slice none 0 0 ∨ ∃ r, v = .chan (some r))) ∨ ∃ i off c, v = .slice (some ⟨i, off, none⟩) l.length c ∧ (t = true → c = l.length ∧ c < capBase) ∧
      (l = [] ∨ ∃ row e sz, lk x.s.h i = some (.inl (row, e, 1)) ∧ RelR x sz l (row.drop off) ∧
        ((c < capBase ∧ l.length ≤ c) ∨ (capBase ≤ c ∧ e = sz + 1 ∧ 0 < sz ∧ off = capD c * sz ∧ off + l.length * sz ≤ row.length)))
  | .nilm, v => v = .map none
  | .map k, v => v.oneCell' = true ∧ Ref x k 0 fun o => ∃ i, o = some i ∧ v = .map (some i)
  | .fn f a b, v => ∃ va vb, v = .func f ⟨va⟩ ⟨vb⟩ ∧ RelP x a va ∧ a.length = va.length ∧ RelP x b vb ∧ b.length = vb.length
  | .nilf, v => v = .nilFunc
  | .nili, v => v = .nilIface
  | .agg l, v => ∃ vs, v = .agg ⟨vs⟩ ∧ RelP x l vs ∧ l.length = vs.length ∧ okL l = true
  | .tup l, v => ∃ vs, v = .tuple ⟨vs⟩ ∧ RelP x l vs ∧ l.length = vs.length
def RelP (x : Cx) : List U → List Value → Prop
  | [], _ => True
  | u :: us, vs => match vs with
    | [] => False
    | v :: vs => Rel x u v ∧ RelP x us vs
def RelR (x : Cx) (sz : Nat) : List (List U) → List Value → Prop
  | [], _ => True
  | c :: cs, vs => c.length = sz ∧ okL c = true ∧ RelP x c vs ∧ RelR x sz cs (vs.drop sz)
end

mutual
/-- every name of its own is below n -/
def Bel (n : Nat) : U → Prop
  | .ptr k _ _ => k < n
  | .sl k _ _ _ => k < n
  | .vl k _ _ _ => k < n
  | .map k => k < n
  | .iptr l => BelL n l
  | .isl _ l => BelR n l
  | .fn _ a b => BelL n a ∧ BelL n b
  | .agg l => BelL n l
  | .tup l => BelL n l
  | _ => True
def BelL (n : Nat) : List U → Prop
  | [] => True
  | u :: us => Bel n u ∧ BelL n us
def BelR (n : Nat) : List (List U) → Prop
  | [] => True
  | c :: cs => BelL n c ∧ BelR n cs
end

theorem relP_iff (x : Cx) : ∀ (l : List U) (vs : List Value), RelP x l vs ↔ ∀ (i : Nat) (u : U), l[i]? = some u → ∃ v, vs[i]? = some v ∧ Rel x u v
  | [], vs => by simp [RelP]
  | u :: us, [] => by
    simp only [RelP, false_iff]
    intro h
    obtain ⟨v, hv, _⟩ := h 0 u rfl
    simp at hv
  | u :: us, v :: vs => by
    simp only [RelP, relP_iff x us vs]
    constructor
    · rintro ⟨h1, h2⟩ i w hi
      cases i with
      | zero => simp at hi; subst hi; exact ⟨v, rfl, h1⟩
      | succ i => simp at hi; simpa using h2 i w hi
    · intro h
      refine ⟨?_, fun i w hi => by simpa using h (i + 1) w (by simpa using hi)⟩
      obtain ⟨v', h1, h2⟩ := h 0 u rfl
      simp at h1; subst h1; exact h2
theorem belL_iff (n : Nat) : ∀ l : List U, BelL n l ↔ ∀ u ∈ l, Bel n u
  | [] => by simp [BelL]
  | u :: us => by simp [BelL, belL_iff n us]
theorem belR_iff (n : Nat) : ∀ l : List (List U), BelR n l ↔ ∀ c ∈ l, BelL n c
  | [] => by simp [BelR]
  | u :: us => by simp [BelR, belR_iff n us]

/-- what a relation hangs on -/
structure Mo (n : Nat) (x y : Cx) : Prop where
  ref : ∀ k, k < n → k < x.σ.nx → k < y.σ.nx ∧ ∀ b', gt y.σ.h k = some b' → ∃ b, gt x.σ.h k = some b ∧ b.st ≤ b'.st ∧ (b.st = b'.st → y.ρ k = x.ρ k ∧ ∀ l e sz st, b = .vec l e sz st → ∃ l', b' = .vec l' e sz st)
  imm : ∀ i row e, lk x.s.h i = some (.inl (row, e, 1)) → lk y.s.h i = some (.inl (row, e, 1))

theorem Mo.ref' {n : Nat} {x y : Cx} (h : Mo n x y) {k st : Nat} {p : Option Nat → Prop} (hk : k < n) (hr : Ref x k st p) : Ref y k st p := by
  obtain ⟨h1, h2⟩ := hr
  obtain ⟨g1, g2⟩ := h.ref k hk h1
  refine ⟨g1, fun b' hb' => ?_⟩
  obtain ⟨b, e1, e2, e3⟩ := g2 b' hb'
  obtain ⟨e4, e5⟩ := h2 b e1
  refine ⟨Nat.le_trans e4 e2, fun e => ?_⟩
  have : b.st = b'.st := by omega
  rw [(e3 this).1]
  exact e5 (by omega)
mutual
theorem Rel.mono {n : Nat} {x y : Cx} (h : Mo n x y) : (u : U) → (v : Value) → Bel n u → Rel x u v → Rel y u v
  | .junk, v, _, _ => by simp [Rel]
  | .bool b, v, _, hr => by simpa [Rel] using hr
  | .int k z, v, _, hr => by simpa [Rel] using hr
  | .str l, v, _, hr => by simpa [Rel] using hr
  | .nilp, v, _, hr => by simpa [Rel] using hr
  | .ptr k st off, v, hb, hr => by simp only [Rel] at *; exact ⟨hr.1, h.ref' (by simpa [Bel] using hb) hr.2⟩
  | .iptr l, v, hb, hr => by
    simp only [Rel] at *
    obtain ⟨i, off, row, e, h1, h2, h3, h4⟩ := hr
    exact ⟨i, off, row, e, h1, h.imm _ _ _ h2, RelP.mono h l _ (by simpa [Bel] using hb) h3, h4⟩
  | .nils, v, _, hr => by simpa [Rel] using hr
  | .sl k off m c, v, hb, hr => by simp only [Rel] at *; exact ⟨hr.1, h.ref' (by simpa [Bel] using hb) hr.2⟩
  | .vl k st off m, v, hb, hr => by
    simp only [Rel] at *
    obtain ⟨h0, h1, h2⟩ := hr
    obtain ⟨g1, g2⟩ := h.ref k (by simpa [Bel] using hb) h1
    refine ⟨h0, g1, fun b' hb' => ?_⟩
    obtain ⟨b, e1, e2, e3⟩ := g2 b' hb'
    obtain ⟨e4, e5⟩ := h2 b e1
    refine ⟨Nat.le_trans e4 e2, fun e => ?_⟩
    have e6 : b.st = b'.st := by omega
    obtain ⟨l, e', sz, e7, e8⟩ := e5 (by omega)
    obtain ⟨e9, e10⟩ := e3 e6
    obtain ⟨l', e11⟩ := e10 _ _ _ _ e7
    rw [e9]
    exact ⟨l', e', sz, e11, e8⟩
  | .isl t l, v, hb, hr => by
    simp only [Rel] at *
    rcases hr with hr | ⟨i, off, c, h1, h2, h3⟩
    · exact .inl hr
    · refine .inr ⟨i, off, c, h1, h2, ?_⟩
      rcases h3 with h3 | ⟨row, e, sz, g1, g2, g3⟩
      · exact .inl h3
      · exact .inr ⟨row, e, sz, h.imm _ _ _ g1, RelR.mono h l _ (by simpa [Bel] using hb) g2, g3⟩
  | .nilm, v, _, hr => by simpa [Rel] using hr
  | .map k, v, hb, hr => by simp only [Rel] at *; exact ⟨hr.1, h.ref' (by simpa [Bel] using hb) hr.2⟩
  | .fn f a b, v, hb, hr => by
    simp only [Rel] at *
    obtain ⟨va, vb, h1, h2, h3, h4, h5⟩ := hr
    simp only [Bel] at hb
    exact ⟨va, vb, h1, RelP.mono h a _ hb.1 h2, h3, RelP.mono h b _ hb.2 h4, h5⟩
  | .nilf, v, _, hr => by simpa [Rel] using hr
  | .nili, v, _, hr => by simpa [Rel] using hr
  | .agg l, v, hb, hr => by
    simp only [Rel] at *
    obtain ⟨vs, h1, h2, h3⟩ := hr
    exact ⟨vs, h1, RelP.mono h l _ (by simpa [Bel] using hb) h2, h3⟩
  | .tup l, v, hb, hr => by
    simp only [Rel] at *
    obtain ⟨vs, h1, h2, h3⟩ := hr
    exact ⟨vs, h1, RelP.mono h l _ (by simpa [Bel] using hb) h2, h3⟩
theorem RelP.mono {n : Nat} {x y : Cx} (h : Mo n x y) : (l : List U) → (vs : List Value) → BelL n l → RelP x l vs → RelP y l vs
  | [], _, _, _ => by simp [RelP]
  | u :: us, [], _, hr => by simp [RelP] at hr
  | u :: us, v :: vs, hb, hr => by
    simp only [RelP, BelL] at *
    exact ⟨Rel.mono h u v hb.1 hr.1, RelP.mono h us vs hb.2 hr.2⟩
theorem RelR.mono {n sz : Nat} {x y : Cx} (h : Mo n x y) : (l : List (List U)) → (vs : List Value) → BelR n l → RelR x sz l vs → RelR y sz l vs
  | [], _, _, _ => by simp [RelR]
  | c :: cs, vs, hb, hr => by
    simp only [RelR, BelR] at *
    exact ⟨hr.1, hr.2.1, RelP.mono h c vs hb.1 hr.2.2.1, RelR.mono h cs _ hb.2 hr.2.2.2⟩
end

mutual
/-- what reads, names what is there -/
theorem Rel.bel {x : Cx} : (u : U) → (v : Value) → Rel x u v → Bel x.σ.nx u
  | .ptr k st off, v, hr => by simp only [Rel, Bel] at *; exact hr.2.1
  | .sl k off m c, v, hr => by simp only [Rel, Bel] at *; exact hr.2.1
  | .vl k st off m, v, hr => by simp only [Rel, Bel] at *; exact hr.2.1
  | .map k, v, hr => by simp only [Rel, Bel] at *; exact hr.2.1
  | .iptr l, v, hr => by
    simp only [Rel, Bel] at *
    obtain ⟨i, off, row, e, h1, h2, h3, _⟩ := hr
    exact RelP.bel l _ h3
  | .isl t l, v, hr => by
    simp only [Rel, Bel] at *
    rcases hr with ⟨rfl, _⟩ | ⟨i, off, c, h1, h2, h3⟩
    · simp [BelR]
    · rcases h3 with rfl | ⟨row, e, sz, g1, g2, _⟩
      · simp [BelR]
      · exact RelR.bel l _ g2
  | .fn f a b, v, hr => by
    simp only [Rel, Bel] at *
    obtain ⟨va, vb, h1, h2, h3, h4, h5⟩ := hr
    exact ⟨RelP.bel a _ h2, RelP.bel b _ h4⟩
  | .agg l, v, hr => by
    simp only [Rel, Bel] at *
    obtain ⟨vs, h1, h2, h3⟩ := hr
    exact RelP.bel l _ h2
  | .tup l, v, hr => by
    simp only [Rel, Bel] at *
    obtain ⟨vs, h1, h2, h3⟩ := hr
    exact RelP.bel l _ h2
  | .junk, _, _ => by simp [Bel]
  | .bool _, _, _ => by simp [Bel]
  | .int _ _, _, _ => by simp [Bel]
  | .str _, _, _ => by simp [Bel]
  | .nilp, _, _ => by simp [Bel]
  | .nils, _, _ => by simp [Bel]
  | .nilm, _, _ => by simp [Bel]
  | .nilf, _, _ => by simp [Bel]
  | .nili, _, _ => by simp [Bel]
theorem RelP.bel {x : Cx} : (l : List U) → (vs : List Value) → RelP x l vs → BelL x.σ.nx l
  | [], _, _ => by simp [BelL]
  | u :: us, [], hr => by simp [RelP] at hr
  | u :: us, v :: vs, hr => by
    simp only [RelP, BelL] at *
    exact ⟨Rel.bel u v hr.1, RelP.bel us vs hr.2⟩
theorem RelR.bel {x : Cx} {sz : Nat} : (l : List (List U)) → (vs : List Value) → RelR x sz l vs → BelR x.σ.nx l
  | [], _, _ => by simp [BelR]
  | c :: cs, vs, hr => by
    simp only [RelR, BelR] at *
    exact ⟨RelP.bel c vs hr.2.2.1, RelR.bel cs _ hr.2.2.2⟩
end

def RelE (x : Cx) (l : List U) (vs : List Value) : Prop := RelP x l vs ∧ l.length = vs.length
theorem RelE.get {x : Cx} {l : List U} {vs : List Value} (h : RelE x l vs) {i : Nat} {u : U} (hu : l[i]? = some u) : ∃ v, vs[i]? = some v ∧ Rel x u v := (relP_iff x l vs).1 h.1 i u hu
theorem RelE.mk' {x : Cx} {l : List U} {vs : List Value} (hl : l.length = vs.length) (h : ∀ (i : Nat) (u : U), l[i]? = some u → ∃ v, vs[i]? = some v ∧ Rel x u v) : RelE x l vs := ⟨(relP_iff x l vs).2 h, hl⟩
theorem RelE.nil (x : Cx) : RelE x [] [] := ⟨by simp [RelP], rfl⟩
theorem RelE.cons {x : Cx} {u : U} {v : Value} {l : List U} {vs : List Value} (h : Rel x u v) (h' : RelE x l vs) : RelE x (u :: l) (v :: vs) := ⟨by simp [RelP, h, h'.1], by simp [h'.2]⟩
theorem RelE.inv {x : Cx} {u : U} {l : List U} {vs : List Value} (h : RelE x (u :: l) vs) : ∃ v vs', vs = v :: vs' ∧ Rel x u v ∧ RelE x l vs' := by
  obtain ⟨h1, h2⟩ := h
  cases vs with
  | nil => simp at h2
  | cons v vs => simp only [RelP] at h1; exact ⟨v, vs, rfl, h1.1, h1.2, by simpa using h2⟩
theorem RelE.nil_inv {x : Cx} {vs : List Value} (h : RelE x [] vs) : vs = [] := by
  have := h.2; simpa using this.symm
theorem RelE.append {x : Cx} {a b : List U} {va vb : List Value} (h : RelE x a va) (h' : RelE x b vb) : RelE x (a ++ b) (va ++ vb) := by
  induction a generalizing va with
  | nil => rw [h.nil_inv]; exact h'
  | cons u a ih =>
    obtain ⟨v, vs, rfl, h1, h2⟩ := h.inv
    exact RelE.cons h1 (ih h2)
theorem RelE.drop {x : Cx} {a : List U} {va : List Value} (h : RelE x a va) (n : Nat) : RelE x (a.drop n) (va.drop n) := by
  refine RelE.mk' (by simp [h.2]) fun i u hu => ?_
  rw [List.getElem?_drop] at hu ⊢
  exact h.get hu
theorem RelE.take {x : Cx} {a : List U} {va : List Value} (h : RelE x a va) (n : Nat) : RelE x (a.take n) (va.take n) := by
  refine RelE.mk' (by simp [h.2]) fun i u hu => ?_
  rw [List.getElem?_take] at hu ⊢
  split at hu
  · rename_i hlt; simp only [hlt, if_true]; exact h.get hu
  · cases hu
theorem RelE.set {x : Cx} {a : List U} {va : List Value} (h : RelE x a va) (n : Nat) {u : U} {v : Value} (hu : Rel x u v) : RelE x (a.set n u) (va.set n v) := by
  refine RelE.mk' (by simp [h.2]) fun i w hw => ?_
  rw [List.getElem?_set] at hw ⊢
  split at hw
  · split at hw
    · cases hw; rename_i h1 h2; subst h1; rw [h.2] at h2; simp [h2, hu]
    · cases hw
  · rename_i hne; simp only [hne, if_false]; exact h.get hw
theorem RelE.mono {n : Nat} {x y : Cx} (h : Mo n x y) {l : List U} {vs : List Value} (hb : BelL n l) (hr : RelE x l vs) : RelE y l vs := ⟨RelP.mono h l vs hb hr.1, hr.2⟩
theorem RelP.takeE {x : Cx} {l : List U} {vs : List Value} (h : RelP x l vs) : RelE x l (vs.take l.length) := by
  refine RelE.mk' ?_ fun i u hu => ?_
  · rcases Nat.lt_or_ge vs.length l.length with hlt | hge
    · have hu : l[vs.length]? = some l[vs.length] := by simp [hlt]
      obtain ⟨v, hv, _⟩ := (relP_iff x l vs).1 h _ _ hu
      simp at hv
    · simp; omega
  · obtain ⟨v, hv, hr⟩ := (relP_iff x l vs).1 h i u hu
    have : i < l.length := (List.getElem?_eq_some_iff.1 hu).1
    exact ⟨v, by rw [List.getElem?_take]; simp [this, hv], hr⟩
theorem RelP.len {x : Cx} {l : List U} {vs : List Value} (h : RelP x l vs) : l.length ≤ vs.length := by
  have := h.takeE.2
  rw [List.length_take] at this
  omega
theorem RelP.drop {x : Cx} {l : List U} {vs : List Value} (h : RelP x l vs) (n : Nat) : RelP x (l.drop n) (vs.drop n) := by
  rw [relP_iff] at *
  intro i u hu
  rw [List.getElem?_drop] at hu ⊢
  exact h _ _ hu

def RelM (x : Cx) (es : List ME) (vs : List MapEntry) : Prop := es.length = vs.length ∧ ∀ (i : Nat) (e : ME), es[i]? = some e → ∃ v : MapEntry, vs[i]? = some v ∧ Rel x e.key v.key ∧ Rel x e.val v.val ∧ v.born = e.born

/-- a block of its own and what lies behind it -/
def BOk (x : Cx) (k : Nat) : B → Prop
  | .row l e => okL l = true ∧ ∃ i l', x.ρ k = some i ∧ lk x.s.h i = some (.inl (l', e, 0)) ∧ RelE x l l'
  | .vec l e sz _ => okL l = true ∧ 0 < sz ∧ (l = [] ∧ x.ρ k = none ∨ ∃ i l', x.ρ k = some i ∧ lk x.s.h i = some (.inl (l', e, sz + 2)) ∧ RelE x l l')
  | .map es cl => ∃ i es', x.ρ k = some i ∧ lk x.s.h i = some (.inr (es', cl)) ∧ RelM x es es'

structure HRel (x : Cx) : Prop where
  ok : ∀ k b, gt x.σ.h k = some b → k < x.σ.nx ∧ BOk x k b
  inj : ∀ k k' b b' i, gt x.σ.h k = some b → gt x.σ.h k' = some b' → x.ρ k = some i → x.ρ k' = some i → k = k'
  bd : ∀ i b, lk x.s.h i = some b → i < x.s.nx

/-- rows that are nobody's here stay -/
def Fr (F : Nat → Blk → Prop) (x : Cx) : Prop := ∀ i b, F i b → lk x.s.h i = some b ∧ ∀ k c, gt x.σ.h k = some c → x.ρ k ≠ some i
/-- what names only what is below n reads on -/
def Ke (n : Nat) (x y : Cx) : Prop := ∀ u v, Bel n u → Rel x u v → Rel y u v
theorem Ke.refl (n : Nat) (x : Cx) : Ke n x x := fun _ _ _ h => h
theorem Ke.trans {n : Nat} {x y z : Cx} (h : Ke n x y) (h' : Ke n y z) : Ke n x z := fun u v hb hr => h' u v hb (h u v hb hr)
mutual
theorem Bel.le {n k : Nat} (h : n ≤ k) : (u : U) → Bel n u → Bel k u
  | .ptr a _ _, hb => by simp only [Bel] at *; omega
  | .sl a _ _ _, hb => by simp only [Bel] at *; omega
  | .vl a _ _ _, hb => by simp only [Bel] at *; omega
  | .map a, hb => by simp only [Bel] at *; omega
  | .iptr l, hb => by simp only [Bel] at *; exact BelL.le h l hb
  | .isl t l, hb => by simp only [Bel] at *; exact BelR.le h l hb
  | .fn f a b, hb => by simp only [Bel] at *; exact ⟨BelL.le h a hb.1, BelL.le h b hb.2⟩
  | .agg l, hb => by simp only [Bel] at *; exact BelL.le h l hb
  | .tup l, hb => by simp only [Bel] at *; exact BelL.le h l hb
  | .junk, _ => by simp [Bel]
  | .bool _, _ => by simp [Bel]
  | .int _ _, _ => by simp [Bel]
  | .str _, _ => by simp [Bel]
  | .nilp, _ => by simp [Bel]
  | .nils, _ => by simp [Bel]
  | .nilm, _ => by simp [Bel]
  | .nilf, _ => by simp [Bel]
  | .nili, _ => by simp [Bel]
theorem BelL.le {n k : Nat} (h : n ≤ k) : (l : List U) → BelL n l → BelL k l
  | [], _ => by simp [BelL]
  | u :: us, hb => by simp only [BelL] at *; exact ⟨Bel.le h u hb.1, BelL.le h us hb.2⟩
theorem BelR.le {n k : Nat} (h : n ≤ k) : (l : List (List U)) → BelR n l → BelR k l
  | [], _ => by simp [BelR]
  | u :: us, hb => by simp only [BelR] at *; exact ⟨BelL.le h u hb.1, BelR.le h us hb.2⟩
end
theorem Ke.le {n k : Nat} {x y : Cx} (h : Ke k x y) (hk : n ≤ k) : Ke n x y := fun u v hb hr => h u v (Bel.le hk u hb) hr
theorem Mo.ke {n : Nat} {x y : Cx} (h : Mo n x y) : Ke n x y := fun u v hb hr => Rel.mono h u v hb hr
theorem Ke.E {n : Nat} {x y : Cx} (h : Ke n x y) {l : List U} {vs : List Value} (hb : BelL n l) (hr : RelE x l vs) : RelE y l vs :=
  RelE.mk' hr.2 fun i u hu => by
    obtain ⟨v, h1, h2⟩ := hr.get hu
    exact ⟨v, h1, h u v ((belL_iff n l).1 hb u (List.mem_of_getElem? hu)) h2⟩
theorem RelE.bel {x : Cx} {l : List U} {vs : List Value} (hr : RelE x l vs) : BelL x.σ.nx l := RelP.bel l vs hr.1
end Go.Vx
