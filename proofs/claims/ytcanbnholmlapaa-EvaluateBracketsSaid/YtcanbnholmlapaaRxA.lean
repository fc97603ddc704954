/-
  RxA: a symbolic heap over names. Nothing is claimed of the program here: the naming of blocks, how a symbolic value reads in a world, when a symbolic heap fits a world, and how one step carries a fitting heap on.
-/
import Derived.Calls
import Derived.Orders
import Derived.Below
import Derived.Laws.CopyRow
import Derived.KernelRfl
namespace Go.Rx
open Go

/-- names: of a block's number: its place in the heap, the offset of its first cell, its capacity in elements -/
structure Nm where
  blk : Nat → Nat
  sh : Nat → Nat
  cp : Nat → Nat

def capBase : Nat := 18446744073709551616
def capD (c : Nat) : Nat := c - capBase
def capOf (m : Nm) (i c : Nat) : Nat := if c < capBase then c else m.cp i - capD c

mutual
def ren (m : Nm) : Value → Value
  | .pointer (some a) => .pointer (some ⟨m.blk a.block, m.sh a.block + a.off, none⟩)
  | .slice (some a) n c => .slice (some ⟨m.blk a.block, m.sh a.block + a.off, none⟩) n (capOf m a.block c)
  | .map (some r) => .map (some (m.blk r))
  | .func fn first cap => .func fn (renA m first) (renA m cap)
  | .iface t v => .iface t (ren m v)
  | .agg cs => .agg (renA m cs)
  | .tuple cs => .tuple (renA m cs)
  | .bool b => .bool b
  | .int k n => .int k n
  | .float k n => .float k n
  | .complex k a b => .complex k a b
  | .string s => .string s
  | .pointer none => .pointer none
  | .slice none n c => .slice none n c
  | .map none => .map none
  | .chan (some r) => .slice (some ⟨m.blk r, m.sh r, some (m.cp r)⟩) 0 0
  | .chan none => .chan none
  | .nilFunc => .nilFunc
  | .nilIface => .nilIface
def renA (m : Nm) : Array Value → Array Value
  | ⟨l⟩ => ⟨renL m l⟩
def renL (m : Nm) : List Value → List Value
  | [] => []
  | v :: l => ren m v :: renL m l
end

theorem renL_eq (m : Nm) (l : List Value) : renL m l = l.map (ren m) := by
  induction l with
  | nil => simp [renL]
  | cons v l ih => simp [renL, ih]
theorem renA_eq (m : Nm) (a : Array Value) : renA m a = a.map (ren m) := by
  cases a; simp [renA, renL_eq]
@[simp] theorem renA_mk (m : Nm) (l : List Value) : renA m ⟨l⟩ = ⟨renL m l⟩ := by simp [renA]
@[simp] theorem length_renL (m : Nm) (l : List Value) : (renL m l).length = l.length := by simp [renL_eq]
@[simp] theorem size_renA (m : Nm) (a : Array Value) : (renA m a).size = a.size := by simp [renA_eq]
@[simp] theorem toList_renA (m : Nm) (a : Array Value) : (renA m a).toList = renL m a.toList := by cases a; simp
theorem renL_append (m : Nm) (a b : List Value) : renL m (a ++ b) = renL m a ++ renL m b := by simp [renL_eq]

theorem oneCell_ren (m : Nm) (v : Value) : (ren m v).oneCell' = v.oneCell' := by
  cases v with
  | pointer a => cases a <;> rfl
  | slice a n c => cases a <;> rfl
  | map r => cases r <;> rfl
  | chan r => cases r <;> rfl
  | _ => rfl
theorem cells_ren (m : Nm) (v : Value) : (ren m v).cells = renA m v.cells := by
  cases v with
  | pointer a => cases a <;> simp [ren, Value.cells, renL]
  | slice a n c => cases a <;> simp [ren, Value.cells, renL]
  | map r => cases r <;> simp [ren, Value.cells, renL]
  | chan r => cases r <;> simp [ren, Value.cells, renL]
  | _ => simp [ren, Value.cells, renL]

/-- a row: its cells, the element's type, how it stands (0: whole and its own; 1: read alone (a type number n + 1 says: elements of n cells, all within the capacity); n + 2: its own, it may be longer: elements of n cells) -/
abbrev Row := List Value × TypeId × Nat
abbrev Blk := Row ⊕ (List MapEntry × Nat)
abbrev Hp := List (Nat × Blk)

def lk : Hp → Nat → Option Blk
  | [], _ => none
  | (j, b) :: h, i => cond (Nat.beq j i) (some b) (lk h i)
def up : Hp → Nat → Blk → Hp
  | [], _, _ => []
  | (j, b) :: h, i, c => cond (Nat.beq j i) ((j, c) :: h) ((j, b) :: up h i c)
def rm : Hp → Nat → Hp
  | [], _ => []
  | (j, b) :: h, i => cond (Nat.beq j i) (rm h i) ((j, b) :: rm h i)

theorem beq_eq (j i : Nat) : Nat.beq j i = decide (j = i) := by
  rw [Bool.eq_iff_iff]; simp [Nat.beq_eq]
theorem lk_cons (j : Nat) (b : Blk) (h : Hp) (i : Nat) : lk ((j, b) :: h) i = if j = i then some b else lk h i := by
  simp only [lk, beq_eq]; by_cases e : j = i <;> simp [e]
theorem lk_up (h : Hp) (i : Nat) (c : Blk) (j : Nat) : lk (up h i c) j = if i = j then (lk h i).map (fun _ => c) else lk h j := by
  induction h with
  | nil => simp [up, lk]
  | cons x h ih =>
    obtain ⟨k, b⟩ := x
    simp only [up, beq_eq]
    by_cases e : k = i
    · subst e
      simp only [decide_true, cond_true, lk_cons]
      by_cases e2 : k = j <;> simp [e2]
    · simp only [e, decide_false, cond_false, lk_cons, ih]
      by_cases e2 : i = j
      · subst e2; simp [e]
      · by_cases e3 : k = j <;> simp [e2, e3]
theorem lk_rm (h : Hp) (i j : Nat) : lk (rm h i) j = if i = j then none else lk h j := by
  induction h with
  | nil => simp [rm, lk]
  | cons x h ih =>
    obtain ⟨k, b⟩ := x
    simp only [rm, beq_eq]
    by_cases e : k = i
    · subst e
      simp only [decide_true, cond_true, lk_cons, ih]
      by_cases e2 : k = j <;> simp [e2]
    · simp only [e, decide_false, cond_false, lk_cons, ih]
      by_cases e2 : i = j
      · subst e2; simp [e]
      · by_cases e3 : k = j <;> simp [e2, e3]

structure S where
  h : Hp
  nx : Nat

def renE (m : Nm) (e : MapEntry) : MapEntry := { key := ren m e.key, val := ren m e.val, born := e.born }

def RowOk (m : Nm) (i : Nat) (l : List Value) (e : TypeId) (w : World) : Nat → Prop
  | 0 => m.sh i = 0 ∧ w.heap[m.blk i]? = some (.cells (renL m l).toArray e (0, 0))
  | 1 => ∃ c e' fr, w.heap[m.blk i]? = some (.cells c e' fr) ∧ (∀ k v, l[k]? = some v → c[m.sh i + k]? = some (ren m v)) ∧ ∀ n, e = n + 1 → l.length ≤ m.cp i * n
  | n + 2 => ∃ pre rest, w.heap[m.blk i]? = some (.cells (pre ++ renL m l ++ rest).toArray e (0, 0)) ∧ pre.length = m.sh i ∧ l.length + rest.length = m.cp i * n

def BlkOk (m : Nm) (i : Nat) (w : World) : Blk → Prop
  | .inl (l, e, md) => RowOk m i l e w md
  | .inr (es, clock) => w.heap[m.blk i]? = some (.map (es.map (renE m)).toArray clock)

def Own : Blk → Bool
  | .inl (_, _, 1) => false
  | _ => true

structure Fits (m : Nm) (s : S) (w : World) : Prop where
  ok : ∀ i b, lk s.h i = some b → BlkOk m i w b
  inj : ∀ i j b c, lk s.h i = some b → lk s.h j = some c → i ≠ j → Own b = true → m.blk i ≠ m.blk j
  bd : ∀ i b, lk s.h i = some b → i < s.nx

def Agree (n : Nat) (m m' : Nm) : Prop := ∀ i, i < n → m'.blk i = m.blk i ∧ m'.sh i = m.sh i ∧ m'.cp i = m.cp i
theorem Agree.refl (n : Nat) (m : Nm) : Agree n m m := fun _ _ => ⟨rfl, rfl, rfl⟩
theorem Agree.trans {n k : Nat} {a b c : Nm} (h : Agree n a b) (h' : Agree k b c) (hk : n ≤ k) : Agree n a c := fun i hi => by
  obtain ⟨a1, a2, a3⟩ := h i hi
  obtain ⟨b1, b2, b3⟩ := h' i (by omega)
  exact ⟨b1.trans a1, b2.trans a2, b3.trans a3⟩
theorem Agree.mono {n k : Nat} {a b : Nm} (h : Agree n a b) (hk : k ≤ n) : Agree k a b := fun i hi => h i (by omega)

def FitsS (m : Nm) (s : S) (w : World) : Prop := ∀ m', Agree s.nx m m' → Fits m' s w
def RelS (m : Nm) (n : Nat) (v cv : Value) : Prop := ∀ m', Agree n m m' → ren m' v = cv
def RelL (m : Nm) (n : Nat) (v cv : List Value) : Prop := ∀ m', Agree n m m' → renL m' v = cv

theorem FitsS.fits {m : Nm} {s : S} {w : World} (h : FitsS m s w) : Fits m s w := h m (Agree.refl _ _)
theorem RelS.at {m : Nm} {n : Nat} {v cv : Value} (h : RelS m n v cv) : ren m v = cv := h m (Agree.refl _ _)
theorem RelL.at {m : Nm} {n : Nat} {v cv : List Value} (h : RelL m n v cv) : renL m v = cv := h m (Agree.refl _ _)
theorem RelS.ext {m m' : Nm} {n n' : Nat} {v cv : Value} (h : RelS m n v cv) (ha : Agree n m m') (hn : n ≤ n') : RelS m' n' v cv :=
  fun k hk => h k (ha.trans hk hn)
theorem RelL.ext {m m' : Nm} {n n' : Nat} {v cv : List Value} (h : RelL m n v cv) (ha : Agree n m m') (hn : n ≤ n') : RelL m' n' v cv :=
  fun k hk => h k (ha.trans hk hn)

def Owns (m : Nm) (s : S) (b : Nat) : Prop := ∃ i c, lk s.h i = some c ∧ Own c = true ∧ m.blk i = b

structure Adv (m : Nm) (s : S) (w : World) (m₁ : Nm) (s₁ : S) (w₁ : World) : Prop where
  agree : Agree s.nx m m₁
  nx : s.nx ≤ s₁.nx
  fits : FitsS m₁ s₁ w₁
  own : ∀ b, Owns m₁ s₁ b → Owns m s b ∨ w.heap.size ≤ b
  same : ∀ b, b < w.heap.size → ¬ Owns m s b → w₁.heap[b]? = w.heap[b]?
  size : w.heap.size ≤ w₁.heap.size
  os : w₁.os = w.os
  tape : w₁.tape = w.tape
  output : w₁.output = w.output
  drawn : w.drawn ≤ w₁.drawn

theorem Adv.refl {m : Nm} {s : S} {w : World} (h : FitsS m s w) : Adv m s w m s w :=
  ⟨Agree.refl _ _, Nat.le_refl _, h, fun _ h => .inl h, fun _ _ _ => rfl, Nat.le_refl _, rfl, rfl, rfl, Nat.le_refl _⟩
theorem Adv.trans {m m₁ m₂ : Nm} {s s₁ s₂ : S} {w w₁ w₂ : World} (h : Adv m s w m₁ s₁ w₁) (k : Adv m₁ s₁ w₁ m₂ s₂ w₂) : Adv m s w m₂ s₂ w₂ := by
  refine ⟨h.agree.trans k.agree h.nx, Nat.le_trans h.nx k.nx, k.fits, fun b hb => ?_, fun b hb hn => ?_, Nat.le_trans h.size k.size, k.os.trans h.os, k.tape.trans h.tape, k.output.trans h.output, Nat.le_trans h.drawn k.drawn⟩
  · rcases k.own b hb with h1 | h1
    · exact h.own b h1
    · exact .inr (Nat.le_trans h.size h1)
  · have h1 : ¬ Owns m₁ s₁ b := fun ho => by
      rcases h.own b ho with h2 | h2
      · exact hn h2
      · omega
    rw [k.same b (Nat.lt_of_lt_of_le hb h.size) h1, h.same b hb hn]

/-- from no heap at all: nothing that was there has turned -/
theorem Adv.below {m m₁ : Nm} {s s₁ : S} {w w₁ : World} (h : Adv m s w m₁ s₁ w₁) (hs : ∀ b, ¬ Owns m s b) : RowKit.Below w.heap.size w w₁ :=
  ⟨h.os, h.tape, h.output, h.size, fun k hk => h.same k hk (hs k)⟩

theorem Fits.size {m : Nm} {s : S} {w : World} (h : Fits m s w) {i : Nat} {b : Blk} (hb : lk s.h i = some b) : m.blk i < w.heap.size := by
  have := h.ok i b hb
  rcases Nat.lt_or_ge (m.blk i) w.heap.size with hl | hg
  · exact hl
  · exfalso
    rcases b with ⟨l, e, md⟩ | ⟨es, clock⟩
    · rcases md with _ | _ | n
      · simp [BlkOk, RowOk, Array.getElem?_eq_none hg] at this
      · simp [BlkOk, RowOk, Array.getElem?_eq_none hg] at this
      · simp [BlkOk, RowOk, Array.getElem?_eq_none hg] at this
    · simp [BlkOk, Array.getElem?_eq_none hg] at this

theorem fitsS_draw {m : Nm} {s : S} {w : World} (n : Nat) (h : FitsS m s w) : FitsS m s { w with drawn := n } := fun m' ha => by
  obtain ⟨h1, h2, h3⟩ := h m' ha
  refine ⟨fun i b hb => ?_, h2, h3⟩
  have := h1 i b hb
  rcases b with ⟨l, e, md⟩ | ⟨es, clock⟩
  · rcases md with _ | _ | n <;> exact this
  · exact this

theorem Adv.draw {m : Nm} {s : S} {w : World} (n : Nat) (h : FitsS m s w) (hn : w.drawn ≤ n := by exact Nat.le_succ _) : Adv m s w m s { w with drawn := n } :=
  ⟨Agree.refl _ _, Nat.le_refl _, fitsS_draw n h, fun _ h => .inl h, fun _ _ _ => rfl, Nat.le_refl _, rfl, rfl, rfl, hn⟩

/-- names with one more -/
def Nm.set (m : Nm) (i b sh cp : Nat) : Nm :=
  { blk := fun j => if j = i then b else m.blk j, sh := fun j => if j = i then sh else m.sh j, cp := fun j => if j = i then cp else m.cp j }
theorem Nm.agree_set (m : Nm) (i b sh cp : Nat) : Agree i m (m.set i b sh cp) := fun j hj => by
  simp [Nm.set, show j ≠ i by omega]

/-- what is said of a block hangs on that block of the world alone -/
theorem BlkOk.world {m : Nm} {i : Nat} {w w' : World} {b : Blk} (h : BlkOk m i w b) (hw : w'.heap[m.blk i]? = w.heap[m.blk i]?) : BlkOk m i w' b := by
  rcases b with ⟨l, e, md⟩ | ⟨es, clock⟩
  · rcases md with _ | _ | n <;> (simp only [BlkOk, RowOk] at *; rw [hw]; exact h)
  · simp only [BlkOk] at *; rw [hw]; exact h

/-- A NEW BLOCK: whatever object stands for the symbolic block under every naming that goes on from here. -/
theorem Adv.alloc {m : Nm} {s : S} {w : World} (h : FitsS m s w) (o : Obj) (b : Blk) (cp : Nat)
    (hb : ∀ m', Agree (s.nx + 1) (m.set s.nx w.heap.size 0 cp) m' → BlkOk m' s.nx (w.alloc o) b) :
    Adv m s w (m.set s.nx w.heap.size 0 cp) ⟨(s.nx, b) :: s.h, s.nx + 1⟩ (w.alloc o) := by
  have hold : ∀ k, k < w.heap.size → (w.alloc o).heap[k]? = w.heap[k]? := fun k hk => RowKit.Below.heap_alloc w o k hk
  refine ⟨Nm.agree_set m _ _ _ _, Nat.le_succ _, ?_, ?_, fun b hb _ => hold b hb, by simp, rfl, rfl, rfl, ?_⟩
  · intro m' ha
    have ha' : Agree s.nx m m' := (Nm.agree_set m s.nx w.heap.size 0 cp).trans ha (Nat.le_succ _)
    have hf := h m' ha'
    have hnew : m'.blk s.nx = w.heap.size := by have := (ha s.nx (Nat.lt_succ_self _)).1; simpa [Nm.set] using this
    refine ⟨fun i c hc => ?_, fun i j c d hc hd hij ho => ?_, fun i c hc => ?_⟩
    · simp only [lk_cons] at hc
      by_cases e : s.nx = i
      · subst e; simp only [if_true, Option.some.injEq] at hc; subst hc; exact hb m' ha
      · simp only [e, if_false] at hc
        exact (hf.ok i c hc).world (hold _ (hf.size hc))
    · simp only [lk_cons] at hc hd
      by_cases e : s.nx = i
      · subst e
        have hj : s.nx ≠ j := hij
        simp only [hj, if_false] at hd
        have := hf.size hd
        omega
      · simp only [e, if_false] at hc
        by_cases e2 : s.nx = j
        · subst e2
          have := hf.size hc
          omega
        · simp only [e2, if_false] at hd
          exact hf.inj i j c d hc hd hij ho
    · simp only [lk_cons] at hc
      by_cases e : s.nx = i
      · subst e; exact Nat.lt_succ_self _
      · simp only [e, if_false] at hc
        exact Nat.lt_succ_of_lt (hf.bd i c hc)
  · rintro b ⟨i, c, hc, ho, rfl⟩
    simp only [lk_cons] at hc
    by_cases e : s.nx = i
    · subst e; right; simp [Nm.set]
    · simp only [e, if_false] at hc
      left
      refine ⟨i, c, hc, ho, ?_⟩
      have := h.fits.bd i c hc
      simp [Nm.set, show i ≠ s.nx by omega]
  · exact Nat.le_refl _

/-- A BLOCK OF ITS OWN IS WRITTEN: the world differs at that block alone. -/
theorem Adv.write {m : Nm} {s : S} {w w' : World} (h : FitsS m s w) {i : Nat} {b c : Blk} (hb : lk s.h i = some b) (hob : Own b = true)
    (hw : ∀ k, k ≠ m.blk i → w'.heap[k]? = w.heap[k]?) (hsz : w'.heap.size = w.heap.size) (h1 : w'.os = w.os) (h2 : w'.tape = w.tape) (h3 : w'.output = w.output) (h4 : w.drawn ≤ w'.drawn)
    (hc : ∀ m', Agree s.nx m m' → BlkOk m' i w' c) :
    Adv m s w m ⟨up s.h i c, s.nx⟩ w' := by
  refine ⟨Agree.refl _ _, Nat.le_refl _, ?_, ?_, ?_, by omega, h1, h2, h3, h4⟩
  · intro m' ha
    have hf := h m' ha
    have hbi : m'.blk i = m.blk i := (ha i (hf.bd i b hb)).1
    refine ⟨fun j d hd => ?_, fun j k d e hd he hjk ho => ?_, fun j d hd => ?_⟩
    · simp only [lk_up] at hd
      by_cases e : i = j
      · subst e; simp only [if_true, hb, Option.map_some, Option.some.injEq] at hd; subst hd; exact hc m' ha
      · simp only [e, if_false] at hd
        refine (hf.ok j d hd).world (hw _ ?_)
        rw [← hbi]
        exact fun x => hf.inj i j b d hb hd e hob x.symm
    · have key : ∀ j d, lk (up s.h i c) j = some d → ∃ d', lk s.h j = some d' ∧ (Own d = true → Own d' = true) := fun j d hd => by
        simp only [lk_up] at hd
        by_cases e : i = j
        · subst e; exact ⟨b, hb, fun _ => hob⟩
        · simp only [e, if_false] at hd; exact ⟨d, hd, id⟩
      obtain ⟨d', hd', od⟩ := key j d hd
      obtain ⟨e', he', _⟩ := key k e he
      exact hf.inj j k d' e' hd' he' hjk (od ho)
    · simp only [lk_up] at hd
      by_cases e : i = j
      · subst e; exact hf.bd i b hb
      · simp only [e, if_false] at hd; exact hf.bd j d hd
  · rintro k ⟨j, d, hd, ho, rfl⟩
    left
    simp only [lk_up] at hd
    by_cases e : i = j
    · subst e; exact ⟨i, b, hb, hob, rfl⟩
    · simp only [e, if_false] at hd; exact ⟨j, d, hd, ho, rfl⟩
  · intro k hk hn
    exact hw k fun e => hn ⟨i, b, hb, hob, e.symm⟩

/-- A BLOCK IS FORGOTTEN. -/
theorem Adv.forget {m : Nm} {s : S} {w : World} (h : FitsS m s w) (i : Nat) : Adv m s w m ⟨rm s.h i, s.nx⟩ w := by
  have key : ∀ j d, lk (rm s.h i) j = some d → lk s.h j = some d := fun j d hd => by
    simp only [lk_rm] at hd
    by_cases e : i = j
    · simp [e] at hd
    · simpa [e] using hd
  refine ⟨Agree.refl _ _, Nat.le_refl _, fun m' ha => ?_, ?_, fun _ _ _ => rfl, Nat.le_refl _, rfl, rfl, rfl, ?_⟩
  · have hf := h m' ha
    exact ⟨fun j d hd => hf.ok j d (key j d hd), fun j k d e hd he => hf.inj j k d e (key j d hd) (key k e he), fun j d hd => hf.bd j d (key j d hd)⟩
  · rintro k ⟨j, d, hd, ho, rfl⟩
    exact .inl ⟨j, d, key j d hd, ho, rfl⟩
  · exact Nat.le_refl _

end Go.Rx
