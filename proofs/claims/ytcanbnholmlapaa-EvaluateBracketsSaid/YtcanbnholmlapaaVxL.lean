/-
  VxL: what comes in: data of a world as trees; a law's call.
-/
import Derived.Test.YtcanbnholmlapaaVxK
import GoSem.ClaimChange
namespace Go.Vx
open Go Go.Rx
set_option linter.unusedVariables false

mutual
/-- a tree and a value of a world -/
def Rep (W : World) : U → Value → Prop
  | .bool b, v => v = .bool b
  | .int k n, v => v = .int k n
  | .str l, v => v = .string ⟨⟨l⟩⟩
  | .isl t l, v => t = false ∧ ((l = [] ∧ (v = .slice none 0 0 ∨ ∃ b off p, v = .slice (some ⟨b, off, some p⟩) 0 0)) ∨ ∃ b off c, v = .slice (some ⟨b, off, none⟩) l.length c ∧ c < capBase ∧ l.length ≤ c ∧
      (l = [] ∨ ∃ cs e fr sz, W.heap[b]? = some (.cells cs e fr) ∧ RepR W sz l (cs.toList.drop off)))
  | .agg l, v => ∃ vs, v = .agg ⟨vs⟩ ∧ RepP W l vs ∧ l.length = vs.length ∧ okL l = true
  | _, _ => False
def RepP (W : World) : List U → List Value → Prop
  | [], _ => True
  | u :: us, vs => match vs with
    | [] => False
    | v :: vs => Rep W u v ∧ RepP W us vs
def RepR (W : World) (sz : Nat) : List (List U) → List Value → Prop
  | [], _ => True
  | c :: cs, vs => c.length = sz ∧ okL c = true ∧ RepP W c vs ∧ RepR W sz cs (vs.drop sz)
end
def cx (s : S) : Cx := ⟨fun _ => none, ⟨[], 0⟩, s⟩
def NoOwn (s : S) : Prop := ∀ i b, lk s.h i = some b → Own b = false
structure Grow (m : Nm) (s : S) (m' : Nm) (s' : S) : Prop where
  agree : Agree s.nx m m'
  nx : s.nx ≤ s'.nx
  rows : ∀ i b, lk s.h i = some b → lk s'.h i = some b
theorem Grow.refl (m : Nm) (s : S) : Grow m s m s := ⟨Agree.refl _ _, Nat.le_refl _, fun _ _ h => h⟩
theorem Grow.trans {m m' m'' : Nm} {s s' s'' : S} (h : Grow m s m' s') (h' : Grow m' s' m'' s'') : Grow m s m'' s'' := ⟨h.agree.trans h'.agree h.nx, Nat.le_trans h.nx h'.nx, fun i b hb => h'.rows i b (h.rows i b hb)⟩
theorem Grow.mo {m m' : Nm} {s s' : S} (h : Grow m s m' s') : Mo 0 (cx s) (cx s') := ⟨fun k hk => by omega, fun i row e hl => h.rows i _ hl⟩
theorem Grow.rel {m m' : Nm} {s s' : S} (h : Grow m s m' s') {u : U} {v : Value} (hr : Rel (cx s) u v) : Rel (cx s') u v := h.mo.ke u v (Rel.bel _ _ hr) hr
theorem Grow.relE {m m' : Nm} {s s' : S} (h : Grow m s m' s') {l : List U} {vs : List Value} (hr : RelE (cx s) l vs) : RelE (cx s') l vs := h.mo.ke.E hr.bel hr
theorem relL_nil (m : Nm) (n : Nat) : RelL m n [] [] := fun _ _ => by simp [renL]
theorem relL_cons {m : Nm} {n : Nat} {v cv : Value} {vs cvs : List Value} (h : RelS m n v cv) (h' : RelL m n vs cvs) : RelL m n (v :: vs) (cv :: cvs) := fun m' ha => by simp [renL, h m' ha, h' m' ha]
theorem relR_of_flat {x : Cx} {sz : Nat} : ∀ {l : List (List U)} {vs : List Value}, RelE x l.flatten vs → (∀ c ∈ l, c.length = sz ∧ okL c = true) → RelR x sz l vs
  | [], vs, h, hs => by simp [RelR]
  | c :: l, vs, h, hs => by
    obtain ⟨h1, h2⟩ := hs c (by simp)
    simp only [RelR]
    rw [List.flatten_cons] at h
    refine ⟨h1, h2, ?_, relR_of_flat (by have := h.drop sz; rwa [List.drop_append_of_le_length (by omega), List.drop_of_length_le (by omega), List.nil_append] at this) fun d hd => hs d (by simp [hd])⟩
    rw [relP_iff]
    intro i u hu
    have hlt : i < c.length := (List.getElem?_eq_some_iff.1 hu).1
    exact h.get (by rw [List.getElem?_append_left hlt]; exact hu)
theorem repR_all {W : World} {sz : Nat} : ∀ {l : List (List U)} {vs : List Value}, RepR W sz l vs → ∀ c ∈ l, c.length = sz ∧ okL c = true
  | [], vs, h => by simp
  | d :: l, vs, h => fun c hc => by
    simp only [RepR] at h
    rcases List.mem_cons.1 hc with rfl | hc
    · exact ⟨h.1, h.2.1⟩
    · exact repR_all h.2.2.2 c hc

def Got (W : World) (m : Nm) (s : S) (u : U) (cv : Value) : Prop := ∃ m' s' v, Grow m s m' s' ∧ FitsS m' s' W ∧ NoOwn s' ∧ (∀ i b, lk s'.h i = some b → i < s'.nx) ∧ RelS m' s'.nx v cv ∧ Rel (cx s') u v
def GotL (W : World) (m : Nm) (s : S) (us : List U) (cvs : List Value) : Prop := ∃ m' s' vs, Grow m s m' s' ∧ FitsS m' s' W ∧ NoOwn s' ∧ (∀ i b, lk s'.h i = some b → i < s'.nx) ∧ RelL m' s'.nx vs cvs ∧ RelE (cx s') us vs
mutual
theorem rep_ok {W : World} : (u : U) → (cv : Value) → Rep W u cv → ∀ m s, FitsS m s W → NoOwn s → (∀ i b, lk s.h i = some b → i < s.nx) → Got W m s u cv
  | .bool b, cv, h, m, s, hf, hn, hbd => by
    simp only [Rep] at h; subst h
    exact ⟨m, s, .bool b, Grow.refl _ _, hf, hn, hbd, relS_refl fun _ => by simp [ren], by simp [Rel]⟩
  | .int k n, cv, h, m, s, hf, hn, hbd => by
    simp only [Rep] at h; subst h
    exact ⟨m, s, .int k n, Grow.refl _ _, hf, hn, hbd, relS_refl fun _ => by simp [ren], by simp [Rel]⟩
  | .str l, cv, h, m, s, hf, hn, hbd => by
    simp only [Rep] at h; subst h
    exact ⟨m, s, _, Grow.refl _ _, hf, hn, hbd, relS_refl fun _ => by simp [ren], by simp [Rel]⟩
  | .agg l, cv, h, m, s, hf, hn, hbd => by
    simp only [Rep] at h
    obtain ⟨cvs, rfl, h1, h2, h3⟩ := h
    obtain ⟨m', s', vs, g1, g2, g3, g4, g5, g6⟩ := repP_ok l cvs h1 m s hf hn hbd
    rw [h2, List.take_length] at g5
    exact ⟨m', s', .agg ⟨vs⟩, g1, g2, g3, g4, fun m'' ha => by simp [ren, g5 m'' ha], by simp only [Rel]; exact ⟨vs, rfl, g6.1, g6.2, h3⟩⟩
  | .isl t l, cv, h, m, s, hf, hn, hbd => by
    simp only [Rep] at h
    obtain ⟨rfl, h⟩ := h
    rcases h with ⟨rfl, rfl | ⟨b, off, p, rfl⟩⟩ | ⟨b, off, c, rfl, hc, hlc, h⟩
    · exact ⟨m, s, .slice none 0 0, Grow.refl _ _, hf, hn, hbd, relS_refl fun _ => by simp [ren], by simp [Rel]⟩
    · refine ⟨m.set s.nx b off p, ⟨s.h, s.nx + 1⟩, .chan (some s.nx), ⟨Nm.agree_set _ _ _ _ _, Nat.le_succ _, fun _ _ h => h⟩, (Adv.ghost hf b off p).fits, hn, fun i b hb => Nat.lt_succ_of_lt (hbd i b hb), fun m' ha => ?_, by simp [Rel]⟩
      obtain ⟨q1, q2, q3⟩ := ha s.nx (Nat.lt_succ_self _)
      simp [ren, q1, q2, q3, Nm.set]
    · by_cases hl : l = []
      · subst hl
        -- an empty slice: a name for its place
        refine ⟨m.set s.nx b off 0, ⟨s.h, s.nx + 1⟩, .slice (some ⟨s.nx, 0, none⟩) 0 c, ⟨Nm.agree_set _ _ _ _ _, Nat.le_succ _, fun _ _ h => h⟩, (Adv.ghost hf b off 0).fits, hn, fun i b hb => Nat.lt_succ_of_lt (hbd i b hb), fun m' ha => ?_, ?_⟩
        · obtain ⟨q1, q2, _⟩ := ha s.nx (Nat.lt_succ_self _)
          simp [ren, q1, q2, Nm.set, capOf, hc]
        · simp only [Rel]
          exact .inr ⟨s.nx, 0, c, rfl, by simp, .inl trivial⟩
      · rcases h with h | ⟨cs, e, fr, sz, hw, hr⟩
        · exact absurd h hl
        · obtain ⟨m', s', vs, g1, g2, g3, g4, g5, g6⟩ := repR_ok l _ hr m s hf hn hbd
          have hall := repR_all hr
          have hnew : ∀ m'', Agree (s'.nx + 1) (m'.set s'.nx b off 0) m'' → Agree s'.nx m' m'' := fun m'' ha => (Nm.agree_set m' s'.nx b off 0).trans ha (Nat.le_succ _)
          have hat : ∀ m'', Agree (s'.nx + 1) (m'.set s'.nx b off 0) m'' → m''.blk s'.nx = b ∧ m''.sh s'.nx = off := fun m'' ha => by
            obtain ⟨q1, q2, _⟩ := ha s'.nx (Nat.lt_succ_self _)
            simp [Nm.set] at q1 q2
            exact ⟨q1, q2⟩
          refine ⟨m'.set s'.nx b off 0, ⟨(s'.nx, .inl (vs, 0, 1)) :: s'.h, s'.nx + 1⟩, .slice (some ⟨s'.nx, 0, none⟩) l.length c, g1.trans ⟨Nm.agree_set _ _ _ _ _, Nat.le_succ _, fun i b hb => ?_⟩, fun m'' ha => ⟨fun i d hd => ?_, fun i j d d' hd hd' hij ho => ?_, fun i d hd => ?_⟩, fun i d hd => ?_, fun i d hd => ?_, fun m'' ha => ?_, ?_⟩
          · have := g4 i b hb
            simp [lk_cons, show s'.nx ≠ i by omega, hb]
          · simp only [lk_cons] at hd
            split at hd
            · rename_i e; subst e; cases hd
              obtain ⟨q1, q2⟩ := hat m'' ha
              refine ⟨cs, e, fr, by rw [q1]; exact hw, fun k v hk => ?_, fun n hn => absurd hn (by simp)⟩
              have := congrArg (fun z => z[k]?) (g5 m'' (hnew m'' ha))
              simp only [renL_eq, List.getElem?_map, hk, Option.map_some, List.getElem?_take, List.getElem?_drop] at this
              split at this
              · rw [q2]; simpa using this.symm
              · cases this
            · exact (g2 m'' (hnew m'' ha)).ok i d hd
          · simp only [lk_cons] at hd hd'
            split at hd
            · cases hd; simp [Own] at ho
            · rw [g3 i d hd] at ho; cases ho
          · simp only [lk_cons] at hd
            split at hd
            · show i < s'.nx + 1; omega
            · exact Nat.lt_succ_of_lt (g4 i d hd)
          · simp only [lk_cons] at hd
            split at hd
            · cases hd; rfl
            · exact g3 i d hd
          · simp only [lk_cons] at hd
            split at hd
            · show i < s'.nx + 1; omega
            · exact Nat.lt_succ_of_lt (g4 i d hd)
          · obtain ⟨q1, q2⟩ := hat m'' ha
            simp [ren, q1, q2, capOf, hc]
          · have hg : Grow m' s' (m'.set s'.nx b off 0) ⟨(s'.nx, .inl (vs, 0, 1)) :: s'.h, s'.nx + 1⟩ := ⟨Nm.agree_set _ _ _ _ _, Nat.le_succ _, fun i b hb => by have := g4 i b hb; simp [lk_cons, show s'.nx ≠ i by omega, hb]⟩
            simp only [Rel]
            exact .inr ⟨s'.nx, 0, c, rfl, by simp, .inr ⟨vs, 0, sz, by simp [cx, lk_cons], relR_of_flat (hg.relE g6) hall, .inl ⟨hc, hlc⟩⟩⟩
  | .junk, cv, h, m, s, hf, hn, hbd => by simp [Rep] at h
  | .nilp, cv, h, m, s, hf, hn, hbd => by simp [Rep] at h
  | .ptr _ _ _, cv, h, m, s, hf, hn, hbd => by simp [Rep] at h
  | .iptr _, cv, h, m, s, hf, hn, hbd => by simp [Rep] at h
  | .nils, cv, h, m, s, hf, hn, hbd => by simp [Rep] at h
  | .sl _ _ _ _, cv, h, m, s, hf, hn, hbd => by simp [Rep] at h
  | .vl _ _ _ _, cv, h, m, s, hf, hn, hbd => by simp [Rep] at h
  | .nilm, cv, h, m, s, hf, hn, hbd => by simp [Rep] at h
  | .map _, cv, h, m, s, hf, hn, hbd => by simp [Rep] at h
  | .fn _ _ _, cv, h, m, s, hf, hn, hbd => by simp [Rep] at h
  | .nilf, cv, h, m, s, hf, hn, hbd => by simp [Rep] at h
  | .nili, cv, h, m, s, hf, hn, hbd => by simp [Rep] at h
  | .tup _, cv, h, m, s, hf, hn, hbd => by simp [Rep] at h
theorem repP_ok {W : World} : (us : List U) → (cvs : List Value) → RepP W us cvs → ∀ m s, FitsS m s W → NoOwn s → (∀ i b, lk s.h i = some b → i < s.nx) → GotL W m s us (cvs.take us.length)
  | [], cvs, h, m, s, hf, hn, hbd => ⟨m, s, [], Grow.refl _ _, hf, hn, hbd, by simpa using relL_nil m s.nx, RelE.nil _⟩
  | u :: us, [], h, m, s, hf, hn, hbd => by simp [RepP] at h
  | u :: us, cv :: cvs, h, m, s, hf, hn, hbd => by
    simp only [RepP] at h
    obtain ⟨m', s', v, g1, g2, g3, g4, g5, g6⟩ := rep_ok u cv h.1 m s hf hn hbd
    obtain ⟨m'', s'', vs, k1, k2, k3, k4, k5, k6⟩ := repP_ok us cvs h.2 m' s' g2 g3 g4
    exact ⟨m'', s'', v :: vs, g1.trans k1, k2, k3, k4, by simpa using relL_cons (g5.ext k1.agree k1.nx) k5, RelE.cons (k1.rel g6) k6⟩
theorem repR_ok {W : World} {sz : Nat} : (l : List (List U)) → (cvs : List Value) → RepR W sz l cvs → ∀ m s, FitsS m s W → NoOwn s → (∀ i b, lk s.h i = some b → i < s.nx) → GotL W m s l.flatten (cvs.take (l.length * sz))
  | [], cvs, h, m, s, hf, hn, hbd => ⟨m, s, [], Grow.refl _ _, hf, hn, hbd, by simpa using relL_nil m s.nx, RelE.nil _⟩
  | c :: l, cvs, h, m, s, hf, hn, hbd => by
    simp only [RepR] at h
    obtain ⟨m', s', v, g1, g2, g3, g4, g5, g6⟩ := repP_ok c cvs h.2.2.1 m s hf hn hbd
    obtain ⟨m'', s'', vs, k1, k2, k3, k4, k5, k6⟩ := repR_ok l _ h.2.2.2 m' s' g2 g3 g4
    refine ⟨m'', s'', v ++ vs, g1.trans k1, k2, k3, k4, ?_, by rw [List.flatten_cons]; exact (k1.relE g6).append k6⟩
    have e : cvs.take ((c :: l).length * sz) = cvs.take c.length ++ (cvs.drop sz).take (l.length * sz) := by
      rw [List.length_cons, Nat.succ_mul, Nat.add_comm, List.take_add, h.1]
    rw [e]
    exact (g5.ext k1.agree k1.nx).append k5
end

/-- A LAW's CALL: walked over trees, it returns true in the world, and of what was there nothing has turned -/
theorem law_calls {P : Program} {f : FuncId} {us : List U} {W : World} {args : List Value} (h : EvU P f us ⟨[], 0⟩ (fun u _ => u = .bool true)) (hr : RepP W us args) (hl : us.length = args.length) :
    Calls P f args.toArray W fun e w' => e = .returned (.bool true) ∧ RowKit.Below W.heap.size W w' := by
  have h0 : FitsS ⟨id, id, id⟩ ⟨[], 0⟩ W := fun m' _ => ⟨fun i b hb => by simp [lk] at hb, fun i j b c hb => by simp [lk] at hb, fun i b hb => by simp [lk] at hb⟩
  obtain ⟨m, s, vs, g1, g2, g3, g4, g5, g6⟩ := repP_ok us args hr ⟨id, id, id⟩ ⟨[], 0⟩ h0 (fun i b hb => by simp [lk] at hb) (fun i b hb => by simp [lk] at hb)
  rw [hl, List.take_length] at g5
  refine (h (fun _ _ => False) (cx s) vs m W args rfl ⟨fun k b hb => by simp [cx, gt] at hb, fun k k' b b' i hb => by simp [cx, gt] at hb, g4⟩ (fun _ _ hF => hF.elim) g6 g2 g5).mono ?_
  rintro e w' ⟨y, m₁, u, v, cv, rfl, rfl, hadv, hrel, _, _, hru, _, _⟩
  simp only [Rel] at hru
  subst hru
  have := hrel.at
  simp only [ren] at this
  exact ⟨by rw [← this], hadv.below fun b ⟨i, c, hc, ho, _⟩ => by rw [g3 i c hc] at ho; cases ho⟩

/- DATA OF A TYPE -/
/-- cells of a type, as trees -/
def OfTy (P : Program) : Nat → TypeId → List U → Prop
  | 0, _, _ => False
  | n + 1, t, us => match P.underlying t with
    | some .bool => ∃ b, us = [.bool b]
    | some (.int k) => ∃ i, us = [.int k i] ∧ (Lit.int k i).wf = true
    | some .string => ∃ s, us = [.str s] ∧ s.length ≤ maxLen
    | some (.slice e) => ∃ l, us = [.isl false l] ∧ l.length ≤ maxLen ∧ ∀ c ∈ l, OfTy P n e c
    | some (.struct fs) => us.length = P.cellsOf t ∧ ∀ f ∈ fs.toList, OfTy P n f.type ((us.drop f.offset).take (P.cellsOf f.type))
    | some (.array k e) => us.length = P.cellsOf t ∧ ∀ i, i < k → OfTy P n e ((us.drop (i * P.cellsOf e)).take (P.cellsOf e))
    | _ => False
end Go.Vx
