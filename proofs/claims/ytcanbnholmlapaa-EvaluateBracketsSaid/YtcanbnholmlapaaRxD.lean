/-
  RxD: the operations that look into no heap, one by one, and together.
-/
import Derived.Test.YtcanbnholmlapaaRxC
namespace Go.Rx
open Go

theorem evalO_ok {m : Nm} {tm : List Value} {a : Act} (ha : a.tmps = ⟨renL m tm⟩) {x : Operand} {v : Value} (h : evalO tm x = some v) : a.eval x = ren m v := by
  cases x with
  | tmp t =>
    simp only [evalO, nth_eq] at h
    simp [Act.eval, ha, renL_eq, h]
  | const c =>
    simp only [evalO] at h
    cases hp : plain c with
    | false => simp [hp] at h
    | true => simp [hp] at h; subst h; simp [Act.eval, ren_plain m c hp]
  | func f => simp [evalO] at h; subst h; simp [Act.eval, ren, renL]
  | global g => simp [evalO] at h
theorem evalL_ok {m : Nm} {tm : List Value} {a : Act} (ha : a.tmps = ⟨renL m tm⟩) {l : List Operand} {vs : List Value} (h : evalL tm l = some vs) : l.map a.eval = renL m vs := by
  induction l generalizing vs with
  | nil => simp [evalL] at h; subst h; simp [renL]
  | cons x l ih =>
    simp only [evalL] at h
    cases hx : evalO tm x with
    | none => simp [hx] at h
    | some v =>
      cases hl : evalL tm l with
      | none => simp [hx, hl] at h
      | some r => simp [hx, hl] at h; subst h; simp [renL, evalO_ok ha hx, ih hl]
theorem evalA_ok {m : Nm} {tm : List Value} {a : Act} (ha : a.tmps = ⟨renL m tm⟩) {l : Array Operand} {vs : List Value} (h : evalL tm l.toList = some vs) : l.map a.eval = ⟨renL m vs⟩ := by
  rw [← evalL_ok ha h]
  cases l; simp
theorem evalP_ok {m : Nm} {tm : List Value} {a : Act} (ha : a.tmps = ⟨renL m tm⟩) {l : List (Nat × Operand)} {vs : List (Nat × Value)} (h : evalP tm l = some vs) :
    l.map (fun p => (p.1, a.eval p.2)) = vs.map (fun p => (p.1, ren m p.2)) := by
  induction l generalizing vs with
  | nil => simp [evalP] at h; subst h; simp
  | cons x l ih =>
    obtain ⟨i, x⟩ := x
    simp only [evalP] at h
    cases hx : evalO tm x with
    | none => simp [hx] at h
    | some v =>
      cases hl : evalP tm l with
      | none => simp [hx, hl] at h
      | some r => simp [hx, hl] at h; subst h; simp [evalO_ok ha hx, ih hl]
theorem evalM_ok {m : Nm} {tm : List Value} {a : Act} (ha : a.tmps = ⟨renL m tm⟩) {x : Option Operand} {v : Option Value} (h : evalM tm x = some v) : x.map a.eval = v.map (ren m) := by
  cases x with
  | none => simp [evalM] at h; subst h; rfl
  | some x =>
    simp only [evalM] at h
    cases hx : evalO tm x with
    | none => simp [hx] at h
    | some u => simp [hx] at h; subst h; simp [evalO_ok ha hx]

theorem eqGuard_free (op : BinOp) (t : TypeId) (x y : Operand) (u v : Value) (h1 : ∀ a b, ¬ (u = .agg a ∧ v = .agg b)) (h2 : ¬ (u = .nilIface ∧ v = .nilIface)) : eqGuard op t x y u v = pure () := by
  cases op <;> simp only [eqGuard] <;> first
    | rfl
    | (simp only [Bool.not_true, Bool.false_eq_true, if_false]
       split
       · simp_all
       · simp_all
       · rfl)
theorem ren_agg {m : Nm} {v : Value} {c : Array Value} (h : ren m v = .agg c) : ∃ d, v = .agg d := by
  cases v with
  | pointer a => cases a <;> simp [ren] at h
  | slice a n c => cases a <;> simp [ren] at h
  | map r => cases r <;> simp [ren] at h
  | chan r => cases r <;> simp [ren] at h
  | agg d => exact ⟨d, rfl⟩
  | _ => simp [ren] at h
theorem ren_nilIface {m : Nm} {v : Value} (h : ren m v = .nilIface) : v = .nilIface := by
  cases v with
  | pointer a => cases a <;> simp [ren] at h
  | slice a n c => cases a <;> simp [ren] at h
  | map r => cases r <;> simp [ren] at h
  | chan r => cases r <;> simp [ren] at h
  | nilIface => rfl
  | _ => simp [ren] at h

theorem foldSet (off : Nat) : ∀ (vs : List Value) (k : Nat) (cells : List Value), off + k + vs.length ≤ cells.length →
    (vs.zipIdx k).foldl (fun (cs : Array Value) (p : Value × Nat) => cs.setIfInBounds (off + p.2) p.1) ⟨cells⟩ = ⟨cells.take (off + k) ++ vs ++ cells.drop (off + k + vs.length)⟩
  | [], k, cells, _ => by simp
  | v :: vs, k, cells, h => by
    simp only [List.length_cons] at h
    simp only [List.zipIdx_cons, List.foldl_cons, List.setIfInBounds_toArray]
    rw [foldSet off vs (k + 1) (cells.set (off + k) v) (by simp; omega)]
    congr 1
    have e1 : (cells.set (off + k) v).take (off + (k + 1)) = cells.take (off + k) ++ [v] := by
      rw [show off + (k + 1) = off + k + 1 by omega, List.take_set, List.take_succ_eq_append_getElem (by omega)]
      rw [List.set_append_right _ _ (by simp; omega)]
      simp [Nat.min_eq_left (show off + k ≤ cells.length by omega)]
    have e2 : (cells.set (off + k) v).drop (off + (k + 1) + vs.length) = cells.drop (off + k + (v :: vs).length) := by
      rw [List.drop_set_of_lt (by omega)]
      congr 1
      simp; omega
    rw [e1, e2]
    simp

theorem fill_ok (m : Nm) (place : Nat → Option (Nat × Nat)) : ∀ (ps : List (Nat × Value)) (cells r : List Value), fillX place cells ps = some r →
    Instr.fill place ⟨renL m cells⟩ (ps.map fun p => (p.1, ren m p.2)) = some ⟨renL m r⟩
  | [], cells, r, h => by simp [fillX] at h; simp [Instr.fill, h]
  | (i, v) :: ps, cells, r, h => by
    simp only [fillX] at h
    cases hp : place i with
    | none => simp [hp] at h
    | some x =>
      obtain ⟨off, size⟩ := x
      simp only [hp, beq_eq] at h
      by_cases hs : v.cells.toList.length = size
      · simp only [hs, decide_true, cond_true] at h
        cases hq : putX cells off v.cells.toList with
        | none => simp [hq] at h
        | some c =>
          simp only [hq] at h
          obtain ⟨h1, h2⟩ := putX_some hq
          have hsz : v.cells.size = size := by simpa using hs
          simp only [List.map_cons, Instr.fill, hp, cells_ren, size_renA, hsz]
          have hno : (decide (size ≠ size) || decide (off + size > (⟨renL m cells⟩ : Array Value).size)) = false := by
            simp; simp [hsz] at h1; omega
          rw [hno]
          simp only [Bool.false_eq_true, if_false]
          have hfold : ((renA m v.cells).zipIdx.foldl (fun (cs : Array Value) (p : Value × Nat) => cs.setIfInBounds (off + p.2) p.1) ⟨renL m cells⟩) = ⟨renL m c⟩ := by
            rw [← Array.foldl_toList, Array.toList_zipIdx, toList_renA, foldSet off _ 0 _ (by simp; simpa using h1)]
            rw [h2]
            simp [renL_eq, List.map_drop, List.map_take]
          exact (congrArg (fun z => Instr.fill place z (ps.map fun p => (p.1, ren m p.2))) hfold).trans (fill_ok m place ps c r h)
      · simp only [hs, decide_false, cond_false] at h; cases h

theorem eqv_shape {T : Tb} {d : Nat} {t : TypeId} {x y : Value} {r : Bool} (h : eqv T d t x y = some r) :
    (∃ a b, x = .bool a ∧ y = .bool b) ∨ (∃ k a k' b, x = .int k a ∧ y = .int k' b) ∨ (∃ a b, x = .string a ∧ y = .string b) ∨ (∃ a b, x = .pointer a ∧ y = .pointer b) ∨
    (∃ a n c b n' c', x = .slice a n c ∧ y = .slice b n' c') ∨ (∃ a b, x = .map a ∧ y = .map b) ∨ (∃ a b, x = .agg a ∧ y = .agg b) := by
  cases d with
  | zero => simp [eqv] at h
  | succ d =>
    simp only [eqv] at h
    cases hd : T.und t with
    | none => simp [hd] at h
    | some ty =>
      cases ty <;> simp only [hd] at h <;> first
        | (simp at h; done)
        | (cases x <;> cases y <;> first | (simp at h; done) | simp)

section
variable {P : Program} {T : Tb} (hT : TbOk P T) (m : Nm) (w : World)
include hT

theorem guard_ok (op : BinOp) {t : TypeId} (ox oy : Operand) {x y : Value} (h : guardX T t x y = true) : (eqGuard op t ox oy (ren m x) (ren m y)).run P w = .ok () w := by
  by_cases ha : ∃ c d, x = .agg c ∧ y = .agg d
  · obtain ⟨c, d, rfl, rfl⟩ := ha
    simp only [guardX] at h
    simp only [ren]
    exact run_eqGuard_agg w op t ox oy _ _ (hT.eqs t h).2
  · rw [eqGuard_free op t ox oy]
    · rfl
    · rintro a b ⟨h1, h2⟩
      obtain ⟨c, rfl⟩ := ren_agg h1
      obtain ⟨d, rfl⟩ := ren_agg h2
      exact ha ⟨c, d, rfl, rfl⟩
    · rintro ⟨h1, h2⟩
      rw [ren_nilIface h1, ren_nilIface h2] at h
      simp [guardX] at h

theorem equal_ok {t : TypeId} {x y : Value} {b : Bool} (h : eqv T 50 t x y = some b) : (Op.equal t (ren m x) (ren m y)).run P w = .ok b w :=
  eqv_ok hT m 50 9950 w h

theorem bin_ok (op : BinOp) {t : TypeId} (ox oy : Operand) {x y v : Value} (h : binX T op t x y = some v) :
    (do eqGuard op t ox oy (ren m x) (ren m y); binOp op t (ren m x) (ren m y) : Sem Value).run P w = .ok (ren m v) w := by
  by_cases hi : ∃ k a k' b, x = .int k a ∧ y = .int k' b
  · obtain ⟨k, a, k', b, rfl, rfl⟩ := hi
    simp only [binX] at h
    simp only [ren, eqGuard_at_int, Sem.run_bind, Sem.run_pure, Result.andThen_ok]
    by_cases hk : k = k'
    · subst hk
      cases op <;> simp [intX] at h <;> first
        | (subst h; simp [binOp, Op.intArith, Op.intBits, Op.intCmp, ren]; done)
        | (obtain ⟨h1, rfl⟩ := h; simp [binOp, Op.intDiv, Op.shift, ren, h1]; done)
        | (obtain ⟨h1, rfl⟩ := h; simp [binOp, Op.shift, ren]; omega)
    · cases op <;> simp [intX, hk] at h <;> first
        | (obtain ⟨h1, rfl⟩ := h; simp [binOp, Op.shift, ren]; omega)
  · by_cases hs : ∃ a b, x = .string a ∧ y = .string b
    · obtain ⟨a, b, rfl, rfl⟩ := hs
      simp only [binX] at h
      simp only [ren, eqGuard_at_string, Sem.run_bind, Sem.run_pure, Result.andThen_ok]
      have e1 : a.toList = a.data.toList := ByteArray.toList_eq a
      have e2 : b.toList = b.data.toList := ByteArray.toList_eq b
      cases op <;> simp [strX] at h <;> first
        | (subst h; simp [binOp, Op.stringOp, ren, e1, e2, bytesEq_eq, bytesLt_eq]; done)
        | skip
      obtain ⟨h1, rfl⟩ := h
      have h2 : ¬ ((a.size + b.size : Nat) : Int) > 9223372036854775807 := by
        have ea : a.size = a.data.size := rfl
        have eb : b.size = b.data.size := rfl
        rw [ea, eb]; omega
      simp only [binOp, Op.stringOp, IntKind.max_i64, if_neg h2, Sem.run_pure, ren]
      have e3 : a ++ b = ⟨(a.data.toList ++ b.data.toList).toArray⟩ := by
        apply ByteArray.ext
        simp
      rw [e3]
    · have hb : (op = .eql ∨ op = .neq) ∧ guardX T t x y = true ∧ ∃ r, eqv T 50 t x y = some r ∧ v = .bool (if op = .eql then r else !r) := by
        unfold binX at h
        split at h
        · exact absurd ⟨_, _, _, _, rfl, rfl⟩ hi
        · exact absurd ⟨_, _, rfl, rfl⟩ hs
        · cases op <;> simp at h
          · cases hg : guardX T t x y with
            | false => simp [hg] at h
            | true =>
              cases he : eqv T 50 t x y with
              | none => simp [hg, he] at h
              | some r => simp [hg, he] at h; subst h; simp
          · cases hg : guardX T t x y with
            | false => simp [hg] at h
            | true =>
              cases he : eqv T 50 t x y with
              | none => simp [hg, he] at h
              | some r => simp [hg, he] at h; subst h; simp
      obtain ⟨hop, hg, r, he, rfl⟩ := hb
      have hq := equal_ok hT m w he
      simp only [Sem.run_bind, guard_ok hT m w op ox oy hg, Result.andThen_ok]
      have hsh := eqv_shape he
      rcases hop with rfl | rfl
      · have key : binOp .eql t (ren m x) (ren m y) = (do pure (.bool (← Op.equal t (ren m x) (ren m y))) : Sem Value) := by
          rcases hsh with ⟨a, b, rfl, rfl⟩ | ⟨k, a, k', b, rfl, rfl⟩ | ⟨a, b, rfl, rfl⟩ | ⟨a, b, rfl, rfl⟩ | ⟨a, n, c, b, n', c', rfl, rfl⟩ | ⟨a, b, rfl, rfl⟩ | ⟨a, b, rfl, rfl⟩
          · simp [ren, binOp]
          · exact absurd ⟨_, _, _, _, rfl, rfl⟩ hi
          · exact absurd ⟨_, _, rfl, rfl⟩ hs
          · cases a <;> cases b <;> simp [ren, binOp]
          · cases a <;> cases b <;> simp [ren, binOp]
          · cases a <;> cases b <;> simp [ren, binOp]
          · simp [ren, binOp]
        rw [key]
        simp [hq, ren]
      · have key : binOp .neq t (ren m x) (ren m y) = (do pure (.bool (!(← Op.equal t (ren m x) (ren m y)))) : Sem Value) := by
          rcases hsh with ⟨a, b, rfl, rfl⟩ | ⟨k, a, k', b, rfl, rfl⟩ | ⟨a, b, rfl, rfl⟩ | ⟨a, b, rfl, rfl⟩ | ⟨a, n, c, b, n', c', rfl, rfl⟩ | ⟨a, b, rfl, rfl⟩ | ⟨a, b, rfl, rfl⟩
          · simp [ren, binOp]
          · exact absurd ⟨_, _, _, _, rfl, rfl⟩ hi
          · exact absurd ⟨_, _, rfl, rfl⟩ hs
          · cases a <;> cases b <;> simp [ren, binOp]
          · cases a <;> cases b <;> simp [ren, binOp]
          · cases a <;> cases b <;> simp [ren, binOp]
          · simp [ren, binOp]
        rw [key]
        simp [hq, ren]

omit hT in
theorem un_ok {op : UnOp} {x v : Value} (h : unX op x = some v) : (Op.unary op (ren m x)).run P w = .ok (ren m v) w := by
  cases op <;> cases x <;> simp [unX] at h <;> subst h <;> simp [Op.unary, ren, Op.intArith, Op.intBits]

theorem conv_ok {src dst : TypeId} {x v : Value} (h : convX T src dst x = some v) : (convert src dst (ren m x)).run P w = .ok (ren m v) w := by
  unfold convX at h
  cases h1 : T.und src with
  | none => simp [h1] at h
  | some d1 =>
    cases h2 : T.und dst with
    | none => simp [h1, h2] at h
    | some d2 =>
      simp only [h1, h2] at h
      unfold convert
      simp only [Sem.run_bind, run_und hT w h1, run_und hT w h2, Result.andThen_ok]
      cases d2 <;> cases x <;> simp at h <;> subst h <;> cases d1 <;> simp [ren, Conv.intToInt]

theorem mapM_sizes (fs : List Field) (hs : sizesX T fs = true) : (fs.mapM (fun f => do pure (f.offset, ← sizeOf f.type) : Field → Sem (Nat × Nat))).run P w = .ok (fs.map fun f => (f.offset, (sizeX T f.type).getD 0)) w := by
  induction fs with
  | nil => simp
  | cons f fs ih =>
    simp only [sizesX] at hs
    cases hf : sizeX T f.type with
    | none => simp [hf] at hs
    | some n =>
      simp only [hf] at hs
      have ih' := ih hs
      simp only [List.mapM_cons, Sem.run_bind, run_size hT w hf, Result.andThen_ok, Sem.run_pure, ih', List.map_cons, hf, Option.getD_some]
omit hT in
theorem sizesX_get {fs : List Field} (hs : sizesX T fs = true) {i : Nat} {f : Field} (hf : fs[i]? = some f) : ∃ n, sizeX T f.type = some n := by
  induction fs generalizing i with
  | nil => simp at hf
  | cons g fs ih =>
    simp only [sizesX] at hs
    cases hg : sizeX T g.type with
    | none => simp [hg] at hs
    | some n =>
      simp only [hg] at hs
      cases i with
      | zero => simp at hf; subst hf; exact ⟨n, hg⟩
      | succ i => exact ih hs (by simpa using hf)

theorem build_ok {t : TypeId} {ps : List (Nat × Value)} {v : Value} (h : buildX T t ps = some v) :
    (Instr.build t (ps.map fun p => (p.1, ren m p.2)).toArray).run P w = .ok (ren m v) w := by
  unfold buildX at h
  cases hi : T.inf t with
  | none => simp [hi] at h
  | some x =>
    obtain ⟨a, b, z⟩ := x
    obtain ⟨hz, hzr⟩ := run_zero hT m w hi
    simp only at hz hzr
    have hzc : z.cells = ⟨renL m z.cells.toList⟩ := by
      conv => lhs; rw [← hzr, cells_ren]
      cases z.cells; simp
    simp only [hi] at h
    unfold Instr.build
    simp only [Sem.run_bind, hz, Result.andThen_ok]
    cases hd : T.und t with
    | none => simp [hd] at h
    | some d =>
      simp only [run_und hT w hd, Result.andThen_ok]
      cases d with
      | struct fs =>
        simp only [hd] at h
        cases hs : sizesX T fs.toList with
        | false => simp [hs] at h
        | true =>
          simp only [hs, cond_true] at h
          cases hf : fillX (fieldPl T fs.toList) z.cells.toList ps with
          | none => simp [hf] at h
          | some cs =>
            simp [hf] at h
            subst h
            have hm := mapM_sizes hT w fs.toList hs
            have hm' : (fs.mapM (fun f => do pure (f.offset, ← sizeOf f.type) : Field → Sem (Nat × Nat))).run P w = .ok ⟨fs.toList.map fun f => (f.offset, (sizeX T f.type).getD 0)⟩ w := by
              rw [Array.mapM_eq_mapM_toList]
              simp only [Sem.run_map, hm, Result.andThen_ok]
            have hpl : (fun i => (⟨fs.toList.map fun f => (f.offset, (sizeX T f.type).getD 0)⟩ : Array (Nat × Nat))[i]?) = fieldPl T fs.toList := by
              funext i
              simp only [fieldPl, nth_eq]
              cases hfi : fs.toList[i]? with
              | none => simp at hfi; simp [hfi]
              | some f =>
                obtain ⟨n, hn⟩ := sizesX_get hs hfi
                have : fs[i]? = some f := by simpa using hfi
                simp [this, hn]
            have hfill := fill_ok m (fieldPl T fs.toList) ps z.cells.toList cs hf
            simp only [Sem.run_bind, hm', Result.andThen_ok, hpl]
            rw [hzc]
            simp only [hfill, Sem.run_pure, ren, renA_mk]
      | array n e =>
        simp only [hd] at h
        cases hs : sizeX T e with
        | none => simp [hs] at h
        | some k =>
          simp only [hs] at h
          cases hf : fillX (fun i => some (i * k, k)) z.cells.toList ps with
          | none => simp [hf] at h
          | some cs =>
            simp [hf] at h
            subst h
            have hfill := fill_ok m (fun i => some (i * k, k)) ps z.cells.toList cs hf
            simp only [Sem.run_bind, run_size hT w hs, Result.andThen_ok]
            rw [hzc]
            simp only [hfill, Sem.run_pure, ren, renA_mk]
      | _ => simp [hd] at h

omit hT in
theorem add_at (b o n : Nat) : (⟨b, o, none⟩ : Addr).add n = ⟨b, o + n, none⟩ := Addr.add_lit b o n

theorem fieldAt_ok {st : TypeId} {x v : Value} {f : Nat} (h : fieldAtX T st x f = some v) : (Instr.fieldAt st (ren m x) f).run P w = .ok (ren m v) w := by
  unfold fieldAtX at h
  cases hd : T.und st with
  | none => simp [hd] at h
  | some d =>
    cases d with
    | struct fs =>
      simp only [hd, nth_eq] at h
      cases hf : fs.toList[f]? with
      | none => simp at hf; simp [hf] at h
      | some fd =>
        have hf' : fs[f]? = some fd := by simpa using hf
        simp only [hf] at h
        cases x with
        | pointer p =>
          cases p with
          | none => simp at h
          | some a =>
            simp only at h
            cases hs : sizeX T fd.type with
            | none => simp [hs] at h
            | some n =>
              cases n with
              | zero => simp [hs] at h
              | succ n =>
                simp [hs] at h
                subst h
                simp [Instr.fieldAt, run_und hT w hd, hf', ren, Instr.sureAddr, fieldPlace, run_size hT w hs, add_at, Nat.add_assoc]
        | _ => simp at h
    | _ => simp [hd] at h

theorem field_ok {st : TypeId} {x v : Value} {f : Nat} (h : fieldX T st x f = some v) : (Instr.field st (ren m x) f).run P w = .ok (ren m v) w := by
  unfold fieldX at h
  cases hd : T.und st with
  | none => simp [hd] at h
  | some d =>
    cases d with
    | struct fs =>
      simp only [hd, nth_eq] at h
      cases hf : fs.toList[f]? with
      | none => simp at hf; simp [hf] at h
      | some fd =>
        have hf' : fs[f]? = some fd := by simpa using hf
        simp only [hf] at h
        cases x with
        | agg cs =>
          obtain ⟨cs⟩ := cs
          simp only at h
          simp [Instr.field, run_und hT w hd, hf', ren, asAgg, run_part hT m w h]
        | _ => simp at h
    | _ => simp [hd] at h

omit hT in
theorem inR_true {i : Int} {n : Nat} (h : inR i n = true) : 0 ≤ i ∧ i < n := by
  cases i with
  | ofNat k => simp only [inR, Nat.blt_eq] at h; exact ⟨Int.natCast_nonneg k, Int.ofNat_lt.2 h⟩
  | negSucc k => simp [inR] at h

theorem indexAt_ok {t : TypeId} {x ix v : Value} (h : indexAtX T t x ix = some v) : (Instr.indexAt t (ren m x) (ren m ix)).run P w = .ok (ren m v) w := by
  unfold indexAtX at h
  cases ix with
  | int k i =>
    simp only at h
    cases hd : T.und t with
    | none => simp [hd] at h
    | some d =>
      cases d with
      | array n e =>
        simp only [hd] at h
        cases x with
        | pointer p =>
          cases p with
          | none => simp at h
          | some a =>
            simp only at h
            cases hr : inR i n with
            | false => simp [hr] at h
            | true =>
              cases hs : sizeX T e with
              | none => simp [hr, hs] at h
              | some sz =>
                simp [hr, hs] at h
                subst h
                have := inR_true hr
                simp [Instr.indexAt, asIntOf, ren, run_und hT w hd, Instr.sureAddr, this, run_size hT w hs, add_at, Nat.add_assoc]
        | _ => simp at h
      | slice e =>
        simp only [hd] at h
        cases x with
        | slice p n c =>
          cases p with
          | none => simp at h
          | some a =>
            simp only at h
            cases hr : inR i n with
            | false => simp [hr] at h
            | true =>
              cases hs : sizeX T e with
              | none => simp [hr, hs] at h
              | some sz =>
                simp [hr, hs] at h
                subst h
                have := inR_true hr
                simp [Instr.indexAt, asIntOf, ren, run_und hT w hd, this, run_size hT w hs, add_at, Nat.add_assoc]
        | _ => simp at h
      | _ => simp [hd] at h
  | _ => simp at h

theorem index_ok {t : TypeId} {x ix v : Value} (h : indexX T t x ix = some v) : (Instr.index t (ren m x) (ren m ix)).run P w = .ok (ren m v) w := by
  unfold indexX at h
  cases ix with
  | int k i =>
    simp only at h
    cases hd : T.und t with
    | none => simp [hd] at h
    | some d =>
      cases d with
      | array n e =>
        simp only [hd] at h
        cases x with
        | agg cs =>
          obtain ⟨cs⟩ := cs
          simp only at h
          cases hr : inR i n with
          | false => simp [hr] at h
          | true =>
            cases hs : sizeX T e with
            | none => simp [hr, hs] at h
            | some sz =>
              simp only [hr, hs, cond_true] at h
              have := inR_true hr
              simp [Instr.index, asIntOf, ren, run_und hT w hd, this, run_size hT w hs, run_part hT m w h]
        | _ => simp at h
      | string =>
        simp only [hd] at h
        cases x with
        | string s =>
          simp only [nth_eq] at h
          cases hr : inR i s.data.toList.length with
          | false => simp only [hr, cond_false] at h; cases h
          | true =>
            simp only [hr, cond_true] at h
            have hi := inR_true hr
            cases hb : s.data.toList[i.toNat]? with
            | none => simp [hb] at h
            | some b =>
              simp [hb] at h
              subst h
              have hb' : s[i.toNat]? = some b := by
                have : s.data[i.toNat]? = some b := by simpa using hb
                obtain ⟨hlt, e⟩ := Array.getElem?_eq_some_iff.1 this
                have hlt' : i.toNat < s.size := hlt
                rw [getElem?_pos s i.toNat hlt']
                exact congrArg some e
              simp [Instr.index, asIntOf, ren, run_und hT w hd, hi.1, hb']
        | _ => simp at h
      | _ => simp [hd] at h
  | _ => simp at h

omit hT in
theorem extract_ok {x v : Value} {i : Nat} (h : extractX x i = some v) : (Instr.extract (ren m x) i).run P w = .ok (ren m v) w := by
  cases x with
  | tuple vs =>
    obtain ⟨vs⟩ := vs
    simp only [extractX, nth_eq] at h
    simp [Instr.extract, ren, renL_eq, h]
  | _ => simp [extractX] at h
end
end Go.Rx
