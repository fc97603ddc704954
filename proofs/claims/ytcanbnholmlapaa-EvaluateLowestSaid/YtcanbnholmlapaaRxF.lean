/-
  RxF: the operations that read the heap and leave it as it is.
-/
import Derived.Test.YtcanbnholmlapaaRxE
namespace Go.Rx
open Go

theorem RowOk.cell {m : Nm} {i : Nat} {l : List Value} {e : TypeId} {w : World} {md : Nat} (h : RowOk m i l e w md) {j : Nat} {v : Value} (hj : l[j]? = some v) :
    w.cell? ⟨m.blk i, m.sh i + j, none⟩ = some (ren m v) := by
  have hlt : j < l.length := (List.getElem?_eq_some_iff.1 hj).1
  rcases md with _ | _ | n
  · obtain ⟨h0, h1⟩ := h
    simp [World.cell?, h1, h0, renL_eq, hj]
  · obtain ⟨c, e', fr, h1, h2⟩ := h
    simp [World.cell?, h1, h2 j v hj]
  · obtain ⟨pr, rest, h1, h2, _⟩ := h
    simp only [World.cell?, h1, Option.isSome_none, Bool.false_eq_true, if_false, List.getElem?_toArray, List.append_assoc, ← h2]
    rw [List.getElem?_append_right (by omega), Nat.add_sub_cancel_left, List.getElem?_append_left (by simpa using hlt)]
    simp [renL_eq, hj]

theorem run_getObj_map {P : Program} {w : World} {r : Nat} {es : Array MapEntry} {c : Nat} (h : w.heap[r]? = some (.map es c)) : (getObj r).run P w = .ok (.map es c) w := by
  simp [getObj, Sem.run, h]

section
variable {P : Program} {T : Tb} (hT : TbOk P T) (m : Nm) (w : World)
include hT

theorem load_ok {s : S} (hf : Fits m s w) {t : TypeId} {i off : Nat} {l : List Value} {e : TypeId} {md : Nat} (hl : lk s.h i = some (.inl (l, e, md))) {v : Value}
    (h : (match T.und t with
        | none => none
        | some d => cond (isAggD d) (match sizeX T t with
            | some n => match seg l off n with
              | some cs => some (Value.agg cs.toArray)
              | none => none
            | none => none) (nth l off)) = some v) :
    (loadVar t ⟨m.blk i, m.sh i + off, none⟩).run P w = .ok (ren m v) w := by
  have hr : RowOk m i l e w md := hf.ok i _ hl
  cases hd : T.und t with
  | none => simp [hd] at h
  | some d =>
    simp only [hd] at h
    unfold loadVar
    simp only [Sem.run_bind, run_isAgg hT w hd, Result.andThen_ok]
    cases hag : isAggD d with
    | true =>
      simp only [hag, cond_true] at h
      cases hs : sizeX T t with
      | none => simp [hs] at h
      | some n =>
        simp only [hs] at h
        cases hg : seg l off n with
        | none => simp [hg] at h
        | some cs =>
          simp only [hg, Option.some.injEq] at h
          subst h
          have hlen : (renL m cs).length = n := by rw [length_renL]; exact seg_len hg
          have := run_loadCells_list (P := P) w ⟨m.blk i, m.sh i + off, none⟩ (renL m cs) (fun j u hu => by
            rw [renL_eq, List.getElem?_map] at hu
            cases hc : cs[j]? with
            | none => simp [hc] at hu
            | some u' =>
              simp [hc] at hu
              subst hu
              rw [add_at, Nat.add_assoc]
              exact hr.cell (seg_get hg hc))
          rw [hlen] at this
          simp [run_size hT w hs, this, ren]
    | false =>
      simp only [hag, cond_false, nth_eq] at h
      have := hr.cell h
      simp [this]

theorem keyFs_ok {K : TypeId → Value → Bool} {d : Nat} {b : Bool} (hK : ∀ t v w, K t v = true → (Instr.checkKey b d t (ren m v)).run P w = .ok () w) (cs : List Value) (fs : List Field) (h : keyFs T K cs fs = true) :
    (forIn fs PUnit.unit (fun f _ =>
        if f.name ≠ "_" then (do
          let x ← part f.type ⟨renL m cs⟩ f.offset
          Instr.checkKey b d f.type x
          pure (ForInStep.yield PUnit.unit))
        else pure (ForInStep.yield PUnit.unit)) : Sem PUnit).run P w = .ok PUnit.unit w := by
  induction fs with
  | nil => simp
  | cons f fs ih =>
    simp only [keyFs] at h
    simp only [List.forIn_cons]
    split at h
    · rename_i hn
      cases hp : partX T f.type cs f.offset with
      | none => simp [hp] at h
      | some v =>
        simp only [hp] at h
        cases hk : K f.type v with
        | false => simp [hk] at h
        | true =>
          simp only [hk, cond_true] at h
          have h1 := run_part hT m w hp
          have h2 := hK f.type v w hk
          simp only [hn, ne_eq, not_false_eq_true, if_true, Sem.run_bind, h1, Result.andThen_ok, h2, Sem.run_pure]
          exact ih h
    · rename_i hn
      simp only [hn, if_false, Sem.run_bind, Sem.run_pure, Result.andThen_ok]
      exact ih h

theorem key_ok (b : Bool) (d k : Nat) {t : TypeId} {v : Value} (w : World) (h : keyX T d t v = true) : (Instr.checkKey b (d + k) t (ren m v)).run P w = .ok () w := by
  induction d generalizing t v w with
  | zero => simp [keyX] at h
  | succ d ih =>
    have hsucc : d + 1 + k = (d + k) + 1 := by omega
    rw [hsucc]
    simp only [keyX] at h
    cases hd : T.und t with
    | none => simp [hd] at h
    | some ty =>
      have hu := run_und hT w hd
      cases ty with
      | int kk => simp [Instr.checkKey, hu]
      | string => simp [Instr.checkKey, hu]
      | bool => simp [Instr.checkKey, hu]
      | struct fs =>
        simp only [hd] at h
        cases v with
        | agg cs =>
          obtain ⟨cs⟩ := cs
          simp only at h
          have := keyFs_ok hT m w (b := b) (d := d + k) (fun t v w hk => ih w hk) cs fs.toList h
          simp only [Instr.checkKey, Sem.run_bind, hu, Result.andThen_ok, ren, renA_mk]
          rw [← Array.forIn_toList, this]
          rfl
        | _ => simp at h
      | _ => simp [hd] at h

theorem asking_ok {kt : TypeId} {k : Value} (es : List MapEntry) (i : Nat) {r : Option (Nat × Value)} (h : findX T kt k es i = some r) :
    (Instr.findAsking kt (ren m k) (es.map (renE m)) i).run P w = .ok (r.map fun p => (p.1, ren m p.2)) w := by
  induction es generalizing i with
  | nil => simp [findX] at h; subst h; simp [Instr.findAsking]
  | cons e es ih =>
    simp only [findX] at h
    cases he : eqv T 50 kt k e.key with
    | none => simp [he] at h
    | some b =>
      have hq := equal_ok hT m w he
      cases b with
      | true => simp [he] at h; subst h; simp [Instr.findAsking, renE, hq]
      | false => simp only [he] at h; simpa [Instr.findAsking, renE, hq] using ih (i + 1) h

omit hT in
theorem now_ok {kt : TypeId} {d : TypeDesc} (hd : T.und kt = some d) {k : Value} (es : List MapEntry) (i : Nat) {r r' : Option (Nat × Value)} (h : findX T kt k es i = some r)
    (h' : Instr.findNow d (ren m k) (es.map (renE m)) i = some r') : r' = r.map fun p => (p.1, ren m p.2) := by
  induction es generalizing i with
  | nil => simp [findX] at h; subst h; simp [Instr.findNow] at h'; simp [← h']
  | cons e es ih =>
    simp only [findX] at h
    simp only [List.map_cons, Instr.findNow] at h'
    cases he : eqv T 50 kt k e.key with
    | none => simp [he] at h
    | some b =>
      have key : ∀ b', Instr.sameNow d (ren m k) (renE m e).key = some b' → b' = b := by
        intro b' hb'
        simp only [renE] at hb'
        rcases eqv_shape he with ⟨x, y, hx, hy⟩ | ⟨kk, x, k', y, hx, hy⟩ | ⟨x, y, hx, hy⟩ | ⟨x, y, hx, hy⟩ | ⟨x, n, c, y, n', c', hx, hy⟩ | ⟨x, y, hx, hy⟩ | ⟨x, y, hx, hy⟩
        · rw [hx, hy] at hb' he
          cases d <;> simp [Instr.sameNow, ren] at hb'
          simp [eqv, hd] at he
          exact hb'.symm.trans he
        · rw [hx, hy] at hb' he
          cases d <;> simp [Instr.sameNow, ren] at hb'
          simp [eqv, hd] at he
          exact hb'.2.symm.trans he.2
        · rw [hx, hy] at hb' he
          cases d <;> simp [Instr.sameNow, ren] at hb'
          simp [eqv, hd] at he
          rw [← hb', ← he, bytesEq_eq, beq_toListBytes, ByteArray.toList_eq, ByteArray.toList_eq]
        · rw [hx, hy] at hb'
          cases x <;> cases y <;> cases d <;> simp [Instr.sameNow, ren] at hb'
        · rw [hx, hy] at hb'
          cases x <;> cases y <;> cases d <;> simp [Instr.sameNow, ren] at hb'
        · rw [hx, hy] at hb'
          cases x <;> cases y <;> cases d <;> simp [Instr.sameNow, ren] at hb'
        · rw [hx, hy] at hb'
          cases d <;> simp [Instr.sameNow, ren] at hb'
      cases hsn : Instr.sameNow d (ren m k) (renE m e).key with
      | none => simp [hsn] at h'
      | some b' =>
        have := key b' hsn
        subst this
        cases b' with
        | true => simp [he] at h; subst h; simp [hsn] at h'; simp [← h', renE]
        | false => simp only [he] at h; simp only [hsn] at h'; exact ih (i + 1) h h'

theorem find_ok {kt : TypeId} {d : TypeDesc} (hd : T.und kt = some d) {k : Value} {es : List MapEntry} {r : Option (Nat × Value)} (h : findX T kt k es 0 = some r) :
    (Instr.findKey kt (ren m k) (es.map (renE m))).run P w = .ok (r.map fun p => (p.1, ren m p.2)) w := by
  unfold Instr.findKey
  simp only [Sem.run_bind, run_und hT w hd, Result.andThen_ok]
  cases hn : Instr.findNow d (ren m k) (es.map (renE m)) 0 with
  | some r' => simp [now_ok m hd es 0 h hn]
  | none => exact asking_ok hT m w es 0 h

omit hT in
theorem keyX_und {d : Nat} {kt : TypeId} {v : Value} (h : keyX T d kt v = true) : ∃ ty, T.und kt = some ty := by
  cases d with
  | zero => simp [keyX] at h
  | succ d =>
    simp only [keyX] at h
    cases hd : T.und kt with
    | none => simp [hd] at h
    | some ty => exact ⟨ty, rfl⟩

theorem read_ok {s : S} (hf : Fits m s w) {tm : List Value} {a : Act} (ha : a.tmps = ⟨renL m tm⟩) (o : Oper) {v : Value} (h : readX T tm s o.op = some v) : (execOp a.eval o).run P w = .ok (.value (ren m v)) w := by
  obtain ⟨dst, op, type, pos, after, guard⟩ := o
  simp only at h
  unfold readX at h
  cases op with
  | load t x =>
    simp only at h
    cases hx : evalO tm x with
    | none => simp [hx] at h
    | some u =>
      cases u with
      | pointer p =>
        cases p with
        | none => simp [hx] at h
        | some b =>
          simp only [hx] at h
          cases hl : lk s.h b.block with
          | none => simp [hl] at h
          | some blk =>
            rcases blk with ⟨l, e, md⟩ | ⟨es, c⟩
            · simp only [hl] at h
              have := load_ok hT m w hf hl h
              simp [execOp, evalO_ok ha hx, ren, Instr.loadAt, Instr.sureAddr, this]
            · simp [hl] at h
      | _ => simp [hx] at h
  | lookup t x k ok =>
    simp only at h
    cases hd : T.und t with
    | none => simp [hd] at h
    | some d =>
      cases d with
      | map kt et =>
        simp only [hd] at h
        cases hx : evalO tm x with
        | none => simp [hx] at h
        | some u =>
          cases u with
          | map r =>
            simp only [hx] at h
            cases hk : evalO tm k with
            | none => simp [hk] at h
            | some kv =>
              simp only [hk] at h
              cases hkx : keyX T 50 kt kv with
              | false => simp [hkx] at h
              | true =>
                simp only [hkx, cond_true] at h
                obtain ⟨ty, hty⟩ := keyX_und hkx
                have main : ∀ es : List MapEntry, (match findX T kt kv es 0 with
                      | none => none
                      | some (some (_, v)) => some (cond ok (.tuple #[v, .bool true]) v)
                      | some none => match T.inf et with
                        | some (_, _, z) => some (cond ok (.tuple #[z, .bool false]) z)
                        | none => none) = some v →
                    (Instr.checkKey (es.map (renE m)).toArray.isEmpty 10000 kt (ren m kv)).run P w = .ok () w ∧
                    ((∃ pi pv, (Instr.findKey kt (ren m kv) (es.map (renE m))).run P w = .ok (some (pi, pv)) w ∧ ren m v = if ok = true then Value.tuple #[pv, .bool true] else pv) ∨
                     (∃ z, (Instr.findKey kt (ren m kv) (es.map (renE m))).run P w = .ok none w ∧ (zeroValue et).run P w = .ok z w ∧ ren m v = if ok = true then Value.tuple #[z, .bool false] else z)) := by
                  intro es he
                  refine ⟨key_ok hT m _ 50 9950 w hkx, ?_⟩
                  cases hfx : findX T kt kv es 0 with
                  | none => simp [hfx] at he
                  | some fr =>
                    have h2 := find_ok hT m w hty hfx
                    cases fr with
                    | none =>
                      simp only [hfx] at he
                      cases hi : T.inf et with
                      | none => simp [hi] at he
                      | some y =>
                        obtain ⟨y1, y2, z⟩ := y
                        obtain ⟨hz, hzr⟩ := run_zero hT m w hi
                        simp only at hz hzr
                        simp [hi] at he
                        subst he
                        refine .inr ⟨z, h2, hz, ?_⟩
                        cases ok <;> simp [ren, renL, hzr]
                    | some p =>
                      obtain ⟨pi, pv⟩ := p
                      simp [hfx] at he
                      subst he
                      refine .inl ⟨pi, ren m pv, h2, ?_⟩
                      cases ok <;> simp [ren, renL]
                cases r with
                | none =>
                  simp only at h
                  obtain ⟨h1, ⟨pi, pv, h2, h3⟩ | ⟨z, h2, h2', h3⟩⟩ := main [] h
                  · simp only [List.map_nil] at h1 h2
                    simp only [execOp, evalO_ok ha hx, evalO_ok ha hk, Sem.run_bind, Instr.lookup, run_und hT w hd, Result.andThen_ok, ren, Sem.run_pure, h1, h2, h3]
                  · simp only [List.map_nil] at h1 h2
                    simp only [execOp, evalO_ok ha hx, evalO_ok ha hk, Sem.run_bind, Instr.lookup, run_und hT w hd, Result.andThen_ok, ren, Sem.run_pure, h1, h2, h2', h3]
                | some r =>
                  simp only at h
                  cases hl : lk s.h r with
                  | none => simp [hl] at h
                  | some blk =>
                    rcases blk with x | ⟨es, c⟩
                    · simp [hl] at h
                    · simp only [hl] at h
                      have hb : w.heap[m.blk r]? = some (.map (es.map (renE m)).toArray c) := hf.ok r _ hl
                      obtain ⟨h1, ⟨pi, pv, h2, h3⟩ | ⟨z, h2, h2', h3⟩⟩ := main es h
                      · simp only [execOp, evalO_ok ha hx, evalO_ok ha hk, Sem.run_bind, Instr.lookup, run_und hT w hd, Result.andThen_ok, ren, Sem.run_pure, run_getObj_map hb, h1, h2, h3]
                      · simp only [execOp, evalO_ok ha hx, evalO_ok ha hk, Sem.run_bind, Instr.lookup, run_und hT w hd, Result.andThen_ok, ren, Sem.run_pure, run_getObj_map hb, h1, h2, h2', h3]
          | _ => simp [hx] at h
      | _ => simp [hd] at h
  | call c =>
    obtain ⟨callee, args, ats⟩ := c
    simp only at h
    cases callee with
    | builtin b =>
      cases b with
      | len =>
        simp only at h
        cases hx : evalL tm args.toList with
        | none => simp [hx] at h
        | some vs =>
          rcases vs with _ | ⟨x, _ | ⟨y, l⟩⟩
          · simp [hx] at h
          · cases x with
            | map r =>
              obtain ⟨ats⟩ := ats
              cases ats with
              | nil => simp [hx] at h
              | cons t ts =>
                simp only [hx] at h
                have e1 := evalA_ok ha hx
                simp only [renL] at e1
                cases hd : T.und t with
                | none => simp [hd] at h
                | some d =>
                  cases d with
                  | map kt et =>
                    simp only [hd] at h
                    simp only [execOp, Sem.run_bind, resolve, Sem.run_pure, Result.andThen_ok, invoke, builtin, e1]
                    cases r with
                    | none =>
                      simp at h; subst h
                      simp [Builtin.len_, run_und hT w hd, ren, goInt]
                    | some r =>
                      simp only at h
                      cases hl : lk s.h r with
                      | none => simp [hl] at h
                      | some blk =>
                        rcases blk with x | ⟨es, c⟩
                        · simp [hl] at h
                        · simp only [hl, Option.some.injEq] at h
                          subst h
                          have hb : w.heap[m.blk r]? = some (.map (es.map (renE m)).toArray c) := hf.ok r _ hl
                          simp [Builtin.len_, run_und hT w hd, ren, goInt, run_getObj_map hb]
                  | _ => simp [hd] at h
            | _ => simp [hx] at h
          · simp [hx] at h
      | _ => simp at h
    | _ => simp at h
  | _ => simp at h
end
end Go.Rx
