/-
  RxE: lengths, slice expressions over known capacities; all operations that look into no heap; those that read.
-/
import Derived.Test.YtcanbnholmlapaaRxD
namespace Go.Rx
open Go

section
variable {P : Program} {T : Tb} (hT : TbOk P T) (m : Nm) (w : World)
include hT

theorem len_ok {t ty : TypeId} {ts : List TypeId} {x v : Value} (h : lenX T t x = some v) : (Builtin.len_ (t :: ts).toArray ty #[ren m x]).run P w = .ok (ren m v) w := by
  unfold lenX at h
  cases hd : T.und t with
  | none => simp [hd] at h
  | some d =>
    simp only [hd] at h
    have hu := run_und hT w hd
    cases d with
    | string =>
      cases x <;> simp at h
      subst h
      rename_i s
      simp only [Builtin.len_, List.getElem?_toArray, List.getElem?_cons_zero, Sem.run_bind, hu, Result.andThen_ok, ren, goInt, Sem.run_pure]
    | slice e =>
      cases x with
      | slice a _ _ =>
        simp only [Option.some.injEq] at h
        subst h
        cases a <;> simp [Builtin.len_, hu, ren, goInt]
      | chan r =>
        cases r with
        | none => simp at h
        | some r =>
          simp only [Option.some.injEq] at h
          subst h
          simp [Builtin.len_, hu, ren, goInt]
      | _ => simp at h
    | array n e =>
      simp at h
      subst h
      simp [Builtin.len_, hu, ren, goInt]
    | _ => simp at h

omit hT in
theorem max_ok {x v : Value} {l : List Value} (h : foldX max2X x l = some v) : ((renL m l).foldlM Builtin.max2 (ren m x)).run P w = .ok (ren m v) w := by
  induction l generalizing x with
  | nil => simp [foldX] at h; simp [renL, h]
  | cons y l ih =>
    simp only [foldX] at h
    cases hxy : max2X x y with
    | none => simp [hxy] at h
    | some z =>
      simp only [hxy] at h
      have : (Builtin.max2 (ren m x) (ren m y)).run P w = .ok (ren m z) w := by
        cases x <;> cases y <;> simp [max2X] at hxy
        subst hxy
        simp [ren, Builtin.max2]
      simp only [renL, List.foldlM_cons, Sem.run_bind, this, Result.andThen_ok]
      exact ih h
omit hT in
theorem min_ok {x v : Value} {l : List Value} (h : foldX min2X x l = some v) : ((renL m l).foldlM Builtin.min2 (ren m x)).run P w = .ok (ren m v) w := by
  induction l generalizing x with
  | nil => simp [foldX] at h; simp [renL, h]
  | cons y l ih =>
    simp only [foldX] at h
    cases hxy : min2X x y with
    | none => simp [hxy] at h
    | some z =>
      simp only [hxy] at h
      have : (Builtin.min2 (ren m x) (ren m y)).run P w = .ok (ren m z) w := by
        cases x <;> cases y <;> simp [min2X] at hxy
        subst hxy
        simp [ren, Builtin.min2]
      simp only [renL, List.foldlM_cons, Sem.run_bind, this, Result.andThen_ok]
      exact ih h

omit hT in
theorem bound_ok {v : Value} {y n : Nat} (h : bound1 v y = some n) (Y : Nat) (hY : y ≤ Y) (code : BoundsCode) : (Instr.sliceBound (ren m v) Y code).run P w = .ok n w ∧ n ≤ y := by
  cases v with
  | int k i =>
    simp only [bound1] at h
    cases hr : inR i (y + 1) with
    | false => simp [hr] at h
    | true =>
      simp [hr] at h
      subst h
      have := inR_true hr
      refine ⟨?_, by omega⟩
      have h2 : 0 ≤ i ∧ i ≤ (Y : Int) := by omega
      simp [Instr.sliceBound, ren, asIntOf, h2]
  | _ => simp [bound1] at h

omit hT in
/-- the bounds of a slice expression: Y: the true capacity, which may be more than what is known of it -/
theorem bounds_ok {isS : Bool} {n c Y : Nat} {lo hi mx : Option Value} {l h M : Nat} (hb : boundsX n c lo hi mx = some (l, h, M)) (hY : c ≤ Y) :
    (Instr.sliceBounds isS n Y (lo.map (ren m)) (hi.map (ren m)) (mx.map (ren m))).run P w = .ok (l, h, if mx.isSome then M else Y) w ∧ l ≤ h ∧ (mx.isSome = true → h ≤ M ∧ M ≤ c) ∧ (mx = none → M = c ∧ (hi.isSome = true → h ≤ c) ∧ (hi = none → h = n)) := by
  unfold boundsX at hb
  cases mx with
  | some v =>
    simp only at hb
    cases h1 : bound1 v c with
    | none => simp [h1] at hb
    | some M' =>
      simp only [h1] at hb
      cases hi with
      | none => simp at hb
      | some u =>
        simp only at hb
        cases h2 : bound1 u M' with
        | none => simp [h2] at hb
        | some h' =>
          simp only [h2] at hb
          have b1 := fun code => bound_ok (P := P) m w h1 Y hY code
          have b2 := fun code => bound_ok (P := P) m w h2 M' (Nat.le_refl _) code
          cases lo with
          | none =>
            simp at hb
            obtain ⟨rfl, rfl, rfl⟩ := hb
            have q1 := (b1 .index).2
            have q2 := (b2 .index).2
            refine ⟨?_, by omega, fun _ => ⟨q2, q1⟩, by simp⟩
            simp [Instr.sliceBounds, (b1 _).1, (b2 _).1]
          | some x =>
            simp only at hb
            cases h3 : bound1 x h' with
            | none => simp [h3] at hb
            | some l' =>
              simp [h3] at hb
              obtain ⟨rfl, rfl, rfl⟩ := hb
              have b3 := fun code => bound_ok (P := P) m w h3 h' (Nat.le_refl _) code
              have q1 := (b1 .index).2
              have q2 := (b2 .index).2
              have q3 := (b3 .index).2
              refine ⟨?_, q3, fun _ => ⟨q2, q1⟩, by simp⟩
              simp [Instr.sliceBounds, (b1 _).1, (b2 _).1, (b3 _).1]
  | none =>
    simp only at hb
    cases hi with
    | some u =>
      simp only at hb
      cases h2 : bound1 u c with
      | none => simp [h2] at hb
      | some h' =>
        simp only [h2] at hb
        have b2 := fun code => bound_ok (P := P) m w h2 Y hY code
        have q2 := (b2 .index).2
        cases lo with
        | none =>
          simp at hb
          obtain ⟨rfl, rfl, rfl⟩ := hb
          refine ⟨?_, by omega, by simp, fun _ => ⟨rfl, fun _ => q2, by simp⟩⟩
          simp [Instr.sliceBounds, (b2 _).1]
        | some x =>
          simp only at hb
          cases h3 : bound1 x h' with
          | none => simp [h3] at hb
          | some l' =>
            simp [h3] at hb
            obtain ⟨rfl, rfl, rfl⟩ := hb
            have b3 := fun code => bound_ok (P := P) m w h3 h' (Nat.le_refl _) code
            have q3 := (b3 .index).2
            refine ⟨?_, q3, by simp, fun _ => ⟨rfl, fun _ => q2, by simp⟩⟩
            simp [Instr.sliceBounds, (b2 _).1, (b3 _).1]
    | none =>
      simp only at hb
      cases lo with
      | none =>
        simp at hb
        obtain ⟨rfl, rfl, rfl⟩ := hb
        refine ⟨?_, by omega, by simp, by simp⟩
        simp [Instr.sliceBounds]
      | some x =>
        simp only at hb
        cases h3 : bound1 x n with
        | none => simp [h3] at hb
        | some l' =>
          simp [h3] at hb
          obtain ⟨rfl, rfl, rfl⟩ := hb
          have b3 := fun code => bound_ok (P := P) m w h3 n (Nat.le_refl _) code
          have q3 := (b3 .index).2
          refine ⟨?_, q3, by simp, by simp⟩
          simp [Instr.sliceBounds, (b3 _).1]

theorem slice_ok {t : TypeId} {x v : Value} {lo hi mx : Option Value} (h : sliceX T t x lo hi mx = some v) :
    (Instr.sliceAt t (ren m x) (lo.map (ren m)) (hi.map (ren m)) (mx.map (ren m))).run P w = .ok (ren m v) w := by
  unfold sliceX at h
  cases hd : T.und t with
  | none => simp [hd] at h
  | some d =>
    simp only [hd] at h
    have hu := run_und hT w hd
    cases d with
    | string =>
      cases x with
      | string s =>
        simp only at h
        cases mx with
        | some _ => simp at h
        | none =>
          simp only at h
          cases hb : boundsX s.data.toList.length s.data.toList.length lo hi none with
          | none => simp only [hb] at h; cases h
          | some r =>
            obtain ⟨l, hh, M⟩ := r
            simp only [hb, Option.some.injEq] at h
            subst h
            obtain ⟨h1, _, _, _⟩ := bounds_ok (P := P) (isS := false) m w hb (Nat.le_refl _)
            have hsz : s.size = s.data.toList.length := rfl
            simp only [Option.map_none] at h1
            simp only [Instr.sliceAt, Sem.run_bind, hu, Result.andThen_ok, Instr.slice, ren, Option.map_none, Option.isSome_none, Bool.false_eq_true, if_false, hsz, h1, Sem.run_pure]
            have e3 : s.extract l hh = ⟨((s.data.toList.take hh).drop l).toArray⟩ := by
              apply ByteArray.ext
              rw [ByteArray.data_extract]
              apply Array.ext'
              simp [List.drop_take]
            rw [e3]
      | _ => simp at h
    | slice e =>
      cases x with
      | slice a n c =>
        simp only at h
        cases hc : Nat.blt c capBase with
        | false =>
          simp only [hc, cond_false] at h
          unfold emptyS at h
          cases a with
          | none => simp at h
          | some a =>
            cases n with
            | succ n => simp at h
            | zero =>
              simp only at h
              cases hb : boundsX 0 0 lo hi mx with
              | none => simp [hb] at h
              | some r =>
                obtain ⟨l, hh, M⟩ := r
                simp only [hb] at h
                cases l with
                | succ l => simp at h
                | zero =>
                  cases hh with
                  | succ l => simp at h
                  | zero =>
                    cases M with
                    | succ l => simp at h
                    | zero =>
                      simp only at h
                      cases hs : sizeX T e with
                      | none => simp [hs] at h
                      | some sz =>
                        simp only [hs, Option.some.injEq] at h
                        subst h
                        obtain ⟨h1, _, _, _⟩ := bounds_ok (P := P) (isS := true) (Y := capOf m a.block c) m w hb (Nat.zero_le _)
                        cases mx with
                        | none =>
                          simp only [Option.isSome_none, Bool.false_eq_true, if_false] at h1
                          simp only [Instr.sliceAt, Sem.run_bind, hu, Result.andThen_ok, Instr.slice, ren, h1, run_size hT w hs, Sem.run_pure, Option.map_some, Nat.zero_mul, Nat.sub_zero, add_at, Nat.add_zero, ite_self]
                        | some vm =>
                          simp only [Option.isSome_some, if_true, Option.map_some] at h1
                          have h0 : capOf m a.block 0 = 0 := by simp [capOf, capBase]
                          simp only [Instr.sliceAt, Sem.run_bind, hu, Result.andThen_ok, Instr.slice, ren, h1, run_size hT w hs, Sem.run_pure, Option.map_some, Nat.zero_mul, Nat.sub_zero, add_at, Nat.add_zero, ite_self, h0]
        | true =>
          simp only [hc, cond_true] at h
          have hc' : c < capBase := by simpa [Nat.blt_eq] using hc
          cases hb : boundsX n c lo hi mx with
          | none => simp [hb] at h
          | some r =>
            obtain ⟨l, hh, M⟩ := r
            simp only [hb] at h
            cases hs : sizeX T e with
            | none => simp [hs] at h
            | some sz =>
              simp only [hs, Option.some.injEq] at h
              subst h
              have hcap : ∀ i, capOf m i c = c := fun i => by simp [capOf, hc']
              obtain ⟨h1, h2, h3, h4⟩ := bounds_ok (P := P) (isS := true) (Y := c) m w hb (Nat.le_refl _)
              have hM : (if mx.isSome then M else c) = M := by
                cases mx with
                | none => simp [(h4 rfl).1]
                | some v => simp
              rw [hM] at h1
              have hMl : M - l < capBase := by
                cases mx with
                | none => have := (h4 rfl).1; omega
                | some v => have := (h3 rfl).2; omega
              cases a with
              | none =>
                simp only [Instr.sliceAt, Sem.run_bind, hu, Result.andThen_ok, Instr.slice, ren, h1, run_size hT w hs, Sem.run_pure, beq_eq]
                by_cases e : M = l <;> simp [e, ren]
              | some a =>
                simp only [Instr.sliceAt, Sem.run_bind, hu, Result.andThen_ok, Instr.slice, ren, hcap, h1, run_size hT w hs, Sem.run_pure, beq_eq]
                by_cases e : M = l
                · simp [e, ren, capOf, capBase]
                · simp [e, ren, capOf, hMl, add_at, Nat.add_assoc]
      | chan r =>
        cases r with
        | none => simp at h
        | some r =>
          simp only at h
          cases hb : boundsX 0 0 lo hi mx with
          | none => simp [hb] at h
          | some q =>
            obtain ⟨l, hh, M⟩ := q
            simp only [hb] at h
            cases hs : sizeX T e with
            | none => simp [hs] at h
            | some sz =>
              simp only [hs, Option.some.injEq] at h
              subst h
              obtain ⟨h1, h2, h3, h4⟩ := bounds_ok (P := P) (isS := true) (Y := 0) m w hb (Nat.le_refl _)
              have hz : l = 0 ∧ hh = 0 ∧ M = 0 := by
                cases mx with
                | none =>
                  obtain ⟨q1, q2, q3⟩ := h4 rfl
                  cases hi with
                  | none => have := q3 rfl; omega
                  | some v => have := q2 rfl; omega
                | some v => have := h3 rfl; omega
              obtain ⟨rfl, rfl, rfl⟩ := hz
              simp only [ite_self] at h1
              simp only [Instr.sliceAt, Sem.run_bind, hu, Result.andThen_ok, Instr.slice, ren, h1, run_size hT w hs, Sem.run_pure, if_true, Nat.sub_zero]
      | _ => simp at h
    | array n e =>
      cases x with
      | pointer p =>
        cases p with
        | none => simp at h
        | some a =>
          simp only at h
          cases hb : boundsX n n lo hi mx with
          | none => simp only [hb] at h; cases h
          | some r =>
            obtain ⟨l, hh, M⟩ := r
            simp only [hb] at h
            cases hs : sizeX T e with
            | none => simp [hs] at h
            | some sz =>
              simp only [hs] at h
              cases hn : Nat.blt n capBase with
              | false => simp [hn] at h
              | true =>
                simp only [hn, cond_true, Option.some.injEq] at h
                subst h
                have hn' : n < capBase := by simpa [Nat.blt_eq] using hn
                obtain ⟨h1, h2, h3, h4⟩ := bounds_ok (P := P) (isS := false) (Y := n) m w hb (Nat.le_refl _)
                have hM : (if mx.isSome then M else n) = M := by
                  cases mx with
                  | none => simp [(h4 rfl).1]
                  | some v => simp
                rw [hM] at h1
                have hMl : M - l < capBase := by
                  cases mx with
                  | none => have := (h4 rfl).1; omega
                  | some v => have := (h3 rfl).2; omega
                simp only [Instr.sliceAt, Sem.run_bind, hu, Result.andThen_ok, Instr.sureAddr, ren, h1, run_size hT w hs, Sem.run_pure, beq_eq]
                by_cases e : M = l
                · simp [e, capOf, capBase]
                · simp [e, capOf, hMl, add_at, Nat.add_assoc]
      | _ => simp at h
    | _ => simp at h

theorem pure_ok {tm : List Value} {a : Act} (ha : a.tmps = ⟨renL m tm⟩) (o : Oper) {v : Value} (h : pureX T tm o.op = some v) : (execOp a.eval o).run P w = .ok (.value (ren m v)) w := by
  obtain ⟨dst, op, type, pos, after, guard⟩ := o
  simp only at h
  unfold pureX at h
  cases op with
  | move x => simp only at h; simp [execOp, evalO_ok ha h]
  | assign x => simp only at h; simp [execOp, evalO_ok ha h]
  | pick c x y =>
    simp only at h
    cases hc : evalO tm c with
    | none => simp [hc] at h
    | some cv =>
      cases cv with
      | bool b =>
        cases b with
        | true => simp only [hc] at h; simp [execOp, evalO_ok ha hc, evalO_ok ha h, ren, asBool]
        | false => simp only [hc] at h; simp [execOp, evalO_ok ha hc, evalO_ok ha h, ren, asBool]
      | _ => simp [hc] at h
  | build t ps =>
    simp only at h
    cases hp : evalP tm ps.toList with
    | none => simp [hp] at h
    | some qs =>
      simp only [hp] at h
      have e1 : (ps.map fun x => (x.1, a.eval x.2)) = (qs.map fun p => (p.1, ren m p.2)).toArray := by
        rw [← evalP_ok ha hp]
        cases ps; simp
      have := build_ok hT m w h
      rw [← e1] at this
      simp only [execOp, Sem.run_bind]
      rw [this]; rfl
  | nilCheck x =>
    simp only at h
    cases hx : evalO tm x with
    | none => simp [hx] at h
    | some u =>
      have he := evalO_ok ha hx
      cases u with
      | pointer p =>
        cases p with
        | none => simp [hx] at h
        | some q => simp [hx] at h; subst h; simp [execOp, he, ren]
      | func fn x y =>
        cases fn with
        | func f => simp [hx] at h; subst h; simp [execOp, he, ren]
        | _ => simp [hx] at h
      | _ => simp [hx] at h
  | binOp op t x y ty =>
    simp only at h
    cases hx : evalO tm x with
    | none => simp [hx] at h
    | some u =>
      cases hy : evalO tm y with
      | none => simp [hx, hy] at h
      | some u' =>
        simp only [hx, hy] at h
        have := bin_ok hT m w op x y h
        simp only [execOp, evalO_ok ha hx, evalO_ok ha hy]
        rw [Sem.run_bind, this]; rfl
  | unOp op t x =>
    simp only at h
    cases hx : evalO tm x with
    | none => simp [hx] at h
    | some u => simp only [hx] at h; simp [execOp, evalO_ok ha hx, un_ok m w h]
  | convert s d x =>
    simp only at h
    cases hx : evalO tm x with
    | none => simp [hx] at h
    | some u => simp only [hx] at h; simp [execOp, evalO_ok ha hx, conv_ok hT m w h]
  | makeFunc fn first cap =>
    simp only at h
    cases hx : evalL tm first.toList with
    | none => simp [hx] at h
    | some u =>
      cases hy : evalL tm cap.toList with
      | none => simp [hx, hy] at h
      | some u' =>
        simp only [hx, hy, Option.some.injEq] at h
        subst h
        simp [execOp, evalA_ok ha hx, evalA_ok ha hy, Instr.makeFunc, ren]
  | slice t x lo hi mx =>
    simp only at h
    cases hx : evalO tm x with
    | none => simp [hx] at h
    | some u =>
      cases h1 : evalM tm lo with
      | none => simp [hx, h1] at h
      | some l =>
        cases h2 : evalM tm hi with
        | none => simp [hx, h1, h2] at h
        | some hh =>
          cases h3 : evalM tm mx with
          | none => simp [hx, h1, h2, h3] at h
          | some mm =>
            simp only [hx, h1, h2, h3] at h
            have := slice_ok hT m w h
            simp only [execOp, evalO_ok ha hx, evalM_ok ha h1, evalM_ok ha h2, evalM_ok ha h3]
            rw [Sem.run_bind, this]; rfl
  | fieldAddr t x f =>
    simp only at h
    cases hx : evalO tm x with
    | none => simp [hx] at h
    | some u => simp only [hx] at h; simp [execOp, evalO_ok ha hx, fieldAt_ok hT m w h]
  | field t x f =>
    simp only at h
    cases hx : evalO tm x with
    | none => simp [hx] at h
    | some u => simp only [hx] at h; simp [execOp, evalO_ok ha hx, field_ok hT m w h]
  | indexAddr t x i =>
    simp only at h
    cases hx : evalO tm x with
    | none => simp [hx] at h
    | some u =>
      cases hy : evalO tm i with
      | none => simp [hx, hy] at h
      | some u' => simp only [hx, hy] at h; simp [execOp, evalO_ok ha hx, evalO_ok ha hy, indexAt_ok hT m w h]
  | index t x i =>
    simp only at h
    cases hx : evalO tm x with
    | none => simp [hx] at h
    | some u =>
      cases hy : evalO tm i with
      | none => simp [hx, hy] at h
      | some u' => simp only [hx, hy] at h; simp [execOp, evalO_ok ha hx, evalO_ok ha hy, index_ok hT m w h]
  | extract x i =>
    simp only at h
    cases hx : evalO tm x with
    | none => simp [hx] at h
    | some u => simp only [hx] at h; simp [execOp, evalO_ok ha hx, extract_ok m w h]
  | call c =>
    obtain ⟨callee, args, ats⟩ := c
    simp only at h
    cases callee with
    | builtin b =>
      cases b with
      | len =>
        simp only at h
        cases hx : evalL tm args.toList with
        | none => simp [hx] at h
        | some vs =>
          rcases vs with _ | ⟨x, _ | ⟨y, l⟩⟩
          · simp [hx] at h
          · obtain ⟨ats⟩ := ats
            cases ats with
            | nil => simp [hx] at h
            | cons t ts =>
              simp only [hx] at h
              have e1 := evalA_ok ha hx
              simp only [renL] at e1
              have := len_ok hT m w (ty := type) (ts := ts) h
              simp only [execOp, Sem.run_bind, resolve, Sem.run_pure, Result.andThen_ok, invoke, builtin, e1]
              rw [this]; rfl
          · simp [hx] at h
      | max =>
        simp only at h
        cases hx : evalL tm args.toList with
        | none => simp [hx] at h
        | some vs =>
          cases vs with
          | nil => simp [hx] at h
          | cons x l =>
            simp only [hx] at h
            have e1 := evalA_ok ha hx
            simp only [renL] at e1
            have := max_ok (P := P) m w h
            simp only [execOp, Sem.run_bind, resolve, Sem.run_pure, Result.andThen_ok, invoke, builtin, e1, Builtin.max_]
            rw [this]; rfl
      | min =>
        simp only at h
        cases hx : evalL tm args.toList with
        | none => simp [hx] at h
        | some vs =>
          cases vs with
          | nil => simp [hx] at h
          | cons x l =>
            simp only [hx] at h
            have e1 := evalA_ok ha hx
            simp only [renL] at e1
            have := min_ok (P := P) m w h
            simp only [execOp, Sem.run_bind, resolve, Sem.run_pure, Result.andThen_ok, invoke, builtin, e1, Builtin.min_]
            rw [this]; rfl
      | _ => simp at h
    | _ => simp at h
  | _ => simp at h
end
end Go.Rx
