/-
  RxH: make, append, copy, slice expressions over a capacity that the run alone knows.
-/
import Derived.Test.YtcanbnholmlapaaRxG
namespace Go.Rx
open Go

theorem cellsX_ok {m : Nm} {s : S} {w : World} (hf : FitsS m s w) {b : Option Addr} {n : Nat} {cs : List Value} (h : cellsX s b n = some cs) :
    cs.length = n ∧ ∃ ccs, RelL m s.nx cs ccs ∧ ∀ a, b = some a → ∀ j u, ccs[j]? = some u → w.cell? ((⟨m.blk a.block, m.sh a.block + a.off, none⟩ : Addr).add j) = some u := by
  cases n with
  | zero =>
    simp [cellsX] at h
    subst h
    exact ⟨rfl, [], fun _ _ => by simp [renL], fun _ _ j u hu => by simp at hu⟩
  | succ n =>
    simp only [cellsX] at h
    cases b with
    | none => simp at h
    | some a =>
      simp only at h
      cases hl : lk s.h a.block with
      | none => simp [hl] at h
      | some blk =>
        rcases blk with ⟨l, e, md⟩ | x
        · simp only [hl] at h
          have hc : ∀ m', Agree s.nx m m' → ∀ j v, cs[j]? = some v → w.cell? ⟨m.blk a.block, m.sh a.block + (a.off + j), none⟩ = some (ren m' v) := fun m' ha j v hj => by
            have hr : RowOk m' a.block l e w md := (hf m' ha).ok _ _ hl
            have := hr.cell (seg_get h hj)
            obtain ⟨e1, e2, _⟩ := ha a.block ((hf.fits).bd _ _ hl)
            rw [e1, e2] at this
            exact this
          refine ⟨seg_len h, renL m cs, fun m' ha => ?_, ?_⟩
          · rw [renL_eq, renL_eq]
            apply List.map_congr_left
            intro v hv
            obtain ⟨j, hj⟩ := List.getElem?_of_mem hv
            have e1 := hc m' ha j v hj
            have e2 := hc m (Agree.refl _ _) j v hj
            rw [e1] at e2
            simpa using e2
          · rintro _ ⟨rfl⟩ j u hu
            rw [renL_eq, List.getElem?_map] at hu
            cases hj : cs[j]? with
            | none => simp [hj] at hu
            | some v =>
              simp [hj] at hu
              subst hu
              rw [add_at, Nat.add_assoc]
              exact hc m (Agree.refl _ _) j v hj
        · simp [hl] at h

theorem sub_rows (x K d n k z : Nat) : x + K * z - (x + d * z + n * z + k * z) = (K - (d + n + k)) * z := by
  rw [Nat.sub_mul, Nat.add_mul, Nat.add_mul]
  omega
theorem add_rows (n k K d : Nat) (h : n + k ≤ K - d) : n + k + (K - (d + n + k)) = K - d := by omega
def capV (m : Nm) : Option Addr → Nat → Nat
  | none, c => c
  | some a, c => capOf m a.block c
/-- A ROW OF ITS OWN IS WRITTEN AND GETS A NEW NAME; the old name is forgotten. -/
theorem Adv.rename {m : Nm} {s : S} {w w' : World} (h : FitsS m s w) {i : Nat} {b b' : Blk} (hb : lk s.h i = some b) (hob : Own b = true) (sh' cp' : Nat)
    (hw : ∀ k, k ≠ m.blk i → w'.heap[k]? = w.heap[k]?) (hsz : w'.heap.size = w.heap.size) (h1 : w'.os = w.os) (h2 : w'.tape = w.tape) (h3 : w'.output = w.output) (h4 : w.drawn ≤ w'.drawn)
    (hc : ∀ m', Agree (s.nx + 1) (m.set s.nx (m.blk i) sh' cp') m' → BlkOk m' s.nx w' b') :
    Adv m s w (m.set s.nx (m.blk i) sh' cp') ⟨(s.nx, b') :: rm s.h i, s.nx + 1⟩ w' := by
  have hbi : i < s.nx := (h.fits).bd i b hb
  have key : ∀ j d, s.nx ≠ j → lk ((s.nx, b') :: rm s.h i) j = some d → lk s.h j = some d ∧ i ≠ j := fun j d hj hd => by
    simp only [lk_cons, hj, if_false, lk_rm] at hd
    by_cases e : i = j
    · simp [e] at hd
    · simp only [e, if_false] at hd; exact ⟨hd, e⟩
  refine ⟨Nm.agree_set m _ _ _ _, Nat.le_succ _, ?_, ?_, ?_, by omega, h1, h2, h3, h4⟩
  · intro m' ha
    have ha' : Agree s.nx m m' := (Nm.agree_set m s.nx (m.blk i) sh' cp').trans ha (Nat.le_succ _)
    have hf := h m' ha'
    have hnew : m'.blk s.nx = m.blk i := by have := (ha s.nx (Nat.lt_succ_self _)).1; simpa [Nm.set] using this
    have hmi : m'.blk i = m.blk i := (ha' i hbi).1
    refine ⟨fun j d hd => ?_, fun j k d d' hd hd' hjk ho => ?_, fun j d hd => ?_⟩
    · by_cases e : s.nx = j
      · subst e; simp only [lk_cons, if_true, Option.some.injEq] at hd; subst hd; exact hc m' ha
      · obtain ⟨hd', hij⟩ := key j d e hd
        refine (hf.ok j d hd').world (hw _ ?_)
        rw [← hmi]
        exact fun x => hf.inj i j b d hb hd' hij hob x.symm
    · by_cases e : s.nx = j
      · subst e
        obtain ⟨hk, hik⟩ := key k d' hjk hd'
        rw [hnew, ← hmi]
        exact hf.inj i k b d' hb hk hik hob
      · obtain ⟨hj, hij⟩ := key j d e hd
        by_cases e2 : s.nx = k
        · subst e2
          rw [hnew, ← hmi]
          exact fun x => hf.inj i j b d hb hj hij hob x.symm
        · obtain ⟨hk, hik⟩ := key k d' e2 hd'
          exact hf.inj j k d d' hj hk hjk ho
    · by_cases e : s.nx = j
      · subst e; exact Nat.lt_succ_self _
      · exact Nat.lt_succ_of_lt (hf.bd j d (key j d e hd).1)
  · rintro k ⟨j, d, hd, ho, rfl⟩
    left
    by_cases e : s.nx = j
    · subst e; exact ⟨i, b, hb, hob, by simp [Nm.set]⟩
    · obtain ⟨hj, _⟩ := key j d e hd
      have := (h.fits).bd j d hj
      exact ⟨j, d, hj, ho, by simp [Nm.set, show j ≠ s.nx by omega]⟩
  · intro k hk hn
    exact hw k fun e => hn ⟨i, b, hb, hob, e.symm⟩

theorem size_zeroCells' (z : Array Value) (n : Nat) : (Builtin.zeroCells z n).size = n * z.size := by simp [Builtin.zeroCells]
theorem roomX_true {n b : Nat} (h : roomX n b = true) : n * b ≤ 140737488355328 ∧ n ≤ 140737488355328 := by
  unfold roomX at h
  cases h1 : Nat.ble (n * b) 140737488355328 with
  | false => simp [h1] at h
  | true => simp only [h1, cond_true] at h; exact ⟨by simpa [Nat.ble_eq] using h1, by simpa [Nat.ble_eq] using h⟩

theorem capOf_base (m : Nm) (i : Nat) : capOf m i capBase = m.cp i := by simp [capOf, capD]

section
variable {P : Program} {T : Tb} (hT : TbOk P T) {m : Nm} {s : S} {w : World} (hf : FitsS m s w)
include hT hf

theorem make_ok {t : TypeId} {l c cl cc v : Value} {s₁ : S} (hl : RelS m s.nx l cl) (hc : RelS m s.nx c cc) (h : makeX T s t l c = some (v, s₁)) : Eff P m s w (Instr.makeSlice t cl cc) v s₁ := by
  unfold makeX at h
  cases hd : T.und t with
  | none => simp [hd] at h
  | some d =>
    cases d with
    | slice e =>
      simp only [hd] at h
      cases l with
      | int k1 a =>
        cases c with
        | int k2 b =>
          simp only at h
          have e1 : cl = .int k1 a := by rw [← hl.at]; simp [ren]
          have e2 : cc = .int k2 b := by rw [← hc.at]; simp [ren]
          subst e1 e2
          cases hi : T.inf e with
          | none => simp [hi] at h
          | some x =>
            obtain ⟨sz, by_, z⟩ := x
            have hsz : sizeX T e = some sz := by simp [sizeX, hi]
            have hz := fun m' => run_zero hT m' w hi
            have hzc := zero_cells hT hi
            simp only at hz hzc
            obtain ⟨_, i, hi1, hi2, hi3, hi4⟩ := hT.inf e _ _ _ hi
            simp only [hi, beq_eq] at h
            cases hwa : IntKind.i64.wrap a with
            | negSucc x => simp [hwa] at h
            | ofNat n =>
              cases hwb : IntKind.i64.wrap b with
              | negSucc x => simp [hwa, hwb] at h
              | ofNat k =>
                simp only [hwa, hwb] at h
                cases h1 : Nat.ble n k with
                | false => simp [h1] at h
                | true =>
                  cases h2 : Nat.ble (by_ * k) 281474976710656 with
                  | false => simp [h1, h2] at h
                  | true =>
                    by_cases h3 : z.cells.toList.length = sz
                    · cases h4 : Nat.blt k capBase with
                      | false => simp only [h1, h2, h3, h4, cond_true, decide_true, cond_false] at h; cases h
                      | true =>
                        simp only [h1, h2, h3, h4, cond_true, decide_true, Option.some.injEq, Prod.mk.injEq] at h
                        obtain ⟨rfl, rfl⟩ := h
                        have h1' : n ≤ k := by simpa [Nat.ble_eq] using h1
                        have h2' : by_ * k ≤ 281474976710656 := Nat.le_of_ble_eq_true h2
                        have h4' : k < capBase := by simpa [Nat.blt_eq] using h4
                        have hcells : z.cells.size = sz := by simpa using h3
                        refine ⟨_, _, .slice (some ⟨w.heap.size, 0, none⟩) n k, ?_, new_row hf (relL_plain (zeros_ren hzc k)) e 0, ?_⟩
                        · have hlarge : ∀ q : Nat, q ≤ k → (decide ((q : Int) < 0) || decide ((i.bytes : Int) * (q : Int) > 2 ^ 48)) = false := by
                            intro q hq
                            have : by_ * q ≤ 281474976710656 := Nat.le_trans (Nat.mul_le_mul_left _ hq) h2'
                            have h' : ((by_ * q : Nat) : Int) ≤ ((281474976710656 : Nat) : Int) := Int.ofNat_le.2 this
                            simp only [Bool.or_eq_false_iff, decide_eq_false_iff_not, hi3]
                            refine ⟨by omega, ?_⟩
                            rw [Int.natCast_mul] at h'
                            simp only [gt_iff_lt, Int.not_lt]
                            exact h'
                          have hzeros : (Array.range (k * sz)).map (fun i => (if k * sz = 0 then (#[] : Array Value) else z.cells)[i % (if k * sz = 0 then (#[] : Array Value) else z.cells).size]!) = ⟨zeros z.cells.toList k⟩ := by
                            by_cases h0 : k * sz = 0
                            · rw [h0]
                              apply Array.ext'
                              have : (zeros z.cells.toList k).length = 0 := by rw [zeros_len, h3, h0]
                              simp [List.length_eq_zero_iff.1 this]
                            · simp only [if_neg h0]
                              have := zeros_eq z.cells k
                              rw [hcells] at this
                              rw [← this]
                              simp [hcells]
                          have hno : (((decide ((k : Int) < 0) || decide ((i.bytes : Int) * (k : Int) > 2 ^ 48)) || decide ((n : Int) < 0)) || decide ((n : Int) > (k : Int))) = false := by
                            rw [hlarge k (Nat.le_refl _)]
                            simp; omega
                          have hwa' : IntKind.i64.wrap a = (n : Int) := hwa
                          have hwb' : IntKind.i64.wrap b = (k : Int) := hwb
                          have hzz := (hz m).1
                          simp only [Instr.makeSlice, Sem.run_bind, run_und hT w hd, Result.andThen_ok, asInt, asIntOf, Sem.run_pure, typeInfo, run_program, hi1, hwa', hwb', Sem.run_ite, hno, Bool.false_eq_true, if_false, run_askRoom, Int.toNat_natCast, run_size hT w hsz]
                          by_cases h0 : k * sz = 0
                          · simp only [if_pos h0] at hzeros
                            simp only [if_pos h0]
                            rw [hzeros]
                            simp [Go.newRow]
                          · simp only [if_neg h0] at hzeros
                            simp only [if_neg h0, hzz, Result.andThen_ok]
                            rw [hzeros]
                            simp [Go.newRow]
                        · refine relS_slice (Nat.lt_succ_self _) fun m' _ => ?_
                          simp [capOf, h4']
                    · simp only [h1, h2, h3, cond_true, decide_false, cond_false] at h; cases h
        | _ => simp at h
      | _ => simp at h
    | _ => simp [hd] at h


omit hf in
theorem run_app_room {t xt ty e e2 : TypeId} {size : Nat} (ht : T.und t = some (.slice e)) (hx : T.und xt = some (.slice e2)) (hs : sizeX T e = some size) {base xb : Option Addr} {n C k xc : Nat} {cnew : Array Value} {w₁ : World}
    (hnew : (Builtin.firstCells size k (.slice xb k xc)).run P w = .ok cnew w) (hroom : n + k ≤ C)
    (hst : ∀ a, base = some a → (storeCells (a.add (n * size)) cnew.toList).run P w = .ok () w₁) (hno : base = none → w₁ = w) :
    (Builtin.append_ #[t, xt] ty #[.slice base n C, .slice xb k xc]).run P w = .ok (.slice base (n + k) C) w₁ := by
  cases base with
  | none =>
    rw [hno rfl]
    simp [Builtin.append_, run_und hT w ht, run_und hT w hx, run_size hT w hs, Builtin.lenOf, hroom, hnew]
  | some a => simp [Builtin.append_, run_und hT w ht, run_und hT w hx, run_size hT w hs, Builtin.lenOf, hroom, hnew, hst a rfl]

omit hf in
theorem run_app_grow' {t xt ty e e2 : TypeId} {size by_ : Nat} {z : Value} (ht : T.und t = some (.slice e)) (hx : T.und xt = some (.slice e2)) (hi : T.inf e = some (size, by_, z)) {base xb : Option Addr} {n C k xc : Nat} {cnew cold : Array Value}
    (hnew : ∀ w', w'.heap = w.heap → (Builtin.firstCells size k (.slice xb k xc)).run P w' = .ok cnew w') (hold : ∀ w', w'.heap = w.heap → (Builtin.firstCells size n (.slice base n C)).run P w' = .ok cold w')
    (hroom : C < n + k) (hr : roomX (n + k) by_ = true) :
    (Builtin.append_ #[t, xt] ty #[.slice base n C, .slice xb k xc]).run P w =
      .ok (.slice (some ⟨w.heap.size, 0, none⟩) (n + k) ((Question.appendCap (n + k) C e).cut (w.tape w.drawn (.appendCap (n + k) C e)))) ((w.drew).alloc (.cells (cold ++ cnew ++ Builtin.zeroCells z.cells (((Question.appendCap (n + k) C e).cut (w.tape w.drawn (.appendCap (n + k) C e))) - (n + k))) e)) := by
  obtain ⟨r1, r2⟩ := roomX_true hr
  obtain ⟨_, i, hi1, hi2, hi3, hi4⟩ := hT.inf e _ _ _ hi
  have hs : sizeX T e = some size := by simp [sizeX, hi]
  have g1 : ¬ n + k ≤ C := by omega
  have g2 : ¬ (((n + k : Nat) : Int) > IntKind.i64.max ∧ (False ∨ i.bytes = 0)) := by
    rw [IntKind.max_i64]; omega
  have g3 : ¬ Builtin.nextslicecap (n + k) C * i.bytes > 2 ^ 48 := by
    have := growslice_fits (bytes := i.bytes) hroom (by rw [hi3]; exact r1)
    omega
  have hn := hnew w.drew rfl
  have ho := hold w.drew rfl
  have hdr : ({ w with drawn := w.drawn + 1 } : World) = w.drew := rfl
  have hz : (zeroValue e).run P w.drew = .ok z w.drew := (run_zero hT (⟨id, id, id⟩ : Nm) w.drew hi).1
  simp [Builtin.append_, run_und hT w ht, run_und hT w hx, run_size hT w hs, Builtin.lenOf, if_neg g1, typeInfo, hi1]
  have g2' : ¬ (9223372036854775807 < (n : Int) + (k : Int) ∧ i.bytes = 0) := by omega
  have g3' : ¬ 281474976710656 < Builtin.nextslicecap (n + k) C * i.bytes := g3
  have hff : (Question.appendCap (n + k) C e).forced = false := rfl
  simp only [if_neg g2', if_neg g3', hff, Bool.false_eq_true, if_false, ho, hn, hz, Result.andThen_ok]
  simp [Go.newRow]
  rfl

omit hf in
theorem run_app_grow {t xt ty e e2 : TypeId} {size by_ : Nat} {z : Value} (ht : T.und t = some (.slice e)) (hx : T.und xt = some (.slice e2)) (hi : T.inf e = some (size, by_, z)) {base xb : Option Addr} {n C k xc : Nat} {cnew cold : Array Value}
    (hnew : ∀ w', w'.heap = w.heap → (Builtin.firstCells size k (.slice xb k xc)).run P w' = .ok cnew w') (hold : ∀ w', w'.heap = w.heap → (Builtin.firstCells size n (.slice base n C)).run P w' = .ok cold w')
    (hroom : C < n + k) (hr : roomX (n + k) by_ = true) :
    ∃ nc, n + k ≤ nc ∧ (Builtin.append_ #[t, xt] ty #[.slice base n C, .slice xb k xc]).run P w =
      .ok (.slice (some ⟨w.heap.size, 0, none⟩) (n + k) nc) ((w.drew).alloc (.cells (cold ++ cnew ++ Builtin.zeroCells z.cells (nc - (n + k))) e)) :=
  ⟨_, by simp [Question.cut], run_app_grow' hT ht hx hi hnew hold hroom hr⟩

omit hT in
theorem first_ok {b : Option Addr} {n size : Nat} {cs : List Value} (h : cellsX s b (n * size) = some cs) :
    ∃ ccs, RelL m s.nx cs ccs ∧ cs.length = n * size ∧ ∀ w', w'.heap = w.heap → ∀ len cap, (Builtin.firstCells size n (.slice (b.map fun a => ⟨m.blk a.block, m.sh a.block + a.off, none⟩) len cap)).run P w' = .ok ⟨ccs⟩ w' := by
  obtain ⟨h1, ccs, h2, h3⟩ := cellsX_ok hf h
  refine ⟨ccs, h2, h1, fun w' hw len cap => ?_⟩
  have hl : ccs.length = n * size := by rw [← h2.at]; simp [h1]
  cases b with
  | none =>
    have : n * size = 0 := by
      cases hz : n * size with
      | zero => rfl
      | succ k => rw [hz] at h; simp [cellsX] at h
    have : ccs = [] := List.length_eq_zero_iff.1 (by omega)
    subst this
    simp [Builtin.firstCells]
  | some a =>
    exact run_firstCells_some w' size n _ len cap ccs hl (fun j u hu => by
      have := h3 a rfl j u hu
      rw [← this]
      simp [World.cell?, hw])

omit hT in
theorem sym_cap {i c sz : Nat} {l : List Value} {e : TypeId} (hl : lk s.h i = some (.inl (l, e, sz + 1 + 2))) {off n : Nat} (ho : off = capD c * (sz + 1)) (hn : off + n * (sz + 1) ≤ l.length) : n + capD c ≤ m.cp i := by
  obtain ⟨pr, rest, _, _, h3⟩ := (hf.fits).ok i _ hl
  have : (n + capD c) * (sz + 1) ≤ m.cp i * (sz + 1) := by rw [Nat.add_mul]; omega
  exact Nat.le_of_mul_le_mul_right this (by omega)

theorem append_sym {t xt ty e e2 : TypeId} {sz by_ : Nat} {z : Value} (hd : T.und t = some (.slice e)) (hd2 : T.und xt = some (.slice e2)) (hi : T.inf e = some (sz + 1, by_, z)) {a : Addr} {l p new cnew : List Value} {n c k : Nat} {xb : Option Addr} {xc : Nat}
    (hr : ownRow s a.block = some (l, e, sz + 1 + 2)) (hoff : a.off = capD c * (sz + 1)) (hc : ¬ c < capBase) (hroom : roomX (n + (k + 1)) by_ = true) (hzl : z.cells.toList.length = sz + 1)
    (hg : seg l a.off (n * (sz + 1)) = some p) (hcn : RelL m s.nx new cnew) (hnl : new.length = (k + 1) * (sz + 1)) (h1 : allOne new = true)
    (hfirst : ∀ w', w'.heap = w.heap → ∀ len cap, (Builtin.firstCells (sz + 1) (k + 1) (.slice (xb.map fun a => ⟨m.blk a.block, m.sh a.block + a.off, none⟩) len cap)).run P w' = .ok ⟨cnew⟩ w')
    {csv cx : Value} (ecx : cx = .slice (xb.map fun a => ⟨m.blk a.block, m.sh a.block + a.off, none⟩) (k + 1) (capV m xb xc)) (ecs : csv = .slice ((some a).map fun a => ⟨m.blk a.block, m.sh a.block + a.off, none⟩) n (capV m (some a) c)) :
    Eff P m s w (Builtin.append_ #[t, xt] ty #[csv, cx]) (.slice (some ⟨s.nx, 0, none⟩) (n + (k + 1)) capBase) ⟨(s.nx, .inl (p ++ new, e, sz + 1 + 2)) :: rm s.h a.block, s.nx + 1⟩ := by
  have hsz : sizeX T e = some (sz + 1) := by simp [sizeX, hi]
  obtain ⟨hl, hmd⟩ := ownRow_some hr
  obtain ⟨hp1, hp2⟩ := seg_some hg
  have hpl := seg_len hg
  have hcap : capV m (some a) c = m.cp a.block - capD c := by simp [capV, capOf, hc]
  have hbd := (hf.fits).bd _ _ hl
  have hcell : cellsX s (some a) (n * (sz + 1)) = some p := by
    cases hn : n * (sz + 1) with
    | zero => rw [hn] at hpl; simp [cellsX, List.length_eq_zero_iff.1 hpl]
    | succ q => rw [hn] at hg; simp [cellsX, hl, hg]
  obtain ⟨cold, hcold, _, hfirsto⟩ := first_ok (P := P) hf hcell
  have hcl : cnew.length = (k + 1) * (sz + 1) := by rw [← hcn.at]; simp [hnl]
  rw [hcap] at ecs
  by_cases hle : n + (k + 1) ≤ m.cp a.block - capD c
  · -- there is room
    obtain ⟨pr, rest, hb, hpr, hrest⟩ := (hf.fits).ok _ _ hl
    have htot : a.off + n * (sz + 1) + cnew.length ≤ l.length + rest.length := by
      rw [hrest, hoff, hcl, ← Nat.add_mul, ← Nat.add_mul]
      exact Nat.mul_le_mul_right _ (by omega)
    have hone : ∀ v ∈ cnew, v.oneCell' = true := by rw [← hcn.at]; exact allOne_ren h1
    have hwl : (pr ++ renL m l ++ rest).length = m.sh a.block + (l.length + rest.length) := by simp [hpr]
    have hst := run_storeCells_at P (m.blk a.block) (m.sh a.block + a.off + n * (sz + 1)) e cnew 0 _ w hb (by simp only [List.size_toArray, hwl]; omega) hone
    simp only [Nat.add_zero] at hst
    refine ⟨_, _, .slice (some ⟨m.blk a.block, m.sh a.block + a.off, none⟩) (n + (k + 1)) (m.cp a.block - capD c), ?_, Adv.rename (w' := w.setRow (m.blk a.block) ((pr ++ renL m l ++ rest).take (m.sh a.block + a.off + n * (sz + 1)) ++ cnew ++ (pr ++ renL m l ++ rest).drop (m.sh a.block + a.off + n * (sz + 1) + cnew.length)).toArray) hf hl (own_of_md hmd) (m.sh a.block + a.off) (m.cp a.block - capD c) (fun k hk => setRow_other w _ k _ hk) (by simp) rfl rfl rfl (Nat.le_refl _) ?_, ?_⟩
    · rw [ecx, ecs]
      exact run_app_room (P := P) hT (w := w) (ty := ty) hd hd2 hsz (hfirst w rfl _ _) hle (fun a' ha' => by
        simp only [Option.map_some, Option.some.injEq] at ha'
        subst ha'
        rw [add_at]
        exact hst) (fun hno => by simp at hno)
    · intro m' ha
      obtain ⟨h1', h2', h3'⟩ := ha s.nx (Nat.lt_succ_self _)
      obtain ⟨e1, e2, e3⟩ := set_blk m s.nx (m.blk a.block) (m.sh a.block + a.off) (m.cp a.block - capD c)
      have ha' : Agree s.nx m m' := (Nm.agree_set m s.nx _ _ _).trans ha (Nat.le_succ _)
      refine ⟨(pr ++ renL m l ++ rest).take (m.sh a.block + a.off), (pr ++ renL m l ++ rest).drop (m.sh a.block + a.off + n * (sz + 1) + cnew.length), ?_, ?_, ?_⟩
      · rw [h1', e1, setRow_heap w _ _ _ e (0, 0) hb, renL_append, hcn m' ha', hcold m' ha']
        have hmid : ((pr ++ renL m l ++ rest).drop (m.sh a.block + a.off)).take (n * (sz + 1)) = cold := by
          rw [← hcold.at, hp1]
          rcases Nat.eq_zero_or_pos (n * (sz + 1)) with h0 | hpos
          · rw [h0]; simp [renL]
          · rw [← hpr, List.append_assoc, List.drop_append, List.drop_of_length_le (by omega), List.nil_append, Nat.add_sub_cancel_left, List.drop_append_of_le_length (by simp; omega), List.take_append_of_le_length (by simp; omega)]
            simp [renL_eq, List.map_drop, List.map_take]
        have htk : (pr ++ renL m l ++ rest).take (m.sh a.block + a.off + n * (sz + 1)) = (pr ++ renL m l ++ rest).take (m.sh a.block + a.off) ++ cold := by
          rw [List.take_add, hmid]
        rw [htk]
        congr 2
        simp only [List.append_assoc]
      · rw [h2', e2, List.length_take, hwl]
        omega
      · rw [h3', e3, List.length_append, hpl, hnl, List.length_drop, hwl]
        rw [hrest, hcl, hoff, ← Nat.add_mul]
        have e4 := sub_rows (m.sh a.block) (m.cp a.block) (capD c) n (k + 1) (sz + 1)
        rw [e4, ← Nat.add_mul, add_rows _ _ _ _ hle]
    · refine relS_slice (Nat.lt_succ_self _) fun m' ha => ?_
      rw [capOf_base]
      obtain ⟨_, _, e3⟩ := set_blk m s.nx (m.blk a.block) (m.sh a.block + a.off) (m.cp a.block - capD c)
      exact (ha s.nx (Nat.lt_succ_self _)).2.2.trans e3
  · have hlt : m.cp a.block - capD c < n + (k + 1) := by omega
    obtain ⟨nc, hnc2, hrun⟩ := run_app_grow (P := P) hT (w := w) (ty := ty) hd hd2 hi (n := n) (k := k + 1) (C := m.cp a.block - capD c) (base := (some a).map fun a => ⟨m.blk a.block, m.sh a.block + a.off, none⟩) (fun w' hw => hfirst w' hw (k + 1) (capV m xb xc)) (fun w' hw => hfirsto w' hw n _) hlt hroom
    have hfd : FitsS m s w.drew := fitsS_draw _ hf
    have hadv := new_row_more hfd (rest := (Builtin.zeroCells z.cells (nc - (n + (k + 1)))).toList) (hcold.append hcn) e nc (sz + 1) (by
      have hzs : z.cells.size = sz + 1 := by simpa using hzl
      rw [List.length_append, hpl, hnl, Array.length_toList, size_zeroCells', hzs, ← Nat.add_mul, ← Nat.add_mul]
      congr 1
      omega)
    have hall := ((Adv.draw (w.drawn + 1) hf).trans hadv).trans (Adv.forget hadv.fits a.block)
    have hst : (⟨rm (newRow s (p ++ new) e (sz + 1 + 2)).h a.block, (newRow s (p ++ new) e (sz + 1 + 2)).nx⟩ : S) = ⟨(s.nx, .inl (p ++ new, e, sz + 1 + 2)) :: rm s.h a.block, s.nx + 1⟩ := by
      simp [newRow, rm, beq_eq, show s.nx ≠ a.block by omega]
    rw [hst] at hall
    refine ⟨_, _, .slice (some ⟨w.heap.size, 0, none⟩) (n + (k + 1)) nc, ?_, hall, ?_⟩
    · rw [ecx, ecs, hrun]
      congr 3
      simp
    · have hw : w.drew.heap.size = w.heap.size := rfl
      rw [hw]
      refine relS_slice (Nat.lt_succ_self _) fun m' ha => ?_
      rw [capOf_base]
      obtain ⟨_, _, e3⟩ := set_blk m s.nx w.heap.size 0 nc
      exact (ha s.nx (Nat.lt_succ_self _)).2.2.trans e3

omit hT in
theorem zero_room {base : Option Addr} {n c sz : Nat} {v : Value} {s₁ : S} (h : (cond (Nat.blt c capBase) (cond (Nat.ble n c) (some (Value.slice base n c, s)) none)
            (match base with
              | some a => match ownRow s a.block with
                | some (l, _, md) => cond (Nat.beq md (sz + 3)) (cond (Nat.beq a.off (capD c * (sz + 1))) (match seg l a.off (n * (sz + 1)) with
                  | some _ => some (Value.slice base n c, s)
                  | none => none) none) none
                | none => none
              | none => none)) = some (v, s₁)) : v = .slice base n c ∧ s₁ = s ∧ n ≤ capV m base c := by
  simp only [beq_eq] at h
  cases hc : Nat.blt c capBase with
  | true =>
    simp only [hc, cond_true] at h
    have hc' : c < capBase := blt_true hc
    cases hnc : Nat.ble n c with
    | false => simp only [hnc, cond_false] at h; cases h
    | true =>
      simp only [hnc, cond_true, Option.some.injEq, Prod.mk.injEq] at h
      refine ⟨h.1.symm, h.2.symm, ?_⟩
      have : n ≤ c := Nat.le_of_ble_eq_true hnc
      cases base with
      | none => exact this
      | some a => simp only [capV, capOf, if_pos hc']; exact this
  | false =>
    have hc' : ¬ c < capBase := blt_false hc
    simp only [hc, cond_false] at h
    cases base with
    | none => simp at h
    | some a =>
      simp only at h
      cases hr : ownRow s a.block with
      | none => simp [hr] at h
      | some r =>
        obtain ⟨l, e', md⟩ := r
        simp only [hr] at h
        by_cases hmd : md = sz + 3
        · by_cases hoff : a.off = capD c * (sz + 1)
          · rw [decide_eq_true hmd, decide_eq_true hoff] at h
            simp only [cond_true] at h
            cases hg : seg l a.off (n * (sz + 1)) with
            | none => simp [hg] at h
            | some q =>
              simp only [hg, Option.some.injEq, Prod.mk.injEq] at h
              refine ⟨h.1.symm, h.2.symm, ?_⟩
              obtain ⟨_, hle⟩ := seg_some hg
              have hl := (ownRow_some hr).1
              subst hmd
              simp only [capV, capOf, if_neg hc']
              rcases Nat.eq_zero_or_pos n with h0 | hpos
              · rw [h0]; exact Nat.zero_le _
              · have hpos' : 0 < n * (sz + 1) := Nat.mul_pos hpos (by omega)
                have := sym_cap hf (c := c) (n := n) (off := a.off) hl hoff (by omega)
                omega
          · rw [decide_eq_true hmd, decide_eq_false hoff] at h
            simp at h
        · rw [decide_eq_false hmd] at h
          simp at h

theorem append_ok0 {t xt ty : TypeId} {sv x csv cx v : Value} {s₁ : S} (hs : RelS m s.nx sv csv) (hx : RelS m s.nx x cx) (h : appendX0 T s t xt sv x = some (v, s₁)) : Eff P m s w (Builtin.append_ #[t, xt] ty #[csv, cx]) v s₁ := by
  unfold appendX0 at h
  cases hd : T.und t with
  | none => simp [hd] at h
  | some d =>
  cases d with
  | slice e =>
    cases hd2 : T.und xt with
    | none => simp [hd, hd2] at h
    | some d2 =>
    cases d2 with
    | slice e2 =>
      cases sv with
      | slice base n c =>
        cases x with
        | slice xb k xc =>
          simp only [hd, hd2] at h
          cases hi : T.inf e with
          | none => simp [hi] at h
          | some y =>
            obtain ⟨sz, by_, z⟩ := y
            cases sz with
            | zero => simp [hi] at h
            | succ sz =>
              have hsz : sizeX T e = some (sz + 1) := by simp [sizeX, hi]
              simp only [hi] at h
              cases hcx : cellsX s xb (k * (sz + 1)) with
              | none => simp [hcx] at h
              | some new =>
                simp only [hcx] at h
                cases h1 : allOne new with
                | false => simp [h1] at h
                | true =>
                  simp only [h1, cond_true] at h
                  obtain ⟨cnew, hcn, hnl, hfirst⟩ := first_ok (P := P) hf hcx
                  have ecx : cx = .slice (xb.map fun a => ⟨m.blk a.block, m.sh a.block + a.off, none⟩) k (capV m xb xc) := by
                    rw [← hx.at]; cases xb <;> simp [ren, capV]
                  have ecs : csv = .slice (base.map fun a => ⟨m.blk a.block, m.sh a.block + a.off, none⟩) n (capV m base c) := by
                    rw [← hs.at]; cases base <;> simp [ren, capV]
                  cases k with
                  | zero =>
                    have hnn : cnew = [] := List.length_eq_zero_iff.1 (by rw [← hcn.at]; simp [hnl])
                    subst hnn
                    have fin : v = .slice base n c → s₁ = s → n ≤ (capV m base c) → Eff P m s w (Builtin.append_ #[t, xt] ty #[csv, cx]) v s₁ := by
                      rintro rfl rfl hle
                      refine ⟨m, w, csv, ?_, Adv.refl hf, hs⟩
                      rw [ecx, ecs]
                      have := run_app_room (P := P) hT (w := w) (ty := ty) (w₁ := w) hd hd2 hsz (base := base.map fun a => ⟨m.blk a.block, m.sh a.block + a.off, none⟩) (n := n) (hfirst w rfl 0 (capV m xb xc)) (C := (capV m base c)) (by simpa using hle) (fun a _ => by simp [storeCells]) (fun _ => rfl)
                      simpa using this
                    obtain ⟨e1, e2, hle⟩ := zero_room hf h
                    exact fin e1 e2 hle
                  | succ k =>
                    simp only [growX, beq_eq] at h
                    cases hc : Nat.blt c capBase with
                    | true =>
                      simp only [hc, cond_true] at h
                      have hc' : c < capBase := blt_true hc
                      have hcap : (capV m base c) = c := by cases base <;> simp [capV, capOf, hc']
                      cases hnc : Nat.ble (n + (k + 1)) c with
                      | true =>
                        simp only [hnc, cond_true] at h
                        have hle : n + (k + 1) ≤ c := Nat.le_of_ble_eq_true hnc
                        cases base with
                        | none => simp at h
                        | some a =>
                          simp only at h
                          cases hr : ownRow s a.block with
                          | none => simp [hr] at h
                          | some r =>
                            obtain ⟨l, e', md⟩ := r
                            simp only [hr] at h
                            cases hp : putX l (a.off + n * (sz + 1)) new with
                            | none => simp [hp] at h
                            | some l' =>
                              simp only [hp, Option.some.injEq, Prod.mk.injEq] at h
                              obtain ⟨rfl, rfl⟩ := h
                              obtain ⟨w₁, hst, hadv⟩ := store_row (P := P) hf hr hp hcn h1
                              refine ⟨m, w₁, .slice (some ⟨m.blk a.block, m.sh a.block + a.off, none⟩) (n + (k + 1)) c, ?_, hadv, ?_⟩
                              · rw [ecx, ecs, hcap]
                                exact run_app_room (P := P) hT (w := w) (ty := ty) hd hd2 hsz (hfirst w rfl _ _) hle (fun a' ha' => by
                                  simp only [Option.map_some, Option.some.injEq] at ha'
                                  subst ha'
                                  rw [add_at, Nat.add_assoc]
                                  exact hst) (fun hno => by simp at hno)
                              · intro m' ha
                                have hbd := (hf.fits).bd _ _ (ownRow_some hr).1
                                obtain ⟨b1, b2, _⟩ := ha a.block hbd
                                simp [ren, b1, b2, capOf, hc']
                      | false =>
                        simp only [hnc, cond_false] at h
                        have hlt : c < n + (k + 1) := by
                          rcases Nat.lt_or_ge c (n + (k + 1)) with hh | hh
                          · exact hh
                          · have := Nat.ble_eq_true_of_le hh
                            rw [this] at hnc
                            cases hnc
                        cases hco : cellsX s base (n * (sz + 1)) with
                        | none => simp [hco] at h
                        | some old =>
                          simp only [hco] at h
                          cases hroom : roomX (n + (k + 1)) by_ with
                          | false => simp [hroom] at h
                          | true =>
                            simp only [hroom, cond_true] at h
                            by_cases hzl : z.cells.toList.length = sz + 1
                            · simp only [hzl, decide_true, cond_true, Option.some.injEq, Prod.mk.injEq] at h
                              obtain ⟨rfl, rfl⟩ := h
                              obtain ⟨cold, hcold, hol, hfirsto⟩ := first_ok (P := P) hf hco
                              obtain ⟨nc, hnc2, hrun⟩ := run_app_grow (P := P) hT (w := w) (ty := ty) hd hd2 hi (n := n) (k := k + 1) (C := c) (base := base.map fun a => ⟨m.blk a.block, m.sh a.block + a.off, none⟩) (fun w' hw => hfirst w' hw (k + 1) (capV m xb xc)) (fun w' hw => hfirsto w' hw n c) hlt hroom
                              have hfd : FitsS m s w.drew := fitsS_draw _ hf
                              have hadv := new_row_more hfd (rest := (Builtin.zeroCells z.cells (nc - (n + (k + 1)))).toList) (hcold.append hcn) e nc (sz + 1) (by
                                have hzs : z.cells.size = sz + 1 := by simpa using hzl
                                rw [List.length_append, hol, hnl, Array.length_toList, size_zeroCells', hzs, ← Nat.add_mul, ← Nat.add_mul]
                                congr 1
                                omega)
                              refine ⟨_, _, .slice (some ⟨w.heap.size, 0, none⟩) (n + (k + 1)) nc, ?_, (Adv.draw (w.drawn + 1) hf).trans hadv, ?_⟩
                              · rw [ecx, ecs, hcap, hrun]
                                congr 3
                                simp
                              · have hw : w.drew.heap.size = w.heap.size := rfl
                                rw [hw]
                                refine relS_slice (Nat.lt_succ_self _) fun m' ha => ?_
                                rw [capOf_base]
                                obtain ⟨_, _, e3⟩ := set_blk m s.nx w.heap.size 0 nc
                                exact (ha s.nx (Nat.lt_succ_self _)).2.2.trans e3
                            · simp only [hzl, decide_false, cond_false] at h; cases h
                    | false =>
                      simp only [hc, cond_false] at h
                      generalize hD : capD c = D at h
                      have hc' : ¬ c < capBase := blt_false hc
                      cases base with
                      | none => simp at h
                      | some a =>
                        simp only at h
                        cases hr : ownRow s a.block with
                        | none => simp [hr] at h
                        | some r =>
                          obtain ⟨l, e', md⟩ := r
                          simp only [hr] at h
                          by_cases hmd : md = sz + 1 + 2
                          · by_cases hee : e' = e
                            · by_cases hoff : a.off = D * (sz + 1)
                              · cases hroom : roomX (n + (k + 1)) by_ with
                                | false => simp [hmd, hee, hroom] at h
                                | true =>
                                  by_cases hzl : z.cells.toList.length = sz + 1
                                  · cases hg : seg l a.off (n * (sz + 1)) with
                                    | none => simp only [hmd, hee, decide_true, cond_true, hroom, hzl, hg, ← hoff] at h; cases h
                                    | some p =>
                                      have h' : some (Value.slice (some ⟨s.nx, 0, none⟩) (n + (k + 1)) capBase, (⟨(s.nx, .inl (p ++ new, e, sz + 1 + 2)) :: rm s.h a.block, s.nx + 1⟩ : S)) = some (v, s₁) := by
                                        simpa only [hmd, hee, decide_true, cond_true, hroom, hzl, hg, ← hoff] using h
                                      simp only [Option.some.injEq, Prod.mk.injEq] at h'
                                      obtain ⟨rfl, rfl⟩ := h'
                                      subst hmd hee
                                      clear h
                                      exact append_sym hT hf hd hd2 hi hr (by rw [hD]; exact hoff) hc' hroom hzl hg hcn hnl h1 hfirst ecx ecs
                                  · simp only [hmd, hee, decide_true, decide_false, cond_true, cond_false, hroom, hzl, ← hoff] at h; cases h
                              · simp only [hmd, hee, hoff, decide_true, decide_false, cond_true, cond_false] at h; cases h
                            · simp only [hmd, hee, decide_true, decide_false, cond_true, cond_false] at h; cases h
                          · simp only [hmd, decide_false, cond_false] at h; cases h
        | _ => simp [hd, hd2] at h
      | _ => simp [hd, hd2] at h
    | _ => simp [hd, hd2] at h
  | _ => simp [hd] at h
omit hT hf in
theorem first_zero (size len cap : Nat) (b : Option Addr) (w' : World) : (Builtin.firstCells size 0 (.slice b len cap)).run P w' = .ok #[] w' := by
  cases b <;> simp [Builtin.firstCells, loadCells, loadCellsFrom]
/-- an append to nothing is the same wherever that nothing lies -/
theorem append_ok {t xt ty : TypeId} {sv x csv cx v : Value} {s₁ : S} (hs : RelS m s.nx sv csv) (hx : RelS m s.nx x cx) (h : appendX T s t xt sv x = some (v, s₁)) : Eff P m s w (Builtin.append_ #[t, xt] ty #[csv, cx]) v s₁ := by
  -- what comes, if it is such a nothing
  have src : ∀ {sv csv : Value} {a : Option Addr}, RelS m s.nx sv csv → appendX0 T s t xt sv (.slice none 0 0) = some (v, s₁) → Eff P m s w (Builtin.append_ #[t, xt] ty #[csv, .slice a 0 0]) v s₁ := by
    intro sv csv a hs h
    have h0 := h
    unfold appendX0 at h
    cases hd : T.und t with
    | none => simp [hd] at h
    | some d =>
    cases d with
    | slice e =>
      cases hd2 : T.und xt with
      | none => simp [hd, hd2] at h
      | some d2 =>
      cases d2 with
      | slice e2 =>
        cases sv with
        | slice base n c =>
          simp only [hd, hd2] at h
          cases hi : T.inf e with
          | none => simp [hi] at h
          | some y =>
            obtain ⟨sz, by_, z⟩ := y
            cases sz with
            | zero => simp [hi] at h
            | succ sz =>
              have hsz : sizeX T e = some (sz + 1) := by simp [sizeX, hi]
              simp only [hi, Nat.zero_mul, cellsX, allOne, cond_true] at h
              obtain ⟨e1, e2, hle⟩ := zero_room hf h
              subst e1; subst e2
              have ecs : csv = .slice (base.map fun a => ⟨m.blk a.block, m.sh a.block + a.off, none⟩) n (capV m base c) := by
                rw [← hs.at]; cases base <;> simp [ren, capV]
              refine ⟨m, w, csv, ?_, Adv.refl hf, hs⟩
              rw [ecs]
              have := run_app_room (P := P) hT (w := w) (ty := ty) (w₁ := w) hd hd2 hsz (base := base.map fun a => ⟨m.blk a.block, m.sh a.block + a.off, none⟩) (n := n) (xb := a) (xc := 0) (k := 0) (cnew := #[]) (first_zero _ _ _ _ _) (C := (capV m base c)) (by simpa using hle) (fun a _ => by simp [storeCells]) (fun _ => rfl)
              simpa using this
        | _ => simp [hd, hd2] at h
      | _ => simp [hd, hd2] at h
    | _ => simp [hd] at h
  -- what is appended to is such a nothing
  have tgt : ∀ {x cx : Value} {a : Option Addr} {v' : Value} {s' : S}, (RelS m s.nx x cx ∨ x = .slice none 0 0 ∧ ∃ b, cx = .slice b 0 0) → appendX0 T s t xt (.slice none 0 0) x = some (v', s') → (v' = .slice none 0 0 ∧ s' = s ∧ (Builtin.append_ #[t, xt] ty #[.slice a 0 0, cx]).run P w = .ok (.slice a 0 0) w) ∨ ((∃ b n c, v' = .slice (some b) n c) ∧ Eff P m s w (Builtin.append_ #[t, xt] ty #[.slice a 0 0, cx]) v' s') := by
    intro x cx a v' s' hx h
    have heff := fun hx => append_ok0 (ty := ty) hT hf (relS_refl (m := m) (n := s.nx) (v := .slice none 0 0) fun _ => by simp [ren]) (cx := cx) hx h
    unfold appendX0 at h
    cases hd : T.und t with
    | none => simp [hd] at h
    | some d =>
    cases d with
    | slice e =>
      cases hd2 : T.und xt with
      | none => simp [hd, hd2] at h
      | some d2 =>
      cases d2 with
      | slice e2 =>
        cases x with
        | slice xb k xc =>
          simp only [hd, hd2] at h
          cases hi : T.inf e with
          | none => simp [hi] at h
          | some y =>
            obtain ⟨sz, by_, z⟩ := y
            cases sz with
            | zero => simp [hi] at h
            | succ sz =>
              have hsz : sizeX T e = some (sz + 1) := by simp [sizeX, hi]
              simp only [hi] at h
              cases hcx : cellsX s xb (k * (sz + 1)) with
              | none => simp [hcx] at h
              | some new =>
                simp only [hcx] at h
                cases h1 : allOne new with
                | false => simp [h1] at h
                | true =>
                  simp only [h1, cond_true] at h
                  obtain ⟨cnew, hcn, hnl, hfirst⟩ := first_ok (P := P) hf hcx
                  have ecx : RelS m s.nx (.slice xb k xc) cx → cx = .slice (xb.map fun a => ⟨m.blk a.block, m.sh a.block + a.off, none⟩) k (capV m xb xc) := fun hx => by
                    rw [← hx.at]; cases xb <;> simp [ren, capV]
                  cases k with
                  | zero =>
                    obtain ⟨e1, e2, hle⟩ := zero_room (sz := sz) hf h
                    refine .inl ⟨e1, e2, ?_⟩
                    have hcx0 : ∃ b c, cx = .slice b 0 c := by
                      rcases hx with hx | ⟨_, b, hb⟩
                      · exact ⟨_, _, ecx hx⟩
                      · exact ⟨b, 0, hb⟩
                    obtain ⟨b, c, rfl⟩ := hcx0
                    have := run_app_room (P := P) hT (w := w) (ty := ty) (w₁ := w) hd hd2 hsz (base := a) (n := 0) (xb := b) (xc := c) (k := 0) (cnew := #[]) (first_zero _ _ _ _ _) (C := 0) (Nat.le_refl _) (fun a _ => by simp [storeCells]) (fun _ => rfl)
                    simpa using this
                  | succ k =>
                    have hroom : roomX (0 + (k + 1)) by_ = true ∧ ∃ b n c, v' = .slice (some b) n c := by
                      simp only [growX] at h
                      have c0 : Nat.blt 0 capBase = true := Nat.ble_eq_true_of_le (by simp [capBase])
                      have c1 : Nat.ble (0 + (k + 1)) 0 = false := by
                        cases hb : Nat.ble (0 + (k + 1)) 0 with
                        | false => rfl
                        | true => have := Nat.le_of_ble_eq_true hb; omega
                      simp only [c0, c1, cond_true, cond_false, Nat.zero_mul, cellsX] at h
                      cases hr : roomX (0 + (k + 1)) by_ with
                      | false => simp only [hr, cond_false] at h; cases h
                      | true =>
                        simp only [hr, cond_true] at h
                        cases hz : Nat.beq z.cells.toList.length (sz + 1) with
                        | false => simp only [hz, cond_false] at h; cases h
                        | true =>
                          simp only [hz, cond_true, Option.some.injEq, Prod.mk.injEq] at h
                          exact ⟨rfl, _, _, _, h.1.symm⟩
                    refine .inr ⟨hroom.2, ?_⟩
                    have hx : RelS m s.nx (.slice xb (k + 1) xc) cx := by
                      rcases hx with hx | ⟨hx, _⟩
                      · exact hx
                      · cases hx
                    obtain ⟨m₁, w₁, cv, g1, g2, g3⟩ := heff hx
                    refine ⟨m₁, w₁, cv, ?_, g2, g3⟩
                    rw [ecx hx] at g1 ⊢
                    have q2 := run_app_grow' (P := P) hT (w := w) (ty := ty) hd hd2 hi (base := none) (n := 0) (C := 0) (cold := #[]) (fun w' hw => hfirst w' hw (k + 1) (capV m xb xc)) (fun w' _ => first_zero _ _ _ _ _) (by omega) hroom.1
                    have q2' := run_app_grow' (P := P) hT (w := w) (ty := ty) hd hd2 hi (base := a) (n := 0) (C := 0) (cold := #[]) (fun w' hw => hfirst w' hw (k + 1) (capV m xb xc)) (fun w' _ => first_zero _ _ _ _ _) (by omega) hroom.1
                    rw [q2', ← q2]
                    exact g1
        | _ => simp [hd, hd2] at h
      | _ => simp [hd, hd2] at h
    | _ => simp [hd] at h
  have flat : (RelS m s.nx (flatW x) cx ∨ flatW x = .slice none 0 0 ∧ ∃ b, cx = .slice b 0 0) := by
    cases x with
    | chan r =>
      cases r with
      | none => exact .inl hx
      | some r =>
        have := hx.at
        simp only [ren] at this
        exact .inr ⟨rfl, _, this.symm⟩
    | _ => exact .inl hx
  unfold appendX at h
  cases hw : isW sv with
  | false =>
    simp only [hw, cond_false] at h
    rcases flat with hx | ⟨e1, b, rfl⟩
    · exact append_ok0 hT hf hs hx h
    · rw [e1] at h; exact src hs h
  | true =>
    simp only [hw, cond_true] at h
    obtain ⟨r, rfl⟩ : ∃ r, sv = .chan (some r) := by
      cases sv with
      | chan r => cases r with
        | none => simp [isW] at hw
        | some r => exact ⟨r, rfl⟩
      | _ => simp [isW] at hw
    have ecs := hs.at
    simp only [ren] at ecs
    cases ha : appendX0 T s t xt (.slice none 0 0) (flatW x) with
    | none => simp [ha] at h
    | some q =>
      obtain ⟨v', s'⟩ := q
      rcases tgt (a := some ⟨m.blk r, m.sh r, some (m.cp r)⟩) flat ha with ⟨e1, e2, hrun⟩ | ⟨⟨b, n, c, e1⟩, heff⟩
      · rw [ha, e1] at h
        simp only [Option.some.injEq, Prod.mk.injEq] at h
        obtain ⟨rfl, rfl⟩ := h
        exact ⟨m, w, csv, by rw [← ecs]; exact hrun, Adv.refl hf, hs⟩
      · rw [ha, e1] at h
        simp only [Option.some.injEq, Prod.mk.injEq] at h
        obtain ⟨rfl, rfl⟩ := h
        rw [← ecs, ← e1]; exact heff
end
end Go.Rx
