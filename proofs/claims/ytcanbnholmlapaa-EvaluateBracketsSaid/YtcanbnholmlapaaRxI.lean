/-
  RxI: copy, slice expressions over a capacity that the run alone knows, maps that are written.
-/
import Derived.Test.YtcanbnholmlapaaRxH
namespace Go.Rx
open Go

theorem Adv.ghost {m : Nm} {s : S} {w : World} (h : FitsS m s w) (b sh cp : Nat) : Adv m s w (m.set s.nx b sh cp) ⟨s.h, s.nx + 1⟩ w := by
  refine ⟨Nm.agree_set m _ _ _ _, Nat.le_succ _, fun m' ha => ?_, ?_, fun _ _ _ => rfl, Nat.le_refl _, rfl, rfl, rfl, ?_⟩
  · have hf := h m' ((Nm.agree_set m s.nx b sh cp).trans ha (Nat.le_succ _))
    exact ⟨hf.ok, hf.inj, fun i c hc => Nat.lt_succ_of_lt (hf.bd i c hc)⟩
  · rintro k ⟨j, d, hd, ho, rfl⟩
    have := (h.fits).bd j d hd
    exact .inl ⟨j, d, hd, ho, by simp [Nm.set, show j ≠ s.nx by omega]⟩
  · exact Nat.le_refl _

theorem ownMap_some {s : S} {r : Nat} {es : List MapEntry} {cl : Nat} (h : ownMap s r = some (es, cl)) : lk s.h r = some (.inr (es, cl)) := by
  unfold ownMap at h
  cases hl : lk s.h r with
  | none => simp [hl] at h
  | some b => rcases b with x | x <;> simp [hl] at h; rw [h]

/-- A MAP OF ITS OWN IS WRITTEN. -/
theorem set_map {P : Program} {m : Nm} {s : S} {w : World} (hf : FitsS m s w) {r : Nat} {es es' : List MapEntry} {ces : List MapEntry} {cl cl' : Nat} (hr : ownMap s r = some (es, cl))
    (he : ∀ m', Agree s.nx m m' → es'.map (renE m') = ces) :
    ∃ w₁, (setObj (m.blk r) (.map ces.toArray cl')).run P w = .ok () w₁ ∧ Adv m s w m (mapSet s r es' cl') w₁ := by
  have hl := ownMap_some hr
  have hb : w.heap[m.blk r]? = some (.map (es.map (renE m)).toArray cl) := (hf.fits).ok r _ hl
  refine ⟨{ w with heap := w.heap.setIfInBounds (m.blk r) (.map ces.toArray cl') }, by simp [setObj, Sem.run, hb], ?_⟩
  refine Adv.write hf hl rfl (fun k hk => ?_) (by simp) rfl rfl rfl (Nat.le_refl _) fun m' ha => ?_
  · exact Array.getElem?_setIfInBounds_ne (Ne.symm hk)
  · have hbi : m'.blk r = m.blk r := (ha r ((hf.fits).bd r _ hl)).1
    have hlt := (hf.fits).size hl
    simp only [BlkOk, hbi, he m' ha]
    exact Array.getElem?_setIfInBounds_self_of_lt hlt

theorem map_stable {m : Nm} {s : S} {w : World} (hf : FitsS m s w) {r : Nat} {es : List MapEntry} {cl : Nat} (hr : ownMap s r = some (es, cl)) : ∀ m', Agree s.nx m m' → es.map (renE m') = es.map (renE m) := fun m' ha => by
  have hl := ownMap_some hr
  have h1 : w.heap[m.blk r]? = some (.map (es.map (renE m)).toArray cl) := (hf.fits).ok r _ hl
  have h2 : w.heap[m'.blk r]? = some (.map (es.map (renE m')).toArray cl) := (hf m' ha).ok r _ hl
  rw [(ha r ((hf.fits).bd r _ hl)).1, h1] at h2
  simp at h2
  exact List.map_congr_left fun e hee => (h2 e hee).symm

theorem bytes_ext {a b : ByteArray} (h : bytesEq a.data.toList b.data.toList = true) : a = b := by
  rw [bytesEq_eq] at h
  have : a.data.toList = b.data.toList := by simpa using h
  exact ByteArray.ext (Array.ext' this)
theorem veqL_ok {E : Value → Value → Bool} {n : Nat} (hE : ∀ a b, E a b = true → a = b ∧ Instr.sameBits n a b = true) (x y : List Value) (h : veqL E x y = true) : x = y ∧ ((x.zip y).all fun p => Instr.sameBits n p.1 p.2) = true := by
  induction x generalizing y with
  | nil => cases y <;> simp_all [veqL]
  | cons a x ih =>
    cases y with
    | nil => simp [veqL] at h
    | cons b y =>
      simp only [veqL] at h
      cases hab : E a b with
      | false => simp [hab] at h
      | true =>
        simp only [hab, cond_true] at h
        obtain ⟨e1, e2⟩ := hE a b hab
        obtain ⟨e3, e4⟩ := ih y h
        subst e1 e3
        simp only [List.zip_cons_cons, List.all_cons, e2, e4]
        simp
theorem veq_ok (d k : Nat) : ∀ a b, veq d a b = true → a = b ∧ Instr.sameBits (d + k) a b = true := by
  induction d with
  | zero => intro a b h; simp [veq] at h
  | succ d ih =>
    intro a b h
    have hs : d + 1 + k = (d + k) + 1 := by omega
    rw [hs]
    simp only [veq] at h
    cases a with
    | int k1 x =>
      cases b with
      | int k2 y =>
        simp only at h
        by_cases e1 : k1 = k2
        · by_cases e2 : x = y
          · subst e1 e2; exact ⟨rfl, by simp [Instr.sameBits]⟩
          · simp [e1, e2] at h
        · simp [e1] at h
      | _ => simp at h
    | bool x =>
      cases b with
      | bool y => simp at h; subst h; exact ⟨rfl, by simp [Instr.sameBits]⟩
      | _ => simp at h
    | string x =>
      cases b with
      | string y => simp only at h; have := bytes_ext h; subst this; exact ⟨rfl, by simp [Instr.sameBits, beq_toListBytes]⟩
      | _ => simp at h
    | agg x =>
      cases b with
      | agg y =>
        obtain ⟨x⟩ := x
        obtain ⟨y⟩ := y
        simp only at h
        obtain ⟨e1, e2⟩ := veqL_ok ih x y h
        subst e1
        refine ⟨rfl, ?_⟩
        simp only [Instr.sameBits, beq_self_eq_true, Bool.true_and]
        exact e2
      | _ => simp at h
    | _ => simp at h

theorem keyStays_ok {P : Program} {a b : Value} (h : veq 50 a b = true) (w : World) : (Instr.keyThatStays a b).run P w = .ok b w ∧ a = b := by
  obtain ⟨e1, e2⟩ := veq_ok 50 9950 a b h
  refine ⟨?_, e1⟩
  have e3 : Instr.sameBits 10000 a b = true := e2
  simp [Instr.keyThatStays, e3]

theorem modX_eq (es : List MapEntry) (i : Nat) (f : MapEntry → MapEntry) : modX es i f = es.modify i f := by
  induction es generalizing i with
  | nil => simp [modX]
  | cons e es ih => cases i <;> simp [modX, ih]
theorem eraseX_eq (es : List MapEntry) (i : Nat) : eraseX es i = es.eraseIdx i := by
  induction es generalizing i with
  | nil => simp [eraseX]
  | cons e es ih => cases i <;> simp [eraseX, ih]

theorem findX_lt {T : Tb} {kt : TypeId} {k : Value} (es : List MapEntry) (b : Nat) {i : Nat} {v : Value} (h : findX T kt k es b = some (some (i, v))) : b ≤ i ∧ ∃ e, es[i - b]? = some e ∧ e.val = v := by
  induction es generalizing b with
  | nil => simp [findX] at h
  | cons e es ih =>
    simp only [findX] at h
    cases he : eqv T 50 kt k e.key with
    | none => simp [he] at h
    | some r =>
      cases r with
      | true => simp [he] at h; obtain ⟨rfl, rfl⟩ := h; exact ⟨Nat.le_refl _, e, by simp, rfl⟩
      | false =>
        simp only [he] at h
        obtain ⟨h1, e', h2, h3⟩ := ih (b + 1) h
        refine ⟨by omega, e', ?_, h3⟩
        rw [show i - b = (i - (b + 1)) + 1 by omega]
        simpa using h2

section
variable {P : Program} {T : Tb} (hT : TbOk P T) {m : Nm} {s : S} {w : World} (hf : FitsS m s w)
include hT hf

theorem copy_ok {t ty : TypeId} {ts : List TypeId} {d x cd cx v : Value} {s₁ : S} (hd' : RelS m s.nx d cd) (hx : RelS m s.nx x cx) (h : copyX T s t d x = some (v, s₁)) : Eff P m s w (Builtin.copy_ (t :: ts).toArray ty #[cd, cx]) v s₁ := by
  unfold copyX at h
  cases hd : T.und t with
  | none => simp [hd] at h
  | some dd =>
  cases dd with
  | slice e =>
    cases d with
    | slice base n c =>
      cases x with
      | slice xb k xc =>
        simp only [hd] at h
        cases hs : sizeX T e with
        | none => simp [hs] at h
        | some sz =>
          simp only [hs] at h
          cases hcx : cellsX s xb (Nat.min k n * sz) with
          | none => simp [hcx] at h
          | some cs =>
            simp only [hcx] at h
            cases h1 : allOne cs with
            | false => simp [h1] at h
            | true =>
              simp only [h1, cond_true] at h
              obtain ⟨cnew, hcn, hnl, hfirst⟩ := first_ok (P := P) hf hcx
              have ecx : cx = .slice (xb.map fun a => ⟨m.blk a.block, m.sh a.block + a.off, none⟩) k (capV m xb xc) := by
                rw [← hx.at]; cases xb <;> simp [ren, capV]
              have ecd : cd = .slice (base.map fun a => ⟨m.blk a.block, m.sh a.block + a.off, none⟩) n (capV m base c) := by
                rw [← hd'.at]; cases base <;> simp [ren, capV]
              have hfi := hfirst w rfl k (capV m xb xc)
              have fin : ∀ w₁, (∀ a, base = some a → (storeCells ⟨m.blk a.block, m.sh a.block + a.off, none⟩ cnew).run P w = .ok () w₁) → (base = none → w₁ = w) →
                  (Builtin.copy_ (t :: ts).toArray ty #[cd, cx]).run P w = .ok (.int .i64 (Nat.min k n)) w₁ := by
                intro w₁ h2 h3
                rw [ecx, ecd]
                cases base with
                | none => rw [h3 rfl]; simp [Builtin.copy_, run_und hT w hd, Builtin.lenOf, run_size hT w hs, hfi, goInt]
                | some a => simp [Builtin.copy_, run_und hT w hd, Builtin.lenOf, run_size hT w hs, hfi, goInt, h2 a rfl]
              cases cs with
              | nil =>
                simp only [Option.some.injEq, Prod.mk.injEq] at h
                obtain ⟨rfl, rfl⟩ := h
                have hnn : cnew = [] := by rw [← hcn.at]; simp [renL]
                subst hnn
                exact ⟨m, w, _, fin w (fun a _ => by simp [storeCells]) (fun _ => rfl), Adv.refl hf, relS_refl fun _ => by simp [ren]⟩
              | cons c0 cs =>
                simp only at h
                cases base with
                | none => simp at h
                | some a =>
                  simp only at h
                  cases hr : ownRow s a.block with
                  | none => simp [hr] at h
                  | some r =>
                    obtain ⟨l, e', md⟩ := r
                    simp only [hr] at h
                    cases hp : putX l a.off (c0 :: cs) with
                    | none => simp [hp] at h
                    | some l' =>
                      simp only [hp, Option.some.injEq, Prod.mk.injEq] at h
                      obtain ⟨rfl, rfl⟩ := h
                      obtain ⟨w₁, hst, hadv⟩ := store_row (P := P) hf hr hp hcn h1
                      exact ⟨m, w₁, _, fin w₁ (fun a' ha' => by cases ha'; exact hst) (fun hno => by cases hno), hadv, relS_refl fun _ => by simp [ren]⟩
      | _ => simp [hd] at h
    | _ => simp [hd] at h
  | _ => simp [hd] at h

theorem sliceE_ok {t : TypeId} {x cx v : Value} {lo hi mx : Option Value} {clo chi cmx : Option Value} {s₁ : S} (hx : RelS m s.nx x cx) (h1 : ∀ m', Agree s.nx m m' → lo.map (ren m') = clo) (h2 : ∀ m', Agree s.nx m m' → hi.map (ren m') = chi)
    (h3 : ∀ m', Agree s.nx m m' → mx.map (ren m') = cmx) (h : sliceE T s t x lo hi mx = some (v, s₁)) : Eff P m s w (Instr.sliceAt t cx clo chi cmx) v s₁ := by
  have e1 := h1 m (Agree.refl _ _)
  have e2 := h2 m (Agree.refl _ _)
  have e3 := h3 m (Agree.refl _ _)
  unfold sliceE at h
  cases hd : T.und t with
  | none => simp [hd] at h
  | some dd =>
  cases dd with
  | slice e =>
    cases x with
    | slice p n c =>
      cases p with
      | none => simp [hd] at h
      | some a =>
        simp only [hd] at h
        cases hc : Nat.blt c capBase with
        | true => simp [hc] at h
        | false =>
          have hc' : ¬ c < capBase := blt_false hc
          simp only [hc, cond_false] at h
          cases hs : sizeX T e with
          | none => simp [hs] at h
          | some sz =>
            simp only [hs] at h
            cases hr : capRow s a.block sz with
            | none => simp [hr] at h
            | some l =>
              simp only [hr, beq_eq] at h
              · by_cases hoff : a.off = capD c * sz
                · rw [decide_eq_true hoff] at h
                  simp only [cond_true] at h
                  cases hpos : Nat.blt 0 sz with
                  | false => simp [hpos] at h
                  | true =>
                    have hpos' : 0 < sz := blt_true hpos
                    simp only [hpos, cond_true] at h
                    obtain ⟨sz, rfl⟩ : ∃ q, sz = q + 1 := ⟨sz - 1, by omega⟩
                    obtain ⟨_, _, hl0, _⟩ := capRow_some hr
                    have hl := hr
                    have hbd := (hf.fits).bd _ _ hl0
                    have ecx : cx = .slice (some ⟨m.blk a.block, m.sh a.block + a.off, none⟩) n (m.cp a.block - capD c) := by
                      rw [← hx.at]; simp [ren, capOf, hc']
                    have hknown : (l.length - a.off) / (sz + 1) ≤ m.cp a.block - capD c := by
                      rcases Nat.eq_zero_or_pos ((l.length - a.off) / (sz + 1)) with h0 | hp
                      · omega
                      · have hle := Nat.div_mul_le_self (l.length - a.off) (sz + 1)
                        have hge : a.off ≤ l.length := by
                          rcases Nat.lt_or_ge l.length a.off with hlt | hge
                          · rw [show l.length - a.off = 0 by omega] at hp; simp at hp
                          · exact hge
                        have := sym_cap0 m w hf.fits (c := c) (n := (l.length - a.off) / (sz + 1)) (off := a.off) hl hoff (by omega)
                        omega
                    have hu := run_und hT w hd
                    cases mx with
                    | some vm =>
                      simp only at h
                      cases hb1 : bound1 vm ((l.length - a.off) / (sz + 1)) with
                      | none => simp [hb1] at h
                      | some M0 =>
                        simp only [hb1] at h
                        cases hle0 : Nat.ble (a.off + M0 * (sz + 1)) l.length with
                        | false => simp [hle0] at h
                        | true =>
                          simp only [hle0, cond_true] at h
                          cases hb : boundsX n M0 lo hi (some vm) with
                          | none => simp [hb] at h
                          | some q =>
                            obtain ⟨l1, hh, M⟩ := q
                            simp only [hb] at h
                            cases hMc : Nat.blt M capBase with
                            | false => simp [hMc] at h
                            | true =>
                              simp only [hMc, cond_true, Option.some.injEq, Prod.mk.injEq] at h
                              obtain ⟨rfl, rfl⟩ := h
                              have hMc' : M < capBase := blt_true hMc
                              have hM0 : M0 ≤ m.cp a.block - capD c := by
                                have := (bound_ok (P := P) m w hb1 _ (Nat.le_refl _) .index).2
                                omega
                              obtain ⟨b1, b2, b3, _⟩ := bounds_ok (P := P) (isS := true) m w hb hM0
                              simp only [Option.isSome_some, if_true] at b1
                              rw [e1, e2, e3] at b1
                              have hMl : M - l1 < capBase := Nat.lt_of_le_of_lt (Nat.sub_le _ _) hMc'
                              refine ⟨m, w, .slice (if M = l1 then some ⟨m.blk a.block, m.sh a.block + a.off, none⟩ else some ⟨m.blk a.block, m.sh a.block + a.off + l1 * (sz + 1), none⟩) (hh - l1) (M - l1), ?_, Adv.refl hf, fun m' ha => ?_⟩
                              · rw [ecx]
                                simp only [Instr.sliceAt, Sem.run_bind, hu, Result.andThen_ok, Instr.slice, b1, run_size hT w hs, Sem.run_pure, Option.map_some, add_at]
                              · obtain ⟨q1, q2, _⟩ := ha a.block hbd
                                by_cases hMl1 : M = l1
                                · rw [hMl1] at hMl ⊢
                                  simp only [decide_true, cond_true, ren, q1, q2, if_true, capOf, if_pos hMl]
                                · simp only [decide_eq_false hMl1, cond_false, ren, q1, q2, if_neg hMl1, capOf, if_pos hMl, Nat.add_assoc]
                    | none =>
                      simp only at h
                      cases hb : boundsX n ((l.length - a.off) / (sz + 1)) lo hi none with
                      | none => simp [hb] at h
                      | some q =>
                        obtain ⟨l1, hh, M⟩ := q
                        simp only [hb] at h
                        cases hle0 : Nat.ble (a.off + hh * (sz + 1)) l.length with
                        | false => simp [hle0] at h
                        | true =>
                          simp only [hle0, cond_true] at h
                          have hle1 : a.off + hh * (sz + 1) ≤ l.length := Nat.le_of_ble_eq_true hle0
                          have hhC := sym_cap0 m w hf.fits (c := c) (n := hh) (off := a.off) hl hoff hle1
                          obtain ⟨b1, b2, _, b4⟩ := bounds_ok (P := P) (isS := true) m w hb hknown
                          simp only [Option.isSome_none, Bool.false_eq_true, if_false] at b1
                          rw [e1, e2, e3] at b1
                          have hrun : (Instr.sliceAt t cx clo chi cmx).run P w = .ok (.slice (if m.cp a.block - capD c = l1 then some ⟨m.blk a.block, m.sh a.block + a.off, none⟩ else some ⟨m.blk a.block, m.sh a.block + a.off + l1 * (sz + 1), none⟩) (hh - l1) (m.cp a.block - capD c - l1)) w := by
                            rw [ecx]
                            simp only [Instr.sliceAt, Sem.run_bind, hu, Result.andThen_ok, Instr.slice, b1, run_size hT w hs, Sem.run_pure, Option.map_some, add_at]
                          cases l1 with
                          | zero =>
                            simp only [Option.some.injEq, Prod.mk.injEq] at h
                            obtain ⟨rfl, rfl⟩ := h
                            have hrun' : (Instr.sliceAt t cx clo chi cmx).run P w = .ok (.slice (some ⟨m.blk a.block, m.sh a.block + a.off, none⟩) hh (m.cp a.block - capD c)) w := by
                              rw [Nat.sub_zero, Nat.sub_zero, Nat.zero_mul, Nat.add_zero] at hrun
                              by_cases hC : m.cp a.block - capD c = 0
                              · rw [if_pos hC] at hrun; exact hrun
                              · rw [if_neg hC] at hrun; exact hrun
                            refine ⟨m, w, _, hrun', Adv.refl hf, fun m' ha => ?_⟩
                            obtain ⟨q1, q2, q3⟩ := ha a.block hbd
                            simp only [ren, q1, q2, q3, capOf, if_neg hc']
                          | succ l1 =>
                            simp only at h
                            cases hlt : Nat.blt (l1 + 1) hh with
                            | true =>
                              have hlt' : l1 + 1 < hh := blt_true hlt
                              simp only [hlt, cond_true, Option.some.injEq, Prod.mk.injEq] at h
                              obtain ⟨rfl, rfl⟩ := h
                              refine ⟨m, w, _, hrun, Adv.refl hf, fun m' ha => ?_⟩
                              obtain ⟨q1, q2, q3⟩ := ha a.block hbd
                              have hne : ¬ m.cp a.block - capD c = l1 + 1 := by omega
                              have hnc : ¬ c + (l1 + 1) < capBase := fun hh => hc' (Nat.lt_of_le_of_lt (Nat.le_add_right _ _) hh)
                              have hcd : capD (c + (l1 + 1)) = capD c + (l1 + 1) := capD_add (Nat.le_of_not_lt hc') _
                              simp only [ren, q1, q2, q3, capOf, if_neg hnc, if_neg hne, hcd, Nat.add_assoc, Nat.sub_sub]
                            | false =>
                              simp only [hlt, cond_false, Option.some.injEq, Prod.mk.injEq] at h
                              obtain ⟨rfl, rfl⟩ := h
                              have hge := blt_false hlt
                              have heq : hh = l1 + 1 := by omega
                              subst heq
                              rw [Nat.sub_self] at hrun
                              by_cases hC : m.cp a.block - capD c = l1 + 1
                              · rw [if_pos hC] at hrun
                                refine ⟨_, w, _, hrun, Adv.ghost hf (m.blk a.block) (m.sh a.block + a.off) (m.cp a.block - capD c - (l1 + 1)), relS_slice (Nat.lt_succ_self _) fun m' ha => ?_⟩
                                rw [capOf_base]
                                obtain ⟨_, _, e3⟩ := set_blk m s.nx (m.blk a.block) (m.sh a.block + a.off) (m.cp a.block - capD c - (l1 + 1))
                                exact (ha s.nx (Nat.lt_succ_self _)).2.2.trans e3
                              · rw [if_neg hC] at hrun
                                refine ⟨_, w, _, hrun, Adv.ghost hf (m.blk a.block) (m.sh a.block + a.off + (l1 + 1) * (sz + 1)) (m.cp a.block - capD c - (l1 + 1)), relS_slice (Nat.lt_succ_self _) fun m' ha => ?_⟩
                                rw [capOf_base]
                                obtain ⟨_, _, e3⟩ := set_blk m s.nx (m.blk a.block) (m.sh a.block + a.off + (l1 + 1) * (sz + 1)) (m.cp a.block - capD c - (l1 + 1))
                                exact (ha s.nx (Nat.lt_succ_self _)).2.2.trans e3
                · rw [decide_eq_false hoff] at h
                  simp at h
    | _ => simp [hd] at h
  | _ => simp [hd] at h
end
end Go.Rx
