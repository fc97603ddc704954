/-
  The walk of evaluate.Reduce and R.Reduce and of the law EvaluateReduces: lines of the regions written by program (genred.py).
-/
import Derived.Test.YtcanbnholmlapaaRxP
import Derived.Test.YtcanbnholmlapaaTab
namespace Go.Proofs
open Go Go.Rx
def gcdI (a b : Int) : Int := (Nat.gcd a.toNat b.toNat : Nat)
theorem gcdI_zero (a : Int) (h : 0 ≤ a) : gcdI a 0 = a := by unfold gcdI; simp; omega
theorem gcdI_step (x y : Int) (hx : 0 ≤ x) (hy : 0 < y) : gcdI y (x.tmod y) = gcdI x y := by
  unfold gcdI
  have e : (x.tmod y).toNat = x.toNat % y.toNat := by
    obtain ⟨n, rfl⟩ := Int.eq_ofNat_of_zero_le hx
    obtain ⟨k, rfl⟩ := Int.eq_ofNat_of_zero_le (Int.le_of_lt hy)
    rfl
  rw [e, Nat.gcd_comm x.toNat, Nat.gcd_rec y.toNat x.toNat, Nat.gcd_comm]
theorem gcdI_pos (x y : Int) (hy : 0 < y) : 0 < gcdI x y := by
  unfold gcdI
  have := Nat.gcd_pos_of_pos_right x.toNat (show 0 < y.toNat by omega)
  omega
theorem tmod_bd (x y : Int) (hx : 0 ≤ x) (hy : 0 < y) : 0 ≤ x.tmod y ∧ x.tmod y < y := by
  rw [Int.tmod_eq_emod_of_nonneg hx]
  exact ⟨Int.emod_nonneg x (by omega), Int.emod_lt_of_pos x hy⟩
theorem tdiv_bd (x y : Int) (h1 : -4611686018427387904 ≤ x) (h2 : x ≤ 4611686018427387904) : IntKind.i64.wrap (x.tdiv y) = x.tdiv y := by
  have h := Int.natAbs_tdiv_le_natAbs x y
  refine wrap_i64 ?_ ?_ <;> omega
def absI (a : Int) : Int := if -a > a then -a else a
theorem absI_bd (a : Int) (h1 : -4611686018427387904 ≤ a) (h2 : a ≤ 4611686018427387904) : 0 ≤ absI a ∧ absI a ≤ 4611686018427387904 := by unfold absI; split <;> omega
theorem Try.run11 : (callX Try.tb 100000 60 11 [] ⟨[], 0⟩).map (·.1) = some (.bool true) := by kernel_rfl
theorem Try.example_ev (s : S) : Ev Try.prog 11 [] s (.bool true) s := by
  have h := Try.run11
  cases hc : callX Try.tb 100000 60 11 [] ⟨[], 0⟩ with
  | none => rw [hc] at h; cases h
  | some q =>
    obtain ⟨v, s'⟩ := q
    rw [hc] at h
    simp only [Option.map_some, Option.some.injEq] at h
    subst h
    exact Ev.frame0 (call_ok Try.tb_ok 100000 60 11 [] ⟨[], 0⟩ _ s' hc) (fun _ => by simp [renL]) (fun _ => by simp [ren]) s
def noCall : CallX := fun _ _ _ => none
theorem noCall_ok : CallOk Try.prog noCall := fun f args s v s₁ h => by simp [noCall] at h
/-- what a fraction comes to -/
def redV (a b : Int) : Value := if b = 0 ∨ a < -4611686018427387904 ∨ 4611686018427387904 < a ∨ b < -4611686018427387904 ∨ 4611686018427387904 < b then .tuple #[.agg #[.int .i64 0, .int .i64 0], .int .i64 2]
  else if b < 0 then .tuple #[.agg #[.int .i64 ((-a).tdiv (gcdI (absI (-a)) (-b))), .int .i64 ((-b).tdiv (gcdI (absI (-a)) (-b)))], .int .i64 0]
  else .tuple #[.agg #[.int .i64 (a.tdiv (gcdI (absI a) b)), .int .i64 (b.tdiv (gcdI (absI a) b))], .int .i64 0]
attribute [local simp] opsP convX buildX fieldAtX fieldX indexAtX indexX extractX lenX max2X min2X foldX storeX fillX fieldPl sizesX sizeX partX isAggD newRow ownRow putX put0 seg takeX allOne callOf orCall lk up zeros setAll eqv eqFs guardX rm opsX opX pureX readX effX wantedX evalO evalL evalP evalM nth putT binX intX unX thenX inBlockX resX oneX pad dstOf plain plainL beq_eq Value.cells Value.oneCell'
set_option maxHeartbeats 400000 in
theorem div43 (a b : Int) (s : S) (ha : 0 ≤ a) (ha2 : a ≤ 4611686018427387904) (hb : 0 ≤ b) (hb2 : b ≤ 4611686018427387904) : Ev Try.prog 43 [.int .i64 a, .int .i64 b] s (.int .i64 (gcdI a b)) s := by
  refine Ev.of_body Try.tb_ok (f := 43) (fn := Try.f43) (by kernel_rfl) rfl ?_
  simp only [Try.f43, pad]
  refine WP.seq (WP.region Try.tb_ok noCall_ok (by simp; exact ⟨rfl, rfl⟩) ?_)
  dsimp only [thenX]
  refine WP.seq (WP.block ?_)
  refine WP.loopAt [0, 1, 5, 6, 7, 8, 9, 10, 11, 12] (fun n vs s' => ∃ (x y : Int) (us : List Value), vs = .int .i64 x :: .int .i64 y :: us ∧ n = y.toNat ∧ s' = s ∧ 0 ≤ x ∧ 0 ≤ y ∧ x ≤ 4611686018427387904 ∧ y ≤ 4611686018427387904 ∧ gcdI x y = gcdI a b)
    b.toNat [.int .i64 a, .int .i64 b, undef, undef, undef, undef, undef, undef, undef, undef] rfl ⟨a, b, _, rfl, rfl, rfl, ha, hb, ha2, hb2, rfl⟩ rfl ?_
  rintro n vs s' hl ⟨x, y, us, rfl, rfl, rfl, h1, h2, h3, h4, h5⟩
  match us, hl with
  | [u5, u6, u7, u8, u9, u10, u11, u12], _ =>
  refine WP.seq (WP.seq (WP.region Try.tb_ok noCall_ok (by simp; exact ⟨rfl, rfl⟩) ?_))
  dsimp only [thenX]
  refine WP.cond rfl (fun ht => WP.skip ?_) (fun ht => WP.exit ?_)
  · have hy : 0 < y := by simpa using ht
    have hy0 : y ≠ 0 := by omega
    dsimp only [thenX]
    refine WP.block (WP.seq (WP.region Try.tb_ok noCall_ok (by simp [hy0]; exact ⟨rfl, rfl⟩) ?_))
    dsimp only [thenX]
    refine WP.seq (WP.region Try.tb_ok noCall_ok (by simp; exact ⟨rfl, rfl⟩) ?_)
    dsimp only [thenX]
    refine WP.region Try.tb_ok noCall_ok (by simp; exact ⟨rfl, rfl⟩) ?_
    dsimp only [inBlockX, thenX]
    have hm := tmod_bd x y h1 hy
    exact ⟨_, [_, _, _, _, _, _, _, _, _, _], by omega, rfl, ⟨y, x.tmod y, _, rfl, rfl, rfl, h2, hm.1, h4, by omega, (gcdI_step x y h1 hy).trans h5⟩, rfl⟩
  · have hy : y = 0 := by
      have : ¬ 0 < y := by simpa using ht
      omega
    subst hy
    dsimp only [thenX, inBlockX]
    refine WP.seq (WP.region Try.tb_ok noCall_ok (by simp; exact ⟨rfl, rfl⟩) ?_)
    dsimp only [thenX]
    refine WP.ret ?_
    refine ⟨.inr rfl, _, _, by simp; rfl, ?_, less_refl _, rfl⟩
    simp [← h5, gcdI_zero x h1]
def divC : CallX := fun f args s => match f, args with
  | 43, [.int .i64 a, .int .i64 b] => if 0 ≤ a ∧ a ≤ 4611686018427387904 ∧ 0 ≤ b ∧ b ≤ 4611686018427387904 then some (.int .i64 (gcdI a b), s) else none
  | _, _ => none
theorem divC_ok : CallOk Try.prog divC := fun f args s v s₁ h => by
  unfold divC at h
  split at h
  · split at h
    · rename_i hc
      simp only [Option.some.injEq, Prod.mk.injEq] at h
      obtain ⟨rfl, rfl⟩ := h
      exact div43 _ _ _ hc.1 hc.2.1 hc.2.2.1 hc.2.2.2
    · cases h
  · cases h

set_option maxRecDepth 100000 in
set_option maxHeartbeats 400000 in
theorem red24_bad1 (a b : Int) (c1 : (b = 0)) : Ev Try.prog 24 [.int .i64 a, .int .i64 b] ⟨[], 0⟩ (.tuple #[.agg #[.int .i64 0, .int .i64 0], .int .i64 2]) ⟨[], 1⟩ := by
  have t1 : (b == 0) = true := by simp [c1]
  refine Ev.of_body Try.tb_ok (f := 24) (fn := Try.f24) (by kernel_rfl) rfl ?_
  simp only [Try.f24, pad]
  refine WP.seq (WP.reg Try.tb_ok noCall_ok fun K hK => ?_)
  refine RO.yes (w_none rfl) rfl ?_; dsimp only [putT, List.set]
  refine RO.p (w_none rfl) rfl ?_; dsimp only [putT, List.set]
  refine RO.nil (hK _ _ ?_)
  clear hK K
  dsimp only [thenX, inBlockX]
  refine WP.seq (WP.seq (WP.reg Try.tb_ok noCall_ok fun K hK => ?_))
  refine RO.p (w_none rfl) rfl ?_; dsimp only [putT, List.set]
  refine RO.p (w_none rfl) rfl ?_; dsimp only [putT, List.set]
  refine RO.p (w_none rfl) rfl ?_; dsimp only [putT, List.set]
  rw [t1]
  refine RO.no (w_no rfl rfl rfl rfl) ?_; dsimp only [putT, List.set]
  refine RO.no (w_no rfl rfl rfl rfl) ?_; dsimp only [putT, List.set]
  refine RO.p (w_none rfl) rfl ?_; dsimp only [putT, List.set]
  refine RO.p (w_none rfl) rfl ?_; dsimp only [putT, List.set]
  refine RO.no (w_no rfl rfl rfl rfl) ?_; dsimp only [putT, List.set]
  refine RO.no (w_no rfl rfl rfl rfl) ?_; dsimp only [putT, List.set]
  refine RO.p (w_none rfl) rfl ?_; dsimp only [putT, List.set]
  refine RO.p (w_none rfl) rfl ?_; dsimp only [putT, List.set]
  refine RO.no (w_no rfl rfl rfl rfl) ?_; dsimp only [putT, List.set]
  refine RO.no (w_no rfl rfl rfl rfl) ?_; dsimp only [putT, List.set]
  refine RO.p (w_none rfl) rfl ?_; dsimp only [putT, List.set]
  refine RO.p (w_none rfl) rfl ?_; dsimp only [putT, List.set]
  refine RO.no (w_no rfl rfl rfl rfl) ?_; dsimp only [putT, List.set]
  refine RO.no (w_no rfl rfl rfl rfl) ?_; dsimp only [putT, List.set]
  refine RO.p (w_none rfl) rfl ?_; dsimp only [putT, List.set]
  refine RO.nil (hK _ _ ?_)
  clear hK K
  dsimp only [thenX, inBlockX]
  refine WP.cond rfl (fun ht => ?_) (fun ht => by cases ht)
  refine WP.seq (WP.reg Try.tb_ok noCall_ok fun K hK => ?_)
  refine RO.yes (w_none rfl) rfl ?_; dsimp only [putT, List.set]
  refine RO.yes (w_none rfl) rfl ?_; dsimp only [putT, List.set]
  refine RO.p (w_none rfl) rfl ?_; dsimp only [putT, List.set]
  refine RO.nil (hK _ _ ?_)
  clear hK K
  dsimp only [thenX, inBlockX]
  exact WP.ret ⟨.inr rfl, _, ⟨[], 1⟩, rfl, rfl, less_none (Nat.le_refl _), rfl⟩
set_option maxRecDepth 100000 in
set_option maxHeartbeats 400000 in
theorem red24_bad2 (a b : Int) (c1 : ¬ (b = 0)) (c2 : (a < -4611686018427387904)) : Ev Try.prog 24 [.int .i64 a, .int .i64 b] ⟨[], 0⟩ (.tuple #[.agg #[.int .i64 0, .int .i64 0], .int .i64 2]) ⟨[], 1⟩ := by
  have t1 : (b == 0) = false := by simp [c1]
  have t2 : decide (a < -4611686018427387904) = true := by simp; omega
  refine Ev.of_body Try.tb_ok (f := 24) (fn := Try.f24) (by kernel_rfl) rfl ?_
  simp only [Try.f24, pad]
  refine WP.seq (WP.reg Try.tb_ok noCall_ok fun K hK => ?_)
  refine RO.yes (w_none rfl) rfl ?_; dsimp only [putT, List.set]
  refine RO.p (w_none rfl) rfl ?_; dsimp only [putT, List.set]
  refine RO.nil (hK _ _ ?_)
  clear hK K
  dsimp only [thenX, inBlockX]
  refine WP.seq (WP.seq (WP.reg Try.tb_ok noCall_ok fun K hK => ?_))
  refine RO.p (w_none rfl) rfl ?_; dsimp only [putT, List.set]
  refine RO.p (w_none rfl) rfl ?_; dsimp only [putT, List.set]
  refine RO.p (w_none rfl) rfl ?_; dsimp only [putT, List.set]
  rw [t1]
  refine RO.p (w_yes rfl rfl rfl rfl) rfl ?_; dsimp only [putT, List.set]
  refine RO.p (w_yes rfl rfl rfl rfl) rfl ?_; dsimp only [putT, List.set]
  refine RO.p (w_none rfl) rfl ?_; dsimp only [putT, List.set]
  refine RO.p (w_none rfl) rfl ?_; dsimp only [putT, List.set]
  rw [t2]
  refine RO.no (w_no rfl rfl rfl rfl) ?_; dsimp only [putT, List.set]
  refine RO.no (w_no rfl rfl rfl rfl) ?_; dsimp only [putT, List.set]
  refine RO.p (w_none rfl) rfl ?_; dsimp only [putT, List.set]
  refine RO.p (w_none rfl) rfl ?_; dsimp only [putT, List.set]
  refine RO.no (w_no rfl rfl rfl rfl) ?_; dsimp only [putT, List.set]
  refine RO.no (w_no rfl rfl rfl rfl) ?_; dsimp only [putT, List.set]
  refine RO.p (w_none rfl) rfl ?_; dsimp only [putT, List.set]
  refine RO.p (w_none rfl) rfl ?_; dsimp only [putT, List.set]
  refine RO.no (w_no rfl rfl rfl rfl) ?_; dsimp only [putT, List.set]
  refine RO.no (w_no rfl rfl rfl rfl) ?_; dsimp only [putT, List.set]
  refine RO.p (w_none rfl) rfl ?_; dsimp only [putT, List.set]
  refine RO.nil (hK _ _ ?_)
  clear hK K
  dsimp only [thenX, inBlockX]
  refine WP.cond rfl (fun ht => ?_) (fun ht => by cases ht)
  refine WP.seq (WP.reg Try.tb_ok noCall_ok fun K hK => ?_)
  refine RO.yes (w_none rfl) rfl ?_; dsimp only [putT, List.set]
  refine RO.yes (w_none rfl) rfl ?_; dsimp only [putT, List.set]
  refine RO.p (w_none rfl) rfl ?_; dsimp only [putT, List.set]
  refine RO.nil (hK _ _ ?_)
  clear hK K
  dsimp only [thenX, inBlockX]
  exact WP.ret ⟨.inr rfl, _, ⟨[], 1⟩, rfl, rfl, less_none (Nat.le_refl _), rfl⟩
set_option maxRecDepth 100000 in
set_option maxHeartbeats 400000 in
theorem red24_bad3 (a b : Int) (c1 : ¬ (b = 0)) (c2 : ¬ (a < -4611686018427387904)) (c3 : (4611686018427387904 < a)) : Ev Try.prog 24 [.int .i64 a, .int .i64 b] ⟨[], 0⟩ (.tuple #[.agg #[.int .i64 0, .int .i64 0], .int .i64 2]) ⟨[], 1⟩ := by
  have t1 : (b == 0) = false := by simp [c1]
  have t2 : decide (a < -4611686018427387904) = false := by simp; omega
  have t3 : decide (a > 4611686018427387904) = true := by simp; omega
  refine Ev.of_body Try.tb_ok (f := 24) (fn := Try.f24) (by kernel_rfl) rfl ?_
  simp only [Try.f24, pad]
  refine WP.seq (WP.reg Try.tb_ok noCall_ok fun K hK => ?_)
  refine RO.yes (w_none rfl) rfl ?_; dsimp only [putT, List.set]
  refine RO.p (w_none rfl) rfl ?_; dsimp only [putT, List.set]
  refine RO.nil (hK _ _ ?_)
  clear hK K
  dsimp only [thenX, inBlockX]
  refine WP.seq (WP.seq (WP.reg Try.tb_ok noCall_ok fun K hK => ?_))
  refine RO.p (w_none rfl) rfl ?_; dsimp only [putT, List.set]
  refine RO.p (w_none rfl) rfl ?_; dsimp only [putT, List.set]
  refine RO.p (w_none rfl) rfl ?_; dsimp only [putT, List.set]
  rw [t1]
  refine RO.p (w_yes rfl rfl rfl rfl) rfl ?_; dsimp only [putT, List.set]
  refine RO.p (w_yes rfl rfl rfl rfl) rfl ?_; dsimp only [putT, List.set]
  refine RO.p (w_none rfl) rfl ?_; dsimp only [putT, List.set]
  refine RO.p (w_none rfl) rfl ?_; dsimp only [putT, List.set]
  rw [t2]
  refine RO.p (w_yes rfl rfl rfl rfl) rfl ?_; dsimp only [putT, List.set]
  refine RO.p (w_yes rfl rfl rfl rfl) rfl ?_; dsimp only [putT, List.set]
  refine RO.p (w_none rfl) rfl ?_; dsimp only [putT, List.set]
  refine RO.p (w_none rfl) rfl ?_; dsimp only [putT, List.set]
  rw [t3]
  refine RO.no (w_no rfl rfl rfl rfl) ?_; dsimp only [putT, List.set]
  refine RO.no (w_no rfl rfl rfl rfl) ?_; dsimp only [putT, List.set]
  refine RO.p (w_none rfl) rfl ?_; dsimp only [putT, List.set]
  refine RO.p (w_none rfl) rfl ?_; dsimp only [putT, List.set]
  refine RO.no (w_no rfl rfl rfl rfl) ?_; dsimp only [putT, List.set]
  refine RO.no (w_no rfl rfl rfl rfl) ?_; dsimp only [putT, List.set]
  refine RO.p (w_none rfl) rfl ?_; dsimp only [putT, List.set]
  refine RO.nil (hK _ _ ?_)
  clear hK K
  dsimp only [thenX, inBlockX]
  refine WP.cond rfl (fun ht => ?_) (fun ht => by cases ht)
  refine WP.seq (WP.reg Try.tb_ok noCall_ok fun K hK => ?_)
  refine RO.yes (w_none rfl) rfl ?_; dsimp only [putT, List.set]
  refine RO.yes (w_none rfl) rfl ?_; dsimp only [putT, List.set]
  refine RO.p (w_none rfl) rfl ?_; dsimp only [putT, List.set]
  refine RO.nil (hK _ _ ?_)
  clear hK K
  dsimp only [thenX, inBlockX]
  exact WP.ret ⟨.inr rfl, _, ⟨[], 1⟩, rfl, rfl, less_none (Nat.le_refl _), rfl⟩
set_option maxRecDepth 100000 in
set_option maxHeartbeats 400000 in
theorem red24_bad4 (a b : Int) (c1 : ¬ (b = 0)) (c2 : ¬ (a < -4611686018427387904)) (c3 : ¬ (4611686018427387904 < a)) (c4 : (b < -4611686018427387904)) : Ev Try.prog 24 [.int .i64 a, .int .i64 b] ⟨[], 0⟩ (.tuple #[.agg #[.int .i64 0, .int .i64 0], .int .i64 2]) ⟨[], 1⟩ := by
  have t1 : (b == 0) = false := by simp [c1]
  have t2 : decide (a < -4611686018427387904) = false := by simp; omega
  have t3 : decide (a > 4611686018427387904) = false := by simp; omega
  have t4 : decide (b < -4611686018427387904) = true := by simp; omega
  refine Ev.of_body Try.tb_ok (f := 24) (fn := Try.f24) (by kernel_rfl) rfl ?_
  simp only [Try.f24, pad]
  refine WP.seq (WP.reg Try.tb_ok noCall_ok fun K hK => ?_)
  refine RO.yes (w_none rfl) rfl ?_; dsimp only [putT, List.set]
  refine RO.p (w_none rfl) rfl ?_; dsimp only [putT, List.set]
  refine RO.nil (hK _ _ ?_)
  clear hK K
  dsimp only [thenX, inBlockX]
  refine WP.seq (WP.seq (WP.reg Try.tb_ok noCall_ok fun K hK => ?_))
  refine RO.p (w_none rfl) rfl ?_; dsimp only [putT, List.set]
  refine RO.p (w_none rfl) rfl ?_; dsimp only [putT, List.set]
  refine RO.p (w_none rfl) rfl ?_; dsimp only [putT, List.set]
  rw [t1]
  refine RO.p (w_yes rfl rfl rfl rfl) rfl ?_; dsimp only [putT, List.set]
  refine RO.p (w_yes rfl rfl rfl rfl) rfl ?_; dsimp only [putT, List.set]
  refine RO.p (w_none rfl) rfl ?_; dsimp only [putT, List.set]
  refine RO.p (w_none rfl) rfl ?_; dsimp only [putT, List.set]
  rw [t2]
  refine RO.p (w_yes rfl rfl rfl rfl) rfl ?_; dsimp only [putT, List.set]
  refine RO.p (w_yes rfl rfl rfl rfl) rfl ?_; dsimp only [putT, List.set]
  refine RO.p (w_none rfl) rfl ?_; dsimp only [putT, List.set]
  refine RO.p (w_none rfl) rfl ?_; dsimp only [putT, List.set]
  rw [t3]
  refine RO.p (w_yes rfl rfl rfl rfl) rfl ?_; dsimp only [putT, List.set]
  refine RO.p (w_yes rfl rfl rfl rfl) rfl ?_; dsimp only [putT, List.set]
  refine RO.p (w_none rfl) rfl ?_; dsimp only [putT, List.set]
  refine RO.p (w_none rfl) rfl ?_; dsimp only [putT, List.set]
  rw [t4]
  refine RO.no (w_no rfl rfl rfl rfl) ?_; dsimp only [putT, List.set]
  refine RO.no (w_no rfl rfl rfl rfl) ?_; dsimp only [putT, List.set]
  refine RO.p (w_none rfl) rfl ?_; dsimp only [putT, List.set]
  refine RO.nil (hK _ _ ?_)
  clear hK K
  dsimp only [thenX, inBlockX]
  refine WP.cond rfl (fun ht => ?_) (fun ht => by cases ht)
  refine WP.seq (WP.reg Try.tb_ok noCall_ok fun K hK => ?_)
  refine RO.yes (w_none rfl) rfl ?_; dsimp only [putT, List.set]
  refine RO.yes (w_none rfl) rfl ?_; dsimp only [putT, List.set]
  refine RO.p (w_none rfl) rfl ?_; dsimp only [putT, List.set]
  refine RO.nil (hK _ _ ?_)
  clear hK K
  dsimp only [thenX, inBlockX]
  exact WP.ret ⟨.inr rfl, _, ⟨[], 1⟩, rfl, rfl, less_none (Nat.le_refl _), rfl⟩
set_option maxRecDepth 100000 in
set_option maxHeartbeats 400000 in
theorem red24_bad5 (a b : Int) (c1 : ¬ (b = 0)) (c2 : ¬ (a < -4611686018427387904)) (c3 : ¬ (4611686018427387904 < a)) (c4 : ¬ (b < -4611686018427387904)) (c5 : (4611686018427387904 < b)) : Ev Try.prog 24 [.int .i64 a, .int .i64 b] ⟨[], 0⟩ (.tuple #[.agg #[.int .i64 0, .int .i64 0], .int .i64 2]) ⟨[], 1⟩ := by
  have t1 : (b == 0) = false := by simp [c1]
  have t2 : decide (a < -4611686018427387904) = false := by simp; omega
  have t3 : decide (a > 4611686018427387904) = false := by simp; omega
  have t4 : decide (b < -4611686018427387904) = false := by simp; omega
  have t5 : decide (b > 4611686018427387904) = true := by simp; omega
  refine Ev.of_body Try.tb_ok (f := 24) (fn := Try.f24) (by kernel_rfl) rfl ?_
  simp only [Try.f24, pad]
  refine WP.seq (WP.reg Try.tb_ok noCall_ok fun K hK => ?_)
  refine RO.yes (w_none rfl) rfl ?_; dsimp only [putT, List.set]
  refine RO.p (w_none rfl) rfl ?_; dsimp only [putT, List.set]
  refine RO.nil (hK _ _ ?_)
  clear hK K
  dsimp only [thenX, inBlockX]
  refine WP.seq (WP.seq (WP.reg Try.tb_ok noCall_ok fun K hK => ?_))
  refine RO.p (w_none rfl) rfl ?_; dsimp only [putT, List.set]
  refine RO.p (w_none rfl) rfl ?_; dsimp only [putT, List.set]
  refine RO.p (w_none rfl) rfl ?_; dsimp only [putT, List.set]
  rw [t1]
  refine RO.p (w_yes rfl rfl rfl rfl) rfl ?_; dsimp only [putT, List.set]
  refine RO.p (w_yes rfl rfl rfl rfl) rfl ?_; dsimp only [putT, List.set]
  refine RO.p (w_none rfl) rfl ?_; dsimp only [putT, List.set]
  refine RO.p (w_none rfl) rfl ?_; dsimp only [putT, List.set]
  rw [t2]
  refine RO.p (w_yes rfl rfl rfl rfl) rfl ?_; dsimp only [putT, List.set]
  refine RO.p (w_yes rfl rfl rfl rfl) rfl ?_; dsimp only [putT, List.set]
  refine RO.p (w_none rfl) rfl ?_; dsimp only [putT, List.set]
  refine RO.p (w_none rfl) rfl ?_; dsimp only [putT, List.set]
  rw [t3]
  refine RO.p (w_yes rfl rfl rfl rfl) rfl ?_; dsimp only [putT, List.set]
  refine RO.p (w_yes rfl rfl rfl rfl) rfl ?_; dsimp only [putT, List.set]
  refine RO.p (w_none rfl) rfl ?_; dsimp only [putT, List.set]
  refine RO.p (w_none rfl) rfl ?_; dsimp only [putT, List.set]
  rw [t4]
  refine RO.p (w_yes rfl rfl rfl rfl) rfl ?_; dsimp only [putT, List.set]
  refine RO.p (w_yes rfl rfl rfl rfl) rfl ?_; dsimp only [putT, List.set]
  refine RO.p (w_none rfl) rfl ?_; dsimp only [putT, List.set]
  rw [t5]
  refine RO.nil (hK _ _ ?_)
  clear hK K
  dsimp only [thenX, inBlockX]
  refine WP.cond rfl (fun ht => ?_) (fun ht => by cases ht)
  refine WP.seq (WP.reg Try.tb_ok noCall_ok fun K hK => ?_)
  refine RO.yes (w_none rfl) rfl ?_; dsimp only [putT, List.set]
  refine RO.yes (w_none rfl) rfl ?_; dsimp only [putT, List.set]
  refine RO.p (w_none rfl) rfl ?_; dsimp only [putT, List.set]
  refine RO.nil (hK _ _ ?_)
  clear hK K
  dsimp only [thenX, inBlockX]
  exact WP.ret ⟨.inr rfl, _, ⟨[], 1⟩, rfl, rfl, less_none (Nat.le_refl _), rfl⟩
set_option maxRecDepth 100000 in
set_option maxHeartbeats 400000 in
theorem red25_bad1 (a b : Int) (c1 : (b = 0)) : Ev Try.prog 25 [.int .i64 a, .int .i64 b] ⟨[], 0⟩ (.tuple #[.agg #[.int .i64 0, .int .i64 0], .int .i64 2]) ⟨[], 1⟩ := by
  have t1 : (b == 0) = true := by simp [c1]
  refine Ev.of_body Try.tb_ok (f := 25) (fn := Try.f25) (by kernel_rfl) rfl ?_
  simp only [Try.f25, pad]
  refine WP.seq (WP.reg Try.tb_ok noCall_ok fun K hK => ?_)
  refine RO.yes (w_none rfl) rfl ?_; dsimp only [putT, List.set]
  refine RO.p (w_none rfl) rfl ?_; dsimp only [putT, List.set]
  refine RO.nil (hK _ _ ?_)
  clear hK K
  dsimp only [thenX, inBlockX]
  refine WP.seq (WP.seq (WP.reg Try.tb_ok noCall_ok fun K hK => ?_))
  refine RO.p (w_none rfl) rfl ?_; dsimp only [putT, List.set]
  refine RO.p (w_none rfl) rfl ?_; dsimp only [putT, List.set]
  refine RO.p (w_none rfl) rfl ?_; dsimp only [putT, List.set]
  rw [t1]
  refine RO.no (w_no rfl rfl rfl rfl) ?_; dsimp only [putT, List.set]
  refine RO.no (w_no rfl rfl rfl rfl) ?_; dsimp only [putT, List.set]
  refine RO.p (w_none rfl) rfl ?_; dsimp only [putT, List.set]
  refine RO.p (w_none rfl) rfl ?_; dsimp only [putT, List.set]
  refine RO.no (w_no rfl rfl rfl rfl) ?_; dsimp only [putT, List.set]
  refine RO.no (w_no rfl rfl rfl rfl) ?_; dsimp only [putT, List.set]
  refine RO.p (w_none rfl) rfl ?_; dsimp only [putT, List.set]
  refine RO.p (w_none rfl) rfl ?_; dsimp only [putT, List.set]
  refine RO.no (w_no rfl rfl rfl rfl) ?_; dsimp only [putT, List.set]
  refine RO.no (w_no rfl rfl rfl rfl) ?_; dsimp only [putT, List.set]
  refine RO.p (w_none rfl) rfl ?_; dsimp only [putT, List.set]
  refine RO.p (w_none rfl) rfl ?_; dsimp only [putT, List.set]
  refine RO.no (w_no rfl rfl rfl rfl) ?_; dsimp only [putT, List.set]
  refine RO.no (w_no rfl rfl rfl rfl) ?_; dsimp only [putT, List.set]
  refine RO.p (w_none rfl) rfl ?_; dsimp only [putT, List.set]
  refine RO.nil (hK _ _ ?_)
  clear hK K
  dsimp only [thenX, inBlockX]
  refine WP.cond rfl (fun ht => ?_) (fun ht => by cases ht)
  refine WP.seq (WP.reg Try.tb_ok noCall_ok fun K hK => ?_)
  refine RO.yes (w_none rfl) rfl ?_; dsimp only [putT, List.set]
  refine RO.yes (w_none rfl) rfl ?_; dsimp only [putT, List.set]
  refine RO.p (w_none rfl) rfl ?_; dsimp only [putT, List.set]
  refine RO.nil (hK _ _ ?_)
  clear hK K
  dsimp only [thenX, inBlockX]
  exact WP.ret ⟨.inr rfl, _, ⟨[], 1⟩, rfl, rfl, less_none (Nat.le_refl _), rfl⟩
set_option maxRecDepth 100000 in
set_option maxHeartbeats 400000 in
theorem red25_bad2 (a b : Int) (c1 : ¬ (b = 0)) (c2 : (a < -4611686018427387904)) : Ev Try.prog 25 [.int .i64 a, .int .i64 b] ⟨[], 0⟩ (.tuple #[.agg #[.int .i64 0, .int .i64 0], .int .i64 2]) ⟨[], 1⟩ := by
  have t1 : (b == 0) = false := by simp [c1]
  have t2 : decide (a < -4611686018427387904) = true := by simp; omega
  refine Ev.of_body Try.tb_ok (f := 25) (fn := Try.f25) (by kernel_rfl) rfl ?_
  simp only [Try.f25, pad]
  refine WP.seq (WP.reg Try.tb_ok noCall_ok fun K hK => ?_)
  refine RO.yes (w_none rfl) rfl ?_; dsimp only [putT, List.set]
  refine RO.p (w_none rfl) rfl ?_; dsimp only [putT, List.set]
  refine RO.nil (hK _ _ ?_)
  clear hK K
  dsimp only [thenX, inBlockX]
  refine WP.seq (WP.seq (WP.reg Try.tb_ok noCall_ok fun K hK => ?_))
  refine RO.p (w_none rfl) rfl ?_; dsimp only [putT, List.set]
  refine RO.p (w_none rfl) rfl ?_; dsimp only [putT, List.set]
  refine RO.p (w_none rfl) rfl ?_; dsimp only [putT, List.set]
  rw [t1]
  refine RO.p (w_yes rfl rfl rfl rfl) rfl ?_; dsimp only [putT, List.set]
  refine RO.p (w_yes rfl rfl rfl rfl) rfl ?_; dsimp only [putT, List.set]
  refine RO.p (w_none rfl) rfl ?_; dsimp only [putT, List.set]
  refine RO.p (w_none rfl) rfl ?_; dsimp only [putT, List.set]
  rw [t2]
  refine RO.no (w_no rfl rfl rfl rfl) ?_; dsimp only [putT, List.set]
  refine RO.no (w_no rfl rfl rfl rfl) ?_; dsimp only [putT, List.set]
  refine RO.p (w_none rfl) rfl ?_; dsimp only [putT, List.set]
  refine RO.p (w_none rfl) rfl ?_; dsimp only [putT, List.set]
  refine RO.no (w_no rfl rfl rfl rfl) ?_; dsimp only [putT, List.set]
  refine RO.no (w_no rfl rfl rfl rfl) ?_; dsimp only [putT, List.set]
  refine RO.p (w_none rfl) rfl ?_; dsimp only [putT, List.set]
  refine RO.p (w_none rfl) rfl ?_; dsimp only [putT, List.set]
  refine RO.no (w_no rfl rfl rfl rfl) ?_; dsimp only [putT, List.set]
  refine RO.no (w_no rfl rfl rfl rfl) ?_; dsimp only [putT, List.set]
  refine RO.p (w_none rfl) rfl ?_; dsimp only [putT, List.set]
  refine RO.nil (hK _ _ ?_)
  clear hK K
  dsimp only [thenX, inBlockX]
  refine WP.cond rfl (fun ht => ?_) (fun ht => by cases ht)
  refine WP.seq (WP.reg Try.tb_ok noCall_ok fun K hK => ?_)
  refine RO.yes (w_none rfl) rfl ?_; dsimp only [putT, List.set]
  refine RO.yes (w_none rfl) rfl ?_; dsimp only [putT, List.set]
  refine RO.p (w_none rfl) rfl ?_; dsimp only [putT, List.set]
  refine RO.nil (hK _ _ ?_)
  clear hK K
  dsimp only [thenX, inBlockX]
  exact WP.ret ⟨.inr rfl, _, ⟨[], 1⟩, rfl, rfl, less_none (Nat.le_refl _), rfl⟩
set_option maxRecDepth 100000 in
set_option maxHeartbeats 400000 in
theorem red25_bad3 (a b : Int) (c1 : ¬ (b = 0)) (c2 : ¬ (a < -4611686018427387904)) (c3 : (4611686018427387904 < a)) : Ev Try.prog 25 [.int .i64 a, .int .i64 b] ⟨[], 0⟩ (.tuple #[.agg #[.int .i64 0, .int .i64 0], .int .i64 2]) ⟨[], 1⟩ := by
  have t1 : (b == 0) = false := by simp [c1]
  have t2 : decide (a < -4611686018427387904) = false := by simp; omega
  have t3 : decide (a > 4611686018427387904) = true := by simp; omega
  refine Ev.of_body Try.tb_ok (f := 25) (fn := Try.f25) (by kernel_rfl) rfl ?_
  simp only [Try.f25, pad]
  refine WP.seq (WP.reg Try.tb_ok noCall_ok fun K hK => ?_)
  refine RO.yes (w_none rfl) rfl ?_; dsimp only [putT, List.set]
  refine RO.p (w_none rfl) rfl ?_; dsimp only [putT, List.set]
  refine RO.nil (hK _ _ ?_)
  clear hK K
  dsimp only [thenX, inBlockX]
  refine WP.seq (WP.seq (WP.reg Try.tb_ok noCall_ok fun K hK => ?_))
  refine RO.p (w_none rfl) rfl ?_; dsimp only [putT, List.set]
  refine RO.p (w_none rfl) rfl ?_; dsimp only [putT, List.set]
  refine RO.p (w_none rfl) rfl ?_; dsimp only [putT, List.set]
  rw [t1]
  refine RO.p (w_yes rfl rfl rfl rfl) rfl ?_; dsimp only [putT, List.set]
  refine RO.p (w_yes rfl rfl rfl rfl) rfl ?_; dsimp only [putT, List.set]
  refine RO.p (w_none rfl) rfl ?_; dsimp only [putT, List.set]
  refine RO.p (w_none rfl) rfl ?_; dsimp only [putT, List.set]
  rw [t2]
  refine RO.p (w_yes rfl rfl rfl rfl) rfl ?_; dsimp only [putT, List.set]
  refine RO.p (w_yes rfl rfl rfl rfl) rfl ?_; dsimp only [putT, List.set]
  refine RO.p (w_none rfl) rfl ?_; dsimp only [putT, List.set]
  refine RO.p (w_none rfl) rfl ?_; dsimp only [putT, List.set]
  rw [t3]
  refine RO.no (w_no rfl rfl rfl rfl) ?_; dsimp only [putT, List.set]
  refine RO.no (w_no rfl rfl rfl rfl) ?_; dsimp only [putT, List.set]
  refine RO.p (w_none rfl) rfl ?_; dsimp only [putT, List.set]
  refine RO.p (w_none rfl) rfl ?_; dsimp only [putT, List.set]
  refine RO.no (w_no rfl rfl rfl rfl) ?_; dsimp only [putT, List.set]
  refine RO.no (w_no rfl rfl rfl rfl) ?_; dsimp only [putT, List.set]
  refine RO.p (w_none rfl) rfl ?_; dsimp only [putT, List.set]
  refine RO.nil (hK _ _ ?_)
  clear hK K
  dsimp only [thenX, inBlockX]
  refine WP.cond rfl (fun ht => ?_) (fun ht => by cases ht)
  refine WP.seq (WP.reg Try.tb_ok noCall_ok fun K hK => ?_)
  refine RO.yes (w_none rfl) rfl ?_; dsimp only [putT, List.set]
  refine RO.yes (w_none rfl) rfl ?_; dsimp only [putT, List.set]
  refine RO.p (w_none rfl) rfl ?_; dsimp only [putT, List.set]
  refine RO.nil (hK _ _ ?_)
  clear hK K
  dsimp only [thenX, inBlockX]
  exact WP.ret ⟨.inr rfl, _, ⟨[], 1⟩, rfl, rfl, less_none (Nat.le_refl _), rfl⟩
set_option maxRecDepth 100000 in
set_option maxHeartbeats 400000 in
theorem red25_bad4 (a b : Int) (c1 : ¬ (b = 0)) (c2 : ¬ (a < -4611686018427387904)) (c3 : ¬ (4611686018427387904 < a)) (c4 : (b < -4611686018427387904)) : Ev Try.prog 25 [.int .i64 a, .int .i64 b] ⟨[], 0⟩ (.tuple #[.agg #[.int .i64 0, .int .i64 0], .int .i64 2]) ⟨[], 1⟩ := by
  have t1 : (b == 0) = false := by simp [c1]
  have t2 : decide (a < -4611686018427387904) = false := by simp; omega
  have t3 : decide (a > 4611686018427387904) = false := by simp; omega
  have t4 : decide (b < -4611686018427387904) = true := by simp; omega
  refine Ev.of_body Try.tb_ok (f := 25) (fn := Try.f25) (by kernel_rfl) rfl ?_
  simp only [Try.f25, pad]
  refine WP.seq (WP.reg Try.tb_ok noCall_ok fun K hK => ?_)
  refine RO.yes (w_none rfl) rfl ?_; dsimp only [putT, List.set]
  refine RO.p (w_none rfl) rfl ?_; dsimp only [putT, List.set]
  refine RO.nil (hK _ _ ?_)
  clear hK K
  dsimp only [thenX, inBlockX]
  refine WP.seq (WP.seq (WP.reg Try.tb_ok noCall_ok fun K hK => ?_))
  refine RO.p (w_none rfl) rfl ?_; dsimp only [putT, List.set]
  refine RO.p (w_none rfl) rfl ?_; dsimp only [putT, List.set]
  refine RO.p (w_none rfl) rfl ?_; dsimp only [putT, List.set]
  rw [t1]
  refine RO.p (w_yes rfl rfl rfl rfl) rfl ?_; dsimp only [putT, List.set]
  refine RO.p (w_yes rfl rfl rfl rfl) rfl ?_; dsimp only [putT, List.set]
  refine RO.p (w_none rfl) rfl ?_; dsimp only [putT, List.set]
  refine RO.p (w_none rfl) rfl ?_; dsimp only [putT, List.set]
  rw [t2]
  refine RO.p (w_yes rfl rfl rfl rfl) rfl ?_; dsimp only [putT, List.set]
  refine RO.p (w_yes rfl rfl rfl rfl) rfl ?_; dsimp only [putT, List.set]
  refine RO.p (w_none rfl) rfl ?_; dsimp only [putT, List.set]
  refine RO.p (w_none rfl) rfl ?_; dsimp only [putT, List.set]
  rw [t3]
  refine RO.p (w_yes rfl rfl rfl rfl) rfl ?_; dsimp only [putT, List.set]
  refine RO.p (w_yes rfl rfl rfl rfl) rfl ?_; dsimp only [putT, List.set]
  refine RO.p (w_none rfl) rfl ?_; dsimp only [putT, List.set]
  refine RO.p (w_none rfl) rfl ?_; dsimp only [putT, List.set]
  rw [t4]
  refine RO.no (w_no rfl rfl rfl rfl) ?_; dsimp only [putT, List.set]
  refine RO.no (w_no rfl rfl rfl rfl) ?_; dsimp only [putT, List.set]
  refine RO.p (w_none rfl) rfl ?_; dsimp only [putT, List.set]
  refine RO.nil (hK _ _ ?_)
  clear hK K
  dsimp only [thenX, inBlockX]
  refine WP.cond rfl (fun ht => ?_) (fun ht => by cases ht)
  refine WP.seq (WP.reg Try.tb_ok noCall_ok fun K hK => ?_)
  refine RO.yes (w_none rfl) rfl ?_; dsimp only [putT, List.set]
  refine RO.yes (w_none rfl) rfl ?_; dsimp only [putT, List.set]
  refine RO.p (w_none rfl) rfl ?_; dsimp only [putT, List.set]
  refine RO.nil (hK _ _ ?_)
  clear hK K
  dsimp only [thenX, inBlockX]
  exact WP.ret ⟨.inr rfl, _, ⟨[], 1⟩, rfl, rfl, less_none (Nat.le_refl _), rfl⟩
set_option maxRecDepth 100000 in
set_option maxHeartbeats 400000 in
theorem red25_bad5 (a b : Int) (c1 : ¬ (b = 0)) (c2 : ¬ (a < -4611686018427387904)) (c3 : ¬ (4611686018427387904 < a)) (c4 : ¬ (b < -4611686018427387904)) (c5 : (4611686018427387904 < b)) : Ev Try.prog 25 [.int .i64 a, .int .i64 b] ⟨[], 0⟩ (.tuple #[.agg #[.int .i64 0, .int .i64 0], .int .i64 2]) ⟨[], 1⟩ := by
  have t1 : (b == 0) = false := by simp [c1]
  have t2 : decide (a < -4611686018427387904) = false := by simp; omega
  have t3 : decide (a > 4611686018427387904) = false := by simp; omega
  have t4 : decide (b < -4611686018427387904) = false := by simp; omega
  have t5 : decide (b > 4611686018427387904) = true := by simp; omega
  refine Ev.of_body Try.tb_ok (f := 25) (fn := Try.f25) (by kernel_rfl) rfl ?_
  simp only [Try.f25, pad]
  refine WP.seq (WP.reg Try.tb_ok noCall_ok fun K hK => ?_)
  refine RO.yes (w_none rfl) rfl ?_; dsimp only [putT, List.set]
  refine RO.p (w_none rfl) rfl ?_; dsimp only [putT, List.set]
  refine RO.nil (hK _ _ ?_)
  clear hK K
  dsimp only [thenX, inBlockX]
  refine WP.seq (WP.seq (WP.reg Try.tb_ok noCall_ok fun K hK => ?_))
  refine RO.p (w_none rfl) rfl ?_; dsimp only [putT, List.set]
  refine RO.p (w_none rfl) rfl ?_; dsimp only [putT, List.set]
  refine RO.p (w_none rfl) rfl ?_; dsimp only [putT, List.set]
  rw [t1]
  refine RO.p (w_yes rfl rfl rfl rfl) rfl ?_; dsimp only [putT, List.set]
  refine RO.p (w_yes rfl rfl rfl rfl) rfl ?_; dsimp only [putT, List.set]
  refine RO.p (w_none rfl) rfl ?_; dsimp only [putT, List.set]
  refine RO.p (w_none rfl) rfl ?_; dsimp only [putT, List.set]
  rw [t2]
  refine RO.p (w_yes rfl rfl rfl rfl) rfl ?_; dsimp only [putT, List.set]
  refine RO.p (w_yes rfl rfl rfl rfl) rfl ?_; dsimp only [putT, List.set]
  refine RO.p (w_none rfl) rfl ?_; dsimp only [putT, List.set]
  refine RO.p (w_none rfl) rfl ?_; dsimp only [putT, List.set]
  rw [t3]
  refine RO.p (w_yes rfl rfl rfl rfl) rfl ?_; dsimp only [putT, List.set]
  refine RO.p (w_yes rfl rfl rfl rfl) rfl ?_; dsimp only [putT, List.set]
  refine RO.p (w_none rfl) rfl ?_; dsimp only [putT, List.set]
  refine RO.p (w_none rfl) rfl ?_; dsimp only [putT, List.set]
  rw [t4]
  refine RO.p (w_yes rfl rfl rfl rfl) rfl ?_; dsimp only [putT, List.set]
  refine RO.p (w_yes rfl rfl rfl rfl) rfl ?_; dsimp only [putT, List.set]
  refine RO.p (w_none rfl) rfl ?_; dsimp only [putT, List.set]
  rw [t5]
  refine RO.nil (hK _ _ ?_)
  clear hK K
  dsimp only [thenX, inBlockX]
  refine WP.cond rfl (fun ht => ?_) (fun ht => by cases ht)
  refine WP.seq (WP.reg Try.tb_ok noCall_ok fun K hK => ?_)
  refine RO.yes (w_none rfl) rfl ?_; dsimp only [putT, List.set]
  refine RO.yes (w_none rfl) rfl ?_; dsimp only [putT, List.set]
  refine RO.p (w_none rfl) rfl ?_; dsimp only [putT, List.set]
  refine RO.nil (hK _ _ ?_)
  clear hK K
  dsimp only [thenX, inBlockX]
  exact WP.ret ⟨.inr rfl, _, ⟨[], 1⟩, rfl, rfl, less_none (Nat.le_refl _), rfl⟩
set_option maxRecDepth 100000 in
set_option maxHeartbeats 1000000 in
theorem red24_pos (a b : Int) (ha : -4611686018427387904 ≤ a) (ha2 : a ≤ 4611686018427387904) (hb : 0 < b) (hb1 : -4611686018427387904 ≤ b) (hb2 : b ≤ 4611686018427387904) : Ev Try.prog 24 [.int .i64 a, .int .i64 b] ⟨[], 0⟩ (.tuple #[.agg #[.int .i64 ((a).tdiv (gcdI (absI (a)) (b))), .int .i64 ((b).tdiv (gcdI (absI (a)) (b)))], .int .i64 0]) ⟨[], 1⟩ := by
  have t1 : (b == 0) = false := by simp; omega
  have t2 : decide (a < -4611686018427387904) = false := by simp; omega
  have t3 : decide (a > 4611686018427387904) = false := by simp; omega
  have t4 : decide (b < -4611686018427387904) = false := by simp; omega
  have t5 : decide (b > 4611686018427387904) = false := by simp; omega
  have t6 : decide (b < 0) = false := by simp; omega
  have e1 : IntKind.i64.wrap (0 - a) = -a := by rw [wrap_i64 (by omega) (by omega)]; omega
  have e2 : IntKind.i64.wrap (0 - b) = -b := by rw [wrap_i64 (by omega) (by omega)]; omega
  have e3 : IntKind.i64.wrap (0 - (a)) = -(a) := by rw [wrap_i64 (by omega) (by omega)]; omega
  have e4 : (if -(a) > a then -(a) else a) = absI (a) := rfl
  have hU := absI_bd (a) (by omega) (by omega)
  have hB : 0 < b := by omega
  have hg := gcdI_pos (absI (a)) (b) hB
  have hg0 : gcdI (absI (a)) (b) ≠ 0 := by omega
  have q1 := tdiv_bd (a) (gcdI (absI (a)) (b)) (by omega) (by omega)
  have q2 := tdiv_bd (b) (gcdI (absI (a)) (b)) (by omega) (by omega)
  refine Ev.of_body Try.tb_ok (f := 24) (fn := Try.f24) (by kernel_rfl) rfl ?_
  simp only [Try.f24, pad]
  refine WP.seq (WP.reg Try.tb_ok noCall_ok fun K hK => ?_)
  refine RO.yes (w_none rfl) rfl ?_; dsimp only [putT, List.set]
  refine RO.p (w_none rfl) rfl ?_; dsimp only [putT, List.set]
  refine RO.nil (hK _ _ ?_)
  clear hK K
  dsimp only [thenX, inBlockX]
  refine WP.seq (WP.seq (WP.reg Try.tb_ok noCall_ok fun K hK => ?_))
  refine RO.p (w_none rfl) rfl ?_; dsimp only [putT, List.set]
  refine RO.p (w_none rfl) rfl ?_; dsimp only [putT, List.set]
  refine RO.p (w_none rfl) rfl ?_; dsimp only [putT, List.set]
  rw [t1]
  refine RO.p (w_yes rfl rfl rfl rfl) rfl ?_; dsimp only [putT, List.set]
  refine RO.p (w_yes rfl rfl rfl rfl) rfl ?_; dsimp only [putT, List.set]
  refine RO.p (w_none rfl) rfl ?_; dsimp only [putT, List.set]
  refine RO.p (w_none rfl) rfl ?_; dsimp only [putT, List.set]
  rw [t2]
  refine RO.p (w_yes rfl rfl rfl rfl) rfl ?_; dsimp only [putT, List.set]
  refine RO.p (w_yes rfl rfl rfl rfl) rfl ?_; dsimp only [putT, List.set]
  refine RO.p (w_none rfl) rfl ?_; dsimp only [putT, List.set]
  refine RO.p (w_none rfl) rfl ?_; dsimp only [putT, List.set]
  rw [t3]
  refine RO.p (w_yes rfl rfl rfl rfl) rfl ?_; dsimp only [putT, List.set]
  refine RO.p (w_yes rfl rfl rfl rfl) rfl ?_; dsimp only [putT, List.set]
  refine RO.p (w_none rfl) rfl ?_; dsimp only [putT, List.set]
  refine RO.p (w_none rfl) rfl ?_; dsimp only [putT, List.set]
  rw [t4]
  refine RO.p (w_yes rfl rfl rfl rfl) rfl ?_; dsimp only [putT, List.set]
  refine RO.p (w_yes rfl rfl rfl rfl) rfl ?_; dsimp only [putT, List.set]
  refine RO.p (w_none rfl) rfl ?_; dsimp only [putT, List.set]
  rw [t5]
  refine RO.nil (hK _ _ ?_)
  clear hK K
  dsimp only [thenX, inBlockX]
  refine WP.cond rfl (fun ht => by cases ht) (fun ht => WP.skip ?_)
  dsimp only [thenX]
  refine WP.seq (WP.seq (WP.reg Try.tb_ok noCall_ok fun K hK => ?_))
  refine RO.p (w_none rfl) rfl ?_; dsimp only [putT, List.set]
  refine RO.p (w_none rfl) rfl ?_; dsimp only [putT, List.set]
  rw [t6]
  refine RO.nil (hK _ _ ?_)
  clear hK K
  dsimp only [thenX, inBlockX]
  refine WP.cond rfl (fun ht => by cases ht) (fun ht => WP.skip ?_)
  dsimp only [thenX]
  refine WP.seq (WP.reg Try.tb_ok noCall_ok fun K hK => ?_)
  refine RO.p (w_none rfl) rfl ?_; dsimp only [putT, List.set]
  refine RO.p (w_none rfl) rfl ?_; dsimp only [putT, List.set]
  refine RO.p (w_none rfl) rfl ?_; dsimp only [putT, List.set]
  rw [e3]
  refine RO.p (w_none rfl) rfl ?_; dsimp only [putT, List.set]
  rw [e4]
  refine RO.p (w_none rfl) rfl ?_; dsimp only [putT, List.set]
  refine RO.p (w_none rfl) rfl ?_; dsimp only [putT, List.set]
  refine RO.p (w_none rfl) rfl ?_; dsimp only [putT, List.set]
  refine RO.nil (hK _ _ ?_)
  clear hK K
  dsimp only [thenX, inBlockX]
  refine WP.seq (WP.block ?_)
  refine WP.loopAt [6, 7, 38, 39, 40, 41, 42, 43] (fun n vs s' => ∃ (x y : Int) (us : List Value), vs = .int .i64 x :: .int .i64 y :: us ∧ n = y.toNat ∧ s' = ⟨[(0, .inl ([.int .i64 0, .int .i64 0], 35, 0))], 1⟩ ∧ 0 ≤ x ∧ 0 ≤ y ∧ x ≤ 4611686018427387904 ∧ y ≤ 4611686018427387904 ∧ gcdI x y = gcdI (absI (a)) (b))
    (b).toNat [.int .i64 (absI (a)), .int .i64 (b), undef, undef, undef, undef, undef, undef] rfl ⟨absI (a), b, _, rfl, rfl, rfl, hU.1, by omega, hU.2, by omega, rfl⟩ rfl ?_
  rintro n vs s' hl ⟨x, y, us, rfl, rfl, rfl, h1, h2, h3, h4, h5⟩
  match us, hl with
  | [u38, u39, u40, u41, u42, u43], _ =>
  dsimp only [setAll, List.set]
  refine WP.seq (WP.seq (WP.reg Try.tb_ok noCall_ok fun K hK => ?_))
  refine RO.p (w_none rfl) rfl ?_; dsimp only [putT, List.set]
  refine RO.p (w_none rfl) rfl ?_; dsimp only [putT, List.set]
  refine RO.nil (hK _ _ ?_)
  clear hK K
  dsimp only [thenX, inBlockX]
  refine WP.cond rfl (fun ht => WP.skip ?_) (fun ht => WP.exit ?_)
  · have hy0 : y ≠ 0 := by simpa using ht
    have hy : 0 < y := by omega
    dsimp only [thenX]
    refine WP.block (WP.regO Try.tb_ok noCall_ok (by kernel_rfl) (by kernel_rfl) fun K hK => ?_)
    refine RO.p (w_none rfl) rfl ?_; dsimp only [putT, List.set]
    refine RO.p (w_none rfl) rfl ?_; dsimp only [putT, List.set]
    refine RO.p (w_none rfl) rfl ?_; dsimp only [putT, List.set]
    refine RO.yes (w_none rfl) (opX_rem rfl rfl hy0) ?_; dsimp only [putT, List.set]
    refine RO.p (w_none rfl) rfl ?_; dsimp only [putT, List.set]
    refine RO.p (w_none rfl) rfl ?_; dsimp only [putT, List.set]
    have hm := tmod_bd x y h1 hy
    exact RO.nil (hK _ _ ⟨_, [_, _, _, _, _, _, _, _], by omega, rfl, ⟨y, x.tmod y, _, rfl, rfl, rfl, h2, hm.1, h4, by omega, (gcdI_step x y h1 hy).trans h5⟩, rfl⟩)
  · have hy : y = 0 := by simpa using ht
    subst hy
    rw [gcdI_zero x h1] at h5
    subst h5
    dsimp only [thenX, inBlockX]
    refine WP.seq (WP.regO Try.tb_ok noCall_ok (by kernel_rfl) (by kernel_rfl) fun K hK => ?_)
    refine RO.p (w_none rfl) rfl ?_; dsimp only [putT, List.set]
    refine RO.p (w_none rfl) rfl ?_; dsimp only [putT, List.set]
    refine RO.yes (w_none rfl) (opX_quo rfl rfl hg0) ?_; dsimp only [putT, List.set]
    rw [q1]
    refine RO.p (w_none rfl) rfl ?_; dsimp only [putT, List.set]
    refine RO.p (w_none rfl) rfl ?_; dsimp only [putT, List.set]
    refine RO.yes (w_none rfl) (opX_quo rfl rfl hg0) ?_; dsimp only [putT, List.set]
    rw [q2]
    refine RO.yes (w_none rfl) rfl ?_; dsimp only [putT, List.set]
    refine RO.yes (w_none rfl) rfl ?_; dsimp only [putT, List.set]
    refine RO.p (w_none rfl) rfl ?_; dsimp only [putT, List.set]
    refine RO.nil (hK _ _ ?_)
    clear hK K
    dsimp only [thenX, inBlockX]
    exact WP.ret ⟨.inr rfl, _, ⟨[], 1⟩, rfl, rfl, less_none (Nat.le_refl _), rfl⟩
set_option maxRecDepth 100000 in
set_option maxHeartbeats 1000000 in
theorem red24_neg (a b : Int) (ha : -4611686018427387904 ≤ a) (ha2 : a ≤ 4611686018427387904) (hb : b < 0) (hb1 : -4611686018427387904 ≤ b) (hb2 : b ≤ 4611686018427387904) : Ev Try.prog 24 [.int .i64 a, .int .i64 b] ⟨[], 0⟩ (.tuple #[.agg #[.int .i64 ((-a).tdiv (gcdI (absI (-a)) (-b))), .int .i64 ((-b).tdiv (gcdI (absI (-a)) (-b)))], .int .i64 0]) ⟨[], 1⟩ := by
  have t1 : (b == 0) = false := by simp; omega
  have t2 : decide (a < -4611686018427387904) = false := by simp; omega
  have t3 : decide (a > 4611686018427387904) = false := by simp; omega
  have t4 : decide (b < -4611686018427387904) = false := by simp; omega
  have t5 : decide (b > 4611686018427387904) = false := by simp; omega
  have t6 : decide (b < 0) = true := by simp; omega
  have e1 : IntKind.i64.wrap (0 - a) = -a := by rw [wrap_i64 (by omega) (by omega)]; omega
  have e2 : IntKind.i64.wrap (0 - b) = -b := by rw [wrap_i64 (by omega) (by omega)]; omega
  have e3 : IntKind.i64.wrap (0 - (-a)) = -(-a) := by rw [wrap_i64 (by omega) (by omega)]; omega
  have e4 : (if -(-a) > -a then -(-a) else -a) = absI (-a) := rfl
  have hU := absI_bd (-a) (by omega) (by omega)
  have hB : 0 < -b := by omega
  have hg := gcdI_pos (absI (-a)) (-b) hB
  have hg0 : gcdI (absI (-a)) (-b) ≠ 0 := by omega
  have q1 := tdiv_bd (-a) (gcdI (absI (-a)) (-b)) (by omega) (by omega)
  have q2 := tdiv_bd (-b) (gcdI (absI (-a)) (-b)) (by omega) (by omega)
  refine Ev.of_body Try.tb_ok (f := 24) (fn := Try.f24) (by kernel_rfl) rfl ?_
  simp only [Try.f24, pad]
  refine WP.seq (WP.reg Try.tb_ok noCall_ok fun K hK => ?_)
  refine RO.yes (w_none rfl) rfl ?_; dsimp only [putT, List.set]
  refine RO.p (w_none rfl) rfl ?_; dsimp only [putT, List.set]
  refine RO.nil (hK _ _ ?_)
  clear hK K
  dsimp only [thenX, inBlockX]
  refine WP.seq (WP.seq (WP.reg Try.tb_ok noCall_ok fun K hK => ?_))
  refine RO.p (w_none rfl) rfl ?_; dsimp only [putT, List.set]
  refine RO.p (w_none rfl) rfl ?_; dsimp only [putT, List.set]
  refine RO.p (w_none rfl) rfl ?_; dsimp only [putT, List.set]
  rw [t1]
  refine RO.p (w_yes rfl rfl rfl rfl) rfl ?_; dsimp only [putT, List.set]
  refine RO.p (w_yes rfl rfl rfl rfl) rfl ?_; dsimp only [putT, List.set]
  refine RO.p (w_none rfl) rfl ?_; dsimp only [putT, List.set]
  refine RO.p (w_none rfl) rfl ?_; dsimp only [putT, List.set]
  rw [t2]
  refine RO.p (w_yes rfl rfl rfl rfl) rfl ?_; dsimp only [putT, List.set]
  refine RO.p (w_yes rfl rfl rfl rfl) rfl ?_; dsimp only [putT, List.set]
  refine RO.p (w_none rfl) rfl ?_; dsimp only [putT, List.set]
  refine RO.p (w_none rfl) rfl ?_; dsimp only [putT, List.set]
  rw [t3]
  refine RO.p (w_yes rfl rfl rfl rfl) rfl ?_; dsimp only [putT, List.set]
  refine RO.p (w_yes rfl rfl rfl rfl) rfl ?_; dsimp only [putT, List.set]
  refine RO.p (w_none rfl) rfl ?_; dsimp only [putT, List.set]
  refine RO.p (w_none rfl) rfl ?_; dsimp only [putT, List.set]
  rw [t4]
  refine RO.p (w_yes rfl rfl rfl rfl) rfl ?_; dsimp only [putT, List.set]
  refine RO.p (w_yes rfl rfl rfl rfl) rfl ?_; dsimp only [putT, List.set]
  refine RO.p (w_none rfl) rfl ?_; dsimp only [putT, List.set]
  rw [t5]
  refine RO.nil (hK _ _ ?_)
  clear hK K
  dsimp only [thenX, inBlockX]
  refine WP.cond rfl (fun ht => by cases ht) (fun ht => WP.skip ?_)
  dsimp only [thenX]
  refine WP.seq (WP.seq (WP.reg Try.tb_ok noCall_ok fun K hK => ?_))
  refine RO.p (w_none rfl) rfl ?_; dsimp only [putT, List.set]
  refine RO.p (w_none rfl) rfl ?_; dsimp only [putT, List.set]
  rw [t6]
  refine RO.nil (hK _ _ ?_)
  clear hK K
  dsimp only [thenX, inBlockX]
  refine WP.cond rfl (fun ht => ?_) (fun ht => by cases ht)
  refine WP.reg Try.tb_ok noCall_ok fun K hK => ?_
  refine RO.p (w_none rfl) rfl ?_; dsimp only [putT, List.set]
  refine RO.p (w_none rfl) rfl ?_; dsimp only [putT, List.set]
  rw [e1]
  refine RO.p (w_none rfl) rfl ?_; dsimp only [putT, List.set]
  refine RO.p (w_none rfl) rfl ?_; dsimp only [putT, List.set]
  rw [e2]
  refine RO.p (w_none rfl) rfl ?_; dsimp only [putT, List.set]
  refine RO.p (w_none rfl) rfl ?_; dsimp only [putT, List.set]
  refine RO.nil (hK _ _ ?_)
  clear hK K
  dsimp only [thenX, inBlockX]
  refine WP.seq (WP.reg Try.tb_ok noCall_ok fun K hK => ?_)
  refine RO.p (w_none rfl) rfl ?_; dsimp only [putT, List.set]
  refine RO.p (w_none rfl) rfl ?_; dsimp only [putT, List.set]
  refine RO.p (w_none rfl) rfl ?_; dsimp only [putT, List.set]
  rw [e3]
  refine RO.p (w_none rfl) rfl ?_; dsimp only [putT, List.set]
  rw [e4]
  refine RO.p (w_none rfl) rfl ?_; dsimp only [putT, List.set]
  refine RO.p (w_none rfl) rfl ?_; dsimp only [putT, List.set]
  refine RO.p (w_none rfl) rfl ?_; dsimp only [putT, List.set]
  refine RO.nil (hK _ _ ?_)
  clear hK K
  dsimp only [thenX, inBlockX]
  refine WP.seq (WP.block ?_)
  refine WP.loopAt [6, 7, 38, 39, 40, 41, 42, 43] (fun n vs s' => ∃ (x y : Int) (us : List Value), vs = .int .i64 x :: .int .i64 y :: us ∧ n = y.toNat ∧ s' = ⟨[(0, .inl ([.int .i64 0, .int .i64 0], 35, 0))], 1⟩ ∧ 0 ≤ x ∧ 0 ≤ y ∧ x ≤ 4611686018427387904 ∧ y ≤ 4611686018427387904 ∧ gcdI x y = gcdI (absI (-a)) (-b))
    (-b).toNat [.int .i64 (absI (-a)), .int .i64 (-b), undef, undef, undef, undef, undef, undef] rfl ⟨absI (-a), -b, _, rfl, rfl, rfl, hU.1, by omega, hU.2, by omega, rfl⟩ rfl ?_
  rintro n vs s' hl ⟨x, y, us, rfl, rfl, rfl, h1, h2, h3, h4, h5⟩
  match us, hl with
  | [u38, u39, u40, u41, u42, u43], _ =>
  dsimp only [setAll, List.set]
  refine WP.seq (WP.seq (WP.reg Try.tb_ok noCall_ok fun K hK => ?_))
  refine RO.p (w_none rfl) rfl ?_; dsimp only [putT, List.set]
  refine RO.p (w_none rfl) rfl ?_; dsimp only [putT, List.set]
  refine RO.nil (hK _ _ ?_)
  clear hK K
  dsimp only [thenX, inBlockX]
  refine WP.cond rfl (fun ht => WP.skip ?_) (fun ht => WP.exit ?_)
  · have hy0 : y ≠ 0 := by simpa using ht
    have hy : 0 < y := by omega
    dsimp only [thenX]
    refine WP.block (WP.regO Try.tb_ok noCall_ok (by kernel_rfl) (by kernel_rfl) fun K hK => ?_)
    refine RO.p (w_none rfl) rfl ?_; dsimp only [putT, List.set]
    refine RO.p (w_none rfl) rfl ?_; dsimp only [putT, List.set]
    refine RO.p (w_none rfl) rfl ?_; dsimp only [putT, List.set]
    refine RO.yes (w_none rfl) (opX_rem rfl rfl hy0) ?_; dsimp only [putT, List.set]
    refine RO.p (w_none rfl) rfl ?_; dsimp only [putT, List.set]
    refine RO.p (w_none rfl) rfl ?_; dsimp only [putT, List.set]
    have hm := tmod_bd x y h1 hy
    exact RO.nil (hK _ _ ⟨_, [_, _, _, _, _, _, _, _], by omega, rfl, ⟨y, x.tmod y, _, rfl, rfl, rfl, h2, hm.1, h4, by omega, (gcdI_step x y h1 hy).trans h5⟩, rfl⟩)
  · have hy : y = 0 := by simpa using ht
    subst hy
    rw [gcdI_zero x h1] at h5
    subst h5
    dsimp only [thenX, inBlockX]
    refine WP.seq (WP.regO Try.tb_ok noCall_ok (by kernel_rfl) (by kernel_rfl) fun K hK => ?_)
    refine RO.p (w_none rfl) rfl ?_; dsimp only [putT, List.set]
    refine RO.p (w_none rfl) rfl ?_; dsimp only [putT, List.set]
    refine RO.yes (w_none rfl) (opX_quo rfl rfl hg0) ?_; dsimp only [putT, List.set]
    rw [q1]
    refine RO.p (w_none rfl) rfl ?_; dsimp only [putT, List.set]
    refine RO.p (w_none rfl) rfl ?_; dsimp only [putT, List.set]
    refine RO.yes (w_none rfl) (opX_quo rfl rfl hg0) ?_; dsimp only [putT, List.set]
    rw [q2]
    refine RO.yes (w_none rfl) rfl ?_; dsimp only [putT, List.set]
    refine RO.yes (w_none rfl) rfl ?_; dsimp only [putT, List.set]
    refine RO.p (w_none rfl) rfl ?_; dsimp only [putT, List.set]
    refine RO.nil (hK _ _ ?_)
    clear hK K
    dsimp only [thenX, inBlockX]
    exact WP.ret ⟨.inr rfl, _, ⟨[], 1⟩, rfl, rfl, less_none (Nat.le_refl _), rfl⟩
set_option maxRecDepth 100000 in
set_option maxHeartbeats 1000000 in
theorem red25_pos (a b : Int) (ha : -4611686018427387904 ≤ a) (ha2 : a ≤ 4611686018427387904) (hb : 0 < b) (hb1 : -4611686018427387904 ≤ b) (hb2 : b ≤ 4611686018427387904) : Ev Try.prog 25 [.int .i64 a, .int .i64 b] ⟨[], 0⟩ (.tuple #[.agg #[.int .i64 ((a).tdiv (gcdI (absI (a)) (b))), .int .i64 ((b).tdiv (gcdI (absI (a)) (b)))], .int .i64 0]) ⟨[], 1⟩ := by
  have t1 : (b == 0) = false := by simp; omega
  have t2 : decide (a < -4611686018427387904) = false := by simp; omega
  have t3 : decide (a > 4611686018427387904) = false := by simp; omega
  have t4 : decide (b < -4611686018427387904) = false := by simp; omega
  have t5 : decide (b > 4611686018427387904) = false := by simp; omega
  have t6 : decide (b < 0) = false := by simp; omega
  have e1 : IntKind.i64.wrap (0 - a) = -a := by rw [wrap_i64 (by omega) (by omega)]; omega
  have e2 : IntKind.i64.wrap (0 - b) = -b := by rw [wrap_i64 (by omega) (by omega)]; omega
  have e3 : IntKind.i64.wrap (0 - (a)) = -(a) := by rw [wrap_i64 (by omega) (by omega)]; omega
  have e4 : (if -(a) > a then -(a) else a) = absI (a) := rfl
  have hU := absI_bd (a) (by omega) (by omega)
  have hB : 0 < b := by omega
  have hg := gcdI_pos (absI (a)) (b) hB
  have hg0 : gcdI (absI (a)) (b) ≠ 0 := by omega
  have q1 := tdiv_bd (a) (gcdI (absI (a)) (b)) (by omega) (by omega)
  have q2 := tdiv_bd (b) (gcdI (absI (a)) (b)) (by omega) (by omega)
  have c43 : ∀ s, divC 43 [.int .i64 (absI (a)), .int .i64 (b)] s = some (.int .i64 (gcdI (absI (a)) (b)), s) := fun s => if_pos ⟨hU.1, hU.2, by omega, by omega⟩
  refine Ev.of_body Try.tb_ok (f := 25) (fn := Try.f25) (by kernel_rfl) rfl ?_
  simp only [Try.f25, pad]
  refine WP.seq (WP.reg Try.tb_ok noCall_ok fun K hK => ?_)
  refine RO.yes (w_none rfl) rfl ?_; dsimp only [putT, List.set]
  refine RO.p (w_none rfl) rfl ?_; dsimp only [putT, List.set]
  refine RO.nil (hK _ _ ?_)
  clear hK K
  dsimp only [thenX, inBlockX]
  refine WP.seq (WP.seq (WP.reg Try.tb_ok noCall_ok fun K hK => ?_))
  refine RO.p (w_none rfl) rfl ?_; dsimp only [putT, List.set]
  refine RO.p (w_none rfl) rfl ?_; dsimp only [putT, List.set]
  refine RO.p (w_none rfl) rfl ?_; dsimp only [putT, List.set]
  rw [t1]
  refine RO.p (w_yes rfl rfl rfl rfl) rfl ?_; dsimp only [putT, List.set]
  refine RO.p (w_yes rfl rfl rfl rfl) rfl ?_; dsimp only [putT, List.set]
  refine RO.p (w_none rfl) rfl ?_; dsimp only [putT, List.set]
  refine RO.p (w_none rfl) rfl ?_; dsimp only [putT, List.set]
  rw [t2]
  refine RO.p (w_yes rfl rfl rfl rfl) rfl ?_; dsimp only [putT, List.set]
  refine RO.p (w_yes rfl rfl rfl rfl) rfl ?_; dsimp only [putT, List.set]
  refine RO.p (w_none rfl) rfl ?_; dsimp only [putT, List.set]
  refine RO.p (w_none rfl) rfl ?_; dsimp only [putT, List.set]
  rw [t3]
  refine RO.p (w_yes rfl rfl rfl rfl) rfl ?_; dsimp only [putT, List.set]
  refine RO.p (w_yes rfl rfl rfl rfl) rfl ?_; dsimp only [putT, List.set]
  refine RO.p (w_none rfl) rfl ?_; dsimp only [putT, List.set]
  refine RO.p (w_none rfl) rfl ?_; dsimp only [putT, List.set]
  rw [t4]
  refine RO.p (w_yes rfl rfl rfl rfl) rfl ?_; dsimp only [putT, List.set]
  refine RO.p (w_yes rfl rfl rfl rfl) rfl ?_; dsimp only [putT, List.set]
  refine RO.p (w_none rfl) rfl ?_; dsimp only [putT, List.set]
  rw [t5]
  refine RO.nil (hK _ _ ?_)
  clear hK K
  dsimp only [thenX, inBlockX]
  refine WP.cond rfl (fun ht => by cases ht) (fun ht => WP.skip ?_)
  dsimp only [thenX]
  refine WP.seq (WP.seq (WP.reg Try.tb_ok noCall_ok fun K hK => ?_))
  refine RO.p (w_none rfl) rfl ?_; dsimp only [putT, List.set]
  refine RO.p (w_none rfl) rfl ?_; dsimp only [putT, List.set]
  rw [t6]
  refine RO.nil (hK _ _ ?_)
  clear hK K
  dsimp only [thenX, inBlockX]
  refine WP.cond rfl (fun ht => by cases ht) (fun ht => WP.skip ?_)
  dsimp only [thenX]
  refine WP.seq (WP.reg Try.tb_ok divC_ok fun K hK => ?_)
  refine RO.p (w_none rfl) rfl ?_; dsimp only [putT, List.set]
  refine RO.p (w_none rfl) rfl ?_; dsimp only [putT, List.set]
  refine RO.p (w_none rfl) rfl ?_; dsimp only [putT, List.set]
  rw [e3]
  refine RO.p (w_none rfl) rfl ?_; dsimp only [putT, List.set]
  rw [e4]
  refine RO.p (w_none rfl) rfl ?_; dsimp only [putT, List.set]
  refine RO.yes (w_none rfl) (opX_call rfl rfl rfl rfl (c43 _)) ?_; dsimp only [putT, List.set]
  refine RO.p (w_none rfl) rfl ?_; dsimp only [putT, List.set]
  refine RO.nil (hK _ _ ?_)
  clear hK K
  dsimp only [thenX, inBlockX]
  refine WP.seq (WP.regO Try.tb_ok noCall_ok (by kernel_rfl) (by kernel_rfl) fun K hK => ?_)
  refine RO.p (w_none rfl) rfl ?_; dsimp only [putT, List.set]
  refine RO.p (w_none rfl) rfl ?_; dsimp only [putT, List.set]
  refine RO.yes (w_none rfl) (opX_quo rfl rfl hg0) ?_; dsimp only [putT, List.set]
  rw [q1]
  refine RO.p (w_none rfl) rfl ?_; dsimp only [putT, List.set]
  refine RO.p (w_none rfl) rfl ?_; dsimp only [putT, List.set]
  refine RO.yes (w_none rfl) (opX_quo rfl rfl hg0) ?_; dsimp only [putT, List.set]
  rw [q2]
  refine RO.yes (w_none rfl) rfl ?_; dsimp only [putT, List.set]
  refine RO.yes (w_none rfl) rfl ?_; dsimp only [putT, List.set]
  refine RO.p (w_none rfl) rfl ?_; dsimp only [putT, List.set]
  refine RO.nil (hK _ _ ?_)
  clear hK K
  dsimp only [thenX, inBlockX]
  exact WP.ret ⟨.inr rfl, _, ⟨[], 1⟩, rfl, rfl, less_none (Nat.le_refl _), rfl⟩
set_option maxRecDepth 100000 in
set_option maxHeartbeats 1000000 in
theorem red25_neg (a b : Int) (ha : -4611686018427387904 ≤ a) (ha2 : a ≤ 4611686018427387904) (hb : b < 0) (hb1 : -4611686018427387904 ≤ b) (hb2 : b ≤ 4611686018427387904) : Ev Try.prog 25 [.int .i64 a, .int .i64 b] ⟨[], 0⟩ (.tuple #[.agg #[.int .i64 ((-a).tdiv (gcdI (absI (-a)) (-b))), .int .i64 ((-b).tdiv (gcdI (absI (-a)) (-b)))], .int .i64 0]) ⟨[], 1⟩ := by
  have t1 : (b == 0) = false := by simp; omega
  have t2 : decide (a < -4611686018427387904) = false := by simp; omega
  have t3 : decide (a > 4611686018427387904) = false := by simp; omega
  have t4 : decide (b < -4611686018427387904) = false := by simp; omega
  have t5 : decide (b > 4611686018427387904) = false := by simp; omega
  have t6 : decide (b < 0) = true := by simp; omega
  have e1 : IntKind.i64.wrap (0 - a) = -a := by rw [wrap_i64 (by omega) (by omega)]; omega
  have e2 : IntKind.i64.wrap (0 - b) = -b := by rw [wrap_i64 (by omega) (by omega)]; omega
  have e3 : IntKind.i64.wrap (0 - (-a)) = -(-a) := by rw [wrap_i64 (by omega) (by omega)]; omega
  have e4 : (if -(-a) > -a then -(-a) else -a) = absI (-a) := rfl
  have hU := absI_bd (-a) (by omega) (by omega)
  have hB : 0 < -b := by omega
  have hg := gcdI_pos (absI (-a)) (-b) hB
  have hg0 : gcdI (absI (-a)) (-b) ≠ 0 := by omega
  have q1 := tdiv_bd (-a) (gcdI (absI (-a)) (-b)) (by omega) (by omega)
  have q2 := tdiv_bd (-b) (gcdI (absI (-a)) (-b)) (by omega) (by omega)
  have c43 : ∀ s, divC 43 [.int .i64 (absI (-a)), .int .i64 (-b)] s = some (.int .i64 (gcdI (absI (-a)) (-b)), s) := fun s => if_pos ⟨hU.1, hU.2, by omega, by omega⟩
  refine Ev.of_body Try.tb_ok (f := 25) (fn := Try.f25) (by kernel_rfl) rfl ?_
  simp only [Try.f25, pad]
  refine WP.seq (WP.reg Try.tb_ok noCall_ok fun K hK => ?_)
  refine RO.yes (w_none rfl) rfl ?_; dsimp only [putT, List.set]
  refine RO.p (w_none rfl) rfl ?_; dsimp only [putT, List.set]
  refine RO.nil (hK _ _ ?_)
  clear hK K
  dsimp only [thenX, inBlockX]
  refine WP.seq (WP.seq (WP.reg Try.tb_ok noCall_ok fun K hK => ?_))
  refine RO.p (w_none rfl) rfl ?_; dsimp only [putT, List.set]
  refine RO.p (w_none rfl) rfl ?_; dsimp only [putT, List.set]
  refine RO.p (w_none rfl) rfl ?_; dsimp only [putT, List.set]
  rw [t1]
  refine RO.p (w_yes rfl rfl rfl rfl) rfl ?_; dsimp only [putT, List.set]
  refine RO.p (w_yes rfl rfl rfl rfl) rfl ?_; dsimp only [putT, List.set]
  refine RO.p (w_none rfl) rfl ?_; dsimp only [putT, List.set]
  refine RO.p (w_none rfl) rfl ?_; dsimp only [putT, List.set]
  rw [t2]
  refine RO.p (w_yes rfl rfl rfl rfl) rfl ?_; dsimp only [putT, List.set]
  refine RO.p (w_yes rfl rfl rfl rfl) rfl ?_; dsimp only [putT, List.set]
  refine RO.p (w_none rfl) rfl ?_; dsimp only [putT, List.set]
  refine RO.p (w_none rfl) rfl ?_; dsimp only [putT, List.set]
  rw [t3]
  refine RO.p (w_yes rfl rfl rfl rfl) rfl ?_; dsimp only [putT, List.set]
  refine RO.p (w_yes rfl rfl rfl rfl) rfl ?_; dsimp only [putT, List.set]
  refine RO.p (w_none rfl) rfl ?_; dsimp only [putT, List.set]
  refine RO.p (w_none rfl) rfl ?_; dsimp only [putT, List.set]
  rw [t4]
  refine RO.p (w_yes rfl rfl rfl rfl) rfl ?_; dsimp only [putT, List.set]
  refine RO.p (w_yes rfl rfl rfl rfl) rfl ?_; dsimp only [putT, List.set]
  refine RO.p (w_none rfl) rfl ?_; dsimp only [putT, List.set]
  rw [t5]
  refine RO.nil (hK _ _ ?_)
  clear hK K
  dsimp only [thenX, inBlockX]
  refine WP.cond rfl (fun ht => by cases ht) (fun ht => WP.skip ?_)
  dsimp only [thenX]
  refine WP.seq (WP.seq (WP.reg Try.tb_ok noCall_ok fun K hK => ?_))
  refine RO.p (w_none rfl) rfl ?_; dsimp only [putT, List.set]
  refine RO.p (w_none rfl) rfl ?_; dsimp only [putT, List.set]
  rw [t6]
  refine RO.nil (hK _ _ ?_)
  clear hK K
  dsimp only [thenX, inBlockX]
  refine WP.cond rfl (fun ht => ?_) (fun ht => by cases ht)
  refine WP.seq (WP.reg Try.tb_ok noCall_ok fun K hK => ?_)
  refine RO.p (w_none rfl) rfl ?_; dsimp only [putT, List.set]
  refine RO.p (w_none rfl) rfl ?_; dsimp only [putT, List.set]
  rw [e1]
  refine RO.p (w_none rfl) rfl ?_; dsimp only [putT, List.set]
  refine RO.nil (hK _ _ ?_)
  clear hK K
  dsimp only [thenX, inBlockX]
  refine WP.reg Try.tb_ok noCall_ok fun K hK => ?_
  refine RO.p (w_none rfl) rfl ?_; dsimp only [putT, List.set]
  refine RO.p (w_none rfl) rfl ?_; dsimp only [putT, List.set]
  rw [e2]
  refine RO.p (w_none rfl) rfl ?_; dsimp only [putT, List.set]
  refine RO.nil (hK _ _ ?_)
  clear hK K
  dsimp only [thenX, inBlockX]
  refine WP.seq (WP.reg Try.tb_ok divC_ok fun K hK => ?_)
  refine RO.p (w_none rfl) rfl ?_; dsimp only [putT, List.set]
  refine RO.p (w_none rfl) rfl ?_; dsimp only [putT, List.set]
  refine RO.p (w_none rfl) rfl ?_; dsimp only [putT, List.set]
  rw [e3]
  refine RO.p (w_none rfl) rfl ?_; dsimp only [putT, List.set]
  rw [e4]
  refine RO.p (w_none rfl) rfl ?_; dsimp only [putT, List.set]
  refine RO.yes (w_none rfl) (opX_call rfl rfl rfl rfl (c43 _)) ?_; dsimp only [putT, List.set]
  refine RO.p (w_none rfl) rfl ?_; dsimp only [putT, List.set]
  refine RO.nil (hK _ _ ?_)
  clear hK K
  dsimp only [thenX, inBlockX]
  refine WP.seq (WP.regO Try.tb_ok noCall_ok (by kernel_rfl) (by kernel_rfl) fun K hK => ?_)
  refine RO.p (w_none rfl) rfl ?_; dsimp only [putT, List.set]
  refine RO.p (w_none rfl) rfl ?_; dsimp only [putT, List.set]
  refine RO.yes (w_none rfl) (opX_quo rfl rfl hg0) ?_; dsimp only [putT, List.set]
  rw [q1]
  refine RO.p (w_none rfl) rfl ?_; dsimp only [putT, List.set]
  refine RO.p (w_none rfl) rfl ?_; dsimp only [putT, List.set]
  refine RO.yes (w_none rfl) (opX_quo rfl rfl hg0) ?_; dsimp only [putT, List.set]
  rw [q2]
  refine RO.yes (w_none rfl) rfl ?_; dsimp only [putT, List.set]
  refine RO.yes (w_none rfl) rfl ?_; dsimp only [putT, List.set]
  refine RO.p (w_none rfl) rfl ?_; dsimp only [putT, List.set]
  refine RO.nil (hK _ _ ?_)
  clear hK K
  dsimp only [thenX, inBlockX]
  exact WP.ret ⟨.inr rfl, _, ⟨[], 1⟩, rfl, rfl, less_none (Nat.le_refl _), rfl⟩
theorem red24_all (a b : Int) (s : S) : Ev Try.prog 24 [.int .i64 a, .int .i64 b] s (redV a b) s := by
  have hargs : ∀ m : Nm, renL m [.int .i64 a, .int .i64 b] = [.int .i64 a, .int .i64 b] := fun _ => by simp [renL, ren]
  by_cases hbad : b = 0 ∨ a < -4611686018427387904 ∨ 4611686018427387904 < a ∨ b < -4611686018427387904 ∨ 4611686018427387904 < b
  · have hv : redV a b = .tuple #[.agg #[.int .i64 0, .int .i64 0], .int .i64 2] := if_pos hbad
    rw [hv]
    refine Ev.frame0 (s₁ := ⟨[], 1⟩) ?_ hargs (fun _ => by simp [renL, ren]) s
    by_cases c1 : b = 0
    · exact red24_bad1 a b c1
    · by_cases c2 : a < -4611686018427387904
      · exact red24_bad2 a b c1 c2
      · by_cases c3 : 4611686018427387904 < a
        · exact red24_bad3 a b c1 c2 c3
        · by_cases c4 : b < -4611686018427387904
          · exact red24_bad4 a b c1 c2 c3 c4
          · exact red24_bad5 a b c1 c2 c3 c4 (by omega)
  · by_cases hb : b < 0
    · have hv : redV a b = .tuple #[.agg #[.int .i64 ((-a).tdiv (gcdI (absI (-a)) (-b))), .int .i64 ((-b).tdiv (gcdI (absI (-a)) (-b)))], .int .i64 0] := by unfold redV; rw [if_neg hbad, if_pos hb]
      rw [hv]
      exact Ev.frame0 (red24_neg a b (by omega) (by omega) hb (by omega) (by omega)) hargs (fun _ => by simp [renL, ren]) s
    · have hv : redV a b = .tuple #[.agg #[.int .i64 (a.tdiv (gcdI (absI a) b)), .int .i64 (b.tdiv (gcdI (absI a) b))], .int .i64 0] := by unfold redV; rw [if_neg hbad, if_neg hb]
      rw [hv]
      exact Ev.frame0 (red24_pos a b (by omega) (by omega) (by omega) (by omega) (by omega)) hargs (fun _ => by simp [renL, ren]) s
theorem red25_all (a b : Int) (s : S) : Ev Try.prog 25 [.int .i64 a, .int .i64 b] s (redV a b) s := by
  have hargs : ∀ m : Nm, renL m [.int .i64 a, .int .i64 b] = [.int .i64 a, .int .i64 b] := fun _ => by simp [renL, ren]
  by_cases hbad : b = 0 ∨ a < -4611686018427387904 ∨ 4611686018427387904 < a ∨ b < -4611686018427387904 ∨ 4611686018427387904 < b
  · have hv : redV a b = .tuple #[.agg #[.int .i64 0, .int .i64 0], .int .i64 2] := if_pos hbad
    rw [hv]
    refine Ev.frame0 (s₁ := ⟨[], 1⟩) ?_ hargs (fun _ => by simp [renL, ren]) s
    by_cases c1 : b = 0
    · exact red25_bad1 a b c1
    · by_cases c2 : a < -4611686018427387904
      · exact red25_bad2 a b c1 c2
      · by_cases c3 : 4611686018427387904 < a
        · exact red25_bad3 a b c1 c2 c3
        · by_cases c4 : b < -4611686018427387904
          · exact red25_bad4 a b c1 c2 c3 c4
          · exact red25_bad5 a b c1 c2 c3 c4 (by omega)
  · by_cases hb : b < 0
    · have hv : redV a b = .tuple #[.agg #[.int .i64 ((-a).tdiv (gcdI (absI (-a)) (-b))), .int .i64 ((-b).tdiv (gcdI (absI (-a)) (-b)))], .int .i64 0] := by unfold redV; rw [if_neg hbad, if_pos hb]
      rw [hv]
      exact Ev.frame0 (red25_neg a b (by omega) (by omega) hb (by omega) (by omega)) hargs (fun _ => by simp [renL, ren]) s
    · have hv : redV a b = .tuple #[.agg #[.int .i64 (a.tdiv (gcdI (absI a) b)), .int .i64 (b.tdiv (gcdI (absI a) b))], .int .i64 0] := by unfold redV; rw [if_neg hbad, if_neg hb]
      rw [hv]
      exact Ev.frame0 (red25_pos a b (by omega) (by omega) (by omega) (by omega) (by omega)) hargs (fun _ => by simp [renL, ren]) s
theorem redV_form (a b : Int) : ∃ n d e, redV a b = .tuple #[.agg #[.int .i64 n, .int .i64 d], .int .i64 e] := by
  unfold redV
  split
  · exact ⟨_, _, _, rfl⟩
  · split
    · exact ⟨_, _, _, rfl⟩
    · exact ⟨_, _, _, rfl⟩
theorem ratio_eq (n d n' d' : Int) : binX Try.tb .eql 35 (.agg #[.int .i64 n, .int .i64 d]) (.agg #[.int .i64 n', .int .i64 d']) = some (.bool (n == n' && d == d')) := by
  have h35 : Try.tb.eqs 35 = true := by kernel_rfl
  by_cases h : n = n'
  · subst h
    by_cases h2 : d = d'
    · subst h2
      simp [binX, guardX, h35, eqv, Try.und35, eqFs, partX, Try.und3, isAggD, nth]
    · have hb : (d == d') = false := by simpa using h2
      simp [binX, guardX, h35, eqv, Try.und35, eqFs, partX, Try.und3, isAggD, nth, hb]
  · have hb : (n == n') = false := by simpa using h
    simp [binX, guardX, h35, eqv, Try.und35, eqFs, partX, Try.und3, isAggD, nth, hb]
/-- the contracts of this text -/
def redC : CallX := fun f args s => match f, args with
  | 24, [.int .i64 a, .int .i64 b] => some (redV a b, s)
  | 25, [.int .i64 a, .int .i64 b] => some (redV a b, s)
  | 11, [] => some (.bool true, s)
  | _, _ => none
theorem redC_ok : CallOk Try.prog redC := fun f args s v s₁ h => by
  unfold redC at h
  split at h
  · simp only [Option.some.injEq, Prod.mk.injEq] at h
    obtain ⟨rfl, rfl⟩ := h
    exact red24_all _ _ _
  · simp only [Option.some.injEq, Prod.mk.injEq] at h
    obtain ⟨rfl, rfl⟩ := h
    exact red25_all _ _ _
  · simp only [Option.some.injEq, Prod.mk.injEq] at h
    obtain ⟨rfl, rfl⟩ := h
    exact Try.example_ev _
  · cases h
set_option maxRecDepth 100000 in
set_option maxHeartbeats 1000000 in
theorem law6 (a b : Int) : Ev Try.prog 6 [.int .i64 a, .int .i64 b] ⟨[], 0⟩ (.bool true) ⟨[], 2⟩ := by
  obtain ⟨n, d, e, hr⟩ := redV_form a b
  have c24 : ∀ s, redC 24 [.int .i64 a, .int .i64 b] s = some (.tuple #[.agg #[.int .i64 n, .int .i64 d], .int .i64 e], s) := fun s => by rw [← hr]; rfl
  have c25 : ∀ s, redC 25 [.int .i64 a, .int .i64 b] s = some (.tuple #[.agg #[.int .i64 n, .int .i64 d], .int .i64 e], s) := fun s => by rw [← hr]; rfl
  have c11 : ∀ s, redC 11 [] s = some (.bool true, s) := fun _ => rfl
  have k1 : (n == n && d == d) = true := by simp
  have k2 : (e == e) = true := by simp
  refine Ev.of_body Try.tb_ok (f := 6) (fn := Try.f6) (by kernel_rfl) rfl ?_
  simp only [Try.f6, pad]
  refine WP.seq (WP.reg Try.tb_ok noCall_ok fun K hK => ?_)
  refine RO.p (w_none rfl) rfl ?_; dsimp only [putT, List.set]
  refine RO.nil (hK _ _ ?_)
  clear hK K
  dsimp only [thenX, inBlockX]
  refine WP.seq (WP.reg Try.tb_ok redC_ok fun K hK => ?_)
  refine RO.p (w_none rfl) rfl ?_; dsimp only [putT, List.set]
  refine RO.p (w_none rfl) rfl ?_; dsimp only [putT, List.set]
  refine RO.yes (w_none rfl) (opX_call rfl rfl rfl rfl (c24 _)) ?_; dsimp only [putT, List.set]
  refine RO.p (w_none rfl) rfl ?_; dsimp only [putT, List.set]
  refine RO.p (w_none rfl) rfl ?_; dsimp only [putT, List.set]
  refine RO.p (w_none rfl) rfl ?_; dsimp only [putT, List.set]
  refine RO.yes (w_none rfl) rfl ?_; dsimp only [putT, List.set]
  refine RO.yes (w_none rfl) rfl ?_; dsimp only [putT, List.set]
  refine RO.p (w_none rfl) rfl ?_; dsimp only [putT, List.set]
  refine RO.nil (hK _ _ ?_)
  clear hK K
  dsimp only [thenX, inBlockX]
  refine WP.seq (WP.reg Try.tb_ok redC_ok fun K hK => ?_)
  refine RO.p (w_none rfl) rfl ?_; dsimp only [putT, List.set]
  refine RO.p (w_none rfl) rfl ?_; dsimp only [putT, List.set]
  refine RO.yes (w_none rfl) (opX_call rfl rfl rfl rfl (c25 _)) ?_; dsimp only [putT, List.set]
  refine RO.p (w_none rfl) rfl ?_; dsimp only [putT, List.set]
  refine RO.p (w_none rfl) rfl ?_; dsimp only [putT, List.set]
  refine RO.p (w_none rfl) rfl ?_; dsimp only [putT, List.set]
  refine RO.yes (w_none rfl) rfl ?_; dsimp only [putT, List.set]
  refine RO.yes (w_none rfl) rfl ?_; dsimp only [putT, List.set]
  refine RO.p (w_none rfl) rfl ?_; dsimp only [putT, List.set]
  refine RO.nil (hK _ _ ?_)
  clear hK K
  dsimp only [thenX, inBlockX]
  refine WP.seq (WP.reg Try.tb_ok redC_ok fun K hK => ?_)
  refine RO.yes (w_none rfl) rfl ?_; dsimp only [putT, List.set]
  refine RO.yes (w_none rfl) rfl ?_; dsimp only [putT, List.set]
  refine RO.yes (w_none rfl) (opX_bin rfl rfl (ratio_eq _ _ _ _)) ?_; dsimp only [putT, List.set]
  rw [k1]
  refine RO.p (w_none rfl) rfl ?_; dsimp only [putT, List.set]
  refine RO.p (w_yes rfl rfl rfl rfl) rfl ?_; dsimp only [putT, List.set]
  refine RO.p (w_yes rfl rfl rfl rfl) rfl ?_; dsimp only [putT, List.set]
  refine RO.p (w_yes rfl rfl rfl rfl) rfl ?_; dsimp only [putT, List.set]
  rw [k2]
  refine RO.p (w_none rfl) rfl ?_; dsimp only [putT, List.set]
  refine RO.p (w_none rfl) rfl ?_; dsimp only [putT, List.set]
  refine RO.yes (w_yes rfl rfl rfl rfl) (opX_call rfl rfl rfl rfl (c11 _)) ?_; dsimp only [putT, List.set]
  refine RO.p (w_none rfl) rfl ?_; dsimp only [putT, List.set]
  refine RO.p (w_none rfl) rfl ?_; dsimp only [putT, List.set]
  refine RO.nil (hK _ _ ?_)
  clear hK K
  dsimp only [thenX, inBlockX]
  exact WP.ret ⟨.inr rfl, _, ⟨[], 2⟩, rfl, rfl, less_none (Nat.le_refl _), rfl⟩
end Go.Proofs
