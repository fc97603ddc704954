/-
  EvaluateLowest: the plain law of lowest terms, and the walk (regions written by program: genlow.py).
-/
import Derived.Test.YtcanbnholmlapaaRed
namespace Go.Proofs
open Go Go.Rx
theorem gcdI_eq (a b : Int) (hb : 0 ≤ b) : gcdI (absI a) b = (Int.gcd a b : Int) := by
  have h1 : (absI a).toNat = a.natAbs := by unfold absI; split <;> omega
  have h2 : b.toNat = b.natAbs := by omega
  unfold gcdI
  rw [h1, h2]; rfl
theorem low_core (a b : Int) (hb : 0 < b) : ∃ n d : Int, a.tdiv (gcdI (absI a) b) = n ∧ b.tdiv (gcdI (absI a) b) = d ∧ 0 < d ∧ Int.gcd n d = 1 ∧ n * b = a * d ∧ n.natAbs ≤ a.natAbs ∧ d ≤ b := by
  rw [gcdI_eq a b (by omega)]
  obtain ⟨n, hn⟩ := @Int.gcd_dvd_left a b
  obtain ⟨d, hd⟩ := @Int.gcd_dvd_right a b
  have hg : 0 < Int.gcd a b := by
    apply Nat.pos_of_ne_zero
    intro h
    rw [h] at hd
    simp at hd; omega
  generalize hG : Int.gcd a b = g at *
  have hg' : (g : Int) ≠ 0 := by omega
  have hd0 : 0 < d := by
    rw [hd] at hb
    exact Int.pos_of_mul_pos_right hb (by omega)
  refine ⟨n, d, by rw [hn]; exact Int.mul_tdiv_cancel_left _ hg', by rw [hd]; exact Int.mul_tdiv_cancel_left _ hg', hd0, ?_, ?_, ?_, ?_⟩
  · rw [hn, hd, Int.gcd_mul_left] at hG
    simp only [Int.natAbs_natCast] at hG
    exact Nat.eq_of_mul_eq_mul_left hg (by omega)
  · rw [hn, hd]; simp only [Int.mul_comm, Int.mul_left_comm]
  · rw [hn, Int.natAbs_mul]; exact Nat.le_mul_of_pos_left _ (by omega)
  · rw [hd]
    have : 1 * d ≤ (g : Int) * d := Int.mul_le_mul_of_nonneg_right (by omega) (by omega)
    omega
theorem low_red (a b : Int) (hb : b ≠ 0) (h1 : -4611686018427387904 ≤ a) (h2 : a ≤ 4611686018427387904) (h3 : -4611686018427387904 ≤ b) (h4 : b ≤ 4611686018427387904) :
    ∃ n d : Int, redV a b = .tuple #[.agg #[.int .i64 n, .int .i64 d], .int .i64 0] ∧ 0 < d ∧ Int.gcd n d = 1 ∧ n * b = a * d ∧ n.natAbs ≤ a.natAbs ∧ d.natAbs ≤ b.natAbs := by
  unfold redV
  rw [if_neg (by omega)]
  split
  · obtain ⟨n, d, e1, e2, k1, k2, k3, k4, k5⟩ := low_core (-a) (-b) (by omega)
    refine ⟨n, d, by rw [e1, e2], k1, k2, ?_, by omega, by omega⟩
    have e3 : n * -b = -(n * b) := Int.mul_neg _ _
    have e4 : -a * d = -(a * d) := Int.neg_mul _ _
    omega
  · obtain ⟨n, d, e1, e2, k1, k2, k3, k4, k5⟩ := low_core a b (by omega)
    exact ⟨n, d, by rw [e1, e2], k1, k2, k3, k4, by omega⟩
theorem low_uniq {n d n' d' : Int} (hd : 0 < d) (hd' : 0 < d') (hg : Int.gcd n d = 1) (hg' : Int.gcd n' d' = 1) (h : n * d' = n' * d) : n = n' ∧ d = d' := by
  have a1 : d.natAbs ∣ n.natAbs * d'.natAbs := by rw [← Int.natAbs_mul, h, Int.natAbs_mul]; exact Nat.dvd_mul_left _ _
  have a2 : d'.natAbs ∣ n'.natAbs * d.natAbs := by rw [← Int.natAbs_mul, ← h, Int.natAbs_mul]; exact Nat.dvd_mul_left _ _
  have g1 : Nat.Coprime d.natAbs n.natAbs := by rw [Nat.Coprime, Nat.gcd_comm]; exact hg
  have g2 : Nat.Coprime d'.natAbs n'.natAbs := by rw [Nat.Coprime, Nat.gcd_comm]; exact hg'
  have b1 := Nat.le_of_dvd (by omega) (g1.dvd_of_dvd_mul_left a1)
  have b2 := Nat.le_of_dvd (by omega) (g2.dvd_of_dvd_mul_left a2)
  have e : d = d' := by omega
  subst e
  exact ⟨Int.eq_of_mul_eq_mul_right (by omega) h, rfl⟩
/-- all that the law asks for, in plain numbers -/
theorem low_all (a b f : Int) (hb : b ≠ 0) (a1 : -2147483648 ≤ a) (a2 : a ≤ 2147483647) (b1 : -2147483648 ≤ b) (b2 : b ≤ 2147483647) (f1 : -32768 ≤ f) (f2 : f ≤ 32767) :
    ∃ n d : Int, redV a b = .tuple #[.agg #[.int .i64 n, .int .i64 d], .int .i64 0] ∧ redV n d = .tuple #[.agg #[.int .i64 n, .int .i64 d], .int .i64 0] ∧ 0 < d ∧ n * b = a * d ∧
      IntKind.i64.wrap (n * b) = n * b ∧ IntKind.i64.wrap (a * d) = a * d ∧ IntKind.i64.wrap (a * f) = a * f ∧ IntKind.i64.wrap (b * f) = b * f ∧
      (f = 0 → redV (a * f) (b * f) = .tuple #[.agg #[.int .i64 0, .int .i64 0], .int .i64 2]) ∧ (f ≠ 0 → redV (a * f) (b * f) = .tuple #[.agg #[.int .i64 n, .int .i64 d], .int .i64 0]) := by
  obtain ⟨n, d, e, hd, hg, hm, k1, k2⟩ := low_red a b hb (by omega) (by omega) (by omega) (by omega)
  have bnd : ∀ x y M : Int, ∀ X Y : Nat, x.natAbs ≤ X → y.natAbs ≤ Y → ((X * Y : Nat) : Int) ≤ M → -M ≤ x * y ∧ x * y ≤ M := by
    intro x y M X Y hx hy hM
    have : (x * y).natAbs ≤ X * Y := by rw [Int.natAbs_mul]; exact Nat.mul_le_mul hx hy
    omega
  have w1 := bnd n b 4611686018427387904 2147483648 2147483648 (by omega) (by omega) (by decide)
  have w2 := bnd a d 4611686018427387904 2147483648 2147483648 (by omega) (by omega) (by decide)
  have w3 := bnd a f 4611686018427387904 2147483648 32768 (by omega) (by omega) (by decide)
  have w4 := bnd b f 4611686018427387904 2147483648 32768 (by omega) (by omega) (by decide)
  refine ⟨n, d, e, ?_, hd, hm, wrap_i64 (by omega) (by omega), wrap_i64 (by omega) (by omega), wrap_i64 (by omega) (by omega), wrap_i64 (by omega) (by omega), ?_, ?_⟩
  · obtain ⟨n', d', e', hd', hg', hm', _, _⟩ := low_red n d (by omega) (by omega) (by omega) (by omega) (by omega)
    obtain ⟨rfl, rfl⟩ := low_uniq hd' hd hg' hg hm'
    exact e'
  · intro hf
    subst hf
    unfold redV
    rw [if_pos (by simp)]
  · intro hf
    obtain ⟨n', d', e', hd', hg', hm', _, _⟩ := low_red (a * f) (b * f) (by simp [hb, hf]) (by omega) (by omega) (by omega) (by omega)
    have h1 : n' * b = a * d' := by
      apply Int.eq_of_mul_eq_mul_right hf
      calc n' * b * f = n' * (b * f) := by rw [Int.mul_assoc]
        _ = a * f * d' := hm'
        _ = a * d' * f := by simp only [Int.mul_comm, Int.mul_left_comm]
    have h2 : n' * d = n * d' := by
      apply Int.eq_of_mul_eq_mul_right hb
      calc n' * d * b = n' * b * d := by simp only [Int.mul_comm, Int.mul_left_comm]
        _ = a * d' * d := by rw [h1]
        _ = a * d * d' := by simp only [Int.mul_comm, Int.mul_left_comm]
        _ = n * b * d' := by rw [hm]
        _ = n * d' * b := by simp only [Int.mul_comm, Int.mul_left_comm]
    obtain ⟨rfl, rfl⟩ := low_uniq hd' hd hg' hg h2
    exact e'

theorem opX_conv {T : Tb} {call : CallX} {tm : List Value} {s : S} {t t' : TypeId} {x : Operand} {k k' : IntKind} {n : Int} {u : TypeDesc} (hx : evalO tm x = some (.int k' n)) (h1 : T.und t = some u) (h2 : T.und t' = some (.int k)) (hw : k.wrap n = n) : opX T call tm s (.convert t t' x) = some (.int k n, s) := by
  simp [opX, pureX, hx, convX, h1, h2, hw]
theorem ratio_ne (n d n' d' : Int) : binX Try.tb .neq 35 (.agg #[.int .i64 n, .int .i64 d]) (.agg #[.int .i64 n', .int .i64 d']) = some (.bool (!(n == n' && d == d'))) := by
  have h35 : Try.tb.eqs 35 = true := by kernel_rfl
  by_cases h : n = n'
  · subst h
    by_cases h2 : d = d'
    · subst h2
      simp [binX, guardX, h35, eqv, Try.und35, eqFs, partX, Try.und3, isAggD, nth]
    · have hb : (d == d') = false := by simpa using h2
      simp [binX, guardX, h35, eqv, Try.und35, eqFs, partX, Try.und3, isAggD, nth, hb]
  · have hb : (n == n') = false := by simpa using h
    simp [binX, guardX, h35, eqv, Try.und35, eqFs, partX, Try.und3, isAggD, nth, hb]
set_option maxRecDepth 100000 in
set_option maxHeartbeats 2000000 in
theorem law7_zero (a b f : Int) (h0 : b = 0) (a1 : -2147483648 ≤ a) (a2 : a ≤ 2147483647) (b1 : -2147483648 ≤ b) (b2 : b ≤ 2147483647) (f1 : -32768 ≤ f) (f2 : f ≤ 32767) : Ev Try.prog 7 [.int .i32 a, .int .i32 b, .int .i16 f] ⟨[], 0⟩ (.bool true) ⟨[], 1⟩ := by
  subst h0
  have wa : IntKind.i64.wrap a = a := wrap_i64 (by omega) (by omega)
  have wb : IntKind.i64.wrap 0 = 0 := wrap_i64 (by omega) (by omega)
  have c24 : ∀ s, redC 24 [.int .i64 a, .int .i64 0] s = some (.tuple #[.agg #[.int .i64 0, .int .i64 0], .int .i64 2], s) := fun s => by
    have : redV a 0 = .tuple #[.agg #[.int .i64 0, .int .i64 0], .int .i64 2] := if_pos (by simp)
    rw [← this]; rfl
  have c11 : ∀ s, redC 11 [] s = some (.bool true, s) := fun _ => rfl
  refine Ev.of_body Try.tb_ok (f := 7) (fn := Try.f7) (by kernel_rfl) rfl ?_
  simp only [Try.f7, pad]
  refine WP.seq (WP.reg Try.tb_ok noCall_ok fun K hK => ?_)
  refine RO.p (w_none rfl) rfl ?_; dsimp only [putT, List.set]
  refine RO.nil (hK _ _ ?_)
  clear hK K
  dsimp only [thenX, inBlockX]
  refine WP.seq (WP.reg Try.tb_ok redC_ok fun K hK => ?_)
  refine RO.p (w_none rfl) rfl ?_; dsimp only [putT, List.set]
  refine RO.yes (w_none rfl) (opX_conv rfl Try.und21 Try.und3 wa) ?_; dsimp only [putT, List.set]
  refine RO.p (w_none rfl) rfl ?_; dsimp only [putT, List.set]
  refine RO.yes (w_none rfl) (opX_conv rfl Try.und21 Try.und3 wb) ?_; dsimp only [putT, List.set]
  refine RO.yes (w_none rfl) (opX_call rfl rfl rfl rfl (c24 _)) ?_; dsimp only [putT, List.set]
  refine RO.p (w_none rfl) rfl ?_; dsimp only [putT, List.set]
  refine RO.p (w_none rfl) rfl ?_; dsimp only [putT, List.set]
  refine RO.p (w_none rfl) rfl ?_; dsimp only [putT, List.set]
  refine RO.yes (w_none rfl) rfl ?_; dsimp only [putT, List.set]
  refine RO.yes (w_none rfl) rfl ?_; dsimp only [putT, List.set]
  refine RO.p (w_none rfl) rfl ?_; dsimp only [putT, List.set]
  refine RO.nil (hK _ _ ?_)
  clear hK K
  dsimp only [thenX, inBlockX]
  refine WP.seq (WP.seq (WP.reg Try.tb_ok noCall_ok fun K hK => ?_))
  refine RO.p (w_none rfl) rfl ?_; dsimp only [putT, List.set]
  refine RO.p (w_none rfl) rfl ?_; dsimp only [putT, List.set]
  refine RO.nil (hK _ _ ?_)
  clear hK K
  dsimp only [thenX, inBlockX]
  refine WP.cond rfl (fun ht => ?_) (fun ht => by cases ht)
  refine WP.seq (WP.reg Try.tb_ok redC_ok fun K hK => ?_)
  refine RO.p (w_none rfl) rfl ?_; dsimp only [putT, List.set]
  refine RO.p (w_none rfl) rfl ?_; dsimp only [putT, List.set]
  refine RO.p (w_none rfl) rfl ?_; dsimp only [putT, List.set]
  refine RO.yes (w_yes rfl rfl rfl rfl) rfl ?_; dsimp only [putT, List.set]
  refine RO.yes (w_yes rfl rfl rfl rfl) rfl ?_; dsimp only [putT, List.set]
  refine RO.yes (w_yes rfl rfl rfl rfl) (opX_bin rfl rfl (ratio_eq _ _ _ _)) ?_; dsimp only [putT, List.set]
  refine RO.p (w_none rfl) rfl ?_; dsimp only [putT, List.set]
  refine RO.p (w_none rfl) rfl ?_; dsimp only [putT, List.set]
  refine RO.yes (w_yes rfl rfl rfl rfl) (opX_call rfl rfl rfl rfl (c11 _)) ?_; dsimp only [putT, List.set]
  refine RO.p (w_none rfl) rfl ?_; dsimp only [putT, List.set]
  refine RO.p (w_none rfl) rfl ?_; dsimp only [putT, List.set]
  refine RO.nil (hK _ _ ?_)
  clear hK K
  dsimp only [thenX, inBlockX]
  exact WP.ret ⟨.inr rfl, _, ⟨[], 1⟩, rfl, rfl, less_none (Nat.le_refl _), rfl⟩
set_option maxRecDepth 100000 in
set_option maxHeartbeats 2000000 in
theorem law7_f0 (a b f : Int) (h0 : b ≠ 0) (hf : f = 0) (a1 : -2147483648 ≤ a) (a2 : a ≤ 2147483647) (b1 : -2147483648 ≤ b) (b2 : b ≤ 2147483647) (f1 : -32768 ≤ f) (f2 : f ≤ 32767) : Ev Try.prog 7 [.int .i32 a, .int .i32 b, .int .i16 f] ⟨[], 0⟩ (.bool true) ⟨[], 3⟩ := by
  obtain ⟨n, d, r1, r2, hd, hm, w1, w2, w3, w4, r3, r4⟩ := low_all a b f h0 a1 a2 b1 b2 f1 f2
  have wa : IntKind.i64.wrap a = a := wrap_i64 (by omega) (by omega)
  have wb : IntKind.i64.wrap b = b := wrap_i64 (by omega) (by omega)
  have wf : IntKind.i64.wrap f = f := wrap_i64 (by omega) (by omega)
  have t1 : (b == 0) = false := by simpa using h0
  have t2 : decide (d ≤ 0) = false := by simp; omega
  have t3 : (n * b != a * d) = false := by simp [hm]
  have t4 : (!(n == n && d == d)) = false := by simp
  have t5 : (n == n && d == d) = true := by simp
  have c24 : ∀ s, redC 24 [.int .i64 a, .int .i64 b] s = some (.tuple #[.agg #[.int .i64 n, .int .i64 d], .int .i64 0], s) := fun s => by rw [← r1]; rfl
  have c24b : ∀ s, redC 24 [.int .i64 n, .int .i64 d] s = some (.tuple #[.agg #[.int .i64 n, .int .i64 d], .int .i64 0], s) := fun s => by
    have : redC 24 [.int .i64 n, .int .i64 d] s = some (redV n d, s) := rfl
    rw [this, r2]
  have t6 : (f == 0) = true := by simpa using hf
  have c24c : ∀ s, redC 24 [.int .i64 (a * f), .int .i64 (b * f)] s = some (.tuple #[.agg #[.int .i64 0, .int .i64 0], .int .i64 2], s) := fun s => by rw [← r3 hf]; rfl
  have c11 : ∀ s, redC 11 [] s = some (.bool true, s) := fun _ => rfl
  refine Ev.of_body Try.tb_ok (f := 7) (fn := Try.f7) (by kernel_rfl) rfl ?_
  simp only [Try.f7, pad]
  refine WP.seq (WP.reg Try.tb_ok noCall_ok fun K hK => ?_)
  refine RO.p (w_none rfl) rfl ?_; dsimp only [putT, List.set]
  refine RO.nil (hK _ _ ?_)
  clear hK K
  dsimp only [thenX, inBlockX]
  refine WP.seq (WP.reg Try.tb_ok redC_ok fun K hK => ?_)
  refine RO.p (w_none rfl) rfl ?_; dsimp only [putT, List.set]
  refine RO.yes (w_none rfl) (opX_conv rfl Try.und21 Try.und3 wa) ?_; dsimp only [putT, List.set]
  refine RO.p (w_none rfl) rfl ?_; dsimp only [putT, List.set]
  refine RO.yes (w_none rfl) (opX_conv rfl Try.und21 Try.und3 wb) ?_; dsimp only [putT, List.set]
  refine RO.yes (w_none rfl) (opX_call rfl rfl rfl rfl (c24 _)) ?_; dsimp only [putT, List.set]
  refine RO.p (w_none rfl) rfl ?_; dsimp only [putT, List.set]
  refine RO.p (w_none rfl) rfl ?_; dsimp only [putT, List.set]
  refine RO.p (w_none rfl) rfl ?_; dsimp only [putT, List.set]
  refine RO.yes (w_none rfl) rfl ?_; dsimp only [putT, List.set]
  refine RO.yes (w_none rfl) rfl ?_; dsimp only [putT, List.set]
  refine RO.p (w_none rfl) rfl ?_; dsimp only [putT, List.set]
  refine RO.nil (hK _ _ ?_)
  clear hK K
  dsimp only [thenX, inBlockX]
  refine WP.seq (WP.seq (WP.reg Try.tb_ok noCall_ok fun K hK => ?_))
  refine RO.p (w_none rfl) rfl ?_; dsimp only [putT, List.set]
  refine RO.p (w_none rfl) rfl ?_; dsimp only [putT, List.set]
  rw [t1]
  refine RO.nil (hK _ _ ?_)
  clear hK K
  dsimp only [thenX, inBlockX]
  refine WP.cond rfl (fun ht => by cases ht) (fun ht => WP.skip ?_)
  dsimp only [thenX]
  refine WP.seq (WP.seq (WP.reg Try.tb_ok redC_ok fun K hK => ?_))
  refine RO.p (w_none rfl) rfl ?_; dsimp only [putT, List.set]
  refine RO.p (w_none rfl) rfl ?_; dsimp only [putT, List.set]
  refine RO.p (w_none rfl) rfl ?_; dsimp only [putT, List.set]
  refine RO.yes (w_yes rfl rfl rfl rfl) rfl ?_; dsimp only [putT, List.set]
  refine RO.yes (w_yes rfl rfl rfl rfl) rfl ?_; dsimp only [putT, List.set]
  refine RO.p (w_yes rfl rfl rfl rfl) rfl ?_; dsimp only [putT, List.set]
  rw [t2]
  refine RO.p (w_none rfl) rfl ?_; dsimp only [putT, List.set]
  refine RO.p (w_none rfl) rfl ?_; dsimp only [putT, List.set]
  refine RO.yes (w_yes rfl rfl rfl rfl) rfl ?_; dsimp only [putT, List.set]
  refine RO.yes (w_yes rfl rfl rfl rfl) rfl ?_; dsimp only [putT, List.set]
  refine RO.p (w_yes rfl rfl rfl rfl) rfl ?_; dsimp only [putT, List.set]
  refine RO.yes (w_yes rfl rfl rfl rfl) (opX_conv rfl Try.und21 Try.und3 wb) ?_; dsimp only [putT, List.set]
  refine RO.p (w_yes rfl rfl rfl rfl) rfl ?_; dsimp only [putT, List.set]
  rw [w1]
  refine RO.p (w_yes rfl rfl rfl rfl) rfl ?_; dsimp only [putT, List.set]
  refine RO.yes (w_yes rfl rfl rfl rfl) (opX_conv rfl Try.und21 Try.und3 wa) ?_; dsimp only [putT, List.set]
  refine RO.yes (w_yes rfl rfl rfl rfl) rfl ?_; dsimp only [putT, List.set]
  refine RO.yes (w_yes rfl rfl rfl rfl) rfl ?_; dsimp only [putT, List.set]
  refine RO.p (w_yes rfl rfl rfl rfl) rfl ?_; dsimp only [putT, List.set]
  rw [w2]
  refine RO.p (w_yes rfl rfl rfl rfl) rfl ?_; dsimp only [putT, List.set]
  rw [t3]
  refine RO.p (w_none rfl) rfl ?_; dsimp only [putT, List.set]
  refine RO.nil (hK _ _ ?_)
  clear hK K
  dsimp only [thenX, inBlockX]
  refine WP.cond rfl (fun ht => by cases ht) (fun ht => WP.skip ?_)
  dsimp only [thenX]
  refine WP.seq (WP.reg Try.tb_ok redC_ok fun K hK => ?_)
  refine RO.yes (w_none rfl) rfl ?_; dsimp only [putT, List.set]
  refine RO.yes (w_none rfl) rfl ?_; dsimp only [putT, List.set]
  refine RO.yes (w_none rfl) rfl ?_; dsimp only [putT, List.set]
  refine RO.yes (w_none rfl) rfl ?_; dsimp only [putT, List.set]
  refine RO.yes (w_none rfl) (opX_call rfl rfl rfl rfl (c24b _)) ?_; dsimp only [putT, List.set]
  refine RO.p (w_none rfl) rfl ?_; dsimp only [putT, List.set]
  refine RO.p (w_none rfl) rfl ?_; dsimp only [putT, List.set]
  refine RO.p (w_none rfl) rfl ?_; dsimp only [putT, List.set]
  refine RO.yes (w_none rfl) rfl ?_; dsimp only [putT, List.set]
  refine RO.yes (w_none rfl) rfl ?_; dsimp only [putT, List.set]
  refine RO.p (w_none rfl) rfl ?_; dsimp only [putT, List.set]
  refine RO.nil (hK _ _ ?_)
  clear hK K
  dsimp only [thenX, inBlockX]
  refine WP.seq (WP.seq (WP.reg Try.tb_ok redC_ok fun K hK => ?_))
  refine RO.p (w_none rfl) rfl ?_; dsimp only [putT, List.set]
  refine RO.p (w_none rfl) rfl ?_; dsimp only [putT, List.set]
  refine RO.p (w_none rfl) rfl ?_; dsimp only [putT, List.set]
  refine RO.yes (w_yes rfl rfl rfl rfl) rfl ?_; dsimp only [putT, List.set]
  refine RO.yes (w_yes rfl rfl rfl rfl) rfl ?_; dsimp only [putT, List.set]
  refine RO.yes (w_yes rfl rfl rfl rfl) (opX_bin rfl rfl (ratio_ne _ _ _ _)) ?_; dsimp only [putT, List.set]
  rw [t4]
  refine RO.p (w_none rfl) rfl ?_; dsimp only [putT, List.set]
  refine RO.nil (hK _ _ ?_)
  clear hK K
  dsimp only [thenX, inBlockX]
  refine WP.cond rfl (fun ht => by cases ht) (fun ht => WP.skip ?_)
  dsimp only [thenX]
  refine WP.seq (WP.reg Try.tb_ok redC_ok fun K hK => ?_)
  refine RO.p (w_none rfl) rfl ?_; dsimp only [putT, List.set]
  refine RO.yes (w_none rfl) (opX_conv rfl Try.und21 Try.und3 wa) ?_; dsimp only [putT, List.set]
  refine RO.p (w_none rfl) rfl ?_; dsimp only [putT, List.set]
  refine RO.yes (w_none rfl) (opX_conv rfl Try.und47 Try.und3 wf) ?_; dsimp only [putT, List.set]
  refine RO.p (w_none rfl) rfl ?_; dsimp only [putT, List.set]
  rw [w3]
  refine RO.p (w_none rfl) rfl ?_; dsimp only [putT, List.set]
  refine RO.yes (w_none rfl) (opX_conv rfl Try.und21 Try.und3 wb) ?_; dsimp only [putT, List.set]
  refine RO.p (w_none rfl) rfl ?_; dsimp only [putT, List.set]
  refine RO.yes (w_none rfl) (opX_conv rfl Try.und47 Try.und3 wf) ?_; dsimp only [putT, List.set]
  refine RO.p (w_none rfl) rfl ?_; dsimp only [putT, List.set]
  rw [w4]
  refine RO.yes (w_none rfl) (opX_call rfl rfl rfl rfl (c24c _)) ?_; dsimp only [putT, List.set]
  refine RO.p (w_none rfl) rfl ?_; dsimp only [putT, List.set]
  refine RO.p (w_none rfl) rfl ?_; dsimp only [putT, List.set]
  refine RO.p (w_none rfl) rfl ?_; dsimp only [putT, List.set]
  refine RO.yes (w_none rfl) rfl ?_; dsimp only [putT, List.set]
  refine RO.yes (w_none rfl) rfl ?_; dsimp only [putT, List.set]
  refine RO.p (w_none rfl) rfl ?_; dsimp only [putT, List.set]
  refine RO.nil (hK _ _ ?_)
  clear hK K
  dsimp only [thenX, inBlockX]
  refine WP.seq (WP.seq (WP.reg Try.tb_ok noCall_ok fun K hK => ?_))
  refine RO.p (w_none rfl) rfl ?_; dsimp only [putT, List.set]
  refine RO.p (w_none rfl) rfl ?_; dsimp only [putT, List.set]
  rw [t6]
  refine RO.nil (hK _ _ ?_)
  clear hK K
  dsimp only [thenX, inBlockX]
  refine WP.cond rfl (fun ht => ?_) (fun ht => by cases ht)
  refine WP.seq (WP.reg Try.tb_ok redC_ok fun K hK => ?_)
  refine RO.p (w_none rfl) rfl ?_; dsimp only [putT, List.set]
  refine RO.p (w_none rfl) rfl ?_; dsimp only [putT, List.set]
  refine RO.p (w_none rfl) rfl ?_; dsimp only [putT, List.set]
  refine RO.yes (w_yes rfl rfl rfl rfl) (opX_call rfl rfl rfl rfl (c11 _)) ?_; dsimp only [putT, List.set]
  refine RO.p (w_none rfl) rfl ?_; dsimp only [putT, List.set]
  refine RO.p (w_none rfl) rfl ?_; dsimp only [putT, List.set]
  refine RO.nil (hK _ _ ?_)
  clear hK K
  dsimp only [thenX, inBlockX]
  exact WP.ret ⟨.inr rfl, _, ⟨[], 3⟩, rfl, rfl, less_none (Nat.le_refl _), rfl⟩
set_option maxRecDepth 100000 in
set_option maxHeartbeats 2000000 in
theorem law7_f1 (a b f : Int) (h0 : b ≠ 0) (hf : f ≠ 0) (a1 : -2147483648 ≤ a) (a2 : a ≤ 2147483647) (b1 : -2147483648 ≤ b) (b2 : b ≤ 2147483647) (f1 : -32768 ≤ f) (f2 : f ≤ 32767) : Ev Try.prog 7 [.int .i32 a, .int .i32 b, .int .i16 f] ⟨[], 0⟩ (.bool true) ⟨[], 3⟩ := by
  obtain ⟨n, d, r1, r2, hd, hm, w1, w2, w3, w4, r3, r4⟩ := low_all a b f h0 a1 a2 b1 b2 f1 f2
  have wa : IntKind.i64.wrap a = a := wrap_i64 (by omega) (by omega)
  have wb : IntKind.i64.wrap b = b := wrap_i64 (by omega) (by omega)
  have wf : IntKind.i64.wrap f = f := wrap_i64 (by omega) (by omega)
  have t1 : (b == 0) = false := by simpa using h0
  have t2 : decide (d ≤ 0) = false := by simp; omega
  have t3 : (n * b != a * d) = false := by simp [hm]
  have t4 : (!(n == n && d == d)) = false := by simp
  have t5 : (n == n && d == d) = true := by simp
  have c24 : ∀ s, redC 24 [.int .i64 a, .int .i64 b] s = some (.tuple #[.agg #[.int .i64 n, .int .i64 d], .int .i64 0], s) := fun s => by rw [← r1]; rfl
  have c24b : ∀ s, redC 24 [.int .i64 n, .int .i64 d] s = some (.tuple #[.agg #[.int .i64 n, .int .i64 d], .int .i64 0], s) := fun s => by
    have : redC 24 [.int .i64 n, .int .i64 d] s = some (redV n d, s) := rfl
    rw [this, r2]
  have t6 : (f == 0) = false := by simpa using hf
  have c24c : ∀ s, redC 24 [.int .i64 (a * f), .int .i64 (b * f)] s = some (.tuple #[.agg #[.int .i64 n, .int .i64 d], .int .i64 0], s) := fun s => by
    have : redC 24 [.int .i64 (a * f), .int .i64 (b * f)] s = some (redV (a * f) (b * f), s) := rfl
    rw [this, r4 hf]
  have c11 : ∀ s, redC 11 [] s = some (.bool true, s) := fun _ => rfl
  refine Ev.of_body Try.tb_ok (f := 7) (fn := Try.f7) (by kernel_rfl) rfl ?_
  simp only [Try.f7, pad]
  refine WP.seq (WP.reg Try.tb_ok noCall_ok fun K hK => ?_)
  refine RO.p (w_none rfl) rfl ?_; dsimp only [putT, List.set]
  refine RO.nil (hK _ _ ?_)
  clear hK K
  dsimp only [thenX, inBlockX]
  refine WP.seq (WP.reg Try.tb_ok redC_ok fun K hK => ?_)
  refine RO.p (w_none rfl) rfl ?_; dsimp only [putT, List.set]
  refine RO.yes (w_none rfl) (opX_conv rfl Try.und21 Try.und3 wa) ?_; dsimp only [putT, List.set]
  refine RO.p (w_none rfl) rfl ?_; dsimp only [putT, List.set]
  refine RO.yes (w_none rfl) (opX_conv rfl Try.und21 Try.und3 wb) ?_; dsimp only [putT, List.set]
  refine RO.yes (w_none rfl) (opX_call rfl rfl rfl rfl (c24 _)) ?_; dsimp only [putT, List.set]
  refine RO.p (w_none rfl) rfl ?_; dsimp only [putT, List.set]
  refine RO.p (w_none rfl) rfl ?_; dsimp only [putT, List.set]
  refine RO.p (w_none rfl) rfl ?_; dsimp only [putT, List.set]
  refine RO.yes (w_none rfl) rfl ?_; dsimp only [putT, List.set]
  refine RO.yes (w_none rfl) rfl ?_; dsimp only [putT, List.set]
  refine RO.p (w_none rfl) rfl ?_; dsimp only [putT, List.set]
  refine RO.nil (hK _ _ ?_)
  clear hK K
  dsimp only [thenX, inBlockX]
  refine WP.seq (WP.seq (WP.reg Try.tb_ok noCall_ok fun K hK => ?_))
  refine RO.p (w_none rfl) rfl ?_; dsimp only [putT, List.set]
  refine RO.p (w_none rfl) rfl ?_; dsimp only [putT, List.set]
  rw [t1]
  refine RO.nil (hK _ _ ?_)
  clear hK K
  dsimp only [thenX, inBlockX]
  refine WP.cond rfl (fun ht => by cases ht) (fun ht => WP.skip ?_)
  dsimp only [thenX]
  refine WP.seq (WP.seq (WP.reg Try.tb_ok redC_ok fun K hK => ?_))
  refine RO.p (w_none rfl) rfl ?_; dsimp only [putT, List.set]
  refine RO.p (w_none rfl) rfl ?_; dsimp only [putT, List.set]
  refine RO.p (w_none rfl) rfl ?_; dsimp only [putT, List.set]
  refine RO.yes (w_yes rfl rfl rfl rfl) rfl ?_; dsimp only [putT, List.set]
  refine RO.yes (w_yes rfl rfl rfl rfl) rfl ?_; dsimp only [putT, List.set]
  refine RO.p (w_yes rfl rfl rfl rfl) rfl ?_; dsimp only [putT, List.set]
  rw [t2]
  refine RO.p (w_none rfl) rfl ?_; dsimp only [putT, List.set]
  refine RO.p (w_none rfl) rfl ?_; dsimp only [putT, List.set]
  refine RO.yes (w_yes rfl rfl rfl rfl) rfl ?_; dsimp only [putT, List.set]
  refine RO.yes (w_yes rfl rfl rfl rfl) rfl ?_; dsimp only [putT, List.set]
  refine RO.p (w_yes rfl rfl rfl rfl) rfl ?_; dsimp only [putT, List.set]
  refine RO.yes (w_yes rfl rfl rfl rfl) (opX_conv rfl Try.und21 Try.und3 wb) ?_; dsimp only [putT, List.set]
  refine RO.p (w_yes rfl rfl rfl rfl) rfl ?_; dsimp only [putT, List.set]
  rw [w1]
  refine RO.p (w_yes rfl rfl rfl rfl) rfl ?_; dsimp only [putT, List.set]
  refine RO.yes (w_yes rfl rfl rfl rfl) (opX_conv rfl Try.und21 Try.und3 wa) ?_; dsimp only [putT, List.set]
  refine RO.yes (w_yes rfl rfl rfl rfl) rfl ?_; dsimp only [putT, List.set]
  refine RO.yes (w_yes rfl rfl rfl rfl) rfl ?_; dsimp only [putT, List.set]
  refine RO.p (w_yes rfl rfl rfl rfl) rfl ?_; dsimp only [putT, List.set]
  rw [w2]
  refine RO.p (w_yes rfl rfl rfl rfl) rfl ?_; dsimp only [putT, List.set]
  rw [t3]
  refine RO.p (w_none rfl) rfl ?_; dsimp only [putT, List.set]
  refine RO.nil (hK _ _ ?_)
  clear hK K
  dsimp only [thenX, inBlockX]
  refine WP.cond rfl (fun ht => by cases ht) (fun ht => WP.skip ?_)
  dsimp only [thenX]
  refine WP.seq (WP.reg Try.tb_ok redC_ok fun K hK => ?_)
  refine RO.yes (w_none rfl) rfl ?_; dsimp only [putT, List.set]
  refine RO.yes (w_none rfl) rfl ?_; dsimp only [putT, List.set]
  refine RO.yes (w_none rfl) rfl ?_; dsimp only [putT, List.set]
  refine RO.yes (w_none rfl) rfl ?_; dsimp only [putT, List.set]
  refine RO.yes (w_none rfl) (opX_call rfl rfl rfl rfl (c24b _)) ?_; dsimp only [putT, List.set]
  refine RO.p (w_none rfl) rfl ?_; dsimp only [putT, List.set]
  refine RO.p (w_none rfl) rfl ?_; dsimp only [putT, List.set]
  refine RO.p (w_none rfl) rfl ?_; dsimp only [putT, List.set]
  refine RO.yes (w_none rfl) rfl ?_; dsimp only [putT, List.set]
  refine RO.yes (w_none rfl) rfl ?_; dsimp only [putT, List.set]
  refine RO.p (w_none rfl) rfl ?_; dsimp only [putT, List.set]
  refine RO.nil (hK _ _ ?_)
  clear hK K
  dsimp only [thenX, inBlockX]
  refine WP.seq (WP.seq (WP.reg Try.tb_ok redC_ok fun K hK => ?_))
  refine RO.p (w_none rfl) rfl ?_; dsimp only [putT, List.set]
  refine RO.p (w_none rfl) rfl ?_; dsimp only [putT, List.set]
  refine RO.p (w_none rfl) rfl ?_; dsimp only [putT, List.set]
  refine RO.yes (w_yes rfl rfl rfl rfl) rfl ?_; dsimp only [putT, List.set]
  refine RO.yes (w_yes rfl rfl rfl rfl) rfl ?_; dsimp only [putT, List.set]
  refine RO.yes (w_yes rfl rfl rfl rfl) (opX_bin rfl rfl (ratio_ne _ _ _ _)) ?_; dsimp only [putT, List.set]
  rw [t4]
  refine RO.p (w_none rfl) rfl ?_; dsimp only [putT, List.set]
  refine RO.nil (hK _ _ ?_)
  clear hK K
  dsimp only [thenX, inBlockX]
  refine WP.cond rfl (fun ht => by cases ht) (fun ht => WP.skip ?_)
  dsimp only [thenX]
  refine WP.seq (WP.reg Try.tb_ok redC_ok fun K hK => ?_)
  refine RO.p (w_none rfl) rfl ?_; dsimp only [putT, List.set]
  refine RO.yes (w_none rfl) (opX_conv rfl Try.und21 Try.und3 wa) ?_; dsimp only [putT, List.set]
  refine RO.p (w_none rfl) rfl ?_; dsimp only [putT, List.set]
  refine RO.yes (w_none rfl) (opX_conv rfl Try.und47 Try.und3 wf) ?_; dsimp only [putT, List.set]
  refine RO.p (w_none rfl) rfl ?_; dsimp only [putT, List.set]
  rw [w3]
  refine RO.p (w_none rfl) rfl ?_; dsimp only [putT, List.set]
  refine RO.yes (w_none rfl) (opX_conv rfl Try.und21 Try.und3 wb) ?_; dsimp only [putT, List.set]
  refine RO.p (w_none rfl) rfl ?_; dsimp only [putT, List.set]
  refine RO.yes (w_none rfl) (opX_conv rfl Try.und47 Try.und3 wf) ?_; dsimp only [putT, List.set]
  refine RO.p (w_none rfl) rfl ?_; dsimp only [putT, List.set]
  rw [w4]
  refine RO.yes (w_none rfl) (opX_call rfl rfl rfl rfl (c24c _)) ?_; dsimp only [putT, List.set]
  refine RO.p (w_none rfl) rfl ?_; dsimp only [putT, List.set]
  refine RO.p (w_none rfl) rfl ?_; dsimp only [putT, List.set]
  refine RO.p (w_none rfl) rfl ?_; dsimp only [putT, List.set]
  refine RO.yes (w_none rfl) rfl ?_; dsimp only [putT, List.set]
  refine RO.yes (w_none rfl) rfl ?_; dsimp only [putT, List.set]
  refine RO.p (w_none rfl) rfl ?_; dsimp only [putT, List.set]
  refine RO.nil (hK _ _ ?_)
  clear hK K
  dsimp only [thenX, inBlockX]
  refine WP.seq (WP.seq (WP.reg Try.tb_ok noCall_ok fun K hK => ?_))
  refine RO.p (w_none rfl) rfl ?_; dsimp only [putT, List.set]
  refine RO.p (w_none rfl) rfl ?_; dsimp only [putT, List.set]
  rw [t6]
  refine RO.nil (hK _ _ ?_)
  clear hK K
  dsimp only [thenX, inBlockX]
  refine WP.cond rfl (fun ht => by cases ht) (fun ht => WP.skip ?_)
  dsimp only [thenX]
  refine WP.seq (WP.reg Try.tb_ok redC_ok fun K hK => ?_)
  refine RO.p (w_none rfl) rfl ?_; dsimp only [putT, List.set]
  refine RO.p (w_none rfl) rfl ?_; dsimp only [putT, List.set]
  refine RO.p (w_none rfl) rfl ?_; dsimp only [putT, List.set]
  refine RO.yes (w_yes rfl rfl rfl rfl) rfl ?_; dsimp only [putT, List.set]
  refine RO.yes (w_yes rfl rfl rfl rfl) rfl ?_; dsimp only [putT, List.set]
  refine RO.yes (w_yes rfl rfl rfl rfl) (opX_bin rfl rfl (ratio_eq _ _ _ _)) ?_; dsimp only [putT, List.set]
  rw [t5]
  refine RO.p (w_none rfl) rfl ?_; dsimp only [putT, List.set]
  refine RO.p (w_none rfl) rfl ?_; dsimp only [putT, List.set]
  refine RO.yes (w_yes rfl rfl rfl rfl) (opX_call rfl rfl rfl rfl (c11 _)) ?_; dsimp only [putT, List.set]
  refine RO.p (w_none rfl) rfl ?_; dsimp only [putT, List.set]
  refine RO.p (w_none rfl) rfl ?_; dsimp only [putT, List.set]
  refine RO.nil (hK _ _ ?_)
  clear hK K
  dsimp only [thenX, inBlockX]
  exact WP.ret ⟨.inr rfl, _, ⟨[], 3⟩, rfl, rfl, less_none (Nat.le_refl _), rfl⟩
end Go.Proofs
