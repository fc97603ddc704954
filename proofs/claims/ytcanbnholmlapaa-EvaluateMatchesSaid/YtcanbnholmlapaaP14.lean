/-
  Texts of the walk: E7.
-/
import Derived.Test.YtcanbnholmlapaaP13
section
namespace Go.Proofs
open Go Go.Rx Go.Vx
set_option maxRecDepth 10000
set_option linter.unusedSimpArgs false
set_option linter.unusedVariables false
structure GMetrics where
  Items : Int
  Exact : Int
  Gold : Int
  Test : Int
  Match : Int
  Crossing : Int
instance : Inhabited GMetrics := ⟨.mk default default default default default default⟩
def cGMetrics (x : GMetrics) : List U := [.int .i64 x.Items, .int .i64 x.Exact, .int .i64 x.Gold, .int .i64 x.Test, .int .i64 x.Match, .int .i64 x.Crossing]
theorem bel_cGMetrics (n : Nat) (x : GMetrics) : BelL n (cGMetrics x) := by
  simp only [cGMetrics, BelL, Bel, true_and, and_true]
instance : BF cGMetrics := ⟨bel_cGMetrics⟩
instance (n : Nat) (x : GMetrics) : BUL n (cGMetrics x) := ⟨bel_cGMetrics n x⟩
def eqGMetrics (x y : GMetrics) : Bool := ((x.Items == y.Items) && ((x.Exact == y.Exact) && ((x.Gold == y.Gold) && ((x.Test == y.Test) && ((x.Match == y.Match) && (x.Crossing == y.Crossing))))))
structure GRatio where
  Num : Int
  Den : Int
instance : Inhabited GRatio := ⟨.mk default default⟩
def cGRatio (x : GRatio) : List U := [.int .i64 x.Num, .int .i64 x.Den]
theorem bel_cGRatio (n : Nat) (x : GRatio) : BelL n (cGRatio x) := by
  simp only [cGRatio, BelL, Bel, true_and, and_true]
instance : BF cGRatio := ⟨bel_cGRatio⟩
instance (n : Nat) (x : GRatio) : BUL n (cGRatio x) := ⟨bel_cGRatio n x⟩
def eqGRatio (x y : GRatio) : Bool := ((x.Num == y.Num) && (x.Den == y.Den))
theorem Try.eqs32 : Try.tb.eqs 32 = true := by kernel_rfl
theorem eqv32 (x y : GMetrics) : eqv Try.tb 50 32 (.agg ⟨[.int .i64 x.Items, .int .i64 x.Exact, .int .i64 x.Gold, .int .i64 x.Test, .int .i64 x.Match, .int .i64 x.Crossing]⟩) (.agg ⟨[.int .i64 y.Items, .int .i64 y.Exact, .int .i64 y.Gold, .int .i64 y.Test, .int .i64 y.Match, .int .i64 y.Crossing]⟩) = some (eqGMetrics x y) := by
  simp only [eqv, cond_true, cond_false, eqFs, partX, isAggD, nth, sizeX, List.drop, List.take, List.toList_toArray, eqGMetrics, ne_eq, String.reduceEq, not_false_eq_true, if_true, Try.und3, Try.und32, Try.eqs32, Try.inf32]
  cases (x.Items == y.Items) <;> cases (x.Exact == y.Exact) <;> cases (x.Gold == y.Gold) <;> cases (x.Test == y.Test) <;> cases (x.Match == y.Match) <;> cases (x.Crossing == y.Crossing) <;> rfl
theorem eqq32_eql (x y : GMetrics) : g2 (binX Try.tb .eql 32) (.agg [.int .i64 x.Items, .int .i64 x.Exact, .int .i64 x.Gold, .int .i64 x.Test, .int .i64 x.Match, .int .i64 x.Crossing]) (.agg [.int .i64 y.Items, .int .i64 y.Exact, .int .i64 y.Gold, .int .i64 y.Test, .int .i64 y.Match, .int .i64 y.Crossing]) = some (.bool (eqGMetrics x y)) := by
  simp only [g2, toV, toVL, okL, okC, cond_true, binX, guardX, Try.eqs32, eqv32, ofV]
theorem Try.eqs35 : Try.tb.eqs 35 = true := by kernel_rfl
theorem eqv35 (x y : GRatio) : eqv Try.tb 50 35 (.agg ⟨[.int .i64 x.Num, .int .i64 x.Den]⟩) (.agg ⟨[.int .i64 y.Num, .int .i64 y.Den]⟩) = some (eqGRatio x y) := by
  simp only [eqv, cond_true, cond_false, eqFs, partX, isAggD, nth, sizeX, List.drop, List.take, List.toList_toArray, eqGRatio, ne_eq, String.reduceEq, not_false_eq_true, if_true, Try.und3, Try.und35, Try.eqs35, Try.inf35]
  cases (x.Num == y.Num) <;> cases (x.Den == y.Den) <;> rfl
theorem eqq35_eql (x y : GRatio) : g2 (binX Try.tb .eql 35) (.agg [.int .i64 x.Num, .int .i64 x.Den]) (.agg [.int .i64 y.Num, .int .i64 y.Den]) = some (.bool (eqGRatio x y)) := by
  simp only [g2, toV, toVL, okL, okC, cond_true, binX, guardX, Try.eqs35, eqv35, ofV]
theorem key53 : KeyOk (fun x => .agg (cGBracket x)) Try.tb 53 eqGBracket (fun x => .agg ⟨[.string ⟨⟨x.Name⟩⟩, .int .i64 x.From, .int .i64 x.To]⟩) where
  v := fun _ => rfl
  cmp := fun a b => eqv53 a b
  key := fun _ => by simp only [keyX, keyFs, partX, isAggD, nth, sizeX, cond_true, cond_false, List.drop, List.take, List.toList_toArray, Try.und3, Try.und9, Try.und53, Try.inf3, Try.inf9, Try.inf53] <;> rfl
  pl := fun _ => rfl
  same := fun a b h => by
    simp only [eqGBracket, Bool.and_eq_true, beq_iff_eq, bytes_iff] at h
    simp [veq, veqL, bytes_refl, h]
theorem Try.bd32 : BdT Try.tb 32 [.int .i64 0, .int .i64 0, .int .i64 0, .int .i64 0, .int .i64 0, .int .i64 0] [(0, 1), (1, 1), (2, 1), (3, 1), (4, 1), (5, 1)] := bdT Try.und32 Try.inf32 rfl (by kernel_rfl)
theorem Try.bd35 : BdT Try.tb 35 [.int .i64 0, .int .i64 0] [(0, 1), (1, 1)] := bdT Try.und35 Try.inf35 rfl (by kernel_rfl)
def cmp_Or_int_K1   : Option (Int) :=
  some 0
def cmp_Or_int_L1 (p1 : List Int) : Nat → Int → Option (Int)
  | 0, _ => none
  | m1 + 1, z6 =>
    cond (decide (z6 < (p1.length : Int)))
      (bindO (idxO p1 z6) fun x8 =>
      cond (x8 != 0)
        (some x8)
        ((cmp_Or_int_L1 p1 m1) (IntKind.i64.wrap (z6 + 1))))
      (cmp_Or_int_K1)
def cmp_Or_int (n : Nat) (p1 : List Int) : Option (Int) :=
  cmp_Or_int_L1 p1 n 0
theorem cmp_Or_int_0 (n : Nat) (p1 : List Int) (r : Int) (hF : cmp_Or_int n p1 = some r) : EvU Try.prog 49 [.isl false (List.map (cI .i64) p1)] ⟨[], 0⟩ (fun u _ => u = .int .i64 r ∧ Bel 0 u) := by
  unfold cmp_Or_int at hF
  refine EvU.of_body Try.tb_ok Try.fn49 rfl ?_
  refine WPU.ghost (tm' := fr 18 [(0, .isl false (List.map (cI .i64) p1))]) (Gh.start (Nat.le_of_ble_eq_true rfl)) (Nat.zero_le _) ?_
  repeat refine WPU.seq ?_
  refine WPU.region Try.tb_ok ?_
  refine RS.op rfl (op_assign rfl) rfl rfl ?_
  refine RS.done ?_
  repeat refine gq ?_
  repeat refine WPU.seq ?_
  refine WPU.region Try.tb_ok ?_
  refine RS.op rfl (op_assign rfl) rfl rfl ?_
  refine RS.done ?_
  repeat refine gq ?_
  repeat refine WPU.seq ?_
  refine WPU.region Try.tb_ok ?_
  refine RS.op rfl (op_move rfl) rfl rfl ?_
  refine RS.op rfl (op_len rfl rfl rfl (len_isl (cI .i64) Try.und88)) rfl rfl ?_
  refine RS.op rfl (op_move rfl) rfl rfl ?_
  refine RS.done ?_
  repeat refine gq ?_
  repeat refine WPU.seq ?_
  refine WPU.ghost (tm' := fr 18 [(3, .int .i64 0), (6, .isl false (List.map (cI .i64) p1)), (7, .int .i64 (p1.length : Int)), (8, .int .i64 0)]) (Gh.sub ⟨rfl, rfl, rfl, rfl, trivial⟩) (Nat.zero_le _) ?_
  refine WPU.loopK (fun m tm σ => ∃ z6 : Int, cmp_Or_int_L1 p1 m z6 = some r ∧ tm = fr 18 [(3, .int .i64 0), (6, .isl false (List.map (cI .i64) p1)), (7, .int .i64 (p1.length : Int)), (8, .int .i64 z6)] ∧ σ = ⟨[], 0⟩) (fun tm σ => cmp_Or_int_K1 = some r ∧ tm = fr 18 [(3, .int .i64 0)] ∧ σ = ⟨[], 0⟩) n ⟨0, hF, rfl, rfl⟩ ?_ ?_
  · skip
    rintro _ _ ⟨hF, rfl, rfl⟩
    unfold cmp_Or_int_K1 at hF
    repeat refine gq ?_
    repeat refine WPU.seq ?_
    refine WPU.region Try.tb_ok ?_
    refine RS.op rfl (op_move rfl) rfl rfl ?_
    refine RS.op rfl (op_assign rfl) rfl rfl ?_
    refine RS.done ?_
    repeat refine gq ?_
    repeat refine WPU.seq ?_
    refine WPU.ret ?_
    repeat refine gq ?_
    have hr := Option.some.inj hF
    subst hr
    exact ⟨.inr rfl, [.int .i64 0], res_t rfl (res_n), .int .i64 0, ⟨[], 0⟩, Nat.le_refl _, Gh.toR (.int .i64 0) rfl, rfl, BU.h⟩
  · skip
    rintro m1 _ _ ⟨z6, hF, rfl, rfl⟩
    cases m1 with
    | zero => cases hF
    | succ m1 =>
      unfold cmp_Or_int_L1 at hF
      repeat refine WPU.seq ?_
      refine WPU.region Try.tb_ok ?_
      refine RS.op rfl (op_int rfl rfl (ix_lss _ _ _) rfl) rfl rfl ?_
      refine RS.done ?_
      repeat refine gq ?_
      repeat refine WPU.seq ?_
      refine WPU.condS (t := (decide (z6 < (p1.length : Int)))) rfl (fun h7 => ?_) (fun h7 => ?_)
      · skip
        replace hF := cond_t h7 hF
        repeat refine WPU.seq ?_
        refine WPU.skip ?_
        repeat refine gq ?_
        repeat refine WPU.seq ?_
        refine WPU.block ?_
        repeat refine WPU.seq ?_
        obtain ⟨x8, h9, hF⟩ := bindO_some hF
        refine WPU.region Try.tb_ok ?_
        refine RS.op (u := .iptr [.int .i64 x8]) rfl (op_ia rfl rfl (ia_isl (cI .i64) Try.und88 (sz_of Try.inf3) (len_cI .i64) h9 rfl)) rfl rfl ?_
        refine RS.op (u := .int .i64 x8) rfl (li_one Try.und3 rfl rfl rfl) rfl rfl ?_
        refine RS.op rfl (op_assign rfl) rfl rfl ?_
        refine RS.done ?_
        repeat refine gq ?_
        repeat refine WPU.seq ?_
        refine WPU.region Try.tb_ok ?_
        repeat refine RS.op rfl (op_move rfl) rfl rfl ?_
        refine RS.op rfl (op_int rfl rfl (ix_neq _ _ _) rfl) rfl rfl ?_
        refine RS.done ?_
        repeat refine gq ?_
        repeat refine WPU.seq ?_
        refine WPU.condS (t := (x8 != 0)) rfl (fun h10 => ?_) (fun h10 => ?_)
        · skip
          replace hF := cond_t h10 hF
          repeat refine WPU.seq ?_
          refine WPU.region Try.tb_ok ?_
          refine RS.op rfl (op_move rfl) rfl rfl ?_
          refine RS.op rfl (op_assign rfl) rfl rfl ?_
          refine RS.done ?_
          repeat refine gq ?_
          repeat refine WPU.seq ?_
          refine WPU.ret ?_
          repeat refine gq ?_
          have hr := Option.some.inj hF
          subst hr
          exact ⟨.inr rfl, [.int .i64 x8], res_t rfl (res_n), .int .i64 x8, ⟨[], 0⟩, Nat.le_refl _, Gh.toR (.int .i64 x8) rfl, rfl, BU.h⟩
        · skip
          replace hF := cond_f h10 hF
          repeat refine WPU.seq ?_
          refine WPU.skip ?_
          repeat refine gq ?_
          repeat refine WPU.seq ?_
          refine WPU.region Try.tb_ok ?_
          refine RS.op rfl (op_int rfl rfl (ix_add _ _ _) rfl) rfl rfl ?_
          refine RS.op rfl (op_move rfl) rfl rfl ?_
          refine RS.done ?_
          repeat refine gq ?_
          exact ⟨m1, _, _, Nat.lt_succ_self _, ⟨(IntKind.i64.wrap (z6 + 1)), hF, rfl, rfl⟩, (Nat.zero_le _), Gh.toC (n1 := 0) ⟨rfl, rfl, rfl, rfl, trivial⟩ rfl (Nat.zero_le _) (by simp)⟩
      · skip
        replace hF := cond_f h7 hF
        repeat refine WPU.seq ?_
        refine WPU.exit ?_
        repeat refine gq ?_
        exact ⟨_, _, ⟨hF, rfl, rfl⟩, (Nat.zero_le _), Gh.toC (n1 := 0) ⟨rfl, trivial⟩ rfl (Nat.zero_le _) (by simp)⟩
def slices_CompareFunc_Deriv_Compare_K1 (p1 : List GDeriv) (p2 : List GDeriv)  : Option (Int) :=
  cond (decide ((p1.length : Int) < (p2.length : Int)))
    (some (-1))
    (some 0)
def slices_CompareFunc_Deriv_Compare_L1 (p1 : List GDeriv) (p2 : List GDeriv) (f2 : GDeriv → GDeriv → Option (Int)) : Nat → Int → Option (Int)
  | 0, _ => none
  | m1 + 1, z8 =>
    cond (decide (z8 < (p1.length : Int)))
      (bindO (idxO p1 z8) fun x11 =>
      cond (decide (z8 ≥ (p2.length : Int)))
        (some 1)
        (bindO (idxO p2 z8) fun x14 =>
        bindO (f2 x11 x14) fun r16 =>
        cond (r16 != 0)
          (some r16)
          ((slices_CompareFunc_Deriv_Compare_L1 p1 p2 f2 m1) (IntKind.i64.wrap (z8 + 1)))))
      (slices_CompareFunc_Deriv_Compare_K1 p1 p2)
def slices_CompareFunc_Deriv_Compare (f2 : GDeriv → GDeriv → Option (Int)) (n : Nat) (p1 : List GDeriv) (p2 : List GDeriv) : Option (Int) :=
  slices_CompareFunc_Deriv_Compare_L1 p1 p2 f2 n 0
theorem slices_CompareFunc_Deriv_Compare_0 (f2 : GDeriv → GDeriv → Option (Int)) (hf2 : ∀ (a0 : GDeriv) (a1 : GDeriv) (r : Int), f2 a0 a1 = some r → EvU Try.prog 33 [.agg (xGDeriv a0), .agg (xGDeriv a1)] ⟨[], 0⟩ (fun u _ => u = .int .i64 r ∧ Bel 0 u)) (n : Nat) (p1 : List GDeriv) (p2 : List GDeriv) (r : Int) (hF : slices_CompareFunc_Deriv_Compare f2 n p1 p2 = some r) : EvU Try.prog 50 [.isl false (List.map cGDeriv p1), .isl false (List.map cGDeriv p2), .fn (.func 33) [] []] ⟨[], 0⟩ (fun u _ => u = .int .i64 r ∧ Bel 0 u) := by
  unfold slices_CompareFunc_Deriv_Compare at hF
  have hf2S : ∀ (a0 : GDeriv) (a1 : GDeriv) (r : Int), f2 a0 a1 = some r → ∀ σ, EvU Try.prog 33 [.agg (xGDeriv a0), .agg (xGDeriv a1)] σ (fun u σ' => u = .int .i64 r ∧ σ' = σ) := fun a0 a1 r h σ => EvU.pure1C (hf2 a0 a1 r h) σ
  refine EvU.of_body Try.tb_ok Try.fn50 rfl ?_
  refine WPU.ghost (tm' := fr 39 [(0, .isl false (List.map cGDeriv p1)), (1, .isl false (List.map cGDeriv p2)), (2, .fn (.func 33) [] [])]) (Gh.start (Nat.le_of_ble_eq_true rfl)) (Nat.zero_le _) ?_
  repeat refine WPU.seq ?_
  refine WPU.region Try.tb_ok ?_
  refine RS.op rfl (op_assign rfl) rfl rfl ?_
  refine RS.done ?_
  repeat refine gq ?_
  repeat refine WPU.seq ?_
  refine WPU.region Try.tb_ok ?_
  refine RS.op rfl (op_move rfl) rfl rfl ?_
  refine RS.op rfl (op_len rfl rfl rfl (len_isl cGDeriv Try.und22)) rfl rfl ?_
  refine RS.op rfl (op_move rfl) rfl rfl ?_
  refine RS.done ?_
  repeat refine gq ?_
  repeat refine WPU.seq ?_
  refine WPU.ghost (tm' := fr 39 [(0, .isl false (List.map cGDeriv p1)), (1, .isl false (List.map cGDeriv p2)), (2, .fn (.func 33) [] []), (11, .isl false (List.map cGDeriv p1)), (12, .int .i64 (p1.length : Int)), (13, .int .i64 0)]) (Gh.sub ⟨rfl, rfl, rfl, rfl, rfl, rfl, trivial⟩) (Nat.zero_le _) ?_
  refine WPU.loopK (fun m tm σ => ∃ z8 : Int, slices_CompareFunc_Deriv_Compare_L1 p1 p2 f2 m z8 = some r ∧ tm = fr 39 [(0, .isl false (List.map cGDeriv p1)), (1, .isl false (List.map cGDeriv p2)), (2, .fn (.func 33) [] []), (11, .isl false (List.map cGDeriv p1)), (12, .int .i64 (p1.length : Int)), (13, .int .i64 z8)] ∧ σ = ⟨[], 0⟩) (fun tm σ => slices_CompareFunc_Deriv_Compare_K1 p1 p2 = some r ∧ tm = fr 39 [(0, .isl false (List.map cGDeriv p1)), (1, .isl false (List.map cGDeriv p2))] ∧ σ = ⟨[], 0⟩) n ⟨0, hF, rfl, rfl⟩ ?_ ?_
  · skip
    rintro _ _ ⟨hF, rfl, rfl⟩
    unfold slices_CompareFunc_Deriv_Compare_K1 at hF
    repeat refine gq ?_
    repeat refine WPU.seq ?_
    refine WPU.region Try.tb_ok ?_
    refine RS.op rfl (op_move rfl) rfl rfl ?_
    refine RS.op rfl (op_len rfl rfl rfl (len_isl cGDeriv Try.und22)) rfl rfl ?_
    refine RS.op rfl (op_move rfl) rfl rfl ?_
    refine RS.op rfl (op_len rfl rfl rfl (len_isl cGDeriv Try.und22)) rfl rfl ?_
    refine RS.op rfl (op_int rfl rfl (ix_lss _ _ _) rfl) rfl rfl ?_
    refine RS.done ?_
    repeat refine gq ?_
    repeat refine WPU.seq ?_
    refine WPU.condS (t := (decide ((p1.length : Int) < (p2.length : Int)))) rfl (fun h9 => ?_) (fun h9 => ?_)
    · skip
      replace hF := cond_t h9 hF
      repeat refine WPU.seq ?_
      refine WPU.region Try.tb_ok ?_
      refine RS.op rfl (op_assign rfl) rfl rfl ?_
      refine RS.done ?_
      repeat refine gq ?_
      repeat refine WPU.seq ?_
      refine WPU.ret ?_
      repeat refine gq ?_
      have hr := Option.some.inj hF
      subst hr
      exact ⟨.inr rfl, [.int .i64 (-1)], res_t rfl (res_n), .int .i64 (-1), ⟨[], 0⟩, Nat.le_refl _, Gh.toR (.int .i64 (-1)) rfl, rfl, BU.h⟩
    · skip
      replace hF := cond_f h9 hF
      repeat refine WPU.seq ?_
      refine WPU.skip ?_
      repeat refine gq ?_
      repeat refine WPU.seq ?_
      refine WPU.region Try.tb_ok ?_
      refine RS.op rfl (op_assign rfl) rfl rfl ?_
      refine RS.done ?_
      repeat refine gq ?_
      repeat refine WPU.seq ?_
      refine WPU.ret ?_
      repeat refine gq ?_
      have hr := Option.some.inj hF
      subst hr
      exact ⟨.inr rfl, [.int .i64 0], res_t rfl (res_n), .int .i64 0, ⟨[], 0⟩, Nat.le_refl _, Gh.toR (.int .i64 0) rfl, rfl, BU.h⟩
  · skip
    rintro m1 _ _ ⟨z8, hF, rfl, rfl⟩
    cases m1 with
    | zero => cases hF
    | succ m1 =>
      unfold slices_CompareFunc_Deriv_Compare_L1 at hF
      repeat refine WPU.seq ?_
      refine WPU.region Try.tb_ok ?_
      refine RS.op rfl (op_int rfl rfl (ix_lss _ _ _) rfl) rfl rfl ?_
      refine RS.done ?_
      repeat refine gq ?_
      repeat refine WPU.seq ?_
      refine WPU.condS (t := (decide (z8 < (p1.length : Int)))) rfl (fun h10 => ?_) (fun h10 => ?_)
      · skip
        replace hF := cond_t h10 hF
        repeat refine WPU.seq ?_
        refine WPU.skip ?_
        repeat refine gq ?_
        repeat refine WPU.seq ?_
        refine WPU.block ?_
        repeat refine WPU.seq ?_
        obtain ⟨x11, h12, hF⟩ := bindO_some hF
        refine WPU.region Try.tb_ok ?_
        refine RS.op rfl (op_move rfl) rfl rfl ?_
        refine RS.op (u := .iptr (xGDeriv x11)) rfl (op_ia rfl rfl (ia_isl cGDeriv Try.und22 (sz_of Try.inf24) len_cGDeriv h12 (cGDeriv_eq x11))) rfl rfl ?_
        refine RS.op (u := .agg (xGDeriv x11)) rfl (li_agg Try.und24 rfl (sz_of Try.inf24) rfl rfl) rfl rfl ?_
        refine RS.op (u := .ptr 0 0 0) (σ' := ⟨[(0, .row [.int .i64 0, .str [], .int .i64 0, .int .i64 0, .nils] 24)], 1⟩) rfl (op_alloc Try.inf24 rfl rfl) rfl rfl ?_
        refine RS.op rfl (op_assign rfl) rfl rfl ?_
        refine RS.opn (u := .junk) (σ' := ⟨[(0, .row (xGDeriv x11) 24)], 1⟩) rfl (op_store (sz_of Try.inf24) rfl rfl rfl rfl rfl rfl rfl rfl) rfl ?_
        refine RS.done ?_
        repeat refine gq ?_
        repeat refine WPU.seq ?_
        refine WPU.region Try.tb_ok ?_
        repeat refine RS.op rfl (op_move rfl) rfl rfl ?_
        refine RS.op rfl (op_len rfl rfl rfl (len_isl cGDeriv Try.und22)) rfl rfl ?_
        refine RS.op rfl (op_int rfl rfl (ix_geq _ _ _) rfl) rfl rfl ?_
        refine RS.done ?_
        repeat refine gq ?_
        repeat refine WPU.seq ?_
        refine WPU.condS (t := (decide (z8 ≥ (p2.length : Int)))) rfl (fun h13 => ?_) (fun h13 => ?_)
        · skip
          replace hF := cond_t h13 hF
          repeat refine WPU.seq ?_
          refine WPU.region Try.tb_ok ?_
          refine RS.op rfl (op_assign rfl) rfl rfl ?_
          refine RS.done ?_
          repeat refine gq ?_
          repeat refine WPU.seq ?_
          refine WPU.ret ?_
          repeat refine gq ?_
          have hr := Option.some.inj hF
          subst hr
          exact ⟨.inr rfl, [.int .i64 1], res_t rfl (res_n), .int .i64 1, ⟨[], 0⟩, Nat.le_refl _, Gh.toR (.int .i64 1) rfl, rfl, BU.h⟩
        · skip
          replace hF := cond_f h13 hF
          repeat refine WPU.seq ?_
          refine WPU.skip ?_
          repeat refine gq ?_
          repeat refine WPU.seq ?_
          obtain ⟨x14, h15, hF⟩ := bindO_some hF
          refine WPU.region Try.tb_ok ?_
          repeat refine RS.op rfl (op_move rfl) rfl rfl ?_
          refine RS.op (u := .iptr (xGDeriv x14)) rfl (op_ia rfl rfl (ia_isl cGDeriv Try.und22 (sz_of Try.inf24) len_cGDeriv h15 (cGDeriv_eq x14))) rfl rfl ?_
          refine RS.op (u := .agg (xGDeriv x14)) rfl (li_agg Try.und24 rfl (sz_of Try.inf24) rfl rfl) rfl rfl ?_
          refine RS.op (u := .ptr 1 0 0) (σ' := ⟨[(1, .row [.int .i64 0, .str [], .int .i64 0, .int .i64 0, .nils] 24), (0, .row (xGDeriv x11) 24)], 2⟩) rfl (op_alloc Try.inf24 rfl rfl) rfl rfl ?_
          refine RS.opn (u := .junk) (σ' := ⟨[(1, .row (xGDeriv x14) 24), (0, .row (xGDeriv x11) 24)], 2⟩) rfl (op_store (sz_of Try.inf24) rfl rfl rfl rfl rfl rfl rfl rfl) rfl ?_
          refine RS.done ?_
          repeat refine gq ?_
          repeat refine WPU.seq ?_
          obtain ⟨r16, h17, hF⟩ := bindO_some hF
          refine WPU.region Try.tb_ok ?_
          refine RS.op rfl (op_move rfl) rfl rfl ?_
          refine RS.op (u := .agg (xGDeriv x11)) rfl (ld_agg Try.und24 rfl (sz_of Try.inf24) rfl rfl rfl) rfl rfl ?_
          refine RS.op (u := .agg (xGDeriv x14)) rfl (ld_agg Try.und24 rfl (sz_of Try.inf24) rfl rfl rfl) rfl rfl ?_
          refine RS.call (u := .int .i64 r16) (args := [.agg (xGDeriv x11), .agg (xGDeriv x14)]) rfl (op_call rfl rfl Try.fn33 Try.hb33 rfl rfl) (hf2S x11 x14 r16 h17 _) rfl rfl ?_
          refine RS.op rfl (op_assign rfl) rfl rfl ?_
          refine RS.done ?_
          repeat refine gq ?_
          repeat refine WPU.seq ?_
          refine WPU.region Try.tb_ok ?_
          refine RS.op rfl (op_move rfl) rfl rfl ?_
          refine RS.op rfl (op_int rfl rfl (ix_neq _ _ _) rfl) rfl rfl ?_
          refine RS.done ?_
          repeat refine gq ?_
          repeat refine WPU.seq ?_
          refine WPU.condS (t := (r16 != 0)) rfl (fun h18 => ?_) (fun h18 => ?_)
          · skip
            replace hF := cond_t h18 hF
            repeat refine WPU.seq ?_
            refine WPU.region Try.tb_ok ?_
            refine RS.op rfl (op_move rfl) rfl rfl ?_
            refine RS.op rfl (op_assign rfl) rfl rfl ?_
            refine RS.done ?_
            repeat refine gq ?_
            repeat refine WPU.seq ?_
            refine WPU.ret ?_
            repeat refine gq ?_
            have hr := Option.some.inj hF
            subst hr
            exact ⟨.inr rfl, [.int .i64 r16], res_t rfl (res_n), .int .i64 r16, ⟨[], 0⟩, Nat.le_refl _, Gh.toR (.int .i64 r16) rfl, rfl, BU.h⟩
          · skip
            replace hF := cond_f h18 hF
            repeat refine WPU.seq ?_
            refine WPU.skip ?_
            repeat refine gq ?_
            repeat refine WPU.seq ?_
            refine WPU.region Try.tb_ok ?_
            refine RS.op rfl (op_int rfl rfl (ix_add _ _ _) rfl) rfl rfl ?_
            refine RS.op rfl (op_move rfl) rfl rfl ?_
            refine RS.done ?_
            repeat refine gq ?_
            exact ⟨m1, _, _, Nat.lt_succ_self _, ⟨(IntKind.i64.wrap (z8 + 1)), hF, rfl, rfl⟩, (Nat.zero_le _), Gh.toC (n1 := 0) ⟨rfl, rfl, rfl, rfl, rfl, rfl, trivial⟩ rfl (Nat.zero_le _) (by simp)⟩
      · skip
        replace hF := cond_f h10 hF
        repeat refine WPU.seq ?_
        refine WPU.exit ?_
        repeat refine gq ?_
        exact ⟨_, _, ⟨hF, rfl, rfl⟩, (Nat.zero_le _), Gh.toC (n1 := 0) ⟨rfl, rfl, trivial⟩ rfl (Nat.zero_le _) (by simp)⟩
theorem slices_CompareFunc_Deriv_Compare_ok (f2 : GDeriv → GDeriv → Option (Int)) (hf2 : ∀ (a0 : GDeriv) (a1 : GDeriv) (r : Int), f2 a0 a1 = some r → EvU Try.prog 33 [.agg (xGDeriv a0), .agg (xGDeriv a1)] ⟨[], 0⟩ (fun u _ => u = .int .i64 r ∧ Bel 0 u)) (n : Nat) (p1 : List GDeriv) (p2 : List GDeriv) (r : Int) (hF : slices_CompareFunc_Deriv_Compare f2 n p1 p2 = some r) (σ : Sg) : EvU Try.prog 50 [.isl false (List.map cGDeriv p1), .isl false (List.map cGDeriv p2), .fn (.func 33) [] []] σ (fun u σ' => u = .int .i64 r ∧ σ' = σ) :=
  EvU.pure1C (slices_CompareFunc_Deriv_Compare_0 f2 hf2 n p1 p2 r hF) σ
def deriv_Compare_b (n : Nat) (self : GDeriv → GDeriv → Option (Int)) (p1 : GDeriv) (p2 : GDeriv) : Option (Int) :=
  bindO (cmp_Compare_int n p1.From p2.From) fun r3 =>
  bindO (cmp_Compare_int n p1.To p2.To) fun r5 =>
  bindO (cmp_Compare_int n p1.Kind p2.Kind) fun r7 =>
  bindO (cmp_Compare_string n p1.Name p2.Name) fun r9 =>
  bindO (cmp_Or_int n ([r3, r5, r7, r9])) fun r11 =>
  cond (r11 != 0)
    (some r11)
    (bindO (slices_CompareFunc_Deriv_Compare self n p1.Kids p2.Kids) fun r14 =>
    some r14)
def deriv_Compare : Nat → GDeriv → GDeriv → Option (Int)
  | 0, _, _ => none
  | n + 1, p1, p2 => deriv_Compare_b n (deriv_Compare n) p1 p2
theorem deriv_Compare_0 : ∀ (n : Nat) (p1 : GDeriv) (p2 : GDeriv) (r : Int), deriv_Compare n p1 p2 = some r → EvU Try.prog 33 [.agg (xGDeriv p1), .agg (xGDeriv p2)] ⟨[], 0⟩ (fun u _ => u = .int .i64 r ∧ Bel 0 u)
  | 0, p1, p2, r, hF => by cases hF
  | n + 1, p1, p2, r, hF => by
    have ih := deriv_Compare_0 n
    have ihS : ∀ (p1 : GDeriv) (p2 : GDeriv) (r : Int), deriv_Compare n p1 p2 = some r → ∀ σ, EvU Try.prog 33 [.agg (xGDeriv p1), .agg (xGDeriv p2)] σ (fun u σ' => u = .int .i64 r ∧ σ' = σ) := fun p1 p2 r h σ => EvU.pure1C (ih p1 p2 r h) σ
    unfold deriv_Compare deriv_Compare_b at hF
    refine EvU.of_body Try.tb_ok Try.fn33 rfl ?_
    refine WPU.ghost (tm' := fr 36 [(0, .agg (xGDeriv p1)), (1, .agg (xGDeriv p2))]) (Gh.start (Nat.le_of_ble_eq_true rfl)) (Nat.zero_le _) ?_
    repeat refine WPU.seq ?_
    refine WPU.region Try.tb_ok ?_
    refine RS.op (u := .ptr 0 0 0) (σ' := ⟨[(0, .row (xGDeriv p1) 24)], 1⟩) rfl (op_box rfl rfl rfl) rfl rfl ?_
    refine RS.op (u := .ptr 1 0 0) (σ' := ⟨[(1, .row (xGDeriv p2) 24), (0, .row (xGDeriv p1) 24)], 2⟩) rfl (op_box rfl rfl rfl) rfl rfl ?_
    refine RS.op rfl (op_assign rfl) rfl rfl ?_
    refine RS.done ?_
    repeat refine gq ?_
    repeat refine WPU.seq ?_
    obtain ⟨r3, h4, hF⟩ := bindO_some hF
    obtain ⟨r5, h6, hF⟩ := bindO_some hF
    obtain ⟨r7, h8, hF⟩ := bindO_some hF
    obtain ⟨r9, h10, hF⟩ := bindO_some hF
    obtain ⟨r11, h12, hF⟩ := bindO_some hF
    refine WPU.drawE Try.tb_ok [] (by kernel_rfl) ?_
    refine RD.look (u := .ptr 0 0 2) rfl (op_fa Try.und24 rfl (sz_of Try.inf3) rfl rfl rfl) rfl rfl ?_
    refine RD.look (u := .int .i64 p1.From) rfl (ld_one Try.und3 rfl rfl rfl rfl) rfl rfl ?_
    refine RD.look (u := .ptr 1 0 2) rfl (op_fa Try.und24 rfl (sz_of Try.inf3) rfl rfl rfl) rfl rfl ?_
    refine RD.look (u := .int .i64 p2.From) rfl (ld_one Try.und3 rfl rfl rfl rfl) rfl rfl ?_
    refine RD.free (u := .int .i64 r3) (args := [.int .i64 p1.From, .int .i64 p2.From]) rfl (op_call rfl rfl Try.fn46 Try.hb46 rfl rfl) (fun s => cmp_Compare_int_ok n p1.From p2.From r3 h4 s) rfl rfl ?_
    refine RD.look (u := .ptr 0 0 3) rfl (op_fa Try.und24 rfl (sz_of Try.inf3) rfl rfl rfl) rfl rfl ?_
    refine RD.look (u := .int .i64 p1.To) rfl (ld_one Try.und3 rfl rfl rfl rfl) rfl rfl ?_
    refine RD.look (u := .ptr 1 0 3) rfl (op_fa Try.und24 rfl (sz_of Try.inf3) rfl rfl rfl) rfl rfl ?_
    refine RD.look (u := .int .i64 p2.To) rfl (ld_one Try.und3 rfl rfl rfl rfl) rfl rfl ?_
    refine RD.free (u := .int .i64 r5) (args := [.int .i64 p1.To, .int .i64 p2.To]) rfl (op_call rfl rfl Try.fn46 Try.hb46 rfl rfl) (fun s => cmp_Compare_int_ok n p1.To p2.To r5 h6 s) rfl rfl ?_
    refine RD.look (u := .ptr 0 0 0) rfl (op_fa Try.und24 rfl (sz_of Try.inf3) rfl rfl rfl) rfl rfl ?_
    refine RD.look (u := .int .i64 p1.Kind) rfl (ld_one Try.und3 rfl rfl rfl rfl) rfl rfl ?_
    refine RD.look (u := .ptr 1 0 0) rfl (op_fa Try.und24 rfl (sz_of Try.inf3) rfl rfl rfl) rfl rfl ?_
    refine RD.look (u := .int .i64 p2.Kind) rfl (ld_one Try.und3 rfl rfl rfl rfl) rfl rfl ?_
    refine RD.free (u := .int .i64 r7) (args := [.int .i64 p1.Kind, .int .i64 p2.Kind]) rfl (op_call rfl rfl Try.fn46 Try.hb46 rfl rfl) (fun s => cmp_Compare_int_ok n p1.Kind p2.Kind r7 h8 s) rfl rfl ?_
    refine RD.look (u := .ptr 0 0 1) rfl (op_fa Try.und24 rfl (sz_of Try.inf9) rfl rfl rfl) rfl rfl ?_
    refine RD.look (u := .str p1.Name) rfl (ld_one Try.und9 rfl rfl rfl rfl) rfl rfl ?_
    refine RD.look (u := .ptr 1 0 1) rfl (op_fa Try.und24 rfl (sz_of Try.inf9) rfl rfl rfl) rfl rfl ?_
    refine RD.look (u := .str p2.Name) rfl (ld_one Try.und9 rfl rfl rfl rfl) rfl rfl ?_
    refine RD.free (u := .int .i64 r9) (args := [.str p1.Name, .str p2.Name]) rfl (op_call rfl rfl Try.fn47 Try.hb47 rfl rfl) (fun s => cmp_Compare_string_ok n p1.Name p2.Name r9 h10 s) rfl rfl ?_
    refine RD.act (u := .sl 2 0 4 4) (σ' := ⟨[(2, .row [.int .i64 r3, .int .i64 r5, .int .i64 r7, .int .i64 r9] 3), (1, .row (xGDeriv p2) 24), (0, .row (xGDeriv p1) 24)], 3⟩) rfl (op_bsl Try.und88 Try.inf3 rfl rfl rfl rfl rfl rfl rfl) rfl rfl ?_
    refine RD.call (u := .int .i64 r11) (args := [.sl 2 0 4 4]) rfl (op_call rfl rfl Try.fn49 Try.hb49 rfl rfl) (EvU.view (cmp_Or_int_0 n ([r3, r5, r7, r9]) r11 h12) BUL.h (by simp only [toV, toVL, okL, okC, cond_true] <;> rfl) (fun m => by simp [ren, renL]) (Gh.trans (Gh.fz (tm' := [.isl true (List.map (cI .i64) ([r3, r5, r7, r9]))]) (h' := [(1, .row (xGDeriv p2) 24), (0, .row (xGDeriv p1) 24)]) 2 (.row [.int .i64 r3, .int .i64 r5, .int .i64 r7, .int .i64 r9] 3) 1 rfl (by simp) (by simp only [oneU, fzL_nil, fzL_cons, fz_int, fz_bool, fz_str, fz_nils, fz_nilp, fz_nilm, fz_nilf, fz_junk, fz_isl, fz_map, fz_agg, fz_tup, fz_fn, junkT, fz_sl, fz_p0, fz_xGDeriv, Nat.reduceLeDiff, Nat.reduceMul, List.length_cons, List.length_nil, Nat.reduceAdd] <;> simp only [chunks, List.take, List.drop, List.map, cI, cB, cS, cL]) (by simp only [fzH, fzB, Nat.beq, cond_true, cond_false, oneU, fzL_nil, fzL_cons, fz_int, fz_bool, fz_str, fz_nils, fz_nilp, fz_nilm, fz_nilf, fz_junk, fz_isl, fz_map, fz_agg, fz_tup, fz_fn, junkT, fz_sl, fz_p0, fz_xGDeriv, Nat.reduceLeDiff, Nat.reduceMul, List.length_cons, List.length_nil, Nat.reduceAdd])) (Gh.wk (tm' := [.isl false (List.map (cI .i64) ([r3, r5, r7, r9]))]) (.cons (.full _) .nil)))) rfl rfl ?_
    refine RD.look rfl (op_assign rfl) rfl rfl ?_
    refine RD.done ⟨by kernel_rfl, trivial, ?_⟩
    repeat refine gq ?_
    repeat refine WPU.seq ?_
    refine WPU.region Try.tb_ok ?_
    refine RS.op rfl (op_move rfl) rfl rfl ?_
    refine RS.op rfl (op_int rfl rfl (ix_neq _ _ _) rfl) rfl rfl ?_
    refine RS.done ?_
    repeat refine gq ?_
    repeat refine WPU.seq ?_
    refine WPU.condS (t := (r11 != 0)) rfl (fun h13 => ?_) (fun h13 => ?_)
    · skip
      replace hF := cond_t h13 hF
      repeat refine WPU.seq ?_
      refine WPU.region Try.tb_ok ?_
      refine RS.op rfl (op_move rfl) rfl rfl ?_
      refine RS.op rfl (op_assign rfl) rfl rfl ?_
      refine RS.done ?_
      repeat refine gq ?_
      repeat refine WPU.seq ?_
      refine WPU.ret ?_
      repeat refine gq ?_
      have hr := Option.some.inj hF
      subst hr
      exact ⟨.inr rfl, [.int .i64 r11], res_t rfl (res_n), .int .i64 r11, ⟨[], 0⟩, Nat.le_refl _, Gh.toR (.int .i64 r11) rfl, rfl, BU.h⟩
    · skip
      replace hF := cond_f h13 hF
      repeat refine WPU.seq ?_
      refine WPU.skip ?_
      repeat refine gq ?_
      repeat refine WPU.seq ?_
      obtain ⟨r14, h15, hF⟩ := bindO_some hF
      refine WPU.region Try.tb_ok ?_
      refine RS.op (u := .ptr 0 0 4) rfl (op_fa Try.und24 rfl (sz_of Try.inf22) rfl rfl rfl) rfl rfl ?_
      refine RS.op (u := .isl false (List.map cGDeriv p1.Kids)) rfl (ld_one Try.und22 rfl rfl rfl rfl) rfl rfl ?_
      refine RS.op (u := .ptr 1 0 4) rfl (op_fa Try.und24 rfl (sz_of Try.inf22) rfl rfl rfl) rfl rfl ?_
      refine RS.op (u := .isl false (List.map cGDeriv p2.Kids)) rfl (ld_one Try.und22 rfl rfl rfl rfl) rfl rfl ?_
      refine RS.call (u := .int .i64 r14) (args := [.isl false (List.map cGDeriv p1.Kids), .isl false (List.map cGDeriv p2.Kids), .fn (.func 33) [] []]) rfl (op_call rfl rfl Try.fn50 Try.hb50 rfl rfl) (slices_CompareFunc_Deriv_Compare_ok (deriv_Compare n) ih n p1.Kids p2.Kids r14 h15 _) rfl rfl ?_
      refine RS.op rfl (op_assign rfl) rfl rfl ?_
      refine RS.done ?_
      repeat refine gq ?_
      repeat refine WPU.seq ?_
      refine WPU.ret ?_
      repeat refine gq ?_
      have hr := Option.some.inj hF
      subst hr
      exact ⟨.inr rfl, [.int .i64 r14], res_t rfl (res_n), .int .i64 r14, ⟨[], 0⟩, Nat.le_refl _, Gh.toR (.int .i64 r14) rfl, rfl, BU.h⟩
theorem deriv_Compare_ok (n : Nat) (p1 : GDeriv) (p2 : GDeriv) (r : Int) (hF : deriv_Compare n p1 p2 = some r) (σ : Sg) : EvU Try.prog 33 [.agg (xGDeriv p1), .agg (xGDeriv p2)] σ (fun u σ' => u = .int .i64 r ∧ σ' = σ) :=
  EvU.pure1C (deriv_Compare_0 n p1 p2 r hF) σ
def slices_IndexFunc_Bracket_Match_1_K1   : Option (Int) :=
  some (-1)
def slices_IndexFunc_Bracket_Match_1_L1 (p1 : List GBracket) (c2 : GBracket) (f1 : GBracket → GBracket → Option (Bool)) : Nat → Int → Option (Int)
  | 0, _ => none
  | m1 + 1, z6 =>
    cond (decide (z6 < (p1.length : Int)))
      (bindO (idxO p1 z6) fun x8 =>
      bindO (f1 x8 c2) fun r10 =>
      cond r10
        (some z6)
        ((slices_IndexFunc_Bracket_Match_1_L1 p1 c2 f1 m1) (IntKind.i64.wrap (z6 + 1))))
      (slices_IndexFunc_Bracket_Match_1_K1)
def slices_IndexFunc_Bracket_Match_1 (f1 : GBracket → GBracket → Option (Bool)) (n : Nat) (p1 : List GBracket) (c2 : GBracket) : Option (Int) :=
  slices_IndexFunc_Bracket_Match_1_L1 p1 c2 f1 n 0
theorem slices_IndexFunc_Bracket_Match_1_0 (f1 : GBracket → GBracket → Option (Bool)) (hf1 : ∀ (a0 : GBracket) (a1 : GBracket) (r : Bool), f1 a0 a1 = some r → EvU Try.prog 35 [.agg (cGBracket a0), .iptr (cGBracket a1)] ⟨[], 0⟩ (fun u _ => u = .bool r ∧ Bel 0 u)) (n : Nat) (p1 : List GBracket) (c2 : GBracket) (r : Int) (hF : slices_IndexFunc_Bracket_Match_1 f1 n p1 c2 = some r) : EvU Try.prog 51 [.isl false (List.map cGBracket p1), .fn (.func 35) [] [.iptr (cGBracket c2)]] ⟨[], 0⟩ (fun u _ => u = .int .i64 r ∧ Bel 0 u) := by
  unfold slices_IndexFunc_Bracket_Match_1 at hF
  have hf1S : ∀ (a0 : GBracket) (a1 : GBracket) (r : Bool), f1 a0 a1 = some r → ∀ σ, EvU Try.prog 35 [.agg (cGBracket a0), .iptr (cGBracket a1)] σ (fun u σ' => u = .bool r ∧ σ' = σ) := fun a0 a1 r h σ => EvU.pure1C (hf1 a0 a1 r h) σ
  refine EvU.of_body Try.tb_ok Try.fn51 rfl ?_
  refine WPU.ghost (tm' := fr 19 [(0, .isl false (List.map cGBracket p1)), (1, .fn (.func 35) [] [.iptr (cGBracket c2)])]) (Gh.start (Nat.le_of_ble_eq_true rfl)) (Nat.zero_le _) ?_
  repeat refine WPU.seq ?_
  refine WPU.region Try.tb_ok ?_
  refine RS.op rfl (op_assign rfl) rfl rfl ?_
  refine RS.done ?_
  repeat refine gq ?_
  repeat refine WPU.seq ?_
  refine WPU.region Try.tb_ok ?_
  refine RS.op rfl (op_move rfl) rfl rfl ?_
  refine RS.op rfl (op_len rfl rfl rfl (len_isl cGBracket Try.und28)) rfl rfl ?_
  refine RS.op rfl (op_move rfl) rfl rfl ?_
  refine RS.done ?_
  repeat refine gq ?_
  repeat refine WPU.seq ?_
  refine WPU.ghost (tm' := fr 19 [(0, .isl false (List.map cGBracket p1)), (1, .fn (.func 35) [] [.iptr (cGBracket c2)]), (7, .int .i64 (p1.length : Int)), (8, .int .i64 0)]) (Gh.sub ⟨rfl, rfl, rfl, rfl, trivial⟩) (Nat.zero_le _) ?_
  refine WPU.loopK (fun m tm σ => ∃ z6 : Int, slices_IndexFunc_Bracket_Match_1_L1 p1 c2 f1 m z6 = some r ∧ tm = fr 19 [(0, .isl false (List.map cGBracket p1)), (1, .fn (.func 35) [] [.iptr (cGBracket c2)]), (7, .int .i64 (p1.length : Int)), (8, .int .i64 z6)] ∧ σ = ⟨[], 0⟩) (fun tm σ => slices_IndexFunc_Bracket_Match_1_K1 = some r ∧ tm = fr 19 [] ∧ σ = ⟨[], 0⟩) n ⟨0, hF, rfl, rfl⟩ ?_ ?_
  · skip
    rintro _ _ ⟨hF, rfl, rfl⟩
    unfold slices_IndexFunc_Bracket_Match_1_K1 at hF
    repeat refine gq ?_
    repeat refine WPU.seq ?_
    refine WPU.region Try.tb_ok ?_
    refine RS.op rfl (op_assign rfl) rfl rfl ?_
    refine RS.done ?_
    repeat refine gq ?_
    repeat refine WPU.seq ?_
    refine WPU.ret ?_
    repeat refine gq ?_
    have hr := Option.some.inj hF
    subst hr
    exact ⟨.inr rfl, [.int .i64 (-1)], res_t rfl (res_n), .int .i64 (-1), ⟨[], 0⟩, Nat.le_refl _, Gh.toR (.int .i64 (-1)) rfl, rfl, BU.h⟩
  · skip
    rintro m1 _ _ ⟨z6, hF, rfl, rfl⟩
    cases m1 with
    | zero => cases hF
    | succ m1 =>
      unfold slices_IndexFunc_Bracket_Match_1_L1 at hF
      repeat refine WPU.seq ?_
      refine WPU.region Try.tb_ok ?_
      refine RS.op rfl (op_int rfl rfl (ix_lss _ _ _) rfl) rfl rfl ?_
      refine RS.done ?_
      repeat refine gq ?_
      repeat refine WPU.seq ?_
      refine WPU.condS (t := (decide (z6 < (p1.length : Int)))) rfl (fun h7 => ?_) (fun h7 => ?_)
      · skip
        replace hF := cond_t h7 hF
        repeat refine WPU.seq ?_
        refine WPU.skip ?_
        repeat refine gq ?_
        repeat refine WPU.seq ?_
        refine WPU.block ?_
        repeat refine WPU.seq ?_
        refine WPU.region Try.tb_ok ?_
        refine RS.op rfl (op_move rfl) rfl rfl ?_
        refine RS.op rfl (op_assign rfl) rfl rfl ?_
        refine RS.done ?_
        repeat refine gq ?_
        repeat refine WPU.seq ?_
        obtain ⟨x8, h9, hF⟩ := bindO_some hF
        obtain ⟨r10, h11, hF⟩ := bindO_some hF
        refine WPU.region Try.tb_ok ?_
        repeat refine RS.op rfl (op_move rfl) rfl rfl ?_
        refine RS.op (u := .iptr (cGBracket x8)) rfl (op_ia rfl rfl (ia_isl cGBracket Try.und28 (sz_of Try.inf53) len_cGBracket h9 rfl)) rfl rfl ?_
        refine RS.op (u := .agg (cGBracket x8)) rfl (li_agg Try.und53 rfl (sz_of Try.inf53) rfl rfl) rfl rfl ?_
        refine RS.call (u := .bool r10) (args := [.agg (cGBracket x8), .iptr (cGBracket c2)]) rfl (op_call rfl rfl Try.fn35 Try.hb35 rfl rfl) (hf1S x8 c2 r10 h11 _) rfl rfl ?_
        refine RS.done ?_
        repeat refine gq ?_
        repeat refine WPU.seq ?_
        refine WPU.condS (t := r10) rfl (fun h12 => ?_) (fun h12 => ?_)
        · skip
          replace hF := cond_t h12 hF
          repeat refine WPU.seq ?_
          refine WPU.region Try.tb_ok ?_
          refine RS.op rfl (op_move rfl) rfl rfl ?_
          refine RS.op rfl (op_assign rfl) rfl rfl ?_
          refine RS.done ?_
          repeat refine gq ?_
          repeat refine WPU.seq ?_
          refine WPU.ret ?_
          repeat refine gq ?_
          have hr := Option.some.inj hF
          subst hr
          exact ⟨.inr rfl, [.int .i64 z6], res_t rfl (res_n), .int .i64 z6, ⟨[], 0⟩, Nat.le_refl _, Gh.toR (.int .i64 z6) rfl, rfl, BU.h⟩
        · skip
          replace hF := cond_f h12 hF
          repeat refine WPU.seq ?_
          refine WPU.skip ?_
          repeat refine gq ?_
          repeat refine WPU.seq ?_
          refine WPU.region Try.tb_ok ?_
          refine RS.op rfl (op_int rfl rfl (ix_add _ _ _) rfl) rfl rfl ?_
          refine RS.op rfl (op_move rfl) rfl rfl ?_
          refine RS.done ?_
          repeat refine gq ?_
          exact ⟨m1, _, _, Nat.lt_succ_self _, ⟨(IntKind.i64.wrap (z6 + 1)), hF, rfl, rfl⟩, (Nat.zero_le _), Gh.toC (n1 := 0) ⟨rfl, rfl, rfl, rfl, trivial⟩ rfl (Nat.zero_le _) (by simp)⟩
      · skip
        replace hF := cond_f h7 hF
        repeat refine WPU.seq ?_
        refine WPU.exit ?_
        repeat refine gq ?_
        exact ⟨_, _, ⟨hF, rfl, rfl⟩, (Nat.zero_le _), Gh.toC (n1 := 0) trivial rfl (Nat.zero_le _) (by simp)⟩
theorem slices_IndexFunc_Bracket_Match_1_ok (f1 : GBracket → GBracket → Option (Bool)) (hf1 : ∀ (a0 : GBracket) (a1 : GBracket) (r : Bool), f1 a0 a1 = some r → EvU Try.prog 35 [.agg (cGBracket a0), .iptr (cGBracket a1)] ⟨[], 0⟩ (fun u _ => u = .bool r ∧ Bel 0 u)) (n : Nat) (p1 : List GBracket) (c2 : GBracket) (r : Int) (hF : slices_IndexFunc_Bracket_Match_1 f1 n p1 c2 = some r) (σ : Sg) : EvU Try.prog 51 [.isl false (List.map cGBracket p1), .fn (.func 35) [] [.iptr (cGBracket c2)]] σ (fun u σ' => u = .int .i64 r ∧ σ' = σ) :=
  EvU.pure1C (slices_IndexFunc_Bracket_Match_1_0 f1 hf1 n p1 c2 r hF) σ
def slices_ContainsFunc_Bracket_Match_1 (f1 : GBracket → GBracket → Option (Bool)) (n : Nat) (p1 : List GBracket) (c2 : GBracket) : Option (Bool) :=
  bindO (slices_IndexFunc_Bracket_Match_1 f1 n p1 c2) fun r3 =>
  some (decide (r3 ≥ 0))
theorem slices_ContainsFunc_Bracket_Match_1_0 (f1 : GBracket → GBracket → Option (Bool)) (hf1 : ∀ (a0 : GBracket) (a1 : GBracket) (r : Bool), f1 a0 a1 = some r → EvU Try.prog 35 [.agg (cGBracket a0), .iptr (cGBracket a1)] ⟨[], 0⟩ (fun u _ => u = .bool r ∧ Bel 0 u)) (n : Nat) (p1 : List GBracket) (c2 : GBracket) (r : Bool) (hF : slices_ContainsFunc_Bracket_Match_1 f1 n p1 c2 = some r) : EvU Try.prog 34 [.isl false (List.map cGBracket p1), .fn (.func 35) [] [.iptr (cGBracket c2)]] ⟨[], 0⟩ (fun u _ => u = .bool r ∧ Bel 0 u) := by
  unfold slices_ContainsFunc_Bracket_Match_1 at hF
  have hf1S : ∀ (a0 : GBracket) (a1 : GBracket) (r : Bool), f1 a0 a1 = some r → ∀ σ, EvU Try.prog 35 [.agg (cGBracket a0), .iptr (cGBracket a1)] σ (fun u σ' => u = .bool r ∧ σ' = σ) := fun a0 a1 r h σ => EvU.pure1C (hf1 a0 a1 r h) σ
  refine EvU.of_body Try.tb_ok Try.fn34 rfl ?_
  refine WPU.ghost (tm' := fr 9 [(0, .isl false (List.map cGBracket p1)), (1, .fn (.func 35) [] [.iptr (cGBracket c2)])]) (Gh.start (Nat.le_of_ble_eq_true rfl)) (Nat.zero_le _) ?_
  repeat refine WPU.seq ?_
  refine WPU.region Try.tb_ok ?_
  refine RS.op rfl (op_assign rfl) rfl rfl ?_
  refine RS.done ?_
  repeat refine gq ?_
  repeat refine WPU.seq ?_
  obtain ⟨r3, h4, hF⟩ := bindO_some hF
  refine WPU.region Try.tb_ok ?_
  repeat refine RS.op rfl (op_move rfl) rfl rfl ?_
  refine RS.call (u := .int .i64 r3) (args := [.isl false (List.map cGBracket p1), .fn (.func 35) [] [.iptr (cGBracket c2)]]) rfl (op_call rfl rfl Try.fn51 Try.hb51 rfl rfl) (slices_IndexFunc_Bracket_Match_1_ok f1 hf1 n p1 c2 r3 h4 _) rfl rfl ?_
  refine RS.op rfl (op_int rfl rfl (ix_geq _ _ _) rfl) rfl rfl ?_
  refine RS.op rfl (op_assign rfl) rfl rfl ?_
  refine RS.done ?_
  repeat refine gq ?_
  repeat refine WPU.seq ?_
  refine WPU.ret ?_
  repeat refine gq ?_
  have hr := Option.some.inj hF
  subst hr
  exact ⟨.inr rfl, [.bool (decide (r3 ≥ 0))], res_t rfl (res_n), .bool (decide (r3 ≥ 0)), ⟨[], 0⟩, Nat.le_refl _, Gh.toR (.bool (decide (r3 ≥ 0))) rfl, rfl, BU.h⟩
def evaluate_cross (n : Nat) (p1 : GBracket) (p2 : GBracket) : Option (Bool) :=
  bindO (cond (decide (p1.From < p2.From))
    (cond (decide (p2.From < p1.To))
      (cond (decide (p1.To < p2.To))
        (some true)
        (cond (decide (p2.From < p1.From))
          (cond (decide (p1.From < p2.To))
            (some (decide (p2.To < p1.To)))
            (some false))
          (some false)))
      (cond (decide (p2.From < p1.From))
        (cond (decide (p1.From < p2.To))
          (some (decide (p2.To < p1.To)))
          (some false))
        (some false)))
    (cond (decide (p2.From < p1.From))
      (cond (decide (p1.From < p2.To))
        (some (decide (p2.To < p1.To)))
        (some false))
      (some false))) fun b12 =>
  some b12
theorem evaluate_cross_0 (n : Nat) (p1 : GBracket) (p2 : GBracket) (r : Bool) (hF : evaluate_cross n p1 p2 = some r) : EvU Try.prog 36 [.agg (cGBracket p1), .agg (cGBracket p2)] ⟨[], 0⟩ (fun u _ => u = .bool r ∧ Bel 0 u) := by
  unfold evaluate_cross at hF
  refine EvU.of_body Try.tb_ok Try.fn36 rfl ?_
  refine WPU.ghost (tm' := fr 45 [(0, .agg (cGBracket p1)), (1, .agg (cGBracket p2))]) (Gh.start (Nat.le_of_ble_eq_true rfl)) (Nat.zero_le _) ?_
  repeat refine WPU.seq ?_
  refine WPU.region Try.tb_ok ?_
  refine RS.op (u := .ptr 0 0 0) (σ' := ⟨[(0, .row (cGBracket p1) 53)], 1⟩) rfl (op_box rfl rfl rfl) rfl rfl ?_
  refine RS.op (u := .ptr 1 0 0) (σ' := ⟨[(1, .row (cGBracket p2) 53), (0, .row (cGBracket p1) 53)], 2⟩) rfl (op_box rfl rfl rfl) rfl rfl ?_
  refine RS.op rfl (op_assign rfl) rfl rfl ?_
  refine RS.done ?_
  repeat refine gq ?_
  repeat refine WPU.seq ?_
  obtain ⟨b12, h13, hF⟩ := bindO_some hF
  refine WPU.joinK (fun tm σ => tm = fr 45 [(4, .bool b12)] ∧ σ = ⟨[(1, .row (cGBracket p2) 53), (0, .row (cGBracket p1) 53)], 2⟩) ?_ ?_
  · skip
    rintro _ _ ⟨rfl, rfl⟩
    repeat refine gq ?_
    repeat refine WPU.seq ?_
    refine WPU.ret ?_
    repeat refine gq ?_
    have hr := Option.some.inj hF
    subst hr
    exact ⟨.inr rfl, [.bool b12], res_t rfl (res_n), .bool b12, ⟨[], 0⟩, Nat.le_refl _, Gh.toR (.bool b12) rfl, rfl, BU.h⟩
  · skip
    rcases bool_tf (decide (p1.From < p2.From)) with h3 | h3
    · skip
      replace h13 := cond_t h3 h13
      rcases bool_tf (decide (p2.From < p1.To)) with h4 | h4
      · skip
        replace h13 := cond_t h4 h13
        rcases bool_tf (decide (p1.To < p2.To)) with h5 | h5
        · skip
          replace h13 := cond_t h5 h13
          replace h13 := Option.some.inj h13
          subst h13
          refine WPU.region Try.tb_ok ?_
          refine RS.op (u := .ptr 0 0 1) rfl (op_fa Try.und53 rfl (sz_of Try.inf3) rfl rfl rfl) rfl rfl ?_
          refine RS.op (u := .int .i64 p1.From) rfl (ld_one Try.und3 rfl rfl rfl rfl) rfl rfl ?_
          refine RS.op (u := .ptr 1 0 1) rfl (op_fa Try.und53 rfl (sz_of Try.inf3) rfl rfl rfl) rfl rfl ?_
          refine RS.op (u := .int .i64 p2.From) rfl (ld_one Try.und3 rfl rfl rfl rfl) rfl rfl ?_
          refine RS.op rfl (op_int rfl rfl (ix_lss _ _ _) rfl) rfl rfl ?_
          refine RS.op rfl (op_move rfl) rfl rfl ?_
          refine RS.op (u := .ptr 1 0 1) (want1 rfl rfl rfl h3) (op_fa Try.und53 rfl (sz_of Try.inf3) rfl rfl rfl) rfl rfl ?_
          refine RS.op (u := .int .i64 p2.From) (want1 rfl rfl rfl h3) (ld_one Try.und3 rfl rfl rfl rfl) rfl rfl ?_
          refine RS.op (u := .ptr 0 0 2) (want1 rfl rfl rfl h3) (op_fa Try.und53 rfl (sz_of Try.inf3) rfl rfl rfl) rfl rfl ?_
          refine RS.op (u := .int .i64 p1.To) (want1 rfl rfl rfl h3) (ld_one Try.und3 rfl rfl rfl rfl) rfl rfl ?_
          refine RS.op (want1 rfl rfl rfl h3) (op_int rfl rfl (ix_lss _ _ _) rfl) rfl rfl ?_
          refine RS.op (u := .bool (decide (p2.From < p1.To))) rfl (op_pick1 rfl h3 rfl) rfl rfl ?_
          refine RS.op rfl (op_move rfl) rfl rfl ?_
          refine RS.op (u := .ptr 0 0 2) (want1 rfl rfl rfl h4) (op_fa Try.und53 rfl (sz_of Try.inf3) rfl rfl rfl) rfl rfl ?_
          refine RS.op (u := .int .i64 p1.To) (want1 rfl rfl rfl h4) (ld_one Try.und3 rfl rfl rfl rfl) rfl rfl ?_
          refine RS.op (u := .ptr 1 0 2) (want1 rfl rfl rfl h4) (op_fa Try.und53 rfl (sz_of Try.inf3) rfl rfl rfl) rfl rfl ?_
          refine RS.op (u := .int .i64 p2.To) (want1 rfl rfl rfl h4) (ld_one Try.und3 rfl rfl rfl rfl) rfl rfl ?_
          refine RS.op (want1 rfl rfl rfl h4) (op_int rfl rfl (ix_lss _ _ _) rfl) rfl rfl ?_
          refine RS.op (u := .bool (decide (p1.To < p2.To))) rfl (op_pick1 rfl h4 rfl) rfl rfl ?_
          refine RS.op rfl (op_move rfl) rfl rfl ?_
          repeat refine RS.no (want0 rfl rfl rfl h5) rfl rfl ?_
          repeat refine RS.no (wantT rfl rfl rfl) rfl rfl ?_
          repeat refine RS.no (want0 rfl rfl rfl h5) rfl rfl ?_
          repeat refine RS.no (wantT rfl rfl rfl) rfl rfl ?_
          refine RS.no (want0 rfl rfl rfl h5) rfl rfl ?_
          refine RS.op (u := .bool true) rfl (op_pick1 rfl h5 rfl) rfl rfl ?_
          refine RS.op rfl (op_assign rfl) rfl rfl ?_
          refine RS.done ?_
          repeat refine gq ?_
          exact ⟨_, _, ⟨rfl, rfl⟩, (Nat.zero_le _), Gh.toC (n1 := 2) ⟨rfl, trivial⟩ rfl (Nat.zero_le _) (by simp)⟩
        · skip
          replace h13 := cond_f h5 h13
          rcases bool_tf (decide (p2.From < p1.From)) with h6 | h6
          · skip
            replace h13 := cond_t h6 h13
            rcases bool_tf (decide (p1.From < p2.To)) with h7 | h7
            · skip
              replace h13 := cond_t h7 h13
              replace h13 := Option.some.inj h13
              subst h13
              refine WPU.region Try.tb_ok ?_
              refine RS.op (u := .ptr 0 0 1) rfl (op_fa Try.und53 rfl (sz_of Try.inf3) rfl rfl rfl) rfl rfl ?_
              refine RS.op (u := .int .i64 p1.From) rfl (ld_one Try.und3 rfl rfl rfl rfl) rfl rfl ?_
              refine RS.op (u := .ptr 1 0 1) rfl (op_fa Try.und53 rfl (sz_of Try.inf3) rfl rfl rfl) rfl rfl ?_
              refine RS.op (u := .int .i64 p2.From) rfl (ld_one Try.und3 rfl rfl rfl rfl) rfl rfl ?_
              refine RS.op rfl (op_int rfl rfl (ix_lss _ _ _) rfl) rfl rfl ?_
              refine RS.op rfl (op_move rfl) rfl rfl ?_
              refine RS.op (u := .ptr 1 0 1) (want1 rfl rfl rfl h3) (op_fa Try.und53 rfl (sz_of Try.inf3) rfl rfl rfl) rfl rfl ?_
              refine RS.op (u := .int .i64 p2.From) (want1 rfl rfl rfl h3) (ld_one Try.und3 rfl rfl rfl rfl) rfl rfl ?_
              refine RS.op (u := .ptr 0 0 2) (want1 rfl rfl rfl h3) (op_fa Try.und53 rfl (sz_of Try.inf3) rfl rfl rfl) rfl rfl ?_
              refine RS.op (u := .int .i64 p1.To) (want1 rfl rfl rfl h3) (ld_one Try.und3 rfl rfl rfl rfl) rfl rfl ?_
              refine RS.op (want1 rfl rfl rfl h3) (op_int rfl rfl (ix_lss _ _ _) rfl) rfl rfl ?_
              refine RS.op (u := .bool (decide (p2.From < p1.To))) rfl (op_pick1 rfl h3 rfl) rfl rfl ?_
              refine RS.op rfl (op_move rfl) rfl rfl ?_
              refine RS.op (u := .ptr 0 0 2) (want1 rfl rfl rfl h4) (op_fa Try.und53 rfl (sz_of Try.inf3) rfl rfl rfl) rfl rfl ?_
              refine RS.op (u := .int .i64 p1.To) (want1 rfl rfl rfl h4) (ld_one Try.und3 rfl rfl rfl rfl) rfl rfl ?_
              refine RS.op (u := .ptr 1 0 2) (want1 rfl rfl rfl h4) (op_fa Try.und53 rfl (sz_of Try.inf3) rfl rfl rfl) rfl rfl ?_
              refine RS.op (u := .int .i64 p2.To) (want1 rfl rfl rfl h4) (ld_one Try.und3 rfl rfl rfl rfl) rfl rfl ?_
              refine RS.op (want1 rfl rfl rfl h4) (op_int rfl rfl (ix_lss _ _ _) rfl) rfl rfl ?_
              refine RS.op (u := .bool (decide (p1.To < p2.To))) rfl (op_pick1 rfl h4 rfl) rfl rfl ?_
              refine RS.op rfl (op_move rfl) rfl rfl ?_
              refine RS.op (u := .ptr 1 0 1) (want1 rfl rfl rfl h5) (op_fa Try.und53 rfl (sz_of Try.inf3) rfl rfl rfl) rfl rfl ?_
              refine RS.op (u := .int .i64 p2.From) (want1 rfl rfl rfl h5) (ld_one Try.und3 rfl rfl rfl rfl) rfl rfl ?_
              refine RS.op (u := .ptr 0 0 1) (want1 rfl rfl rfl h5) (op_fa Try.und53 rfl (sz_of Try.inf3) rfl rfl rfl) rfl rfl ?_
              refine RS.op (u := .int .i64 p1.From) (want1 rfl rfl rfl h5) (ld_one Try.und3 rfl rfl rfl rfl) rfl rfl ?_
              refine RS.op (want1 rfl rfl rfl h5) (op_int rfl rfl (ix_lss _ _ _) rfl) rfl rfl ?_
              refine RS.op (want1 rfl rfl rfl h5) (op_move rfl) rfl rfl ?_
              refine RS.op (u := .ptr 0 0 1) (want1 rfl rfl rfl h6) (op_fa Try.und53 rfl (sz_of Try.inf3) rfl rfl rfl) rfl rfl ?_
              refine RS.op (u := .int .i64 p1.From) (want1 rfl rfl rfl h6) (ld_one Try.und3 rfl rfl rfl rfl) rfl rfl ?_
              refine RS.op (u := .ptr 1 0 2) (want1 rfl rfl rfl h6) (op_fa Try.und53 rfl (sz_of Try.inf3) rfl rfl rfl) rfl rfl ?_
              refine RS.op (u := .int .i64 p2.To) (want1 rfl rfl rfl h6) (ld_one Try.und3 rfl rfl rfl rfl) rfl rfl ?_
              refine RS.op (want1 rfl rfl rfl h6) (op_int rfl rfl (ix_lss _ _ _) rfl) rfl rfl ?_
              refine RS.op (u := .bool (decide (p1.From < p2.To))) (want1 rfl rfl rfl h5) (op_pick1 rfl h6 rfl) rfl rfl ?_
              refine RS.op (want1 rfl rfl rfl h5) (op_move rfl) rfl rfl ?_
              refine RS.op (u := .ptr 1 0 2) (want1 rfl rfl rfl h7) (op_fa Try.und53 rfl (sz_of Try.inf3) rfl rfl rfl) rfl rfl ?_
              refine RS.op (u := .int .i64 p2.To) (want1 rfl rfl rfl h7) (ld_one Try.und3 rfl rfl rfl rfl) rfl rfl ?_
              refine RS.op (u := .ptr 0 0 2) (want1 rfl rfl rfl h7) (op_fa Try.und53 rfl (sz_of Try.inf3) rfl rfl rfl) rfl rfl ?_
              refine RS.op (u := .int .i64 p1.To) (want1 rfl rfl rfl h7) (ld_one Try.und3 rfl rfl rfl rfl) rfl rfl ?_
              refine RS.op (want1 rfl rfl rfl h7) (op_int rfl rfl (ix_lss _ _ _) rfl) rfl rfl ?_
              refine RS.op (u := .bool (decide (p2.To < p1.To))) (want1 rfl rfl rfl h5) (op_pick1 rfl h7 rfl) rfl rfl ?_
              refine RS.op (u := .bool (decide (p2.To < p1.To))) rfl (op_pick0 rfl h5 rfl) rfl rfl ?_
              refine RS.op rfl (op_assign rfl) rfl rfl ?_
              refine RS.done ?_
              repeat refine gq ?_
              exact ⟨_, _, ⟨rfl, rfl⟩, (Nat.zero_le _), Gh.toC (n1 := 2) ⟨rfl, trivial⟩ rfl (Nat.zero_le _) (by simp)⟩
            · skip
              replace h13 := cond_f h7 h13
              replace h13 := Option.some.inj h13
              subst h13
              refine WPU.region Try.tb_ok ?_
              refine RS.op (u := .ptr 0 0 1) rfl (op_fa Try.und53 rfl (sz_of Try.inf3) rfl rfl rfl) rfl rfl ?_
              refine RS.op (u := .int .i64 p1.From) rfl (ld_one Try.und3 rfl rfl rfl rfl) rfl rfl ?_
              refine RS.op (u := .ptr 1 0 1) rfl (op_fa Try.und53 rfl (sz_of Try.inf3) rfl rfl rfl) rfl rfl ?_
              refine RS.op (u := .int .i64 p2.From) rfl (ld_one Try.und3 rfl rfl rfl rfl) rfl rfl ?_
              refine RS.op rfl (op_int rfl rfl (ix_lss _ _ _) rfl) rfl rfl ?_
              refine RS.op rfl (op_move rfl) rfl rfl ?_
              refine RS.op (u := .ptr 1 0 1) (want1 rfl rfl rfl h3) (op_fa Try.und53 rfl (sz_of Try.inf3) rfl rfl rfl) rfl rfl ?_
              refine RS.op (u := .int .i64 p2.From) (want1 rfl rfl rfl h3) (ld_one Try.und3 rfl rfl rfl rfl) rfl rfl ?_
              refine RS.op (u := .ptr 0 0 2) (want1 rfl rfl rfl h3) (op_fa Try.und53 rfl (sz_of Try.inf3) rfl rfl rfl) rfl rfl ?_
              refine RS.op (u := .int .i64 p1.To) (want1 rfl rfl rfl h3) (ld_one Try.und3 rfl rfl rfl rfl) rfl rfl ?_
              refine RS.op (want1 rfl rfl rfl h3) (op_int rfl rfl (ix_lss _ _ _) rfl) rfl rfl ?_
              refine RS.op (u := .bool (decide (p2.From < p1.To))) rfl (op_pick1 rfl h3 rfl) rfl rfl ?_
              refine RS.op rfl (op_move rfl) rfl rfl ?_
              refine RS.op (u := .ptr 0 0 2) (want1 rfl rfl rfl h4) (op_fa Try.und53 rfl (sz_of Try.inf3) rfl rfl rfl) rfl rfl ?_
              refine RS.op (u := .int .i64 p1.To) (want1 rfl rfl rfl h4) (ld_one Try.und3 rfl rfl rfl rfl) rfl rfl ?_
              refine RS.op (u := .ptr 1 0 2) (want1 rfl rfl rfl h4) (op_fa Try.und53 rfl (sz_of Try.inf3) rfl rfl rfl) rfl rfl ?_
              refine RS.op (u := .int .i64 p2.To) (want1 rfl rfl rfl h4) (ld_one Try.und3 rfl rfl rfl rfl) rfl rfl ?_
              refine RS.op (want1 rfl rfl rfl h4) (op_int rfl rfl (ix_lss _ _ _) rfl) rfl rfl ?_
              refine RS.op (u := .bool (decide (p1.To < p2.To))) rfl (op_pick1 rfl h4 rfl) rfl rfl ?_
              refine RS.op rfl (op_move rfl) rfl rfl ?_
              refine RS.op (u := .ptr 1 0 1) (want1 rfl rfl rfl h5) (op_fa Try.und53 rfl (sz_of Try.inf3) rfl rfl rfl) rfl rfl ?_
              refine RS.op (u := .int .i64 p2.From) (want1 rfl rfl rfl h5) (ld_one Try.und3 rfl rfl rfl rfl) rfl rfl ?_
              refine RS.op (u := .ptr 0 0 1) (want1 rfl rfl rfl h5) (op_fa Try.und53 rfl (sz_of Try.inf3) rfl rfl rfl) rfl rfl ?_
              refine RS.op (u := .int .i64 p1.From) (want1 rfl rfl rfl h5) (ld_one Try.und3 rfl rfl rfl rfl) rfl rfl ?_
              refine RS.op (want1 rfl rfl rfl h5) (op_int rfl rfl (ix_lss _ _ _) rfl) rfl rfl ?_
              refine RS.op (want1 rfl rfl rfl h5) (op_move rfl) rfl rfl ?_
              refine RS.op (u := .ptr 0 0 1) (want1 rfl rfl rfl h6) (op_fa Try.und53 rfl (sz_of Try.inf3) rfl rfl rfl) rfl rfl ?_
              refine RS.op (u := .int .i64 p1.From) (want1 rfl rfl rfl h6) (ld_one Try.und3 rfl rfl rfl rfl) rfl rfl ?_
              refine RS.op (u := .ptr 1 0 2) (want1 rfl rfl rfl h6) (op_fa Try.und53 rfl (sz_of Try.inf3) rfl rfl rfl) rfl rfl ?_
              refine RS.op (u := .int .i64 p2.To) (want1 rfl rfl rfl h6) (ld_one Try.und3 rfl rfl rfl rfl) rfl rfl ?_
              refine RS.op (want1 rfl rfl rfl h6) (op_int rfl rfl (ix_lss _ _ _) rfl) rfl rfl ?_
              refine RS.op (u := .bool (decide (p1.From < p2.To))) (want1 rfl rfl rfl h5) (op_pick1 rfl h6 rfl) rfl rfl ?_
              refine RS.op (want1 rfl rfl rfl h5) (op_move rfl) rfl rfl ?_
              repeat refine RS.no (want0 rfl rfl rfl h7) rfl rfl ?_
              refine RS.op (u := .bool false) (want1 rfl rfl rfl h5) (op_pick0 rfl h7 rfl) rfl rfl ?_
              refine RS.op (u := .bool false) rfl (op_pick0 rfl h5 rfl) rfl rfl ?_
              refine RS.op rfl (op_assign rfl) rfl rfl ?_
              refine RS.done ?_
              repeat refine gq ?_
              exact ⟨_, _, ⟨rfl, rfl⟩, (Nat.zero_le _), Gh.toC (n1 := 2) ⟨rfl, trivial⟩ rfl (Nat.zero_le _) (by simp)⟩
          · skip
            replace h13 := cond_f h6 h13
            replace h13 := Option.some.inj h13
            subst h13
            refine WPU.region Try.tb_ok ?_
            refine RS.op (u := .ptr 0 0 1) rfl (op_fa Try.und53 rfl (sz_of Try.inf3) rfl rfl rfl) rfl rfl ?_
            refine RS.op (u := .int .i64 p1.From) rfl (ld_one Try.und3 rfl rfl rfl rfl) rfl rfl ?_
            refine RS.op (u := .ptr 1 0 1) rfl (op_fa Try.und53 rfl (sz_of Try.inf3) rfl rfl rfl) rfl rfl ?_
            refine RS.op (u := .int .i64 p2.From) rfl (ld_one Try.und3 rfl rfl rfl rfl) rfl rfl ?_
            refine RS.op rfl (op_int rfl rfl (ix_lss _ _ _) rfl) rfl rfl ?_
            refine RS.op rfl (op_move rfl) rfl rfl ?_
            refine RS.op (u := .ptr 1 0 1) (want1 rfl rfl rfl h3) (op_fa Try.und53 rfl (sz_of Try.inf3) rfl rfl rfl) rfl rfl ?_
            refine RS.op (u := .int .i64 p2.From) (want1 rfl rfl rfl h3) (ld_one Try.und3 rfl rfl rfl rfl) rfl rfl ?_
            refine RS.op (u := .ptr 0 0 2) (want1 rfl rfl rfl h3) (op_fa Try.und53 rfl (sz_of Try.inf3) rfl rfl rfl) rfl rfl ?_
            refine RS.op (u := .int .i64 p1.To) (want1 rfl rfl rfl h3) (ld_one Try.und3 rfl rfl rfl rfl) rfl rfl ?_
            refine RS.op (want1 rfl rfl rfl h3) (op_int rfl rfl (ix_lss _ _ _) rfl) rfl rfl ?_
            refine RS.op (u := .bool (decide (p2.From < p1.To))) rfl (op_pick1 rfl h3 rfl) rfl rfl ?_
            refine RS.op rfl (op_move rfl) rfl rfl ?_
            refine RS.op (u := .ptr 0 0 2) (want1 rfl rfl rfl h4) (op_fa Try.und53 rfl (sz_of Try.inf3) rfl rfl rfl) rfl rfl ?_
            refine RS.op (u := .int .i64 p1.To) (want1 rfl rfl rfl h4) (ld_one Try.und3 rfl rfl rfl rfl) rfl rfl ?_
            refine RS.op (u := .ptr 1 0 2) (want1 rfl rfl rfl h4) (op_fa Try.und53 rfl (sz_of Try.inf3) rfl rfl rfl) rfl rfl ?_
            refine RS.op (u := .int .i64 p2.To) (want1 rfl rfl rfl h4) (ld_one Try.und3 rfl rfl rfl rfl) rfl rfl ?_
            refine RS.op (want1 rfl rfl rfl h4) (op_int rfl rfl (ix_lss _ _ _) rfl) rfl rfl ?_
            refine RS.op (u := .bool (decide (p1.To < p2.To))) rfl (op_pick1 rfl h4 rfl) rfl rfl ?_
            refine RS.op rfl (op_move rfl) rfl rfl ?_
            refine RS.op (u := .ptr 1 0 1) (want1 rfl rfl rfl h5) (op_fa Try.und53 rfl (sz_of Try.inf3) rfl rfl rfl) rfl rfl ?_
            refine RS.op (u := .int .i64 p2.From) (want1 rfl rfl rfl h5) (ld_one Try.und3 rfl rfl rfl rfl) rfl rfl ?_
            refine RS.op (u := .ptr 0 0 1) (want1 rfl rfl rfl h5) (op_fa Try.und53 rfl (sz_of Try.inf3) rfl rfl rfl) rfl rfl ?_
            refine RS.op (u := .int .i64 p1.From) (want1 rfl rfl rfl h5) (ld_one Try.und3 rfl rfl rfl rfl) rfl rfl ?_
            refine RS.op (want1 rfl rfl rfl h5) (op_int rfl rfl (ix_lss _ _ _) rfl) rfl rfl ?_
            refine RS.op (want1 rfl rfl rfl h5) (op_move rfl) rfl rfl ?_
            repeat refine RS.no (want0 rfl rfl rfl h6) rfl rfl ?_
            refine RS.op (u := .bool false) (want1 rfl rfl rfl h5) (op_pick0 rfl h6 rfl) rfl rfl ?_
            refine RS.op (want1 rfl rfl rfl h5) (op_move rfl) rfl rfl ?_
            repeat refine RS.no (want0 rfl rfl rfl rfl) rfl rfl ?_
            refine RS.op (u := .bool false) (want1 rfl rfl rfl h5) (op_pick0 rfl rfl rfl) rfl rfl ?_
            refine RS.op (u := .bool false) rfl (op_pick0 rfl h5 rfl) rfl rfl ?_
            refine RS.op rfl (op_assign rfl) rfl rfl ?_
            refine RS.done ?_
            repeat refine gq ?_
            exact ⟨_, _, ⟨rfl, rfl⟩, (Nat.zero_le _), Gh.toC (n1 := 2) ⟨rfl, trivial⟩ rfl (Nat.zero_le _) (by simp)⟩
      · skip
        replace h13 := cond_f h4 h13
        rcases bool_tf (decide (p2.From < p1.From)) with h8 | h8
        · skip
          replace h13 := cond_t h8 h13
          rcases bool_tf (decide (p1.From < p2.To)) with h9 | h9
          · skip
            replace h13 := cond_t h9 h13
            replace h13 := Option.some.inj h13
            subst h13
            refine WPU.region Try.tb_ok ?_
            refine RS.op (u := .ptr 0 0 1) rfl (op_fa Try.und53 rfl (sz_of Try.inf3) rfl rfl rfl) rfl rfl ?_
            refine RS.op (u := .int .i64 p1.From) rfl (ld_one Try.und3 rfl rfl rfl rfl) rfl rfl ?_
            refine RS.op (u := .ptr 1 0 1) rfl (op_fa Try.und53 rfl (sz_of Try.inf3) rfl rfl rfl) rfl rfl ?_
            refine RS.op (u := .int .i64 p2.From) rfl (ld_one Try.und3 rfl rfl rfl rfl) rfl rfl ?_
            refine RS.op rfl (op_int rfl rfl (ix_lss _ _ _) rfl) rfl rfl ?_
            refine RS.op rfl (op_move rfl) rfl rfl ?_
            refine RS.op (u := .ptr 1 0 1) (want1 rfl rfl rfl h3) (op_fa Try.und53 rfl (sz_of Try.inf3) rfl rfl rfl) rfl rfl ?_
            refine RS.op (u := .int .i64 p2.From) (want1 rfl rfl rfl h3) (ld_one Try.und3 rfl rfl rfl rfl) rfl rfl ?_
            refine RS.op (u := .ptr 0 0 2) (want1 rfl rfl rfl h3) (op_fa Try.und53 rfl (sz_of Try.inf3) rfl rfl rfl) rfl rfl ?_
            refine RS.op (u := .int .i64 p1.To) (want1 rfl rfl rfl h3) (ld_one Try.und3 rfl rfl rfl rfl) rfl rfl ?_
            refine RS.op (want1 rfl rfl rfl h3) (op_int rfl rfl (ix_lss _ _ _) rfl) rfl rfl ?_
            refine RS.op (u := .bool (decide (p2.From < p1.To))) rfl (op_pick1 rfl h3 rfl) rfl rfl ?_
            refine RS.op rfl (op_move rfl) rfl rfl ?_
            repeat refine RS.no (want0 rfl rfl rfl h4) rfl rfl ?_
            refine RS.op (u := .bool false) rfl (op_pick0 rfl h4 rfl) rfl rfl ?_
            refine RS.op rfl (op_move rfl) rfl rfl ?_
            refine RS.op (u := .ptr 1 0 1) (want1 rfl rfl rfl rfl) (op_fa Try.und53 rfl (sz_of Try.inf3) rfl rfl rfl) rfl rfl ?_
            refine RS.op (u := .int .i64 p2.From) (want1 rfl rfl rfl rfl) (ld_one Try.und3 rfl rfl rfl rfl) rfl rfl ?_
            refine RS.op (u := .ptr 0 0 1) (want1 rfl rfl rfl rfl) (op_fa Try.und53 rfl (sz_of Try.inf3) rfl rfl rfl) rfl rfl ?_
            refine RS.op (u := .int .i64 p1.From) (want1 rfl rfl rfl rfl) (ld_one Try.und3 rfl rfl rfl rfl) rfl rfl ?_
            refine RS.op (want1 rfl rfl rfl rfl) (op_int rfl rfl (ix_lss _ _ _) rfl) rfl rfl ?_
            refine RS.op (want1 rfl rfl rfl rfl) (op_move rfl) rfl rfl ?_
            refine RS.op (u := .ptr 0 0 1) (want1 rfl rfl rfl h8) (op_fa Try.und53 rfl (sz_of Try.inf3) rfl rfl rfl) rfl rfl ?_
            refine RS.op (u := .int .i64 p1.From) (want1 rfl rfl rfl h8) (ld_one Try.und3 rfl rfl rfl rfl) rfl rfl ?_
            refine RS.op (u := .ptr 1 0 2) (want1 rfl rfl rfl h8) (op_fa Try.und53 rfl (sz_of Try.inf3) rfl rfl rfl) rfl rfl ?_
            refine RS.op (u := .int .i64 p2.To) (want1 rfl rfl rfl h8) (ld_one Try.und3 rfl rfl rfl rfl) rfl rfl ?_
            refine RS.op (want1 rfl rfl rfl h8) (op_int rfl rfl (ix_lss _ _ _) rfl) rfl rfl ?_
            refine RS.op (u := .bool (decide (p1.From < p2.To))) (want1 rfl rfl rfl rfl) (op_pick1 rfl h8 rfl) rfl rfl ?_
            refine RS.op (want1 rfl rfl rfl rfl) (op_move rfl) rfl rfl ?_
            refine RS.op (u := .ptr 1 0 2) (want1 rfl rfl rfl h9) (op_fa Try.und53 rfl (sz_of Try.inf3) rfl rfl rfl) rfl rfl ?_
            refine RS.op (u := .int .i64 p2.To) (want1 rfl rfl rfl h9) (ld_one Try.und3 rfl rfl rfl rfl) rfl rfl ?_
            refine RS.op (u := .ptr 0 0 2) (want1 rfl rfl rfl h9) (op_fa Try.und53 rfl (sz_of Try.inf3) rfl rfl rfl) rfl rfl ?_
            refine RS.op (u := .int .i64 p1.To) (want1 rfl rfl rfl h9) (ld_one Try.und3 rfl rfl rfl rfl) rfl rfl ?_
            refine RS.op (want1 rfl rfl rfl h9) (op_int rfl rfl (ix_lss _ _ _) rfl) rfl rfl ?_
            refine RS.op (u := .bool (decide (p2.To < p1.To))) (want1 rfl rfl rfl rfl) (op_pick1 rfl h9 rfl) rfl rfl ?_
            refine RS.op (u := .bool (decide (p2.To < p1.To))) rfl (op_pick0 rfl rfl rfl) rfl rfl ?_
            refine RS.op rfl (op_assign rfl) rfl rfl ?_
            refine RS.done ?_
            repeat refine gq ?_
            exact ⟨_, _, ⟨rfl, rfl⟩, (Nat.zero_le _), Gh.toC (n1 := 2) ⟨rfl, trivial⟩ rfl (Nat.zero_le _) (by simp)⟩
          · skip
            replace h13 := cond_f h9 h13
            replace h13 := Option.some.inj h13
            subst h13
            refine WPU.region Try.tb_ok ?_
            refine RS.op (u := .ptr 0 0 1) rfl (op_fa Try.und53 rfl (sz_of Try.inf3) rfl rfl rfl) rfl rfl ?_
            refine RS.op (u := .int .i64 p1.From) rfl (ld_one Try.und3 rfl rfl rfl rfl) rfl rfl ?_
            refine RS.op (u := .ptr 1 0 1) rfl (op_fa Try.und53 rfl (sz_of Try.inf3) rfl rfl rfl) rfl rfl ?_
            refine RS.op (u := .int .i64 p2.From) rfl (ld_one Try.und3 rfl rfl rfl rfl) rfl rfl ?_
            refine RS.op rfl (op_int rfl rfl (ix_lss _ _ _) rfl) rfl rfl ?_
            refine RS.op rfl (op_move rfl) rfl rfl ?_
            refine RS.op (u := .ptr 1 0 1) (want1 rfl rfl rfl h3) (op_fa Try.und53 rfl (sz_of Try.inf3) rfl rfl rfl) rfl rfl ?_
            refine RS.op (u := .int .i64 p2.From) (want1 rfl rfl rfl h3) (ld_one Try.und3 rfl rfl rfl rfl) rfl rfl ?_
            refine RS.op (u := .ptr 0 0 2) (want1 rfl rfl rfl h3) (op_fa Try.und53 rfl (sz_of Try.inf3) rfl rfl rfl) rfl rfl ?_
            refine RS.op (u := .int .i64 p1.To) (want1 rfl rfl rfl h3) (ld_one Try.und3 rfl rfl rfl rfl) rfl rfl ?_
            refine RS.op (want1 rfl rfl rfl h3) (op_int rfl rfl (ix_lss _ _ _) rfl) rfl rfl ?_
            refine RS.op (u := .bool (decide (p2.From < p1.To))) rfl (op_pick1 rfl h3 rfl) rfl rfl ?_
            refine RS.op rfl (op_move rfl) rfl rfl ?_
            repeat refine RS.no (want0 rfl rfl rfl h4) rfl rfl ?_
            refine RS.op (u := .bool false) rfl (op_pick0 rfl h4 rfl) rfl rfl ?_
            refine RS.op rfl (op_move rfl) rfl rfl ?_
            refine RS.op (u := .ptr 1 0 1) (want1 rfl rfl rfl rfl) (op_fa Try.und53 rfl (sz_of Try.inf3) rfl rfl rfl) rfl rfl ?_
            refine RS.op (u := .int .i64 p2.From) (want1 rfl rfl rfl rfl) (ld_one Try.und3 rfl rfl rfl rfl) rfl rfl ?_
            refine RS.op (u := .ptr 0 0 1) (want1 rfl rfl rfl rfl) (op_fa Try.und53 rfl (sz_of Try.inf3) rfl rfl rfl) rfl rfl ?_
            refine RS.op (u := .int .i64 p1.From) (want1 rfl rfl rfl rfl) (ld_one Try.und3 rfl rfl rfl rfl) rfl rfl ?_
            refine RS.op (want1 rfl rfl rfl rfl) (op_int rfl rfl (ix_lss _ _ _) rfl) rfl rfl ?_
            refine RS.op (want1 rfl rfl rfl rfl) (op_move rfl) rfl rfl ?_
            refine RS.op (u := .ptr 0 0 1) (want1 rfl rfl rfl h8) (op_fa Try.und53 rfl (sz_of Try.inf3) rfl rfl rfl) rfl rfl ?_
            refine RS.op (u := .int .i64 p1.From) (want1 rfl rfl rfl h8) (ld_one Try.und3 rfl rfl rfl rfl) rfl rfl ?_
            refine RS.op (u := .ptr 1 0 2) (want1 rfl rfl rfl h8) (op_fa Try.und53 rfl (sz_of Try.inf3) rfl rfl rfl) rfl rfl ?_
            refine RS.op (u := .int .i64 p2.To) (want1 rfl rfl rfl h8) (ld_one Try.und3 rfl rfl rfl rfl) rfl rfl ?_
            refine RS.op (want1 rfl rfl rfl h8) (op_int rfl rfl (ix_lss _ _ _) rfl) rfl rfl ?_
            refine RS.op (u := .bool (decide (p1.From < p2.To))) (want1 rfl rfl rfl rfl) (op_pick1 rfl h8 rfl) rfl rfl ?_
            refine RS.op (want1 rfl rfl rfl rfl) (op_move rfl) rfl rfl ?_
            repeat refine RS.no (want0 rfl rfl rfl h9) rfl rfl ?_
            refine RS.op (u := .bool false) (want1 rfl rfl rfl rfl) (op_pick0 rfl h9 rfl) rfl rfl ?_
            refine RS.op (u := .bool false) rfl (op_pick0 rfl rfl rfl) rfl rfl ?_
            refine RS.op rfl (op_assign rfl) rfl rfl ?_
            refine RS.done ?_
            repeat refine gq ?_
            exact ⟨_, _, ⟨rfl, rfl⟩, (Nat.zero_le _), Gh.toC (n1 := 2) ⟨rfl, trivial⟩ rfl (Nat.zero_le _) (by simp)⟩
        · skip
          replace h13 := cond_f h8 h13
          replace h13 := Option.some.inj h13
          subst h13
          refine WPU.region Try.tb_ok ?_
          refine RS.op (u := .ptr 0 0 1) rfl (op_fa Try.und53 rfl (sz_of Try.inf3) rfl rfl rfl) rfl rfl ?_
          refine RS.op (u := .int .i64 p1.From) rfl (ld_one Try.und3 rfl rfl rfl rfl) rfl rfl ?_
          refine RS.op (u := .ptr 1 0 1) rfl (op_fa Try.und53 rfl (sz_of Try.inf3) rfl rfl rfl) rfl rfl ?_
          refine RS.op (u := .int .i64 p2.From) rfl (ld_one Try.und3 rfl rfl rfl rfl) rfl rfl ?_
          refine RS.op rfl (op_int rfl rfl (ix_lss _ _ _) rfl) rfl rfl ?_
          refine RS.op rfl (op_move rfl) rfl rfl ?_
          refine RS.op (u := .ptr 1 0 1) (want1 rfl rfl rfl h3) (op_fa Try.und53 rfl (sz_of Try.inf3) rfl rfl rfl) rfl rfl ?_
          refine RS.op (u := .int .i64 p2.From) (want1 rfl rfl rfl h3) (ld_one Try.und3 rfl rfl rfl rfl) rfl rfl ?_
          refine RS.op (u := .ptr 0 0 2) (want1 rfl rfl rfl h3) (op_fa Try.und53 rfl (sz_of Try.inf3) rfl rfl rfl) rfl rfl ?_
          refine RS.op (u := .int .i64 p1.To) (want1 rfl rfl rfl h3) (ld_one Try.und3 rfl rfl rfl rfl) rfl rfl ?_
          refine RS.op (want1 rfl rfl rfl h3) (op_int rfl rfl (ix_lss _ _ _) rfl) rfl rfl ?_
          refine RS.op (u := .bool (decide (p2.From < p1.To))) rfl (op_pick1 rfl h3 rfl) rfl rfl ?_
          refine RS.op rfl (op_move rfl) rfl rfl ?_
          repeat refine RS.no (want0 rfl rfl rfl h4) rfl rfl ?_
          refine RS.op (u := .bool false) rfl (op_pick0 rfl h4 rfl) rfl rfl ?_
          refine RS.op rfl (op_move rfl) rfl rfl ?_
          refine RS.op (u := .ptr 1 0 1) (want1 rfl rfl rfl rfl) (op_fa Try.und53 rfl (sz_of Try.inf3) rfl rfl rfl) rfl rfl ?_
          refine RS.op (u := .int .i64 p2.From) (want1 rfl rfl rfl rfl) (ld_one Try.und3 rfl rfl rfl rfl) rfl rfl ?_
          refine RS.op (u := .ptr 0 0 1) (want1 rfl rfl rfl rfl) (op_fa Try.und53 rfl (sz_of Try.inf3) rfl rfl rfl) rfl rfl ?_
          refine RS.op (u := .int .i64 p1.From) (want1 rfl rfl rfl rfl) (ld_one Try.und3 rfl rfl rfl rfl) rfl rfl ?_
          refine RS.op (want1 rfl rfl rfl rfl) (op_int rfl rfl (ix_lss _ _ _) rfl) rfl rfl ?_
          refine RS.op (want1 rfl rfl rfl rfl) (op_move rfl) rfl rfl ?_
          repeat refine RS.no (want0 rfl rfl rfl h8) rfl rfl ?_
          refine RS.op (u := .bool false) (want1 rfl rfl rfl rfl) (op_pick0 rfl h8 rfl) rfl rfl ?_
          refine RS.op (want1 rfl rfl rfl rfl) (op_move rfl) rfl rfl ?_
          repeat refine RS.no (want0 rfl rfl rfl rfl) rfl rfl ?_
          refine RS.op (u := .bool false) (want1 rfl rfl rfl rfl) (op_pick0 rfl rfl rfl) rfl rfl ?_
          refine RS.op (u := .bool false) rfl (op_pick0 rfl rfl rfl) rfl rfl ?_
          refine RS.op rfl (op_assign rfl) rfl rfl ?_
          refine RS.done ?_
          repeat refine gq ?_
          exact ⟨_, _, ⟨rfl, rfl⟩, (Nat.zero_le _), Gh.toC (n1 := 2) ⟨rfl, trivial⟩ rfl (Nat.zero_le _) (by simp)⟩
    · skip
      replace h13 := cond_f h3 h13
      rcases bool_tf (decide (p2.From < p1.From)) with h10 | h10
      · skip
        replace h13 := cond_t h10 h13
        rcases bool_tf (decide (p1.From < p2.To)) with h11 | h11
        · skip
          replace h13 := cond_t h11 h13
          replace h13 := Option.some.inj h13
          subst h13
          refine WPU.region Try.tb_ok ?_
          refine RS.op (u := .ptr 0 0 1) rfl (op_fa Try.und53 rfl (sz_of Try.inf3) rfl rfl rfl) rfl rfl ?_
          refine RS.op (u := .int .i64 p1.From) rfl (ld_one Try.und3 rfl rfl rfl rfl) rfl rfl ?_
          refine RS.op (u := .ptr 1 0 1) rfl (op_fa Try.und53 rfl (sz_of Try.inf3) rfl rfl rfl) rfl rfl ?_
          refine RS.op (u := .int .i64 p2.From) rfl (ld_one Try.und3 rfl rfl rfl rfl) rfl rfl ?_
          refine RS.op rfl (op_int rfl rfl (ix_lss _ _ _) rfl) rfl rfl ?_
          refine RS.op rfl (op_move rfl) rfl rfl ?_
          repeat refine RS.no (want0 rfl rfl rfl h3) rfl rfl ?_
          refine RS.op (u := .bool false) rfl (op_pick0 rfl h3 rfl) rfl rfl ?_
          refine RS.op rfl (op_move rfl) rfl rfl ?_
          repeat refine RS.no (want0 rfl rfl rfl rfl) rfl rfl ?_
          refine RS.op (u := .bool false) rfl (op_pick0 rfl rfl rfl) rfl rfl ?_
          refine RS.op rfl (op_move rfl) rfl rfl ?_
          refine RS.op (u := .ptr 1 0 1) (want1 rfl rfl rfl rfl) (op_fa Try.und53 rfl (sz_of Try.inf3) rfl rfl rfl) rfl rfl ?_
          refine RS.op (u := .int .i64 p2.From) (want1 rfl rfl rfl rfl) (ld_one Try.und3 rfl rfl rfl rfl) rfl rfl ?_
          refine RS.op (u := .ptr 0 0 1) (want1 rfl rfl rfl rfl) (op_fa Try.und53 rfl (sz_of Try.inf3) rfl rfl rfl) rfl rfl ?_
          refine RS.op (u := .int .i64 p1.From) (want1 rfl rfl rfl rfl) (ld_one Try.und3 rfl rfl rfl rfl) rfl rfl ?_
          refine RS.op (want1 rfl rfl rfl rfl) (op_int rfl rfl (ix_lss _ _ _) rfl) rfl rfl ?_
          refine RS.op (want1 rfl rfl rfl rfl) (op_move rfl) rfl rfl ?_
          refine RS.op (u := .ptr 0 0 1) (want1 rfl rfl rfl h10) (op_fa Try.und53 rfl (sz_of Try.inf3) rfl rfl rfl) rfl rfl ?_
          refine RS.op (u := .int .i64 p1.From) (want1 rfl rfl rfl h10) (ld_one Try.und3 rfl rfl rfl rfl) rfl rfl ?_
          refine RS.op (u := .ptr 1 0 2) (want1 rfl rfl rfl h10) (op_fa Try.und53 rfl (sz_of Try.inf3) rfl rfl rfl) rfl rfl ?_
          refine RS.op (u := .int .i64 p2.To) (want1 rfl rfl rfl h10) (ld_one Try.und3 rfl rfl rfl rfl) rfl rfl ?_
          refine RS.op (want1 rfl rfl rfl h10) (op_int rfl rfl (ix_lss _ _ _) rfl) rfl rfl ?_
          refine RS.op (u := .bool (decide (p1.From < p2.To))) (want1 rfl rfl rfl rfl) (op_pick1 rfl h10 rfl) rfl rfl ?_
          refine RS.op (want1 rfl rfl rfl rfl) (op_move rfl) rfl rfl ?_
          refine RS.op (u := .ptr 1 0 2) (want1 rfl rfl rfl h11) (op_fa Try.und53 rfl (sz_of Try.inf3) rfl rfl rfl) rfl rfl ?_
          refine RS.op (u := .int .i64 p2.To) (want1 rfl rfl rfl h11) (ld_one Try.und3 rfl rfl rfl rfl) rfl rfl ?_
          refine RS.op (u := .ptr 0 0 2) (want1 rfl rfl rfl h11) (op_fa Try.und53 rfl (sz_of Try.inf3) rfl rfl rfl) rfl rfl ?_
          refine RS.op (u := .int .i64 p1.To) (want1 rfl rfl rfl h11) (ld_one Try.und3 rfl rfl rfl rfl) rfl rfl ?_
          refine RS.op (want1 rfl rfl rfl h11) (op_int rfl rfl (ix_lss _ _ _) rfl) rfl rfl ?_
          refine RS.op (u := .bool (decide (p2.To < p1.To))) (want1 rfl rfl rfl rfl) (op_pick1 rfl h11 rfl) rfl rfl ?_
          refine RS.op (u := .bool (decide (p2.To < p1.To))) rfl (op_pick0 rfl rfl rfl) rfl rfl ?_
          refine RS.op rfl (op_assign rfl) rfl rfl ?_
          refine RS.done ?_
          repeat refine gq ?_
          exact ⟨_, _, ⟨rfl, rfl⟩, (Nat.zero_le _), Gh.toC (n1 := 2) ⟨rfl, trivial⟩ rfl (Nat.zero_le _) (by simp)⟩
        · skip
          replace h13 := cond_f h11 h13
          replace h13 := Option.some.inj h13
          subst h13
          refine WPU.region Try.tb_ok ?_
          refine RS.op (u := .ptr 0 0 1) rfl (op_fa Try.und53 rfl (sz_of Try.inf3) rfl rfl rfl) rfl rfl ?_
          refine RS.op (u := .int .i64 p1.From) rfl (ld_one Try.und3 rfl rfl rfl rfl) rfl rfl ?_
          refine RS.op (u := .ptr 1 0 1) rfl (op_fa Try.und53 rfl (sz_of Try.inf3) rfl rfl rfl) rfl rfl ?_
          refine RS.op (u := .int .i64 p2.From) rfl (ld_one Try.und3 rfl rfl rfl rfl) rfl rfl ?_
          refine RS.op rfl (op_int rfl rfl (ix_lss _ _ _) rfl) rfl rfl ?_
          refine RS.op rfl (op_move rfl) rfl rfl ?_
          repeat refine RS.no (want0 rfl rfl rfl h3) rfl rfl ?_
          refine RS.op (u := .bool false) rfl (op_pick0 rfl h3 rfl) rfl rfl ?_
          refine RS.op rfl (op_move rfl) rfl rfl ?_
          repeat refine RS.no (want0 rfl rfl rfl rfl) rfl rfl ?_
          refine RS.op (u := .bool false) rfl (op_pick0 rfl rfl rfl) rfl rfl ?_
          refine RS.op rfl (op_move rfl) rfl rfl ?_
          refine RS.op (u := .ptr 1 0 1) (want1 rfl rfl rfl rfl) (op_fa Try.und53 rfl (sz_of Try.inf3) rfl rfl rfl) rfl rfl ?_
          refine RS.op (u := .int .i64 p2.From) (want1 rfl rfl rfl rfl) (ld_one Try.und3 rfl rfl rfl rfl) rfl rfl ?_
          refine RS.op (u := .ptr 0 0 1) (want1 rfl rfl rfl rfl) (op_fa Try.und53 rfl (sz_of Try.inf3) rfl rfl rfl) rfl rfl ?_
          refine RS.op (u := .int .i64 p1.From) (want1 rfl rfl rfl rfl) (ld_one Try.und3 rfl rfl rfl rfl) rfl rfl ?_
          refine RS.op (want1 rfl rfl rfl rfl) (op_int rfl rfl (ix_lss _ _ _) rfl) rfl rfl ?_
          refine RS.op (want1 rfl rfl rfl rfl) (op_move rfl) rfl rfl ?_
          refine RS.op (u := .ptr 0 0 1) (want1 rfl rfl rfl h10) (op_fa Try.und53 rfl (sz_of Try.inf3) rfl rfl rfl) rfl rfl ?_
          refine RS.op (u := .int .i64 p1.From) (want1 rfl rfl rfl h10) (ld_one Try.und3 rfl rfl rfl rfl) rfl rfl ?_
          refine RS.op (u := .ptr 1 0 2) (want1 rfl rfl rfl h10) (op_fa Try.und53 rfl (sz_of Try.inf3) rfl rfl rfl) rfl rfl ?_
          refine RS.op (u := .int .i64 p2.To) (want1 rfl rfl rfl h10) (ld_one Try.und3 rfl rfl rfl rfl) rfl rfl ?_
          refine RS.op (want1 rfl rfl rfl h10) (op_int rfl rfl (ix_lss _ _ _) rfl) rfl rfl ?_
          refine RS.op (u := .bool (decide (p1.From < p2.To))) (want1 rfl rfl rfl rfl) (op_pick1 rfl h10 rfl) rfl rfl ?_
          refine RS.op (want1 rfl rfl rfl rfl) (op_move rfl) rfl rfl ?_
          repeat refine RS.no (want0 rfl rfl rfl h11) rfl rfl ?_
          refine RS.op (u := .bool false) (want1 rfl rfl rfl rfl) (op_pick0 rfl h11 rfl) rfl rfl ?_
          refine RS.op (u := .bool false) rfl (op_pick0 rfl rfl rfl) rfl rfl ?_
          refine RS.op rfl (op_assign rfl) rfl rfl ?_
          refine RS.done ?_
          repeat refine gq ?_
          exact ⟨_, _, ⟨rfl, rfl⟩, (Nat.zero_le _), Gh.toC (n1 := 2) ⟨rfl, trivial⟩ rfl (Nat.zero_le _) (by simp)⟩
      · skip
        replace h13 := cond_f h10 h13
        replace h13 := Option.some.inj h13
        subst h13
        refine WPU.region Try.tb_ok ?_
        refine RS.op (u := .ptr 0 0 1) rfl (op_fa Try.und53 rfl (sz_of Try.inf3) rfl rfl rfl) rfl rfl ?_
        refine RS.op (u := .int .i64 p1.From) rfl (ld_one Try.und3 rfl rfl rfl rfl) rfl rfl ?_
        refine RS.op (u := .ptr 1 0 1) rfl (op_fa Try.und53 rfl (sz_of Try.inf3) rfl rfl rfl) rfl rfl ?_
        refine RS.op (u := .int .i64 p2.From) rfl (ld_one Try.und3 rfl rfl rfl rfl) rfl rfl ?_
        refine RS.op rfl (op_int rfl rfl (ix_lss _ _ _) rfl) rfl rfl ?_
        refine RS.op rfl (op_move rfl) rfl rfl ?_
        repeat refine RS.no (want0 rfl rfl rfl h3) rfl rfl ?_
        refine RS.op (u := .bool false) rfl (op_pick0 rfl h3 rfl) rfl rfl ?_
        refine RS.op rfl (op_move rfl) rfl rfl ?_
        repeat refine RS.no (want0 rfl rfl rfl rfl) rfl rfl ?_
        refine RS.op (u := .bool false) rfl (op_pick0 rfl rfl rfl) rfl rfl ?_
        refine RS.op rfl (op_move rfl) rfl rfl ?_
        refine RS.op (u := .ptr 1 0 1) (want1 rfl rfl rfl rfl) (op_fa Try.und53 rfl (sz_of Try.inf3) rfl rfl rfl) rfl rfl ?_
        refine RS.op (u := .int .i64 p2.From) (want1 rfl rfl rfl rfl) (ld_one Try.und3 rfl rfl rfl rfl) rfl rfl ?_
        refine RS.op (u := .ptr 0 0 1) (want1 rfl rfl rfl rfl) (op_fa Try.und53 rfl (sz_of Try.inf3) rfl rfl rfl) rfl rfl ?_
        refine RS.op (u := .int .i64 p1.From) (want1 rfl rfl rfl rfl) (ld_one Try.und3 rfl rfl rfl rfl) rfl rfl ?_
        refine RS.op (want1 rfl rfl rfl rfl) (op_int rfl rfl (ix_lss _ _ _) rfl) rfl rfl ?_
        refine RS.op (want1 rfl rfl rfl rfl) (op_move rfl) rfl rfl ?_
        repeat refine RS.no (want0 rfl rfl rfl h10) rfl rfl ?_
        refine RS.op (u := .bool false) (want1 rfl rfl rfl rfl) (op_pick0 rfl h10 rfl) rfl rfl ?_
        refine RS.op (want1 rfl rfl rfl rfl) (op_move rfl) rfl rfl ?_
        repeat refine RS.no (want0 rfl rfl rfl rfl) rfl rfl ?_
        refine RS.op (u := .bool false) (want1 rfl rfl rfl rfl) (op_pick0 rfl rfl rfl) rfl rfl ?_
        refine RS.op (u := .bool false) rfl (op_pick0 rfl rfl rfl) rfl rfl ?_
        refine RS.op rfl (op_assign rfl) rfl rfl ?_
        refine RS.done ?_
        repeat refine gq ?_
        exact ⟨_, _, ⟨rfl, rfl⟩, (Nat.zero_le _), Gh.toC (n1 := 2) ⟨rfl, trivial⟩ rfl (Nat.zero_le _) (by simp)⟩
theorem evaluate_cross_ok (n : Nat) (p1 : GBracket) (p2 : GBracket) (r : Bool) (hF : evaluate_cross n p1 p2 = some r) (σ : Sg) : EvU Try.prog 36 [.agg (cGBracket p1), .agg (cGBracket p2)] σ (fun u σ' => u = .bool r ∧ σ' = σ) :=
  EvU.pure1C (evaluate_cross_0 n p1 p2 r hF) σ
def evaluate_Match_1 (n : Nat) (p1 : GBracket) (c2 : GBracket) : Option (Bool) :=
  bindO (evaluate_cross n c2 p1) fun r3 =>
  some r3
theorem evaluate_Match_1_0 (n : Nat) (p1 : GBracket) (c2 : GBracket) (r : Bool) (hF : evaluate_Match_1 n p1 c2 = some r) : EvU Try.prog 35 [.agg (cGBracket p1), .iptr (cGBracket c2)] ⟨[], 0⟩ (fun u _ => u = .bool r ∧ Bel 0 u) := by
  unfold evaluate_Match_1 at hF
  refine EvU.of_body Try.tb_ok Try.fn35 rfl ?_
  refine WPU.ghost (tm' := fr 7 [(0, .agg (cGBracket p1)), (1, .iptr (cGBracket c2))]) (Gh.start (Nat.le_of_ble_eq_true rfl)) (Nat.zero_le _) ?_
  repeat refine WPU.seq ?_
  refine WPU.region Try.tb_ok ?_
  refine RS.op (u := .ptr 0 0 0) (σ' := ⟨[(0, .row (cGBracket p1) 53)], 1⟩) rfl (op_box rfl rfl rfl) rfl rfl ?_
  refine RS.op rfl (op_assign rfl) rfl rfl ?_
  refine RS.done ?_
  repeat refine gq ?_
  repeat refine WPU.seq ?_
  obtain ⟨r3, h4, hF⟩ := bindO_some hF
  refine WPU.region Try.tb_ok ?_
  refine RS.op (u := .agg (cGBracket c2)) rfl (li_agg Try.und53 rfl (sz_of Try.inf53) rfl rfl) rfl rfl ?_
  refine RS.op (u := .agg (cGBracket p1)) rfl (ld_agg Try.und53 rfl (sz_of Try.inf53) rfl rfl rfl) rfl rfl ?_
  refine RS.call (u := .bool r3) (args := [.agg (cGBracket c2), .agg (cGBracket p1)]) rfl (op_call rfl rfl Try.fn36 Try.hb36 rfl rfl) (evaluate_cross_ok n c2 p1 r3 h4 _) rfl rfl ?_
  refine RS.op rfl (op_assign rfl) rfl rfl ?_
  refine RS.done ?_
  repeat refine gq ?_
  repeat refine WPU.seq ?_
  refine WPU.ret ?_
  repeat refine gq ?_
  have hr := Option.some.inj hF
  subst hr
  exact ⟨.inr rfl, [.bool r3], res_t rfl (res_n), .bool r3, ⟨[], 0⟩, Nat.le_refl _, Gh.toR (.bool r3) rfl, rfl, BU.h⟩
def evaluate_Match_J5 (z69 : Int) (rc3 : Int → (MapL GBracket Int) → Int → Int → Option (GMetrics)) (w80 : MapL GBracket Int) (z81 : Int) (z85 : Int) : Option (GMetrics) :=
  rc3 (IntKind.i64.wrap (z69 + 1)) w80 z81 z85
def evaluate_Match_J4 (n : Nat) (r3 : (List GBracket)) (z69 : Int) (z72 : Int) (rc3 : Int → (MapL GBracket Int) → Int → Int → Option (GMetrics)) (x77 : GBracket) (w80 : MapL GBracket Int) (z81 : Int) : Option (GMetrics) :=
  bindO (slices_ContainsFunc_Bracket_Match_1 (evaluate_Match_1 n) n r3 x77) fun r82 =>
  cond r82
    (evaluate_Match_J5 z69 rc3 w80 z81 (IntKind.i64.wrap (z72 + 1)))
    (evaluate_Match_J5 z69 rc3 w80 z81 z72)
def evaluate_Match_J6 (n : Nat) (r3 : (List GBracket)) (z69 : Int) (z72 : Int) (rc3 : Int → (MapL GBracket Int) → Int → Int → Option (GMetrics)) (x77 : GBracket) (w87 : MapL GBracket Int) (z88 : Int) : Option (GMetrics) :=
  evaluate_Match_J4 n r3 z69 z72 rc3 x77 w87 z88
def evaluate_Match_K3 (r3 : (List GBracket)) (r5 : (List GBracket)) (z10 : Int) (w73 : MapL GBracket Int) (z74 : Int) (z75 : Int) : Option (GMetrics) :=
  some (GMetrics.mk 1 z10 (r3.length : Int) (r5.length : Int) z74 z75)
def evaluate_Match_L3 (n : Nat) (r3 : (List GBracket)) (r5 : (List GBracket)) (z10 : Int) : Nat → Int → (MapL GBracket Int) → Int → Int → Option (GMetrics)
  | 0, _, _, _, _ => none
  | m3 + 1, z69, w70, z71, z72 =>
    cond (decide (z69 < (r5.length : Int)))
      (bindO (idxO r5 z69) fun x77 =>
      cond (decide (((mGet eqGBracket w70 x77).getD 0) > 1))
        (evaluate_Match_J4 n r3 z69 z72 (evaluate_Match_L3 n r3 r5 z10 m3) x77 (mUpd eqGBracket w70 x77 (IntKind.i64.wrap (((mGet eqGBracket w70 x77).getD 0) - 1))) (IntKind.i64.wrap (z71 + 1)))
        (cond (((mGet eqGBracket w70 x77).getD 0) == 1)
          (evaluate_Match_J6 n r3 z69 z72 (evaluate_Match_L3 n r3 r5 z10 m3) x77 (mDel eqGBracket w70 x77) (IntKind.i64.wrap (z71 + 1)))
          (evaluate_Match_J6 n r3 z69 z72 (evaluate_Match_L3 n r3 r5 z10 m3) x77 w70 z71)))
      (evaluate_Match_K3 r3 r5 z10 w70 z71 z72)
def evaluate_Match_K2 (n : Nat) (r3 : (List GBracket)) (r5 : (List GBracket)) (z10 : Int) (w41 : MapL GBracket Int) : Option (GMetrics) :=
  evaluate_Match_L3 n r3 r5 z10 n 0 w41 0 0
def evaluate_Match_L2 (n : Nat) (r3 : (List GBracket)) (r5 : (List GBracket)) (z10 : Int) : Nat → Int → (MapL GBracket Int) → Option (GMetrics)
  | 0, _, _ => none
  | m2 + 1, z39, w40 =>
    cond (decide (z39 < (r3.length : Int)))
      (bindO (idxO r3 z39) fun x90 =>
      bindO (mEntS (mEntM eqGBracket 0 w40 x90) ((mEntV eqGBracket 0 w40 x90).2 : Int) (IntKind.i64.wrap (((mGet eqGBracket w40 x90).getD 0) + 1))) fun w92 =>
      (evaluate_Match_L2 n r3 r5 z10 m2) (IntKind.i64.wrap (z39 + 1)) w92)
      (evaluate_Match_K2 n r3 r5 z10 w40)
def evaluate_Match_J1 (n : Nat) (r3 : (List GBracket)) (r5 : (List GBracket)) (z10 : Int) : Option (GMetrics) :=
  evaluate_Match_L2 n r3 r5 z10 n 0 (mNew : MapL GBracket Int)
def evaluate_Match (n : Nat) (p1 : GDeriv) (p2 : GDeriv) : Option (GMetrics) :=
  bindO (evaluate_Brackets n p1) fun r3 =>
  bindO (evaluate_Brackets n p2) fun r5 =>
  bindO (deriv_Compare n p1 p2) fun r7 =>
  cond (r7 == 0)
    (evaluate_Match_J1 n r3 r5 1)
    (evaluate_Match_J1 n r3 r5 0)
theorem evaluate_Match_0 (n : Nat) (p1 : GDeriv) (p2 : GDeriv) (r : GMetrics) (hF : evaluate_Match n p1 p2 = some r) : EvU Try.prog 15 [.agg (xGDeriv p1), .agg (xGDeriv p2)] ⟨[], 0⟩ (fun u _ => u = .agg (cGMetrics r) ∧ Bel 0 u) := by
  unfold evaluate_Match at hF
  refine EvU.of_body Try.tb_ok Try.fn15 rfl ?_
  refine WPU.ghost (tm' := fr 78 [(0, .agg (xGDeriv p1)), (1, .agg (xGDeriv p2))]) (Gh.start (Nat.le_of_ble_eq_true rfl)) (Nat.zero_le _) ?_
  repeat refine WPU.seq ?_
  refine WPU.region Try.tb_ok ?_
  refine RS.op (u := .ptr 0 0 0) (σ' := ⟨[(0, .row (xGDeriv p1) 24)], 1⟩) rfl (op_box rfl rfl rfl) rfl rfl ?_
  refine RS.op (u := .ptr 1 0 0) (σ' := ⟨[(1, .row (xGDeriv p2) 24), (0, .row (xGDeriv p1) 24)], 2⟩) rfl (op_box rfl rfl rfl) rfl rfl ?_
  refine RS.op (u := .ptr 2 0 0) (σ' := ⟨[(2, .row [.int .i64 0, .int .i64 0, .int .i64 0, .int .i64 0, .int .i64 0, .int .i64 0] 32), (1, .row (xGDeriv p2) 24), (0, .row (xGDeriv p1) 24)], 3⟩) rfl (op_alloc Try.inf32 rfl rfl) rfl rfl ?_
  refine RS.done ?_
  repeat refine gq ?_
  repeat refine WPU.seq ?_
  obtain ⟨r3, h4, hF⟩ := bindO_some hF
  obtain ⟨r5, h6, hF⟩ := bindO_some hF
  refine WPU.drawE Try.tb_ok [] (by kernel_rfl) ?_
  refine RD.look (u := .agg (xGDeriv p1)) rfl (ld_agg Try.und24 rfl (sz_of Try.inf24) rfl rfl rfl) rfl rfl ?_
  refine RD.free (u := .isl false (List.map cGBracket r3)) (args := [.agg (xGDeriv p1)]) rfl (op_call rfl rfl Try.fn13 Try.hb13 rfl rfl) (fun s => evaluate_Brackets_ok n p1 r3 h4 s) rfl rfl ?_
  refine RD.look (u := .agg (xGDeriv p2)) rfl (ld_agg Try.und24 rfl (sz_of Try.inf24) rfl rfl rfl) rfl rfl ?_
  refine RD.free (u := .isl false (List.map cGBracket r5)) (args := [.agg (xGDeriv p2)]) rfl (op_call rfl rfl Try.fn13 Try.hb13 rfl rfl) (fun s => evaluate_Brackets_ok n p2 r5 h6 s) rfl rfl ?_
  repeat refine RD.look rfl (op_assign rfl) rfl rfl ?_
  refine RD.done ⟨by kernel_rfl, trivial, ?_⟩
  repeat refine gq ?_
  repeat refine WPU.seq ?_
  refine WPU.region Try.tb_ok ?_
  refine RS.op rfl (op_move rfl) rfl rfl ?_
  refine RS.op rfl (op_len rfl rfl rfl (len_isl cGBracket Try.und28)) rfl rfl ?_
  refine RS.op rfl (op_move rfl) rfl rfl ?_
  refine RS.op rfl (op_len rfl rfl rfl (len_isl cGBracket Try.und28)) rfl rfl ?_
  refine RS.op (u := .agg [.int .i64 1, .int .i64 0, .int .i64 (r3.length : Int), .int .i64 (r5.length : Int), .int .i64 0, .int .i64 0]) rfl (op_bld Try.bd32 rfl rfl rfl) rfl rfl ?_
  refine RS.op (u := .ptr 3 0 0) (σ' := ⟨[(3, .row [.int .i64 0, .int .i64 0, .int .i64 0, .int .i64 0, .int .i64 0, .int .i64 0] 32), (2, .row [.int .i64 0, .int .i64 0, .int .i64 0, .int .i64 0, .int .i64 0, .int .i64 0] 32), (1, .row (xGDeriv p2) 24), (0, .row (xGDeriv p1) 24)], 4⟩) rfl (op_alloc Try.inf32 rfl rfl) rfl rfl ?_
  refine RS.opn (u := .junk) (σ' := ⟨[(3, .row [.int .i64 1, .int .i64 0, .int .i64 (r3.length : Int), .int .i64 (r5.length : Int), .int .i64 0, .int .i64 0] 32), (2, .row [.int .i64 0, .int .i64 0, .int .i64 0, .int .i64 0, .int .i64 0, .int .i64 0] 32), (1, .row (xGDeriv p2) 24), (0, .row (xGDeriv p1) 24)], 4⟩) rfl (op_store (sz_of Try.inf32) rfl rfl rfl rfl rfl rfl rfl rfl) rfl ?_
  refine RS.done ?_
  repeat refine gq ?_
  repeat refine WPU.seq ?_
  obtain ⟨r7, h8, hF⟩ := bindO_some hF
  refine WPU.region Try.tb_ok ?_
  refine RS.op (u := .agg (xGDeriv p1)) rfl (ld_agg Try.und24 rfl (sz_of Try.inf24) rfl rfl rfl) rfl rfl ?_
  refine RS.op (u := .agg (xGDeriv p2)) rfl (ld_agg Try.und24 rfl (sz_of Try.inf24) rfl rfl rfl) rfl rfl ?_
  refine RS.call (u := .int .i64 r7) (args := [.agg (xGDeriv p1), .agg (xGDeriv p2)]) rfl (op_call rfl rfl Try.fn33 Try.hb33 rfl rfl) (deriv_Compare_ok n p1 p2 r7 h8 _) rfl rfl ?_
  refine RS.op rfl (op_int rfl rfl (ix_eql _ _ _) rfl) rfl rfl ?_
  refine RS.done ?_
  repeat refine gq ?_
  repeat refine WPU.seq ?_
  refine WPU.joinK (fun tm σ => ∃ z10 : Int, evaluate_Match_J1 n r3 r5 z10 = some r ∧ tm = fr 78 [(4, .ptr 2 0 0), (5, .isl false (List.map cGBracket r3)), (6, .isl false (List.map cGBracket r5)), (7, .ptr 3 0 0)] ∧ σ = ⟨[(3, .row [.int .i64 1, .int .i64 z10, .int .i64 (r3.length : Int), .int .i64 (r5.length : Int), .int .i64 0, .int .i64 0] 32), (2, .row [.int .i64 0, .int .i64 0, .int .i64 0, .int .i64 0, .int .i64 0, .int .i64 0] 32), (1, .row (xGDeriv p2) 24), (0, .row (xGDeriv p1) 24)], 4⟩) ?_ ?_
  · skip
    rintro _ _ ⟨z10, hF, rfl, rfl⟩
    unfold evaluate_Match_J1 at hF
    repeat refine gq ?_
    repeat refine WPU.seq ?_
    refine WPU.region Try.tb_ok ?_
    refine RS.op (u := .map 4) (σ' := ⟨[(4, .map (List.map (mE (fun x => .agg (cGBracket x)) (fun x => .int .i64 x)) (mNew : MapL GBracket Int).es) (mNew : MapL GBracket Int).cl), (3, .row [.int .i64 1, .int .i64 z10, .int .i64 (r3.length : Int), .int .i64 (r5.length : Int), .int .i64 0, .int .i64 0] 32), (2, .row [.int .i64 0, .int .i64 0, .int .i64 0, .int .i64 0, .int .i64 0, .int .i64 0] 32), (1, .row (xGDeriv p2) 24), (0, .row (xGDeriv p1) 24)], 5⟩) rfl (op_mnew) rfl rfl ?_
    refine RS.op rfl (op_assign rfl) rfl rfl ?_
    refine RS.done ?_
    repeat refine gq ?_
    repeat refine WPU.seq ?_
    refine WPU.region Try.tb_ok ?_
    refine RS.op rfl (op_move rfl) rfl rfl ?_
    refine RS.op rfl (op_len rfl rfl rfl (len_isl cGBracket Try.und28)) rfl rfl ?_
    refine RS.op rfl (op_move rfl) rfl rfl ?_
    refine RS.done ?_
    repeat refine gq ?_
    repeat refine WPU.seq ?_
    refine WPU.ghost (tm' := fr 78 [(4, .ptr 2 0 0), (5, .isl false (List.map cGBracket r3)), (6, .isl false (List.map cGBracket r5)), (7, .ptr 3 0 0), (8, .map 4), (29, .isl false (List.map cGBracket r3)), (30, .int .i64 (r3.length : Int)), (31, .int .i64 0)]) (Gh.sub ⟨rfl, rfl, rfl, rfl, rfl, rfl, rfl, rfl, trivial⟩) (Nat.zero_le _) ?_
    refine WPU.loopK (fun m tm σ => ∃ z39 : Int, ∃ w40 : MapL GBracket Int, evaluate_Match_L2 n r3 r5 z10 m z39 w40 = some r ∧ tm = fr 78 [(4, .ptr 2 0 0), (5, .isl false (List.map cGBracket r3)), (6, .isl false (List.map cGBracket r5)), (7, .ptr 3 0 0), (8, .map 4), (29, .isl false (List.map cGBracket r3)), (30, .int .i64 (r3.length : Int)), (31, .int .i64 z39)] ∧ σ = ⟨[(4, .map (List.map (mE (fun x => .agg (cGBracket x)) (fun x => .int .i64 x)) w40.es) w40.cl), (3, .row [.int .i64 1, .int .i64 z10, .int .i64 (r3.length : Int), .int .i64 (r5.length : Int), .int .i64 0, .int .i64 0] 32), (2, .row [.int .i64 0, .int .i64 0, .int .i64 0, .int .i64 0, .int .i64 0, .int .i64 0] 32), (1, .row (xGDeriv p2) 24), (0, .row (xGDeriv p1) 24)], 5⟩) (fun tm σ => ∃ w41 : MapL GBracket Int, evaluate_Match_K2 n r3 r5 z10 w41 = some r ∧ tm = fr 78 [(4, .ptr 2 0 0), (5, .isl false (List.map cGBracket r3)), (6, .isl false (List.map cGBracket r5)), (7, .ptr 3 0 0), (8, .map 4)] ∧ σ = ⟨[(4, .map (List.map (mE (fun x => .agg (cGBracket x)) (fun x => .int .i64 x)) w41.es) w41.cl), (3, .row [.int .i64 1, .int .i64 z10, .int .i64 (r3.length : Int), .int .i64 (r5.length : Int), .int .i64 0, .int .i64 0] 32), (2, .row [.int .i64 0, .int .i64 0, .int .i64 0, .int .i64 0, .int .i64 0, .int .i64 0] 32), (1, .row (xGDeriv p2) 24), (0, .row (xGDeriv p1) 24)], 5⟩) n ⟨0, (mNew : MapL GBracket Int), hF, rfl, rfl⟩ ?_ ?_
    · skip
      rintro _ _ ⟨w41, hF, rfl, rfl⟩
      unfold evaluate_Match_K2 at hF
      repeat refine gq ?_
      repeat refine WPU.seq ?_
      refine WPU.region Try.tb_ok ?_
      refine RS.op rfl (op_move rfl) rfl rfl ?_
      refine RS.op rfl (op_len rfl rfl rfl (len_isl cGBracket Try.und28)) rfl rfl ?_
      refine RS.op rfl (op_move rfl) rfl rfl ?_
      refine RS.done ?_
      repeat refine gq ?_
      repeat refine WPU.seq ?_
      refine WPU.ghost (tm' := fr 78 [(4, .ptr 2 0 0), (5, .isl false (List.map cGBracket r3)), (7, .ptr 3 0 0), (8, .map 4), (42, .isl false (List.map cGBracket r5)), (43, .int .i64 (r5.length : Int)), (44, .int .i64 0)]) (Gh.sub ⟨rfl, rfl, rfl, rfl, rfl, rfl, rfl, trivial⟩) (Nat.zero_le _) ?_
      refine WPU.loopK (fun m tm σ => ∃ z69 : Int, ∃ w70 : MapL GBracket Int, ∃ z71 : Int, ∃ z72 : Int, evaluate_Match_L3 n r3 r5 z10 m z69 w70 z71 z72 = some r ∧ tm = fr 78 [(4, .ptr 2 0 0), (5, .isl false (List.map cGBracket r3)), (7, .ptr 3 0 0), (8, .map 4), (42, .isl false (List.map cGBracket r5)), (43, .int .i64 (r5.length : Int)), (44, .int .i64 z69)] ∧ σ = ⟨[(4, .map (List.map (mE (fun x => .agg (cGBracket x)) (fun x => .int .i64 x)) w70.es) w70.cl), (3, .row [.int .i64 1, .int .i64 z10, .int .i64 (r3.length : Int), .int .i64 (r5.length : Int), .int .i64 z71, .int .i64 z72] 32), (2, .row [.int .i64 0, .int .i64 0, .int .i64 0, .int .i64 0, .int .i64 0, .int .i64 0] 32), (1, .row (xGDeriv p2) 24), (0, .row (xGDeriv p1) 24)], 5⟩) (fun tm σ => ∃ w73 : MapL GBracket Int, ∃ z74 : Int, ∃ z75 : Int, evaluate_Match_K3 r3 r5 z10 w73 z74 z75 = some r ∧ tm = fr 78 [(4, .ptr 2 0 0), (7, .ptr 3 0 0)] ∧ σ = ⟨[(4, .map (List.map (mE (fun x => .agg (cGBracket x)) (fun x => .int .i64 x)) w73.es) w73.cl), (3, .row [.int .i64 1, .int .i64 z10, .int .i64 (r3.length : Int), .int .i64 (r5.length : Int), .int .i64 z74, .int .i64 z75] 32), (2, .row [.int .i64 0, .int .i64 0, .int .i64 0, .int .i64 0, .int .i64 0, .int .i64 0] 32), (1, .row (xGDeriv p2) 24), (0, .row (xGDeriv p1) 24)], 5⟩) n ⟨0, w41, 0, 0, hF, rfl, rfl⟩ ?_ ?_
      · skip
        rintro _ _ ⟨w73, z74, z75, hF, rfl, rfl⟩
        unfold evaluate_Match_K3 at hF
        repeat refine gq ?_
        repeat refine WPU.seq ?_
        refine WPU.region Try.tb_ok ?_
        refine RS.op (u := .agg [.int .i64 1, .int .i64 z10, .int .i64 (r3.length : Int), .int .i64 (r5.length : Int), .int .i64 z74, .int .i64 z75]) rfl (ld_agg Try.und32 rfl (sz_of Try.inf32) rfl rfl rfl) rfl rfl ?_
        refine RS.opn (u := .junk) (σ' := ⟨[(4, .map (List.map (mE (fun x => .agg (cGBracket x)) (fun x => .int .i64 x)) w73.es) w73.cl), (3, .row [.int .i64 1, .int .i64 z10, .int .i64 (r3.length : Int), .int .i64 (r5.length : Int), .int .i64 z74, .int .i64 z75] 32), (2, .row [.int .i64 1, .int .i64 z10, .int .i64 (r3.length : Int), .int .i64 (r5.length : Int), .int .i64 z74, .int .i64 z75] 32), (1, .row (xGDeriv p2) 24), (0, .row (xGDeriv p1) 24)], 5⟩) rfl (op_store (sz_of Try.inf32) rfl rfl rfl rfl rfl rfl rfl rfl) rfl ?_
        refine RS.done ?_
        repeat refine gq ?_
        repeat refine WPU.seq ?_
        refine WPU.ret ?_
        repeat refine gq ?_
        have hr := Option.some.inj hF
        subst hr
        exact ⟨.inr rfl, [.agg [.int .i64 1, .int .i64 z10, .int .i64 (r3.length : Int), .int .i64 (r5.length : Int), .int .i64 z74, .int .i64 z75]], res_c (ld_agg Try.und32 rfl (sz_of Try.inf32) rfl rfl rfl) (res_n), .agg [.int .i64 1, .int .i64 z10, .int .i64 (r3.length : Int), .int .i64 (r5.length : Int), .int .i64 z74, .int .i64 z75], ⟨[], 0⟩, Nat.le_refl _, Gh.toR (.agg [.int .i64 1, .int .i64 z10, .int .i64 (r3.length : Int), .int .i64 (r5.length : Int), .int .i64 z74, .int .i64 z75]) rfl, rfl, BU.h⟩
      · skip
        rintro m3 _ _ ⟨z69, w70, z71, z72, hF, rfl, rfl⟩
        cases m3 with
        | zero => cases hF
        | succ m3 =>
          unfold evaluate_Match_L3 at hF
          repeat refine WPU.seq ?_
          refine WPU.region Try.tb_ok ?_
          refine RS.op rfl (op_int rfl rfl (ix_lss _ _ _) rfl) rfl rfl ?_
          refine RS.done ?_
          repeat refine gq ?_
          repeat refine WPU.seq ?_
          refine WPU.condS (t := (decide (z69 < (r5.length : Int)))) rfl (fun h76 => ?_) (fun h76 => ?_)
          · skip
            replace hF := cond_t h76 hF
            repeat refine WPU.seq ?_
            refine WPU.skip ?_
            repeat refine gq ?_
            repeat refine WPU.seq ?_
            refine WPU.block ?_
            repeat refine WPU.seq ?_
            obtain ⟨x77, h78, hF⟩ := bindO_some hF
            refine WPU.region Try.tb_ok ?_
            refine RS.op (u := .iptr (cGBracket x77)) rfl (op_ia rfl rfl (ia_isl cGBracket Try.und28 (sz_of Try.inf53) len_cGBracket h78 rfl)) rfl rfl ?_
            refine RS.op (u := .agg (cGBracket x77)) rfl (li_agg Try.und53 rfl (sz_of Try.inf53) rfl rfl) rfl rfl ?_
            refine RS.op (u := .ptr 5 0 0) (σ' := ⟨[(5, .row [.str [], .int .i64 0, .int .i64 0] 53), (4, .map (List.map (mE (fun x => .agg (cGBracket x)) (fun x => .int .i64 x)) w70.es) w70.cl), (3, .row [.int .i64 1, .int .i64 z10, .int .i64 (r3.length : Int), .int .i64 (r5.length : Int), .int .i64 z71, .int .i64 z72] 32), (2, .row [.int .i64 0, .int .i64 0, .int .i64 0, .int .i64 0, .int .i64 0, .int .i64 0] 32), (1, .row (xGDeriv p2) 24), (0, .row (xGDeriv p1) 24)], 6⟩) rfl (op_alloc Try.inf53 rfl rfl) rfl rfl ?_
            refine RS.opn (u := .junk) (σ' := ⟨[(5, .row (cGBracket x77) 53), (4, .map (List.map (mE (fun x => .agg (cGBracket x)) (fun x => .int .i64 x)) w70.es) w70.cl), (3, .row [.int .i64 1, .int .i64 z10, .int .i64 (r3.length : Int), .int .i64 (r5.length : Int), .int .i64 z71, .int .i64 z72] 32), (2, .row [.int .i64 0, .int .i64 0, .int .i64 0, .int .i64 0, .int .i64 0, .int .i64 0] 32), (1, .row (xGDeriv p2) 24), (0, .row (xGDeriv p1) 24)], 6⟩) rfl (op_store (sz_of Try.inf53) rfl rfl rfl rfl rfl rfl rfl rfl) rfl ?_
            refine RS.done ?_
            repeat refine gq ?_
            repeat refine WPU.seq ?_
            refine WPU.region Try.tb_ok ?_
            refine RS.op rfl (op_move rfl) rfl rfl ?_
            refine RS.op (u := .agg (cGBracket x77)) rfl (ld_agg Try.und53 rfl (sz_of Try.inf53) rfl rfl rfl) rfl rfl ?_
            refine RS.op (u := .int .i64 ((mGet eqGBracket w70 x77).getD 0)) rfl (op_look (kU := (fun x => .agg (cGBracket x))) (vU := (fun x => .int .i64 x)) (m := w70) (k := x77) (zv := 0) key53 Try.und59 rfl rfl rfl Try.inf3 rfl) rfl rfl ?_
            refine RS.op rfl (op_assign rfl) rfl rfl ?_
            refine RS.done ?_
            repeat refine gq ?_
            repeat refine WPU.seq ?_
            refine WPU.region Try.tb_ok ?_
            refine RS.op rfl (op_move rfl) rfl rfl ?_
            refine RS.op rfl (op_int rfl rfl (ix_gtr _ _ _) rfl) rfl rfl ?_
            refine RS.done ?_
            repeat refine gq ?_
            repeat refine WPU.seq ?_
            refine WPU.joinK (fun tm σ => ∃ w80 : MapL GBracket Int, ∃ z81 : Int, evaluate_Match_J4 n r3 z69 z72 (evaluate_Match_L3 n r3 r5 z10 m3) x77 w80 z81 = some r ∧ tm = fr 78 [(4, .ptr 2 0 0), (5, .isl false (List.map cGBracket r3)), (7, .ptr 3 0 0), (8, .map 4), (12, .ptr 5 0 0), (42, .isl false (List.map cGBracket r5)), (43, .int .i64 (r5.length : Int)), (44, .int .i64 z69)] ∧ σ = ⟨[(5, .row (cGBracket x77) 53), (4, .map (List.map (mE (fun x => .agg (cGBracket x)) (fun x => .int .i64 x)) w80.es) w80.cl), (3, .row [.int .i64 1, .int .i64 z10, .int .i64 (r3.length : Int), .int .i64 (r5.length : Int), .int .i64 z81, .int .i64 z72] 32), (2, .row [.int .i64 0, .int .i64 0, .int .i64 0, .int .i64 0, .int .i64 0, .int .i64 0] 32), (1, .row (xGDeriv p2) 24), (0, .row (xGDeriv p1) 24)], 6⟩) ?_ ?_
            · skip
              rintro _ _ ⟨w80, z81, hF, rfl, rfl⟩
              unfold evaluate_Match_J4 at hF
              repeat refine gq ?_
              repeat refine WPU.seq ?_
              obtain ⟨r82, h83, hF⟩ := bindO_some hF
              refine WPU.region Try.tb_ok ?_
              refine RS.op rfl (op_move rfl) rfl rfl ?_
              refine RS.op rfl (op_fun rfl rfl) rfl rfl ?_
              refine RS.call (u := .bool r82) (args := [.isl false (List.map cGBracket r3), .fn (.func 35) [] [.ptr 5 0 0]]) rfl (op_call rfl rfl Try.fn34 Try.hb34 rfl rfl) (EvU.view (slices_ContainsFunc_Bracket_Match_1_0 (evaluate_Match_1 n) (evaluate_Match_1_0 n) n r3 x77 r82 h83) BUL.h (by simp only [toV, toVL, okL, okC, cond_true] <;> rfl) (fun m => by simp [ren, renL]) (Gh.fz (tm' := [.isl false (List.map cGBracket r3), .fn (.func 35) [] [.iptr (cGBracket x77)]]) 5 (.row [.str x77.Name, .int .i64 x77.From, .int .i64 x77.To] 53) 3 rfl (by simp) (by simp only [oneU, fzL_nil, fzL_cons, fz_int, fz_bool, fz_str, fz_nils, fz_nilp, fz_nilm, fz_nilf, fz_junk, fz_isl, fz_map, fz_agg, fz_tup, fz_fn, junkT, fz_sl, fz_p0, fz_cGBracket, fz_xGDeriv, Nat.reduceLeDiff, Nat.reduceMul, List.length_cons, List.length_nil, Nat.reduceAdd] <;> simp only [chunks, List.take, List.drop, List.map, cGBracket]) rfl)) rfl rfl ?_
              refine RS.done ?_
              repeat refine gq ?_
              repeat refine WPU.seq ?_
              refine WPU.joinK (fun tm σ => ∃ z85 : Int, evaluate_Match_J5 z69 (evaluate_Match_L3 n r3 r5 z10 m3) w80 z81 z85 = some r ∧ tm = fr 78 [(4, .ptr 2 0 0), (5, .isl false (List.map cGBracket r3)), (7, .ptr 3 0 0), (8, .map 4), (42, .isl false (List.map cGBracket r5)), (43, .int .i64 (r5.length : Int)), (44, .int .i64 z69)] ∧ σ = ⟨[(5, .row (cGBracket x77) 53), (4, .map (List.map (mE (fun x => .agg (cGBracket x)) (fun x => .int .i64 x)) w80.es) w80.cl), (3, .row [.int .i64 1, .int .i64 z10, .int .i64 (r3.length : Int), .int .i64 (r5.length : Int), .int .i64 z81, .int .i64 z85] 32), (2, .row [.int .i64 0, .int .i64 0, .int .i64 0, .int .i64 0, .int .i64 0, .int .i64 0] 32), (1, .row (xGDeriv p2) 24), (0, .row (xGDeriv p1) 24)], 6⟩) ?_ ?_
              · skip
                rintro _ _ ⟨z85, hF, rfl, rfl⟩
                unfold evaluate_Match_J5 at hF
                repeat refine gq ?_
                repeat refine WPU.seq ?_
                refine WPU.region Try.tb_ok ?_
                refine RS.op rfl (op_int rfl rfl (ix_add _ _ _) rfl) rfl rfl ?_
                refine RS.op rfl (op_move rfl) rfl rfl ?_
                refine RS.done ?_
                repeat refine gq ?_
                exact ⟨m3, _, _, Nat.lt_succ_self _, ⟨(IntKind.i64.wrap (z69 + 1)), w80, z81, z85, hF, rfl, rfl⟩, (Nat.zero_le _), Gh.toC (n1 := 5) ⟨rfl, rfl, rfl, rfl, rfl, rfl, rfl, trivial⟩ rfl (Nat.zero_le _) (by simp)⟩
              · skip
                refine WPU.condS (t := r82) rfl (fun h84 => ?_) (fun h84 => ?_)
                · skip
                  replace hF := cond_t h84 hF
                  repeat refine WPU.seq ?_
                  refine WPU.region Try.tb_ok ?_
                  refine RS.op (u := .ptr 3 0 5) rfl (op_fa Try.und32 rfl (sz_of Try.inf3) rfl rfl rfl) rfl rfl ?_
                  refine RS.op (u := .int .i64 z72) rfl (ld_one Try.und3 rfl rfl rfl rfl) rfl rfl ?_
                  refine RS.op rfl (op_int rfl rfl (ix_add _ _ _) rfl) rfl rfl ?_
                  refine RS.op (u := .ptr 3 0 5) rfl (op_fa Try.und32 rfl (sz_of Try.inf3) rfl rfl rfl) rfl rfl ?_
                  refine RS.opn (u := .junk) (σ' := ⟨[(5, .row (cGBracket x77) 53), (4, .map (List.map (mE (fun x => .agg (cGBracket x)) (fun x => .int .i64 x)) w80.es) w80.cl), (3, .row [.int .i64 1, .int .i64 z10, .int .i64 (r3.length : Int), .int .i64 (r5.length : Int), .int .i64 z81, .int .i64 (IntKind.i64.wrap (z72 + 1))] 32), (2, .row [.int .i64 0, .int .i64 0, .int .i64 0, .int .i64 0, .int .i64 0, .int .i64 0] 32), (1, .row (xGDeriv p2) 24), (0, .row (xGDeriv p1) 24)], 6⟩) rfl (op_store (sz_of Try.inf3) rfl rfl rfl rfl rfl rfl rfl rfl) rfl ?_
                  refine RS.done ?_
                  repeat refine gq ?_
                  exact ⟨_, _, ⟨(IntKind.i64.wrap (z72 + 1)), hF, rfl, rfl⟩, (Nat.zero_le _), Gh.toC (n1 := 6) ⟨rfl, rfl, rfl, rfl, rfl, rfl, rfl, trivial⟩ rfl (Nat.zero_le _) (by simp)⟩
                · skip
                  replace hF := cond_f h84 hF
                  repeat refine WPU.seq ?_
                  refine WPU.skip ?_
                  repeat refine gq ?_
                  exact ⟨_, _, ⟨z72, hF, rfl, rfl⟩, (Nat.zero_le _), Gh.toC (n1 := 6) ⟨rfl, rfl, rfl, rfl, rfl, rfl, rfl, trivial⟩ rfl (Nat.zero_le _) (by simp)⟩
            · skip
              refine WPU.condS (t := (decide (((mGet eqGBracket w70 x77).getD 0) > 1))) rfl (fun h79 => ?_) (fun h79 => ?_)
              · skip
                replace hF := cond_t h79 hF
                repeat refine WPU.seq ?_
                refine WPU.region Try.tb_ok ?_
                refine RS.op rfl (op_move rfl) rfl rfl ?_
                refine RS.op (u := .agg (cGBracket x77)) rfl (ld_agg Try.und53 rfl (sz_of Try.inf53) rfl rfl rfl) rfl rfl ?_
                refine RS.op rfl (op_move rfl) rfl rfl ?_
                refine RS.op rfl (op_int rfl rfl (ix_sub _ _ _) rfl) rfl rfl ?_
                refine RS.opn (u := .junk) (σ' := ⟨[(5, .row (cGBracket x77) 53), (4, .map (List.map (mE (fun x => .agg (cGBracket x)) (fun x => .int .i64 x)) (mUpd eqGBracket w70 x77 (IntKind.i64.wrap (((mGet eqGBracket w70 x77).getD 0) - 1))).es) (mUpd eqGBracket w70 x77 (IntKind.i64.wrap (((mGet eqGBracket w70 x77).getD 0) - 1))).cl), (3, .row [.int .i64 1, .int .i64 z10, .int .i64 (r3.length : Int), .int .i64 (r5.length : Int), .int .i64 z71, .int .i64 z72] 32), (2, .row [.int .i64 0, .int .i64 0, .int .i64 0, .int .i64 0, .int .i64 0, .int .i64 0] 32), (1, .row (xGDeriv p2) 24), (0, .row (xGDeriv p1) 24)], 6⟩) rfl (op_mup (kU := (fun x => .agg (cGBracket x))) (vU := (fun x => .int .i64 x)) (m := w70) (k := x77) (v := (IntKind.i64.wrap (((mGet eqGBracket w70 x77).getD 0) - 1))) key53 Try.und59 rfl rfl rfl rfl rfl) rfl ?_
                refine RS.done ?_
                repeat refine gq ?_
                repeat refine WPU.seq ?_
                refine WPU.region Try.tb_ok ?_
                refine RS.op (u := .ptr 3 0 4) rfl (op_fa Try.und32 rfl (sz_of Try.inf3) rfl rfl rfl) rfl rfl ?_
                refine RS.op (u := .int .i64 z71) rfl (ld_one Try.und3 rfl rfl rfl rfl) rfl rfl ?_
                refine RS.op rfl (op_int rfl rfl (ix_add _ _ _) rfl) rfl rfl ?_
                refine RS.op (u := .ptr 3 0 4) rfl (op_fa Try.und32 rfl (sz_of Try.inf3) rfl rfl rfl) rfl rfl ?_
                refine RS.opn (u := .junk) (σ' := ⟨[(5, .row (cGBracket x77) 53), (4, .map (List.map (mE (fun x => .agg (cGBracket x)) (fun x => .int .i64 x)) (mUpd eqGBracket w70 x77 (IntKind.i64.wrap (((mGet eqGBracket w70 x77).getD 0) - 1))).es) (mUpd eqGBracket w70 x77 (IntKind.i64.wrap (((mGet eqGBracket w70 x77).getD 0) - 1))).cl), (3, .row [.int .i64 1, .int .i64 z10, .int .i64 (r3.length : Int), .int .i64 (r5.length : Int), .int .i64 (IntKind.i64.wrap (z71 + 1)), .int .i64 z72] 32), (2, .row [.int .i64 0, .int .i64 0, .int .i64 0, .int .i64 0, .int .i64 0, .int .i64 0] 32), (1, .row (xGDeriv p2) 24), (0, .row (xGDeriv p1) 24)], 6⟩) rfl (op_store (sz_of Try.inf3) rfl rfl rfl rfl rfl rfl rfl rfl) rfl ?_
                refine RS.done ?_
                repeat refine gq ?_
                exact ⟨_, _, ⟨(mUpd eqGBracket w70 x77 (IntKind.i64.wrap (((mGet eqGBracket w70 x77).getD 0) - 1))), (IntKind.i64.wrap (z71 + 1)), hF, rfl, rfl⟩, (Nat.zero_le _), Gh.toC (n1 := 6) ⟨rfl, rfl, rfl, rfl, rfl, rfl, rfl, rfl, trivial⟩ rfl (Nat.zero_le _) (by simp)⟩
              · skip
                replace hF := cond_f h79 hF
                repeat refine WPU.seq ?_
                refine WPU.region Try.tb_ok ?_
                refine RS.op rfl (op_move rfl) rfl rfl ?_
                refine RS.op rfl (op_int rfl rfl (ix_eql _ _ _) rfl) rfl rfl ?_
                refine RS.done ?_
                repeat refine gq ?_
                repeat refine WPU.seq ?_
                refine WPU.joinK (fun tm σ => ∃ w87 : MapL GBracket Int, ∃ z88 : Int, evaluate_Match_J6 n r3 z69 z72 (evaluate_Match_L3 n r3 r5 z10 m3) x77 w87 z88 = some r ∧ tm = fr 78 [(4, .ptr 2 0 0), (5, .isl false (List.map cGBracket r3)), (7, .ptr 3 0 0), (8, .map 4), (12, .ptr 5 0 0), (42, .isl false (List.map cGBracket r5)), (43, .int .i64 (r5.length : Int)), (44, .int .i64 z69)] ∧ σ = ⟨[(5, .row (cGBracket x77) 53), (4, .map (List.map (mE (fun x => .agg (cGBracket x)) (fun x => .int .i64 x)) w87.es) w87.cl), (3, .row [.int .i64 1, .int .i64 z10, .int .i64 (r3.length : Int), .int .i64 (r5.length : Int), .int .i64 z88, .int .i64 z72] 32), (2, .row [.int .i64 0, .int .i64 0, .int .i64 0, .int .i64 0, .int .i64 0, .int .i64 0] 32), (1, .row (xGDeriv p2) 24), (0, .row (xGDeriv p1) 24)], 6⟩) ?_ ?_
                · skip
                  rintro _ _ ⟨w87, z88, hF, rfl, rfl⟩
                  unfold evaluate_Match_J6 at hF
                  repeat refine gq ?_
                  exact ⟨_, _, ⟨w87, z88, hF, rfl, rfl⟩, (Nat.zero_le _), Gh.toC (n1 := 6) ⟨rfl, rfl, rfl, rfl, rfl, rfl, rfl, rfl, trivial⟩ rfl (Nat.zero_le _) (by simp)⟩
                · skip
                  refine WPU.condS (t := (((mGet eqGBracket w70 x77).getD 0) == 1)) rfl (fun h86 => ?_) (fun h86 => ?_)
                  · skip
                    replace hF := cond_t h86 hF
                    repeat refine WPU.seq ?_
                    refine WPU.region Try.tb_ok ?_
                    refine RS.op rfl (op_move rfl) rfl rfl ?_
                    refine RS.op (u := .agg (cGBracket x77)) rfl (ld_agg Try.und53 rfl (sz_of Try.inf53) rfl rfl rfl) rfl rfl ?_
                    refine RS.opn (u := .junk) (σ' := ⟨[(5, .row (cGBracket x77) 53), (4, .map (List.map (mE (fun x => .agg (cGBracket x)) (fun x => .int .i64 x)) (mDel eqGBracket w70 x77).es) (mDel eqGBracket w70 x77).cl), (3, .row [.int .i64 1, .int .i64 z10, .int .i64 (r3.length : Int), .int .i64 (r5.length : Int), .int .i64 z71, .int .i64 z72] 32), (2, .row [.int .i64 0, .int .i64 0, .int .i64 0, .int .i64 0, .int .i64 0, .int .i64 0] 32), (1, .row (xGDeriv p2) 24), (0, .row (xGDeriv p1) 24)], 6⟩) rfl (op_mdel (kU := (fun x => .agg (cGBracket x))) (vU := (fun x => .int .i64 x)) (m := w70) (k := x77) key53 Try.und59 rfl rfl rfl rfl rfl rfl) rfl ?_
                    refine RS.done ?_
                    repeat refine gq ?_
                    repeat refine WPU.seq ?_
                    refine WPU.region Try.tb_ok ?_
                    refine RS.op (u := .ptr 3 0 4) rfl (op_fa Try.und32 rfl (sz_of Try.inf3) rfl rfl rfl) rfl rfl ?_
                    refine RS.op (u := .int .i64 z71) rfl (ld_one Try.und3 rfl rfl rfl rfl) rfl rfl ?_
                    refine RS.op rfl (op_int rfl rfl (ix_add _ _ _) rfl) rfl rfl ?_
                    refine RS.op (u := .ptr 3 0 4) rfl (op_fa Try.und32 rfl (sz_of Try.inf3) rfl rfl rfl) rfl rfl ?_
                    refine RS.opn (u := .junk) (σ' := ⟨[(5, .row (cGBracket x77) 53), (4, .map (List.map (mE (fun x => .agg (cGBracket x)) (fun x => .int .i64 x)) (mDel eqGBracket w70 x77).es) (mDel eqGBracket w70 x77).cl), (3, .row [.int .i64 1, .int .i64 z10, .int .i64 (r3.length : Int), .int .i64 (r5.length : Int), .int .i64 (IntKind.i64.wrap (z71 + 1)), .int .i64 z72] 32), (2, .row [.int .i64 0, .int .i64 0, .int .i64 0, .int .i64 0, .int .i64 0, .int .i64 0] 32), (1, .row (xGDeriv p2) 24), (0, .row (xGDeriv p1) 24)], 6⟩) rfl (op_store (sz_of Try.inf3) rfl rfl rfl rfl rfl rfl rfl rfl) rfl ?_
                    refine RS.done ?_
                    repeat refine gq ?_
                    exact ⟨_, _, ⟨(mDel eqGBracket w70 x77), (IntKind.i64.wrap (z71 + 1)), hF, rfl, rfl⟩, (Nat.zero_le _), Gh.toC (n1 := 6) ⟨rfl, rfl, rfl, rfl, rfl, rfl, rfl, rfl, trivial⟩ rfl (Nat.zero_le _) (by simp)⟩
                  · skip
                    replace hF := cond_f h86 hF
                    repeat refine WPU.seq ?_
                    refine WPU.skip ?_
                    repeat refine gq ?_
                    exact ⟨_, _, ⟨w70, z71, hF, rfl, rfl⟩, (Nat.zero_le _), Gh.toC (n1 := 6) ⟨rfl, rfl, rfl, rfl, rfl, rfl, rfl, rfl, trivial⟩ rfl (Nat.zero_le _) (by simp)⟩
          · skip
            replace hF := cond_f h76 hF
            repeat refine WPU.seq ?_
            refine WPU.exit ?_
            repeat refine gq ?_
            exact ⟨_, _, ⟨w70, z71, z72, hF, rfl, rfl⟩, (Nat.zero_le _), Gh.toC (n1 := 5) ⟨rfl, rfl, trivial⟩ rfl (Nat.zero_le _) (by simp)⟩
    · skip
      rintro m2 _ _ ⟨z39, w40, hF, rfl, rfl⟩
      cases m2 with
      | zero => cases hF
      | succ m2 =>
        unfold evaluate_Match_L2 at hF
        repeat refine WPU.seq ?_
        refine WPU.region Try.tb_ok ?_
        refine RS.op rfl (op_int rfl rfl (ix_lss _ _ _) rfl) rfl rfl ?_
        refine RS.done ?_
        repeat refine gq ?_
        repeat refine WPU.seq ?_
        refine WPU.condS (t := (decide (z39 < (r3.length : Int)))) rfl (fun h89 => ?_) (fun h89 => ?_)
        · skip
          replace hF := cond_t h89 hF
          repeat refine WPU.seq ?_
          refine WPU.skip ?_
          repeat refine gq ?_
          repeat refine WPU.seq ?_
          refine WPU.block ?_
          repeat refine WPU.seq ?_
          obtain ⟨x90, h91, hF⟩ := bindO_some hF
          refine WPU.region Try.tb_ok ?_
          refine RS.op (u := .iptr (cGBracket x90)) rfl (op_ia rfl rfl (ia_isl cGBracket Try.und28 (sz_of Try.inf53) len_cGBracket h91 rfl)) rfl rfl ?_
          refine RS.op (u := .agg (cGBracket x90)) rfl (li_agg Try.und53 rfl (sz_of Try.inf53) rfl rfl) rfl rfl ?_
          refine RS.op (u := .ptr 5 0 0) (σ' := ⟨[(5, .row [.str [], .int .i64 0, .int .i64 0] 53), (4, .map (List.map (mE (fun x => .agg (cGBracket x)) (fun x => .int .i64 x)) w40.es) w40.cl), (3, .row [.int .i64 1, .int .i64 z10, .int .i64 (r3.length : Int), .int .i64 (r5.length : Int), .int .i64 0, .int .i64 0] 32), (2, .row [.int .i64 0, .int .i64 0, .int .i64 0, .int .i64 0, .int .i64 0, .int .i64 0] 32), (1, .row (xGDeriv p2) 24), (0, .row (xGDeriv p1) 24)], 6⟩) rfl (op_alloc Try.inf53 rfl rfl) rfl rfl ?_
          refine RS.opn (u := .junk) (σ' := ⟨[(5, .row (cGBracket x90) 53), (4, .map (List.map (mE (fun x => .agg (cGBracket x)) (fun x => .int .i64 x)) w40.es) w40.cl), (3, .row [.int .i64 1, .int .i64 z10, .int .i64 (r3.length : Int), .int .i64 (r5.length : Int), .int .i64 0, .int .i64 0] 32), (2, .row [.int .i64 0, .int .i64 0, .int .i64 0, .int .i64 0, .int .i64 0, .int .i64 0] 32), (1, .row (xGDeriv p2) 24), (0, .row (xGDeriv p1) 24)], 6⟩) rfl (op_store (sz_of Try.inf53) rfl rfl rfl rfl rfl rfl rfl rfl) rfl ?_
          refine RS.done ?_
          repeat refine gq ?_
          repeat refine WPU.seq ?_
          obtain ⟨w92, h93, hF⟩ := bindO_some hF
          refine WPU.drawE Try.tb_ok [(2, 4), (3, 4)] (by kernel_rfl) ?_
          refine RD.look rfl (op_move rfl) rfl rfl ?_
          refine RD.look (u := .agg (cGBracket x90)) rfl (ld_agg Try.und53 rfl (sz_of Try.inf53) rfl rfl rfl) rfl rfl ?_
          refine RD.look (u := .int .i64 ((mGet eqGBracket w40 x90).getD 0)) rfl (op_look (kU := (fun x => .agg (cGBracket x))) (vU := (fun x => .int .i64 x)) (m := w40) (k := x90) (zv := 0) key53 Try.und59 rfl rfl rfl Try.inf3 rfl) rfl rfl ?_
          refine RD.look rfl (op_int rfl rfl (ix_add _ _ _) rfl) rfl rfl ?_
          refine RD.act (u := .tup [.int .i64 ((mEntV eqGBracket 0 w40 x90).1), .int .i64 ((mEntV eqGBracket 0 w40 x90).2 : Int)]) (σ' := ⟨[(5, .row (cGBracket x90) 53), (4, .map (List.map (mE (fun x => .agg (cGBracket x)) (fun x => .int .i64 x)) (mEntM eqGBracket 0 w40 x90).es) (mEntM eqGBracket 0 w40 x90).cl), (3, .row [.int .i64 1, .int .i64 z10, .int .i64 (r3.length : Int), .int .i64 (r5.length : Int), .int .i64 0, .int .i64 0] 32), (2, .row [.int .i64 0, .int .i64 0, .int .i64 0, .int .i64 0, .int .i64 0, .int .i64 0] 32), (1, .row (xGDeriv p2) 24), (0, .row (xGDeriv p1) 24)], 6⟩) rfl (op_ment (kU := (fun x => .agg (cGBracket x))) (vU := (fun x => .int .i64 x)) (m := w40) (k := x90) (zv := 0) key53 Try.und59 rfl rfl rfl Try.inf3 rfl rfl) rfl rfl ?_
          refine RD.look rfl (op_ext rfl rfl) rfl rfl ?_
          refine RD.actn (u := .junk) (σ' := ⟨[(5, .row (cGBracket x90) 53), (4, .map (List.map (mE (fun x => .agg (cGBracket x)) (fun x => .int .i64 x)) w92.es) w92.cl), (3, .row [.int .i64 1, .int .i64 z10, .int .i64 (r3.length : Int), .int .i64 (r5.length : Int), .int .i64 0, .int .i64 0] 32), (2, .row [.int .i64 0, .int .i64 0, .int .i64 0, .int .i64 0, .int .i64 0, .int .i64 0] 32), (1, .row (xGDeriv p2) 24), (0, .row (xGDeriv p1) 24)], 6⟩) rfl (op_mst (kU := (fun x => .agg (cGBracket x))) (vU := (fun x => .int .i64 x)) (m := (mEntM eqGBracket 0 w40 x90)) (v := (IntKind.i64.wrap (((mGet eqGBracket w40 x90).getD 0) + 1))) rfl rfl rfl rfl h93 rfl) rfl ?_
          refine RD.done ⟨by kernel_rfl, ⟨op_lookE (kU := (fun x => .agg (cGBracket x))) (vU := (fun x => .int .i64 x)) (m := w40) (k := x90) (zv := 0) key53 Try.und59 rfl rfl rfl Try.inf3 rfl (by first | exact bytes_refl _ | simp [eqGBracket, bytes_refl]), ⟨op_int rfl rfl (ix_add _ _ _) rfl, trivial⟩⟩, ?_⟩
          repeat refine gq ?_
          repeat refine WPU.seq ?_
          refine WPU.region Try.tb_ok ?_
          refine RS.op rfl (op_int rfl rfl (ix_add _ _ _) rfl) rfl rfl ?_
          refine RS.op rfl (op_move rfl) rfl rfl ?_
          refine RS.done ?_
          repeat refine gq ?_
          exact ⟨m2, _, _, Nat.lt_succ_self _, ⟨(IntKind.i64.wrap (z39 + 1)), w92, hF, rfl, rfl⟩, (Nat.zero_le _), Gh.toC (n1 := 5) ⟨rfl, rfl, rfl, rfl, rfl, rfl, rfl, rfl, trivial⟩ rfl (Nat.zero_le _) (by simp)⟩
        · skip
          replace hF := cond_f h89 hF
          repeat refine WPU.seq ?_
          refine WPU.exit ?_
          repeat refine gq ?_
          exact ⟨_, _, ⟨w40, hF, rfl, rfl⟩, (Nat.zero_le _), Gh.toC (n1 := 5) ⟨rfl, rfl, rfl, rfl, rfl, trivial⟩ rfl (Nat.zero_le _) (by simp)⟩
  · skip
    refine WPU.condS (t := (r7 == 0)) rfl (fun h9 => ?_) (fun h9 => ?_)
    · skip
      replace hF := cond_t h9 hF
      repeat refine WPU.seq ?_
      refine WPU.region Try.tb_ok ?_
      refine RS.op (u := .ptr 3 0 1) rfl (op_fa Try.und32 rfl (sz_of Try.inf3) rfl rfl rfl) rfl rfl ?_
      refine RS.opn (u := .junk) (σ' := ⟨[(3, .row [.int .i64 1, .int .i64 1, .int .i64 (r3.length : Int), .int .i64 (r5.length : Int), .int .i64 0, .int .i64 0] 32), (2, .row [.int .i64 0, .int .i64 0, .int .i64 0, .int .i64 0, .int .i64 0, .int .i64 0] 32), (1, .row (xGDeriv p2) 24), (0, .row (xGDeriv p1) 24)], 4⟩) rfl (op_store (sz_of Try.inf3) rfl rfl rfl rfl rfl rfl rfl rfl) rfl ?_
      refine RS.done ?_
      repeat refine gq ?_
      exact ⟨_, _, ⟨1, hF, rfl, rfl⟩, (Nat.zero_le _), Gh.toC (n1 := 4) ⟨rfl, rfl, rfl, rfl, trivial⟩ rfl (Nat.zero_le _) (by simp)⟩
    · skip
      replace hF := cond_f h9 hF
      repeat refine WPU.seq ?_
      refine WPU.skip ?_
      repeat refine gq ?_
      exact ⟨_, _, ⟨0, hF, rfl, rfl⟩, (Nat.zero_le _), Gh.toC (n1 := 4) ⟨rfl, rfl, rfl, rfl, trivial⟩ rfl (Nat.zero_le _) (by simp)⟩
theorem evaluate_Match_ok (n : Nat) (p1 : GDeriv) (p2 : GDeriv) (r : GMetrics) (hF : evaluate_Match n p1 p2 = some r) (σ : Sg) : EvU Try.prog 15 [.agg (xGDeriv p1), .agg (xGDeriv p2)] σ (fun u σ' => u = .agg (cGMetrics r) ∧ σ' = σ) :=
  EvU.pure1C (evaluate_Match_0 n p1 p2 r hF) σ
def ref50_common_J2 (rc1 : Int → Int → Int → Option (Int)) (z21 : Int) (z22 : Int) (z23 : Int) : Option (Int) :=
  rc1 z21 z22 z23
def ref50_common_J3 (z8 : Int) (rc1 : Int → Int → Int → Option (Int)) (z31 : Int) (z32 : Int) : Option (Int) :=
  ref50_common_J2 rc1 z8 z31 z32
def ref50_common_K1  (z11 : Int) : Option (Int) :=
  some z11
def ref50_common_L1 (p1 : List GBracket) (p2 : List GBracket) (n : Nat) : Nat → Int → Int → Int → Option (Int)
  | 0, _, _, _ => none
  | m1 + 1, z8, z9, z10 =>
    bindO (cond (decide (z9 < (p1.length : Int)))
      (some (decide (z10 < (p2.length : Int))))
      (some false)) fun b13 =>
    cond b13
      (bindO (idxO p1 z9) fun x16 =>
      bindO (idxO p2 z10) fun x18 =>
      cond (eqGBracket x16 x18)
        (ref50_common_J2 (ref50_common_L1 p1 p2 n m1) (IntKind.i64.wrap (z8 + 1)) (IntKind.i64.wrap (z9 + 1)) (IntKind.i64.wrap (z10 + 1)))
        (bindO (idxO p1 z9) fun x24 =>
        bindO (idxO p2 z10) fun x26 =>
        bindO (ref50_before n x24 x26) fun r28 =>
        cond r28
          (ref50_common_J3 z8 (ref50_common_L1 p1 p2 n m1) (IntKind.i64.wrap (z9 + 1)) z10)
          (ref50_common_J3 z8 (ref50_common_L1 p1 p2 n m1) z9 (IntKind.i64.wrap (z10 + 1)))))
      (ref50_common_K1 z8)
def ref50_common (n : Nat) (p1 : List GBracket) (p2 : List GBracket) : Option (Int) :=
  ref50_common_L1 p1 p2 n n 0 0 0
theorem ref50_common_0 (n : Nat) (p1 : List GBracket) (p2 : List GBracket) (r : Int) (hF : ref50_common n p1 p2 = some r) : EvU Try.prog 37 [.isl false (List.map cGBracket p1), .isl false (List.map cGBracket p2)] ⟨[], 0⟩ (fun u _ => u = .int .i64 r ∧ Bel 0 u) := by
  unfold ref50_common at hF
  refine EvU.of_body Try.tb_ok Try.fn37 rfl ?_
  refine WPU.ghost (tm' := fr 47 [(0, .isl false (List.map cGBracket p1)), (1, .isl false (List.map cGBracket p2))]) (Gh.start (Nat.le_of_ble_eq_true rfl)) (Nat.zero_le _) ?_
  repeat refine WPU.seq ?_
  refine WPU.region Try.tb_ok ?_
  refine RS.op rfl (op_assign rfl) rfl rfl ?_
  refine RS.done ?_
  repeat refine gq ?_
  repeat refine WPU.seq ?_
  refine WPU.region Try.tb_ok ?_
  repeat refine RS.op rfl (op_assign rfl) rfl rfl ?_
  refine RS.done ?_
  repeat refine gq ?_
  repeat refine WPU.seq ?_
  refine WPU.ghost (tm' := fr 47 [(0, .isl false (List.map cGBracket p1)), (1, .isl false (List.map cGBracket p2)), (5, .int .i64 0), (6, .int .i64 0), (7, .int .i64 0)]) (Gh.sub ⟨rfl, rfl, rfl, rfl, rfl, trivial⟩) (Nat.zero_le _) ?_
  refine WPU.loopK (fun m tm σ => ∃ z8 : Int, ∃ z9 : Int, ∃ z10 : Int, ref50_common_L1 p1 p2 n m z8 z9 z10 = some r ∧ tm = fr 47 [(0, .isl false (List.map cGBracket p1)), (1, .isl false (List.map cGBracket p2)), (5, .int .i64 z8), (6, .int .i64 z9), (7, .int .i64 z10)] ∧ σ = ⟨[], 0⟩) (fun tm σ => ∃ z11 : Int, ref50_common_K1 z11 = some r ∧ tm = fr 47 [(5, .int .i64 z11)] ∧ σ = ⟨[], 0⟩) n ⟨0, 0, 0, hF, rfl, rfl⟩ ?_ ?_
  · skip
    rintro _ _ ⟨z11, hF, rfl, rfl⟩
    unfold ref50_common_K1 at hF
    repeat refine gq ?_
    repeat refine WPU.seq ?_
    refine WPU.region Try.tb_ok ?_
    refine RS.op rfl (op_move rfl) rfl rfl ?_
    refine RS.op rfl (op_assign rfl) rfl rfl ?_
    refine RS.done ?_
    repeat refine gq ?_
    repeat refine WPU.seq ?_
    refine WPU.ret ?_
    repeat refine gq ?_
    have hr := Option.some.inj hF
    subst hr
    exact ⟨.inr rfl, [.int .i64 z11], res_t rfl (res_n), .int .i64 z11, ⟨[], 0⟩, Nat.le_refl _, Gh.toR (.int .i64 z11) rfl, rfl, BU.h⟩
  · skip
    rintro m1 _ _ ⟨z8, z9, z10, hF, rfl, rfl⟩
    cases m1 with
    | zero => cases hF
    | succ m1 =>
      unfold ref50_common_L1 at hF
      repeat refine WPU.seq ?_
      obtain ⟨b13, h14, hF⟩ := bindO_some hF
      refine WPU.joinK (fun tm σ => tm = fr 47 [(0, .isl false (List.map cGBracket p1)), (1, .isl false (List.map cGBracket p2)), (5, .int .i64 z8), (6, .int .i64 z9), (7, .int .i64 z10), (17, .bool b13)] ∧ σ = ⟨[], 0⟩) ?_ ?_
      · skip
        rintro _ _ ⟨rfl, rfl⟩
        repeat refine gq ?_
        repeat refine WPU.seq ?_
        refine WPU.condS (t := b13) rfl (fun h15 => ?_) (fun h15 => ?_)
        · skip
          replace hF := cond_t h15 hF
          repeat refine WPU.seq ?_
          refine WPU.skip ?_
          repeat refine gq ?_
          repeat refine WPU.seq ?_
          refine WPU.block ?_
          repeat refine WPU.seq ?_
          obtain ⟨x16, h17, hF⟩ := bindO_some hF
          obtain ⟨x18, h19, hF⟩ := bindO_some hF
          refine WPU.drawE Try.tb_ok [] (by kernel_rfl) ?_
          repeat refine RD.look rfl (op_move rfl) rfl rfl ?_
          refine RD.look (u := .iptr (cGBracket x16)) rfl (op_ia rfl rfl (ia_isl cGBracket Try.und28 (sz_of Try.inf53) len_cGBracket h17 rfl)) rfl rfl ?_
          refine RD.look (u := .agg (cGBracket x16)) rfl (li_agg Try.und53 rfl (sz_of Try.inf53) rfl rfl) rfl rfl ?_
          repeat refine RD.look rfl (op_move rfl) rfl rfl ?_
          refine RD.look (u := .iptr (cGBracket x18)) rfl (op_ia rfl rfl (ia_isl cGBracket Try.und28 (sz_of Try.inf53) len_cGBracket h19 rfl)) rfl rfl ?_
          refine RD.look (u := .agg (cGBracket x18)) rfl (li_agg Try.und53 rfl (sz_of Try.inf53) rfl rfl) rfl rfl ?_
          refine RD.look (u := .bool (eqGBracket x16 x18)) rfl (op_bin rfl rfl (eqq53_eql x16 x18)) rfl rfl ?_
          refine RD.done ⟨by kernel_rfl, trivial, ?_⟩
          repeat refine gq ?_
          repeat refine WPU.seq ?_
          refine WPU.joinK (fun tm σ => ∃ z21 : Int, ∃ z22 : Int, ∃ z23 : Int, ref50_common_J2 (ref50_common_L1 p1 p2 n m1) z21 z22 z23 = some r ∧ tm = fr 47 [(0, .isl false (List.map cGBracket p1)), (1, .isl false (List.map cGBracket p2)), (5, .int .i64 z21), (6, .int .i64 z22), (7, .int .i64 z23)] ∧ σ = ⟨[], 0⟩) ?_ ?_
          · skip
            rintro _ _ ⟨z21, z22, z23, hF, rfl, rfl⟩
            unfold ref50_common_J2 at hF
            repeat refine gq ?_
            exact ⟨m1, _, _, Nat.lt_succ_self _, ⟨z21, z22, z23, hF, rfl, rfl⟩, (Nat.zero_le _), Gh.toC (n1 := 0) ⟨rfl, rfl, rfl, rfl, rfl, trivial⟩ rfl (Nat.zero_le _) (by simp)⟩
          · skip
            refine WPU.condS (t := (eqGBracket x16 x18)) rfl (fun h20 => ?_) (fun h20 => ?_)
            · skip
              replace hF := cond_t h20 hF
              repeat refine WPU.seq ?_
              refine WPU.region Try.tb_ok ?_
              refine RS.op rfl (op_move rfl) rfl rfl ?_
              refine RS.op rfl (op_int rfl rfl (ix_add _ _ _) rfl) rfl rfl ?_
              refine RS.op rfl (op_assign rfl) rfl rfl ?_
              refine RS.done ?_
              repeat refine gq ?_
              repeat refine WPU.seq ?_
              refine WPU.region Try.tb_ok ?_
              refine RS.op rfl (op_move rfl) rfl rfl ?_
              refine RS.op rfl (op_int rfl rfl (ix_add _ _ _) rfl) rfl rfl ?_
              refine RS.op rfl (op_assign rfl) rfl rfl ?_
              refine RS.done ?_
              repeat refine gq ?_
              repeat refine WPU.seq ?_
              refine WPU.region Try.tb_ok ?_
              refine RS.op rfl (op_move rfl) rfl rfl ?_
              refine RS.op rfl (op_int rfl rfl (ix_add _ _ _) rfl) rfl rfl ?_
              refine RS.op rfl (op_assign rfl) rfl rfl ?_
              refine RS.done ?_
              repeat refine gq ?_
              exact ⟨_, _, ⟨(IntKind.i64.wrap (z8 + 1)), (IntKind.i64.wrap (z9 + 1)), (IntKind.i64.wrap (z10 + 1)), hF, rfl, rfl⟩, (Nat.zero_le _), Gh.toC (n1 := 0) ⟨rfl, rfl, rfl, rfl, rfl, trivial⟩ rfl (Nat.zero_le _) (by simp)⟩
            · skip
              replace hF := cond_f h20 hF
              repeat refine WPU.seq ?_
              obtain ⟨x24, h25, hF⟩ := bindO_some hF
              obtain ⟨x26, h27, hF⟩ := bindO_some hF
              obtain ⟨r28, h29, hF⟩ := bindO_some hF
              refine WPU.drawE Try.tb_ok [] (by kernel_rfl) ?_
              repeat refine RD.look rfl (op_move rfl) rfl rfl ?_
              refine RD.look (u := .iptr (cGBracket x24)) rfl (op_ia rfl rfl (ia_isl cGBracket Try.und28 (sz_of Try.inf53) len_cGBracket h25 rfl)) rfl rfl ?_
              refine RD.look (u := .agg (cGBracket x24)) rfl (li_agg Try.und53 rfl (sz_of Try.inf53) rfl rfl) rfl rfl ?_
              repeat refine RD.look rfl (op_move rfl) rfl rfl ?_
              refine RD.look (u := .iptr (cGBracket x26)) rfl (op_ia rfl rfl (ia_isl cGBracket Try.und28 (sz_of Try.inf53) len_cGBracket h27 rfl)) rfl rfl ?_
              refine RD.look (u := .agg (cGBracket x26)) rfl (li_agg Try.und53 rfl (sz_of Try.inf53) rfl rfl) rfl rfl ?_
              refine RD.free (u := .bool r28) (args := [.agg (cGBracket x24), .agg (cGBracket x26)]) rfl (op_call rfl rfl Try.fn48 Try.hb48 rfl rfl) (fun s => ref50_before_ok n x24 x26 r28 h29 s) rfl rfl ?_
              refine RD.done ⟨by kernel_rfl, trivial, ?_⟩
              repeat refine gq ?_
              repeat refine WPU.seq ?_
              refine WPU.joinK (fun tm σ => ∃ z31 : Int, ∃ z32 : Int, ref50_common_J3 z8 (ref50_common_L1 p1 p2 n m1) z31 z32 = some r ∧ tm = fr 47 [(0, .isl false (List.map cGBracket p1)), (1, .isl false (List.map cGBracket p2)), (5, .int .i64 z8), (6, .int .i64 z31), (7, .int .i64 z32)] ∧ σ = ⟨[], 0⟩) ?_ ?_
              · skip
                rintro _ _ ⟨z31, z32, hF, rfl, rfl⟩
                unfold ref50_common_J3 at hF
                repeat refine gq ?_
                exact ⟨_, _, ⟨z8, z31, z32, hF, rfl, rfl⟩, (Nat.zero_le _), Gh.toC (n1 := 0) ⟨rfl, rfl, rfl, rfl, rfl, trivial⟩ rfl (Nat.zero_le _) (by simp)⟩
              · skip
                refine WPU.condS (t := r28) rfl (fun h30 => ?_) (fun h30 => ?_)
                · skip
                  replace hF := cond_t h30 hF
                  repeat refine WPU.seq ?_
                  refine WPU.region Try.tb_ok ?_
                  refine RS.op rfl (op_move rfl) rfl rfl ?_
                  refine RS.op rfl (op_int rfl rfl (ix_add _ _ _) rfl) rfl rfl ?_
                  refine RS.op rfl (op_assign rfl) rfl rfl ?_
                  refine RS.done ?_
                  repeat refine gq ?_
                  exact ⟨_, _, ⟨(IntKind.i64.wrap (z9 + 1)), z10, hF, rfl, rfl⟩, (Nat.zero_le _), Gh.toC (n1 := 0) ⟨rfl, rfl, rfl, rfl, rfl, trivial⟩ rfl (Nat.zero_le _) (by simp)⟩
                · skip
                  replace hF := cond_f h30 hF
                  repeat refine WPU.seq ?_
                  refine WPU.region Try.tb_ok ?_
                  refine RS.op rfl (op_move rfl) rfl rfl ?_
                  refine RS.op rfl (op_int rfl rfl (ix_add _ _ _) rfl) rfl rfl ?_
                  refine RS.op rfl (op_assign rfl) rfl rfl ?_
                  refine RS.done ?_
                  repeat refine gq ?_
                  exact ⟨_, _, ⟨z9, (IntKind.i64.wrap (z10 + 1)), hF, rfl, rfl⟩, (Nat.zero_le _), Gh.toC (n1 := 0) ⟨rfl, rfl, rfl, rfl, rfl, trivial⟩ rfl (Nat.zero_le _) (by simp)⟩
        · skip
          replace hF := cond_f h15 hF
          repeat refine WPU.seq ?_
          refine WPU.exit ?_
          repeat refine gq ?_
          exact ⟨_, _, ⟨z8, hF, rfl, rfl⟩, (Nat.zero_le _), Gh.toC (n1 := 0) ⟨rfl, trivial⟩ rfl (Nat.zero_le _) (by simp)⟩
      · skip
        rcases bool_tf (decide (z9 < (p1.length : Int))) with h12 | h12
        · skip
          replace h14 := cond_t h12 h14
          replace h14 := Option.some.inj h14
          subst h14
          refine WPU.region Try.tb_ok ?_
          repeat refine RS.op rfl (op_move rfl) rfl rfl ?_
          refine RS.op rfl (op_len rfl rfl rfl (len_isl cGBracket Try.und28)) rfl rfl ?_
          refine RS.op rfl (op_int rfl rfl (ix_lss _ _ _) rfl) rfl rfl ?_
          refine RS.op rfl (op_move rfl) rfl rfl ?_
          refine RS.op (want1 rfl rfl rfl h12) (op_move rfl) rfl rfl ?_
          refine RS.op (want1 rfl rfl rfl h12) (op_move rfl) rfl rfl ?_
          refine RS.op (want1 rfl rfl rfl h12) (op_len rfl rfl rfl (len_isl cGBracket Try.und28)) rfl rfl ?_
          refine RS.op (want1 rfl rfl rfl h12) (op_int rfl rfl (ix_lss _ _ _) rfl) rfl rfl ?_
          refine RS.op (u := .bool (decide (z10 < (p2.length : Int)))) rfl (op_pick1 rfl h12 rfl) rfl rfl ?_
          refine RS.done ?_
          repeat refine gq ?_
          exact ⟨_, _, ⟨rfl, rfl⟩, (Nat.zero_le _), Gh.toC (n1 := 0) ⟨rfl, rfl, rfl, rfl, rfl, rfl, trivial⟩ rfl (Nat.zero_le _) (by simp)⟩
        · skip
          replace h14 := cond_f h12 h14
          replace h14 := Option.some.inj h14
          subst h14
          refine WPU.region Try.tb_ok ?_
          repeat refine RS.op rfl (op_move rfl) rfl rfl ?_
          refine RS.op rfl (op_len rfl rfl rfl (len_isl cGBracket Try.und28)) rfl rfl ?_
          refine RS.op rfl (op_int rfl rfl (ix_lss _ _ _) rfl) rfl rfl ?_
          refine RS.op rfl (op_move rfl) rfl rfl ?_
          repeat refine RS.no (want0 rfl rfl rfl h12) rfl rfl ?_
          refine RS.op (u := .bool false) rfl (op_pick0 rfl h12 rfl) rfl rfl ?_
          refine RS.done ?_
          repeat refine gq ?_
          exact ⟨_, _, ⟨rfl, rfl⟩, (Nat.zero_le _), Gh.toC (n1 := 0) ⟨rfl, rfl, rfl, rfl, rfl, rfl, trivial⟩ rfl (Nat.zero_le _) (by simp)⟩
theorem ref50_common_ok (n : Nat) (p1 : List GBracket) (p2 : List GBracket) (r : Int) (hF : ref50_common n p1 p2 = some r) (σ : Sg) : EvU Try.prog 37 [.isl false (List.map cGBracket p1), .isl false (List.map cGBracket p2)] σ (fun u σ' => u = .int .i64 r ∧ σ' = σ) :=
  EvU.pure1C (ref50_common_0 n p1 p2 r hF) σ
def ref50_Equal_K1   : Option (Bool) :=
  some true
def ref50_Equal_L1 (p1 : GDeriv) (p2 : GDeriv) (self : GDeriv → GDeriv → Option (Bool)) : Nat → Int → Option (Bool)
  | 0, _ => none
  | m1 + 1, z21 =>
    cond (decide (z21 < (p1.Kids.length : Int)))
      (bindO (idxO p1.Kids z21) fun x23 =>
      bindO (idxO p2.Kids z21) fun x25 =>
      bindO (self x23 x25) fun r27 =>
      cond (!r27)
        (some false)
        ((ref50_Equal_L1 p1 p2 self m1) (IntKind.i64.wrap (z21 + 1))))
      (ref50_Equal_K1)
def ref50_Equal_b (n : Nat) (self : GDeriv → GDeriv → Option (Bool)) (p1 : GDeriv) (p2 : GDeriv) : Option (Bool) :=
  bindO (cond (p1.Kind != p2.Kind)
    (some true)
    (cond (!bytesEq p1.Name p2.Name)
      (some true)
      (cond (p1.From != p2.From)
        (some true)
        (cond (p1.To != p2.To)
          (some true)
          (some ((p1.Kids.length : Int) != (p2.Kids.length : Int))))))) fun b7 =>
  cond b7
    (some false)
    (ref50_Equal_L1 p1 p2 self n 0)
def ref50_Equal : Nat → GDeriv → GDeriv → Option (Bool)
  | 0, _, _ => none
  | n + 1, p1, p2 => ref50_Equal_b n (ref50_Equal n) p1 p2
theorem ref50_Equal_0 : ∀ (n : Nat) (p1 : GDeriv) (p2 : GDeriv) (r : Bool), ref50_Equal n p1 p2 = some r → EvU Try.prog 38 [.agg (xGDeriv p1), .agg (xGDeriv p2)] ⟨[], 0⟩ (fun u _ => u = .bool r ∧ Bel 0 u)
  | 0, p1, p2, r, hF => by cases hF
  | n + 1, p1, p2, r, hF => by
    have ih := ref50_Equal_0 n
    have ihS : ∀ (p1 : GDeriv) (p2 : GDeriv) (r : Bool), ref50_Equal n p1 p2 = some r → ∀ σ, EvU Try.prog 38 [.agg (xGDeriv p1), .agg (xGDeriv p2)] σ (fun u σ' => u = .bool r ∧ σ' = σ) := fun p1 p2 r h σ => EvU.pure1C (ih p1 p2 r h) σ
    unfold ref50_Equal ref50_Equal_b at hF
    refine EvU.of_body Try.tb_ok Try.fn38 rfl ?_
    refine WPU.ghost (tm' := fr 60 [(0, .agg (xGDeriv p1)), (1, .agg (xGDeriv p2))]) (Gh.start (Nat.le_of_ble_eq_true rfl)) (Nat.zero_le _) ?_
    repeat refine WPU.seq ?_
    refine WPU.region Try.tb_ok ?_
    refine RS.op (u := .ptr 0 0 0) (σ' := ⟨[(0, .row (xGDeriv p1) 24)], 1⟩) rfl (op_box rfl rfl rfl) rfl rfl ?_
    refine RS.op (u := .ptr 1 0 0) (σ' := ⟨[(1, .row (xGDeriv p2) 24), (0, .row (xGDeriv p1) 24)], 2⟩) rfl (op_box rfl rfl rfl) rfl rfl ?_
    refine RS.op rfl (op_assign rfl) rfl rfl ?_
    refine RS.done ?_
    repeat refine gq ?_
    repeat refine WPU.seq ?_
    obtain ⟨b7, h8, hF⟩ := bindO_some hF
    refine WPU.joinK (fun tm σ => tm = fr 60 [(2, .ptr 0 0 0), (3, .ptr 1 0 0), (40, .bool b7)] ∧ σ = ⟨[(1, .row (xGDeriv p2) 24), (0, .row (xGDeriv p1) 24)], 2⟩) ?_ ?_
    · skip
      rintro _ _ ⟨rfl, rfl⟩
      repeat refine gq ?_
      repeat refine WPU.seq ?_
      refine WPU.condS (t := b7) rfl (fun h9 => ?_) (fun h9 => ?_)
      · skip
        replace hF := cond_t h9 hF
        repeat refine WPU.seq ?_
        refine WPU.region Try.tb_ok ?_
        refine RS.op rfl (op_assign rfl) rfl rfl ?_
        refine RS.done ?_
        repeat refine gq ?_
        repeat refine WPU.seq ?_
        refine WPU.ret ?_
        repeat refine gq ?_
        have hr := Option.some.inj hF
        subst hr
        exact ⟨.inr rfl, [.bool false], res_t rfl (res_n), .bool false, ⟨[], 0⟩, Nat.le_refl _, Gh.toR (.bool false) rfl, rfl, BU.h⟩
      · skip
        replace hF := cond_f h9 hF
        repeat refine WPU.seq ?_
        refine WPU.skip ?_
        repeat refine gq ?_
        repeat refine WPU.seq ?_
        refine WPU.region Try.tb_ok ?_
        refine RS.op rfl (op_assign rfl) rfl rfl ?_
        refine RS.done ?_
        repeat refine gq ?_
        repeat refine WPU.seq ?_
        refine WPU.ghost (tm' := fr 60 [(2, .ptr 0 0 0), (3, .ptr 1 0 0), (5, .int .i64 0)]) (Gh.sub ⟨rfl, rfl, rfl, trivial⟩) (Nat.zero_le _) ?_
        refine WPU.loopK (fun m tm σ => ∃ z21 : Int, ref50_Equal_L1 p1 p2 (ref50_Equal n) m z21 = some r ∧ tm = fr 60 [(2, .ptr 0 0 0), (3, .ptr 1 0 0), (5, .int .i64 z21)] ∧ σ = ⟨[(1, .row (xGDeriv p2) 24), (0, .row (xGDeriv p1) 24)], 2⟩) (fun tm σ => ref50_Equal_K1 = some r ∧ tm = fr 60 [] ∧ σ = ⟨[(1, .row (xGDeriv p2) 24), (0, .row (xGDeriv p1) 24)], 2⟩) n ⟨0, hF, rfl, rfl⟩ ?_ ?_
        · skip
          rintro _ _ ⟨hF, rfl, rfl⟩
          unfold ref50_Equal_K1 at hF
          repeat refine gq ?_
          repeat refine WPU.seq ?_
          refine WPU.region Try.tb_ok ?_
          refine RS.op rfl (op_assign rfl) rfl rfl ?_
          refine RS.done ?_
          repeat refine gq ?_
          repeat refine WPU.seq ?_
          refine WPU.ret ?_
          repeat refine gq ?_
          have hr := Option.some.inj hF
          subst hr
          exact ⟨.inr rfl, [.bool true], res_t rfl (res_n), .bool true, ⟨[], 0⟩, Nat.le_refl _, Gh.toR (.bool true) rfl, rfl, BU.h⟩
        · skip
          rintro m1 _ _ ⟨z21, hF, rfl, rfl⟩
          cases m1 with
          | zero => cases hF
          | succ m1 =>
            unfold ref50_Equal_L1 at hF
            repeat refine WPU.seq ?_
            refine WPU.region Try.tb_ok ?_
            refine RS.op rfl (op_move rfl) rfl rfl ?_
            refine RS.op (u := .ptr 0 0 4) rfl (op_fa Try.und24 rfl (sz_of Try.inf22) rfl rfl rfl) rfl rfl ?_
            refine RS.op (u := .isl false (List.map cGDeriv p1.Kids)) rfl (ld_one Try.und22 rfl rfl rfl rfl) rfl rfl ?_
            refine RS.op rfl (op_len rfl rfl rfl (len_isl cGDeriv Try.und22)) rfl rfl ?_
            refine RS.op rfl (op_int rfl rfl (ix_lss _ _ _) rfl) rfl rfl ?_
            refine RS.done ?_
            repeat refine gq ?_
            repeat refine WPU.seq ?_
            refine WPU.condS (t := (decide (z21 < (p1.Kids.length : Int)))) rfl (fun h22 => ?_) (fun h22 => ?_)
            · skip
              replace hF := cond_t h22 hF
              repeat refine WPU.seq ?_
              refine WPU.skip ?_
              repeat refine gq ?_
              repeat refine WPU.seq ?_
              refine WPU.block ?_
              repeat refine WPU.seq ?_
              obtain ⟨x23, h24, hF⟩ := bindO_some hF
              obtain ⟨x25, h26, hF⟩ := bindO_some hF
              obtain ⟨r27, h28, hF⟩ := bindO_some hF
              refine WPU.drawE Try.tb_ok [] (by kernel_rfl) ?_
              refine RD.look (u := .ptr 0 0 4) rfl (op_fa Try.und24 rfl (sz_of Try.inf22) rfl rfl rfl) rfl rfl ?_
              refine RD.look (u := .isl false (List.map cGDeriv p1.Kids)) rfl (ld_one Try.und22 rfl rfl rfl rfl) rfl rfl ?_
              refine RD.look rfl (op_move rfl) rfl rfl ?_
              refine RD.look (u := .iptr (xGDeriv x23)) rfl (op_ia rfl rfl (ia_isl cGDeriv Try.und22 (sz_of Try.inf24) len_cGDeriv h24 (cGDeriv_eq x23))) rfl rfl ?_
              refine RD.look (u := .agg (xGDeriv x23)) rfl (li_agg Try.und24 rfl (sz_of Try.inf24) rfl rfl) rfl rfl ?_
              refine RD.look (u := .ptr 1 0 4) rfl (op_fa Try.und24 rfl (sz_of Try.inf22) rfl rfl rfl) rfl rfl ?_
              refine RD.look (u := .isl false (List.map cGDeriv p2.Kids)) rfl (ld_one Try.und22 rfl rfl rfl rfl) rfl rfl ?_
              refine RD.look rfl (op_move rfl) rfl rfl ?_
              refine RD.look (u := .iptr (xGDeriv x25)) rfl (op_ia rfl rfl (ia_isl cGDeriv Try.und22 (sz_of Try.inf24) len_cGDeriv h26 (cGDeriv_eq x25))) rfl rfl ?_
              refine RD.look (u := .agg (xGDeriv x25)) rfl (li_agg Try.und24 rfl (sz_of Try.inf24) rfl rfl) rfl rfl ?_
              refine RD.free (u := .bool r27) (args := [.agg (xGDeriv x23), .agg (xGDeriv x25)]) rfl (op_call rfl rfl Try.fn38 Try.hb38 rfl rfl) (fun s => ihS x23 x25 r27 h28 s) rfl rfl ?_
              refine RD.look (u := .bool (!r27)) rfl (op_un rfl rfl rfl rfl) rfl rfl ?_
              refine RD.done ⟨by kernel_rfl, trivial, ?_⟩
              repeat refine gq ?_
              repeat refine WPU.seq ?_
              refine WPU.condS (t := (!r27)) rfl (fun h29 => ?_) (fun h29 => ?_)
              · skip
                replace hF := cond_t h29 hF
                repeat refine WPU.seq ?_
                refine WPU.region Try.tb_ok ?_
                refine RS.op rfl (op_assign rfl) rfl rfl ?_
                refine RS.done ?_
                repeat refine gq ?_
                repeat refine WPU.seq ?_
                refine WPU.ret ?_
                repeat refine gq ?_
                have hr := Option.some.inj hF
                subst hr
                exact ⟨.inr rfl, [.bool false], res_t rfl (res_n), .bool false, ⟨[], 0⟩, Nat.le_refl _, Gh.toR (.bool false) rfl, rfl, BU.h⟩
              · skip
                replace hF := cond_f h29 hF
                repeat refine WPU.seq ?_
                refine WPU.skip ?_
                repeat refine gq ?_
                repeat refine WPU.seq ?_
                refine WPU.region Try.tb_ok ?_
                refine RS.op rfl (op_move rfl) rfl rfl ?_
                refine RS.op rfl (op_int rfl rfl (ix_add _ _ _) rfl) rfl rfl ?_
                refine RS.op rfl (op_assign rfl) rfl rfl ?_
                refine RS.done ?_
                repeat refine gq ?_
                exact ⟨m1, _, _, Nat.lt_succ_self _, ⟨(IntKind.i64.wrap (z21 + 1)), hF, rfl, rfl⟩, (Nat.zero_le _), Gh.toC (n1 := 2) ⟨rfl, rfl, rfl, trivial⟩ rfl (Nat.zero_le _) (by simp)⟩
            · skip
              replace hF := cond_f h22 hF
              repeat refine WPU.seq ?_
              refine WPU.exit ?_
              repeat refine gq ?_
              exact ⟨_, _, ⟨hF, rfl, rfl⟩, (Nat.zero_le _), Gh.toC (n1 := 2) trivial rfl (Nat.zero_le _) (by simp)⟩
    · skip
      rcases bool_tf (p1.Kind != p2.Kind) with h3 | h3
      · skip
        replace h8 := cond_t h3 h8
        replace h8 := Option.some.inj h8
        subst h8
        refine WPU.region Try.tb_ok ?_
        refine RS.op (u := .ptr 0 0 0) rfl (op_fa Try.und24 rfl (sz_of Try.inf3) rfl rfl rfl) rfl rfl ?_
        refine RS.op (u := .int .i64 p1.Kind) rfl (ld_one Try.und3 rfl rfl rfl rfl) rfl rfl ?_
        refine RS.op (u := .ptr 1 0 0) rfl (op_fa Try.und24 rfl (sz_of Try.inf3) rfl rfl rfl) rfl rfl ?_
        refine RS.op (u := .int .i64 p2.Kind) rfl (ld_one Try.und3 rfl rfl rfl rfl) rfl rfl ?_
        refine RS.op rfl (op_int rfl rfl (ix_neq _ _ _) rfl) rfl rfl ?_
        refine RS.op rfl (op_move rfl) rfl rfl ?_
        repeat refine RS.no (want0 rfl rfl rfl h3) rfl rfl ?_
        refine RS.op (u := .bool true) rfl (op_pick1 rfl h3 rfl) rfl rfl ?_
        refine RS.op rfl (op_move rfl) rfl rfl ?_
        repeat refine RS.no (want0 rfl rfl rfl rfl) rfl rfl ?_
        refine RS.op (u := .bool true) rfl (op_pick1 rfl rfl rfl) rfl rfl ?_
        refine RS.op rfl (op_move rfl) rfl rfl ?_
        repeat refine RS.no (want0 rfl rfl rfl rfl) rfl rfl ?_
        refine RS.op (u := .bool true) rfl (op_pick1 rfl rfl rfl) rfl rfl ?_
        refine RS.op rfl (op_move rfl) rfl rfl ?_
        repeat refine RS.no (want0 rfl rfl rfl rfl) rfl rfl ?_
        refine RS.op (u := .bool true) rfl (op_pick1 rfl rfl rfl) rfl rfl ?_
        refine RS.done ?_
        repeat refine gq ?_
        exact ⟨_, _, ⟨rfl, rfl⟩, (Nat.zero_le _), Gh.toC (n1 := 2) ⟨rfl, rfl, rfl, trivial⟩ rfl (Nat.zero_le _) (by simp)⟩
      · skip
        replace h8 := cond_f h3 h8
        rcases bool_tf (!bytesEq p1.Name p2.Name) with h4 | h4
        · skip
          replace h8 := cond_t h4 h8
          replace h8 := Option.some.inj h8
          subst h8
          refine WPU.region Try.tb_ok ?_
          refine RS.op (u := .ptr 0 0 0) rfl (op_fa Try.und24 rfl (sz_of Try.inf3) rfl rfl rfl) rfl rfl ?_
          refine RS.op (u := .int .i64 p1.Kind) rfl (ld_one Try.und3 rfl rfl rfl rfl) rfl rfl ?_
          refine RS.op (u := .ptr 1 0 0) rfl (op_fa Try.und24 rfl (sz_of Try.inf3) rfl rfl rfl) rfl rfl ?_
          refine RS.op (u := .int .i64 p2.Kind) rfl (ld_one Try.und3 rfl rfl rfl rfl) rfl rfl ?_
          refine RS.op rfl (op_int rfl rfl (ix_neq _ _ _) rfl) rfl rfl ?_
          refine RS.op rfl (op_move rfl) rfl rfl ?_
          refine RS.op (u := .ptr 0 0 1) (want1 rfl rfl rfl h3) (op_fa Try.und24 rfl (sz_of Try.inf9) rfl rfl rfl) rfl rfl ?_
          refine RS.op (u := .str p1.Name) (want1 rfl rfl rfl h3) (ld_one Try.und9 rfl rfl rfl rfl) rfl rfl ?_
          refine RS.op (u := .ptr 1 0 1) (want1 rfl rfl rfl h3) (op_fa Try.und24 rfl (sz_of Try.inf9) rfl rfl rfl) rfl rfl ?_
          refine RS.op (u := .str p2.Name) (want1 rfl rfl rfl h3) (ld_one Try.und9 rfl rfl rfl rfl) rfl rfl ?_
          refine RS.op (u := .bool (!bytesEq p1.Name p2.Name)) (want1 rfl rfl rfl h3) (op_str rfl rfl rfl rfl) rfl rfl ?_
          refine RS.op (u := .bool (!bytesEq p1.Name p2.Name)) rfl (op_pick0 rfl h3 rfl) rfl rfl ?_
          refine RS.op rfl (op_move rfl) rfl rfl ?_
          repeat refine RS.no (want0 rfl rfl rfl h4) rfl rfl ?_
          refine RS.op (u := .bool true) rfl (op_pick1 rfl h4 rfl) rfl rfl ?_
          refine RS.op rfl (op_move rfl) rfl rfl ?_
          repeat refine RS.no (want0 rfl rfl rfl rfl) rfl rfl ?_
          refine RS.op (u := .bool true) rfl (op_pick1 rfl rfl rfl) rfl rfl ?_
          refine RS.op rfl (op_move rfl) rfl rfl ?_
          repeat refine RS.no (want0 rfl rfl rfl rfl) rfl rfl ?_
          refine RS.op (u := .bool true) rfl (op_pick1 rfl rfl rfl) rfl rfl ?_
          refine RS.done ?_
          repeat refine gq ?_
          exact ⟨_, _, ⟨rfl, rfl⟩, (Nat.zero_le _), Gh.toC (n1 := 2) ⟨rfl, rfl, rfl, trivial⟩ rfl (Nat.zero_le _) (by simp)⟩
        · skip
          replace h8 := cond_f h4 h8
          rcases bool_tf (p1.From != p2.From) with h5 | h5
          · skip
            replace h8 := cond_t h5 h8
            replace h8 := Option.some.inj h8
            subst h8
            refine WPU.region Try.tb_ok ?_
            refine RS.op (u := .ptr 0 0 0) rfl (op_fa Try.und24 rfl (sz_of Try.inf3) rfl rfl rfl) rfl rfl ?_
            refine RS.op (u := .int .i64 p1.Kind) rfl (ld_one Try.und3 rfl rfl rfl rfl) rfl rfl ?_
            refine RS.op (u := .ptr 1 0 0) rfl (op_fa Try.und24 rfl (sz_of Try.inf3) rfl rfl rfl) rfl rfl ?_
            refine RS.op (u := .int .i64 p2.Kind) rfl (ld_one Try.und3 rfl rfl rfl rfl) rfl rfl ?_
            refine RS.op rfl (op_int rfl rfl (ix_neq _ _ _) rfl) rfl rfl ?_
            refine RS.op rfl (op_move rfl) rfl rfl ?_
            refine RS.op (u := .ptr 0 0 1) (want1 rfl rfl rfl h3) (op_fa Try.und24 rfl (sz_of Try.inf9) rfl rfl rfl) rfl rfl ?_
            refine RS.op (u := .str p1.Name) (want1 rfl rfl rfl h3) (ld_one Try.und9 rfl rfl rfl rfl) rfl rfl ?_
            refine RS.op (u := .ptr 1 0 1) (want1 rfl rfl rfl h3) (op_fa Try.und24 rfl (sz_of Try.inf9) rfl rfl rfl) rfl rfl ?_
            refine RS.op (u := .str p2.Name) (want1 rfl rfl rfl h3) (ld_one Try.und9 rfl rfl rfl rfl) rfl rfl ?_
            refine RS.op (u := .bool (!bytesEq p1.Name p2.Name)) (want1 rfl rfl rfl h3) (op_str rfl rfl rfl rfl) rfl rfl ?_
            refine RS.op (u := .bool (!bytesEq p1.Name p2.Name)) rfl (op_pick0 rfl h3 rfl) rfl rfl ?_
            refine RS.op rfl (op_move rfl) rfl rfl ?_
            refine RS.op (u := .ptr 0 0 2) (want1 rfl rfl rfl h4) (op_fa Try.und24 rfl (sz_of Try.inf3) rfl rfl rfl) rfl rfl ?_
            refine RS.op (u := .int .i64 p1.From) (want1 rfl rfl rfl h4) (ld_one Try.und3 rfl rfl rfl rfl) rfl rfl ?_
            refine RS.op (u := .ptr 1 0 2) (want1 rfl rfl rfl h4) (op_fa Try.und24 rfl (sz_of Try.inf3) rfl rfl rfl) rfl rfl ?_
            refine RS.op (u := .int .i64 p2.From) (want1 rfl rfl rfl h4) (ld_one Try.und3 rfl rfl rfl rfl) rfl rfl ?_
            refine RS.op (want1 rfl rfl rfl h4) (op_int rfl rfl (ix_neq _ _ _) rfl) rfl rfl ?_
            refine RS.op (u := .bool (p1.From != p2.From)) rfl (op_pick0 rfl h4 rfl) rfl rfl ?_
            refine RS.op rfl (op_move rfl) rfl rfl ?_
            repeat refine RS.no (want0 rfl rfl rfl h5) rfl rfl ?_
            refine RS.op (u := .bool true) rfl (op_pick1 rfl h5 rfl) rfl rfl ?_
            refine RS.op rfl (op_move rfl) rfl rfl ?_
            repeat refine RS.no (want0 rfl rfl rfl rfl) rfl rfl ?_
            refine RS.op (u := .bool true) rfl (op_pick1 rfl rfl rfl) rfl rfl ?_
            refine RS.done ?_
            repeat refine gq ?_
            exact ⟨_, _, ⟨rfl, rfl⟩, (Nat.zero_le _), Gh.toC (n1 := 2) ⟨rfl, rfl, rfl, trivial⟩ rfl (Nat.zero_le _) (by simp)⟩
          · skip
            replace h8 := cond_f h5 h8
            rcases bool_tf (p1.To != p2.To) with h6 | h6
            · skip
              replace h8 := cond_t h6 h8
              replace h8 := Option.some.inj h8
              subst h8
              refine WPU.region Try.tb_ok ?_
              refine RS.op (u := .ptr 0 0 0) rfl (op_fa Try.und24 rfl (sz_of Try.inf3) rfl rfl rfl) rfl rfl ?_
              refine RS.op (u := .int .i64 p1.Kind) rfl (ld_one Try.und3 rfl rfl rfl rfl) rfl rfl ?_
              refine RS.op (u := .ptr 1 0 0) rfl (op_fa Try.und24 rfl (sz_of Try.inf3) rfl rfl rfl) rfl rfl ?_
              refine RS.op (u := .int .i64 p2.Kind) rfl (ld_one Try.und3 rfl rfl rfl rfl) rfl rfl ?_
              refine RS.op rfl (op_int rfl rfl (ix_neq _ _ _) rfl) rfl rfl ?_
              refine RS.op rfl (op_move rfl) rfl rfl ?_
              refine RS.op (u := .ptr 0 0 1) (want1 rfl rfl rfl h3) (op_fa Try.und24 rfl (sz_of Try.inf9) rfl rfl rfl) rfl rfl ?_
              refine RS.op (u := .str p1.Name) (want1 rfl rfl rfl h3) (ld_one Try.und9 rfl rfl rfl rfl) rfl rfl ?_
              refine RS.op (u := .ptr 1 0 1) (want1 rfl rfl rfl h3) (op_fa Try.und24 rfl (sz_of Try.inf9) rfl rfl rfl) rfl rfl ?_
              refine RS.op (u := .str p2.Name) (want1 rfl rfl rfl h3) (ld_one Try.und9 rfl rfl rfl rfl) rfl rfl ?_
              refine RS.op (u := .bool (!bytesEq p1.Name p2.Name)) (want1 rfl rfl rfl h3) (op_str rfl rfl rfl rfl) rfl rfl ?_
              refine RS.op (u := .bool (!bytesEq p1.Name p2.Name)) rfl (op_pick0 rfl h3 rfl) rfl rfl ?_
              refine RS.op rfl (op_move rfl) rfl rfl ?_
              refine RS.op (u := .ptr 0 0 2) (want1 rfl rfl rfl h4) (op_fa Try.und24 rfl (sz_of Try.inf3) rfl rfl rfl) rfl rfl ?_
              refine RS.op (u := .int .i64 p1.From) (want1 rfl rfl rfl h4) (ld_one Try.und3 rfl rfl rfl rfl) rfl rfl ?_
              refine RS.op (u := .ptr 1 0 2) (want1 rfl rfl rfl h4) (op_fa Try.und24 rfl (sz_of Try.inf3) rfl rfl rfl) rfl rfl ?_
              refine RS.op (u := .int .i64 p2.From) (want1 rfl rfl rfl h4) (ld_one Try.und3 rfl rfl rfl rfl) rfl rfl ?_
              refine RS.op (want1 rfl rfl rfl h4) (op_int rfl rfl (ix_neq _ _ _) rfl) rfl rfl ?_
              refine RS.op (u := .bool (p1.From != p2.From)) rfl (op_pick0 rfl h4 rfl) rfl rfl ?_
              refine RS.op rfl (op_move rfl) rfl rfl ?_
              refine RS.op (u := .ptr 0 0 3) (want1 rfl rfl rfl h5) (op_fa Try.und24 rfl (sz_of Try.inf3) rfl rfl rfl) rfl rfl ?_
              refine RS.op (u := .int .i64 p1.To) (want1 rfl rfl rfl h5) (ld_one Try.und3 rfl rfl rfl rfl) rfl rfl ?_
              refine RS.op (u := .ptr 1 0 3) (want1 rfl rfl rfl h5) (op_fa Try.und24 rfl (sz_of Try.inf3) rfl rfl rfl) rfl rfl ?_
              refine RS.op (u := .int .i64 p2.To) (want1 rfl rfl rfl h5) (ld_one Try.und3 rfl rfl rfl rfl) rfl rfl ?_
              refine RS.op (want1 rfl rfl rfl h5) (op_int rfl rfl (ix_neq _ _ _) rfl) rfl rfl ?_
              refine RS.op (u := .bool (p1.To != p2.To)) rfl (op_pick0 rfl h5 rfl) rfl rfl ?_
              refine RS.op rfl (op_move rfl) rfl rfl ?_
              repeat refine RS.no (want0 rfl rfl rfl h6) rfl rfl ?_
              refine RS.op (u := .bool true) rfl (op_pick1 rfl h6 rfl) rfl rfl ?_
              refine RS.done ?_
              repeat refine gq ?_
              exact ⟨_, _, ⟨rfl, rfl⟩, (Nat.zero_le _), Gh.toC (n1 := 2) ⟨rfl, rfl, rfl, trivial⟩ rfl (Nat.zero_le _) (by simp)⟩
            · skip
              replace h8 := cond_f h6 h8
              replace h8 := Option.some.inj h8
              subst h8
              refine WPU.region Try.tb_ok ?_
              refine RS.op (u := .ptr 0 0 0) rfl (op_fa Try.und24 rfl (sz_of Try.inf3) rfl rfl rfl) rfl rfl ?_
              refine RS.op (u := .int .i64 p1.Kind) rfl (ld_one Try.und3 rfl rfl rfl rfl) rfl rfl ?_
              refine RS.op (u := .ptr 1 0 0) rfl (op_fa Try.und24 rfl (sz_of Try.inf3) rfl rfl rfl) rfl rfl ?_
              refine RS.op (u := .int .i64 p2.Kind) rfl (ld_one Try.und3 rfl rfl rfl rfl) rfl rfl ?_
              refine RS.op rfl (op_int rfl rfl (ix_neq _ _ _) rfl) rfl rfl ?_
              refine RS.op rfl (op_move rfl) rfl rfl ?_
              refine RS.op (u := .ptr 0 0 1) (want1 rfl rfl rfl h3) (op_fa Try.und24 rfl (sz_of Try.inf9) rfl rfl rfl) rfl rfl ?_
              refine RS.op (u := .str p1.Name) (want1 rfl rfl rfl h3) (ld_one Try.und9 rfl rfl rfl rfl) rfl rfl ?_
              refine RS.op (u := .ptr 1 0 1) (want1 rfl rfl rfl h3) (op_fa Try.und24 rfl (sz_of Try.inf9) rfl rfl rfl) rfl rfl ?_
              refine RS.op (u := .str p2.Name) (want1 rfl rfl rfl h3) (ld_one Try.und9 rfl rfl rfl rfl) rfl rfl ?_
              refine RS.op (u := .bool (!bytesEq p1.Name p2.Name)) (want1 rfl rfl rfl h3) (op_str rfl rfl rfl rfl) rfl rfl ?_
              refine RS.op (u := .bool (!bytesEq p1.Name p2.Name)) rfl (op_pick0 rfl h3 rfl) rfl rfl ?_
              refine RS.op rfl (op_move rfl) rfl rfl ?_
              refine RS.op (u := .ptr 0 0 2) (want1 rfl rfl rfl h4) (op_fa Try.und24 rfl (sz_of Try.inf3) rfl rfl rfl) rfl rfl ?_
              refine RS.op (u := .int .i64 p1.From) (want1 rfl rfl rfl h4) (ld_one Try.und3 rfl rfl rfl rfl) rfl rfl ?_
              refine RS.op (u := .ptr 1 0 2) (want1 rfl rfl rfl h4) (op_fa Try.und24 rfl (sz_of Try.inf3) rfl rfl rfl) rfl rfl ?_
              refine RS.op (u := .int .i64 p2.From) (want1 rfl rfl rfl h4) (ld_one Try.und3 rfl rfl rfl rfl) rfl rfl ?_
              refine RS.op (want1 rfl rfl rfl h4) (op_int rfl rfl (ix_neq _ _ _) rfl) rfl rfl ?_
              refine RS.op (u := .bool (p1.From != p2.From)) rfl (op_pick0 rfl h4 rfl) rfl rfl ?_
              refine RS.op rfl (op_move rfl) rfl rfl ?_
              refine RS.op (u := .ptr 0 0 3) (want1 rfl rfl rfl h5) (op_fa Try.und24 rfl (sz_of Try.inf3) rfl rfl rfl) rfl rfl ?_
              refine RS.op (u := .int .i64 p1.To) (want1 rfl rfl rfl h5) (ld_one Try.und3 rfl rfl rfl rfl) rfl rfl ?_
              refine RS.op (u := .ptr 1 0 3) (want1 rfl rfl rfl h5) (op_fa Try.und24 rfl (sz_of Try.inf3) rfl rfl rfl) rfl rfl ?_
              refine RS.op (u := .int .i64 p2.To) (want1 rfl rfl rfl h5) (ld_one Try.und3 rfl rfl rfl rfl) rfl rfl ?_
              refine RS.op (want1 rfl rfl rfl h5) (op_int rfl rfl (ix_neq _ _ _) rfl) rfl rfl ?_
              refine RS.op (u := .bool (p1.To != p2.To)) rfl (op_pick0 rfl h5 rfl) rfl rfl ?_
              refine RS.op rfl (op_move rfl) rfl rfl ?_
              refine RS.op (u := .ptr 0 0 4) (want1 rfl rfl rfl h6) (op_fa Try.und24 rfl (sz_of Try.inf22) rfl rfl rfl) rfl rfl ?_
              refine RS.op (u := .isl false (List.map cGDeriv p1.Kids)) (want1 rfl rfl rfl h6) (ld_one Try.und22 rfl rfl rfl rfl) rfl rfl ?_
              refine RS.op (want1 rfl rfl rfl h6) (op_len rfl rfl rfl (len_isl cGDeriv Try.und22)) rfl rfl ?_
              refine RS.op (u := .ptr 1 0 4) (want1 rfl rfl rfl h6) (op_fa Try.und24 rfl (sz_of Try.inf22) rfl rfl rfl) rfl rfl ?_
              refine RS.op (u := .isl false (List.map cGDeriv p2.Kids)) (want1 rfl rfl rfl h6) (ld_one Try.und22 rfl rfl rfl rfl) rfl rfl ?_
              refine RS.op (want1 rfl rfl rfl h6) (op_len rfl rfl rfl (len_isl cGDeriv Try.und22)) rfl rfl ?_
              refine RS.op (want1 rfl rfl rfl h6) (op_int rfl rfl (ix_neq _ _ _) rfl) rfl rfl ?_
              refine RS.op (u := .bool ((p1.Kids.length : Int) != (p2.Kids.length : Int))) rfl (op_pick0 rfl h6 rfl) rfl rfl ?_
              refine RS.done ?_
              repeat refine gq ?_
              exact ⟨_, _, ⟨rfl, rfl⟩, (Nat.zero_le _), Gh.toC (n1 := 2) ⟨rfl, rfl, rfl, trivial⟩ rfl (Nat.zero_le _) (by simp)⟩
theorem ref50_Equal_ok (n : Nat) (p1 : GDeriv) (p2 : GDeriv) (r : Bool) (hF : ref50_Equal n p1 p2 = some r) (σ : Sg) : EvU Try.prog 38 [.agg (xGDeriv p1), .agg (xGDeriv p2)] σ (fun u σ' => u = .bool r ∧ σ' = σ) :=
  EvU.pure1C (ref50_Equal_0 n p1 p2 r hF) σ
def ref50_crosses (n : Nat) (p1 : GBracket) (p2 : GBracket) : Option (Bool) :=
  bindO (cond (decide (p1.From < p2.From))
    (cond (decide (p2.From < p1.To))
      (cond (decide (p1.To < p2.To))
        (some true)
        (cond (decide (p2.From < p1.From))
          (cond (decide (p1.From < p2.To))
            (some (decide (p2.To < p1.To)))
            (some false))
          (some false)))
      (cond (decide (p2.From < p1.From))
        (cond (decide (p1.From < p2.To))
          (some (decide (p2.To < p1.To)))
          (some false))
        (some false)))
    (cond (decide (p2.From < p1.From))
      (cond (decide (p1.From < p2.To))
        (some (decide (p2.To < p1.To)))
        (some false))
      (some false))) fun b12 =>
  some b12
theorem ref50_crosses_0 (n : Nat) (p1 : GBracket) (p2 : GBracket) (r : Bool) (hF : ref50_crosses n p1 p2 = some r) : EvU Try.prog 39 [.agg (cGBracket p1), .agg (cGBracket p2)] ⟨[], 0⟩ (fun u _ => u = .bool r ∧ Bel 0 u) := by
  unfold ref50_crosses at hF
  refine EvU.of_body Try.tb_ok Try.fn39 rfl ?_
  refine WPU.ghost (tm' := fr 45 [(0, .agg (cGBracket p1)), (1, .agg (cGBracket p2))]) (Gh.start (Nat.le_of_ble_eq_true rfl)) (Nat.zero_le _) ?_
  repeat refine WPU.seq ?_
  refine WPU.region Try.tb_ok ?_
  refine RS.op (u := .ptr 0 0 0) (σ' := ⟨[(0, .row (cGBracket p1) 53)], 1⟩) rfl (op_box rfl rfl rfl) rfl rfl ?_
  refine RS.op (u := .ptr 1 0 0) (σ' := ⟨[(1, .row (cGBracket p2) 53), (0, .row (cGBracket p1) 53)], 2⟩) rfl (op_box rfl rfl rfl) rfl rfl ?_
  refine RS.op rfl (op_assign rfl) rfl rfl ?_
  refine RS.done ?_
  repeat refine gq ?_
  repeat refine WPU.seq ?_
  obtain ⟨b12, h13, hF⟩ := bindO_some hF
  refine WPU.joinK (fun tm σ => tm = fr 45 [(4, .bool b12)] ∧ σ = ⟨[(1, .row (cGBracket p2) 53), (0, .row (cGBracket p1) 53)], 2⟩) ?_ ?_
  · skip
    rintro _ _ ⟨rfl, rfl⟩
    repeat refine gq ?_
    repeat refine WPU.seq ?_
    refine WPU.ret ?_
    repeat refine gq ?_
    have hr := Option.some.inj hF
    subst hr
    exact ⟨.inr rfl, [.bool b12], res_t rfl (res_n), .bool b12, ⟨[], 0⟩, Nat.le_refl _, Gh.toR (.bool b12) rfl, rfl, BU.h⟩
  · skip
    rcases bool_tf (decide (p1.From < p2.From)) with h3 | h3
    · skip
      replace h13 := cond_t h3 h13
      rcases bool_tf (decide (p2.From < p1.To)) with h4 | h4
      · skip
        replace h13 := cond_t h4 h13
        rcases bool_tf (decide (p1.To < p2.To)) with h5 | h5
        · skip
          replace h13 := cond_t h5 h13
          replace h13 := Option.some.inj h13
          subst h13
          refine WPU.region Try.tb_ok ?_
          refine RS.op (u := .ptr 0 0 1) rfl (op_fa Try.und53 rfl (sz_of Try.inf3) rfl rfl rfl) rfl rfl ?_
          refine RS.op (u := .int .i64 p1.From) rfl (ld_one Try.und3 rfl rfl rfl rfl) rfl rfl ?_
          refine RS.op (u := .ptr 1 0 1) rfl (op_fa Try.und53 rfl (sz_of Try.inf3) rfl rfl rfl) rfl rfl ?_
          refine RS.op (u := .int .i64 p2.From) rfl (ld_one Try.und3 rfl rfl rfl rfl) rfl rfl ?_
          refine RS.op rfl (op_int rfl rfl (ix_lss _ _ _) rfl) rfl rfl ?_
          refine RS.op rfl (op_move rfl) rfl rfl ?_
          refine RS.op (u := .ptr 1 0 1) (want1 rfl rfl rfl h3) (op_fa Try.und53 rfl (sz_of Try.inf3) rfl rfl rfl) rfl rfl ?_
          refine RS.op (u := .int .i64 p2.From) (want1 rfl rfl rfl h3) (ld_one Try.und3 rfl rfl rfl rfl) rfl rfl ?_
          refine RS.op (u := .ptr 0 0 2) (want1 rfl rfl rfl h3) (op_fa Try.und53 rfl (sz_of Try.inf3) rfl rfl rfl) rfl rfl ?_
          refine RS.op (u := .int .i64 p1.To) (want1 rfl rfl rfl h3) (ld_one Try.und3 rfl rfl rfl rfl) rfl rfl ?_
          refine RS.op (want1 rfl rfl rfl h3) (op_int rfl rfl (ix_lss _ _ _) rfl) rfl rfl ?_
          refine RS.op (u := .bool (decide (p2.From < p1.To))) rfl (op_pick1 rfl h3 rfl) rfl rfl ?_
          refine RS.op rfl (op_move rfl) rfl rfl ?_
          refine RS.op (u := .ptr 0 0 2) (want1 rfl rfl rfl h4) (op_fa Try.und53 rfl (sz_of Try.inf3) rfl rfl rfl) rfl rfl ?_
          refine RS.op (u := .int .i64 p1.To) (want1 rfl rfl rfl h4) (ld_one Try.und3 rfl rfl rfl rfl) rfl rfl ?_
          refine RS.op (u := .ptr 1 0 2) (want1 rfl rfl rfl h4) (op_fa Try.und53 rfl (sz_of Try.inf3) rfl rfl rfl) rfl rfl ?_
          refine RS.op (u := .int .i64 p2.To) (want1 rfl rfl rfl h4) (ld_one Try.und3 rfl rfl rfl rfl) rfl rfl ?_
          refine RS.op (want1 rfl rfl rfl h4) (op_int rfl rfl (ix_lss _ _ _) rfl) rfl rfl ?_
          refine RS.op (u := .bool (decide (p1.To < p2.To))) rfl (op_pick1 rfl h4 rfl) rfl rfl ?_
          refine RS.op rfl (op_move rfl) rfl rfl ?_
          repeat refine RS.no (want0 rfl rfl rfl h5) rfl rfl ?_
          repeat refine RS.no (wantT rfl rfl rfl) rfl rfl ?_
          repeat refine RS.no (want0 rfl rfl rfl h5) rfl rfl ?_
          repeat refine RS.no (wantT rfl rfl rfl) rfl rfl ?_
          refine RS.no (want0 rfl rfl rfl h5) rfl rfl ?_
          refine RS.op (u := .bool true) rfl (op_pick1 rfl h5 rfl) rfl rfl ?_
          refine RS.op rfl (op_assign rfl) rfl rfl ?_
          refine RS.done ?_
          repeat refine gq ?_
          exact ⟨_, _, ⟨rfl, rfl⟩, (Nat.zero_le _), Gh.toC (n1 := 2) ⟨rfl, trivial⟩ rfl (Nat.zero_le _) (by simp)⟩
        · skip
          replace h13 := cond_f h5 h13
          rcases bool_tf (decide (p2.From < p1.From)) with h6 | h6
          · skip
            replace h13 := cond_t h6 h13
            rcases bool_tf (decide (p1.From < p2.To)) with h7 | h7
            · skip
              replace h13 := cond_t h7 h13
              replace h13 := Option.some.inj h13
              subst h13
              refine WPU.region Try.tb_ok ?_
              refine RS.op (u := .ptr 0 0 1) rfl (op_fa Try.und53 rfl (sz_of Try.inf3) rfl rfl rfl) rfl rfl ?_
              refine RS.op (u := .int .i64 p1.From) rfl (ld_one Try.und3 rfl rfl rfl rfl) rfl rfl ?_
              refine RS.op (u := .ptr 1 0 1) rfl (op_fa Try.und53 rfl (sz_of Try.inf3) rfl rfl rfl) rfl rfl ?_
              refine RS.op (u := .int .i64 p2.From) rfl (ld_one Try.und3 rfl rfl rfl rfl) rfl rfl ?_
              refine RS.op rfl (op_int rfl rfl (ix_lss _ _ _) rfl) rfl rfl ?_
              refine RS.op rfl (op_move rfl) rfl rfl ?_
              refine RS.op (u := .ptr 1 0 1) (want1 rfl rfl rfl h3) (op_fa Try.und53 rfl (sz_of Try.inf3) rfl rfl rfl) rfl rfl ?_
              refine RS.op (u := .int .i64 p2.From) (want1 rfl rfl rfl h3) (ld_one Try.und3 rfl rfl rfl rfl) rfl rfl ?_
              refine RS.op (u := .ptr 0 0 2) (want1 rfl rfl rfl h3) (op_fa Try.und53 rfl (sz_of Try.inf3) rfl rfl rfl) rfl rfl ?_
              refine RS.op (u := .int .i64 p1.To) (want1 rfl rfl rfl h3) (ld_one Try.und3 rfl rfl rfl rfl) rfl rfl ?_
              refine RS.op (want1 rfl rfl rfl h3) (op_int rfl rfl (ix_lss _ _ _) rfl) rfl rfl ?_
              refine RS.op (u := .bool (decide (p2.From < p1.To))) rfl (op_pick1 rfl h3 rfl) rfl rfl ?_
              refine RS.op rfl (op_move rfl) rfl rfl ?_
              refine RS.op (u := .ptr 0 0 2) (want1 rfl rfl rfl h4) (op_fa Try.und53 rfl (sz_of Try.inf3) rfl rfl rfl) rfl rfl ?_
              refine RS.op (u := .int .i64 p1.To) (want1 rfl rfl rfl h4) (ld_one Try.und3 rfl rfl rfl rfl) rfl rfl ?_
              refine RS.op (u := .ptr 1 0 2) (want1 rfl rfl rfl h4) (op_fa Try.und53 rfl (sz_of Try.inf3) rfl rfl rfl) rfl rfl ?_
              refine RS.op (u := .int .i64 p2.To) (want1 rfl rfl rfl h4) (ld_one Try.und3 rfl rfl rfl rfl) rfl rfl ?_
              refine RS.op (want1 rfl rfl rfl h4) (op_int rfl rfl (ix_lss _ _ _) rfl) rfl rfl ?_
              refine RS.op (u := .bool (decide (p1.To < p2.To))) rfl (op_pick1 rfl h4 rfl) rfl rfl ?_
              refine RS.op rfl (op_move rfl) rfl rfl ?_
              refine RS.op (u := .ptr 1 0 1) (want1 rfl rfl rfl h5) (op_fa Try.und53 rfl (sz_of Try.inf3) rfl rfl rfl) rfl rfl ?_
              refine RS.op (u := .int .i64 p2.From) (want1 rfl rfl rfl h5) (ld_one Try.und3 rfl rfl rfl rfl) rfl rfl ?_
              refine RS.op (u := .ptr 0 0 1) (want1 rfl rfl rfl h5) (op_fa Try.und53 rfl (sz_of Try.inf3) rfl rfl rfl) rfl rfl ?_
              refine RS.op (u := .int .i64 p1.From) (want1 rfl rfl rfl h5) (ld_one Try.und3 rfl rfl rfl rfl) rfl rfl ?_
              refine RS.op (want1 rfl rfl rfl h5) (op_int rfl rfl (ix_lss _ _ _) rfl) rfl rfl ?_
              refine RS.op (want1 rfl rfl rfl h5) (op_move rfl) rfl rfl ?_
              refine RS.op (u := .ptr 0 0 1) (want1 rfl rfl rfl h6) (op_fa Try.und53 rfl (sz_of Try.inf3) rfl rfl rfl) rfl rfl ?_
              refine RS.op (u := .int .i64 p1.From) (want1 rfl rfl rfl h6) (ld_one Try.und3 rfl rfl rfl rfl) rfl rfl ?_
              refine RS.op (u := .ptr 1 0 2) (want1 rfl rfl rfl h6) (op_fa Try.und53 rfl (sz_of Try.inf3) rfl rfl rfl) rfl rfl ?_
              refine RS.op (u := .int .i64 p2.To) (want1 rfl rfl rfl h6) (ld_one Try.und3 rfl rfl rfl rfl) rfl rfl ?_
              refine RS.op (want1 rfl rfl rfl h6) (op_int rfl rfl (ix_lss _ _ _) rfl) rfl rfl ?_
              refine RS.op (u := .bool (decide (p1.From < p2.To))) (want1 rfl rfl rfl h5) (op_pick1 rfl h6 rfl) rfl rfl ?_
              refine RS.op (want1 rfl rfl rfl h5) (op_move rfl) rfl rfl ?_
              refine RS.op (u := .ptr 1 0 2) (want1 rfl rfl rfl h7) (op_fa Try.und53 rfl (sz_of Try.inf3) rfl rfl rfl) rfl rfl ?_
              refine RS.op (u := .int .i64 p2.To) (want1 rfl rfl rfl h7) (ld_one Try.und3 rfl rfl rfl rfl) rfl rfl ?_
              refine RS.op (u := .ptr 0 0 2) (want1 rfl rfl rfl h7) (op_fa Try.und53 rfl (sz_of Try.inf3) rfl rfl rfl) rfl rfl ?_
              refine RS.op (u := .int .i64 p1.To) (want1 rfl rfl rfl h7) (ld_one Try.und3 rfl rfl rfl rfl) rfl rfl ?_
              refine RS.op (want1 rfl rfl rfl h7) (op_int rfl rfl (ix_lss _ _ _) rfl) rfl rfl ?_
              refine RS.op (u := .bool (decide (p2.To < p1.To))) (want1 rfl rfl rfl h5) (op_pick1 rfl h7 rfl) rfl rfl ?_
              refine RS.op (u := .bool (decide (p2.To < p1.To))) rfl (op_pick0 rfl h5 rfl) rfl rfl ?_
              refine RS.op rfl (op_assign rfl) rfl rfl ?_
              refine RS.done ?_
              repeat refine gq ?_
              exact ⟨_, _, ⟨rfl, rfl⟩, (Nat.zero_le _), Gh.toC (n1 := 2) ⟨rfl, trivial⟩ rfl (Nat.zero_le _) (by simp)⟩
            · skip
              replace h13 := cond_f h7 h13
              replace h13 := Option.some.inj h13
              subst h13
              refine WPU.region Try.tb_ok ?_
              refine RS.op (u := .ptr 0 0 1) rfl (op_fa Try.und53 rfl (sz_of Try.inf3) rfl rfl rfl) rfl rfl ?_
              refine RS.op (u := .int .i64 p1.From) rfl (ld_one Try.und3 rfl rfl rfl rfl) rfl rfl ?_
              refine RS.op (u := .ptr 1 0 1) rfl (op_fa Try.und53 rfl (sz_of Try.inf3) rfl rfl rfl) rfl rfl ?_
              refine RS.op (u := .int .i64 p2.From) rfl (ld_one Try.und3 rfl rfl rfl rfl) rfl rfl ?_
              refine RS.op rfl (op_int rfl rfl (ix_lss _ _ _) rfl) rfl rfl ?_
              refine RS.op rfl (op_move rfl) rfl rfl ?_
              refine RS.op (u := .ptr 1 0 1) (want1 rfl rfl rfl h3) (op_fa Try.und53 rfl (sz_of Try.inf3) rfl rfl rfl) rfl rfl ?_
              refine RS.op (u := .int .i64 p2.From) (want1 rfl rfl rfl h3) (ld_one Try.und3 rfl rfl rfl rfl) rfl rfl ?_
              refine RS.op (u := .ptr 0 0 2) (want1 rfl rfl rfl h3) (op_fa Try.und53 rfl (sz_of Try.inf3) rfl rfl rfl) rfl rfl ?_
              refine RS.op (u := .int .i64 p1.To) (want1 rfl rfl rfl h3) (ld_one Try.und3 rfl rfl rfl rfl) rfl rfl ?_
              refine RS.op (want1 rfl rfl rfl h3) (op_int rfl rfl (ix_lss _ _ _) rfl) rfl rfl ?_
              refine RS.op (u := .bool (decide (p2.From < p1.To))) rfl (op_pick1 rfl h3 rfl) rfl rfl ?_
              refine RS.op rfl (op_move rfl) rfl rfl ?_
              refine RS.op (u := .ptr 0 0 2) (want1 rfl rfl rfl h4) (op_fa Try.und53 rfl (sz_of Try.inf3) rfl rfl rfl) rfl rfl ?_
              refine RS.op (u := .int .i64 p1.To) (want1 rfl rfl rfl h4) (ld_one Try.und3 rfl rfl rfl rfl) rfl rfl ?_
              refine RS.op (u := .ptr 1 0 2) (want1 rfl rfl rfl h4) (op_fa Try.und53 rfl (sz_of Try.inf3) rfl rfl rfl) rfl rfl ?_
              refine RS.op (u := .int .i64 p2.To) (want1 rfl rfl rfl h4) (ld_one Try.und3 rfl rfl rfl rfl) rfl rfl ?_
              refine RS.op (want1 rfl rfl rfl h4) (op_int rfl rfl (ix_lss _ _ _) rfl) rfl rfl ?_
              refine RS.op (u := .bool (decide (p1.To < p2.To))) rfl (op_pick1 rfl h4 rfl) rfl rfl ?_
              refine RS.op rfl (op_move rfl) rfl rfl ?_
              refine RS.op (u := .ptr 1 0 1) (want1 rfl rfl rfl h5) (op_fa Try.und53 rfl (sz_of Try.inf3) rfl rfl rfl) rfl rfl ?_
              refine RS.op (u := .int .i64 p2.From) (want1 rfl rfl rfl h5) (ld_one Try.und3 rfl rfl rfl rfl) rfl rfl ?_
              refine RS.op (u := .ptr 0 0 1) (want1 rfl rfl rfl h5) (op_fa Try.und53 rfl (sz_of Try.inf3) rfl rfl rfl) rfl rfl ?_
              refine RS.op (u := .int .i64 p1.From) (want1 rfl rfl rfl h5) (ld_one Try.und3 rfl rfl rfl rfl) rfl rfl ?_
              refine RS.op (want1 rfl rfl rfl h5) (op_int rfl rfl (ix_lss _ _ _) rfl) rfl rfl ?_
              refine RS.op (want1 rfl rfl rfl h5) (op_move rfl) rfl rfl ?_
              refine RS.op (u := .ptr 0 0 1) (want1 rfl rfl rfl h6) (op_fa Try.und53 rfl (sz_of Try.inf3) rfl rfl rfl) rfl rfl ?_
              refine RS.op (u := .int .i64 p1.From) (want1 rfl rfl rfl h6) (ld_one Try.und3 rfl rfl rfl rfl) rfl rfl ?_
              refine RS.op (u := .ptr 1 0 2) (want1 rfl rfl rfl h6) (op_fa Try.und53 rfl (sz_of Try.inf3) rfl rfl rfl) rfl rfl ?_
              refine RS.op (u := .int .i64 p2.To) (want1 rfl rfl rfl h6) (ld_one Try.und3 rfl rfl rfl rfl) rfl rfl ?_
              refine RS.op (want1 rfl rfl rfl h6) (op_int rfl rfl (ix_lss _ _ _) rfl) rfl rfl ?_
              refine RS.op (u := .bool (decide (p1.From < p2.To))) (want1 rfl rfl rfl h5) (op_pick1 rfl h6 rfl) rfl rfl ?_
              refine RS.op (want1 rfl rfl rfl h5) (op_move rfl) rfl rfl ?_
              repeat refine RS.no (want0 rfl rfl rfl h7) rfl rfl ?_
              refine RS.op (u := .bool false) (want1 rfl rfl rfl h5) (op_pick0 rfl h7 rfl) rfl rfl ?_
              refine RS.op (u := .bool false) rfl (op_pick0 rfl h5 rfl) rfl rfl ?_
              refine RS.op rfl (op_assign rfl) rfl rfl ?_
              refine RS.done ?_
              repeat refine gq ?_
              exact ⟨_, _, ⟨rfl, rfl⟩, (Nat.zero_le _), Gh.toC (n1 := 2) ⟨rfl, trivial⟩ rfl (Nat.zero_le _) (by simp)⟩
          · skip
            replace h13 := cond_f h6 h13
            replace h13 := Option.some.inj h13
            subst h13
            refine WPU.region Try.tb_ok ?_
            refine RS.op (u := .ptr 0 0 1) rfl (op_fa Try.und53 rfl (sz_of Try.inf3) rfl rfl rfl) rfl rfl ?_
            refine RS.op (u := .int .i64 p1.From) rfl (ld_one Try.und3 rfl rfl rfl rfl) rfl rfl ?_
            refine RS.op (u := .ptr 1 0 1) rfl (op_fa Try.und53 rfl (sz_of Try.inf3) rfl rfl rfl) rfl rfl ?_
            refine RS.op (u := .int .i64 p2.From) rfl (ld_one Try.und3 rfl rfl rfl rfl) rfl rfl ?_
            refine RS.op rfl (op_int rfl rfl (ix_lss _ _ _) rfl) rfl rfl ?_
            refine RS.op rfl (op_move rfl) rfl rfl ?_
            refine RS.op (u := .ptr 1 0 1) (want1 rfl rfl rfl h3) (op_fa Try.und53 rfl (sz_of Try.inf3) rfl rfl rfl) rfl rfl ?_
            refine RS.op (u := .int .i64 p2.From) (want1 rfl rfl rfl h3) (ld_one Try.und3 rfl rfl rfl rfl) rfl rfl ?_
            refine RS.op (u := .ptr 0 0 2) (want1 rfl rfl rfl h3) (op_fa Try.und53 rfl (sz_of Try.inf3) rfl rfl rfl) rfl rfl ?_
            refine RS.op (u := .int .i64 p1.To) (want1 rfl rfl rfl h3) (ld_one Try.und3 rfl rfl rfl rfl) rfl rfl ?_
            refine RS.op (want1 rfl rfl rfl h3) (op_int rfl rfl (ix_lss _ _ _) rfl) rfl rfl ?_
            refine RS.op (u := .bool (decide (p2.From < p1.To))) rfl (op_pick1 rfl h3 rfl) rfl rfl ?_
            refine RS.op rfl (op_move rfl) rfl rfl ?_
            refine RS.op (u := .ptr 0 0 2) (want1 rfl rfl rfl h4) (op_fa Try.und53 rfl (sz_of Try.inf3) rfl rfl rfl) rfl rfl ?_
            refine RS.op (u := .int .i64 p1.To) (want1 rfl rfl rfl h4) (ld_one Try.und3 rfl rfl rfl rfl) rfl rfl ?_
            refine RS.op (u := .ptr 1 0 2) (want1 rfl rfl rfl h4) (op_fa Try.und53 rfl (sz_of Try.inf3) rfl rfl rfl) rfl rfl ?_
            refine RS.op (u := .int .i64 p2.To) (want1 rfl rfl rfl h4) (ld_one Try.und3 rfl rfl rfl rfl) rfl rfl ?_
            refine RS.op (want1 rfl rfl rfl h4) (op_int rfl rfl (ix_lss _ _ _) rfl) rfl rfl ?_
            refine RS.op (u := .bool (decide (p1.To < p2.To))) rfl (op_pick1 rfl h4 rfl) rfl rfl ?_
            refine RS.op rfl (op_move rfl) rfl rfl ?_
            refine RS.op (u := .ptr 1 0 1) (want1 rfl rfl rfl h5) (op_fa Try.und53 rfl (sz_of Try.inf3) rfl rfl rfl) rfl rfl ?_
            refine RS.op (u := .int .i64 p2.From) (want1 rfl rfl rfl h5) (ld_one Try.und3 rfl rfl rfl rfl) rfl rfl ?_
            refine RS.op (u := .ptr 0 0 1) (want1 rfl rfl rfl h5) (op_fa Try.und53 rfl (sz_of Try.inf3) rfl rfl rfl) rfl rfl ?_
            refine RS.op (u := .int .i64 p1.From) (want1 rfl rfl rfl h5) (ld_one Try.und3 rfl rfl rfl rfl) rfl rfl ?_
            refine RS.op (want1 rfl rfl rfl h5) (op_int rfl rfl (ix_lss _ _ _) rfl) rfl rfl ?_
            refine RS.op (want1 rfl rfl rfl h5) (op_move rfl) rfl rfl ?_
            repeat refine RS.no (want0 rfl rfl rfl h6) rfl rfl ?_
            refine RS.op (u := .bool false) (want1 rfl rfl rfl h5) (op_pick0 rfl h6 rfl) rfl rfl ?_
            refine RS.op (want1 rfl rfl rfl h5) (op_move rfl) rfl rfl ?_
            repeat refine RS.no (want0 rfl rfl rfl rfl) rfl rfl ?_
            refine RS.op (u := .bool false) (want1 rfl rfl rfl h5) (op_pick0 rfl rfl rfl) rfl rfl ?_
            refine RS.op (u := .bool false) rfl (op_pick0 rfl h5 rfl) rfl rfl ?_
            refine RS.op rfl (op_assign rfl) rfl rfl ?_
            refine RS.done ?_
            repeat refine gq ?_
            exact ⟨_, _, ⟨rfl, rfl⟩, (Nat.zero_le _), Gh.toC (n1 := 2) ⟨rfl, trivial⟩ rfl (Nat.zero_le _) (by simp)⟩
      · skip
        replace h13 := cond_f h4 h13
        rcases bool_tf (decide (p2.From < p1.From)) with h8 | h8
        · skip
          replace h13 := cond_t h8 h13
          rcases bool_tf (decide (p1.From < p2.To)) with h9 | h9
          · skip
            replace h13 := cond_t h9 h13
            replace h13 := Option.some.inj h13
            subst h13
            refine WPU.region Try.tb_ok ?_
            refine RS.op (u := .ptr 0 0 1) rfl (op_fa Try.und53 rfl (sz_of Try.inf3) rfl rfl rfl) rfl rfl ?_
            refine RS.op (u := .int .i64 p1.From) rfl (ld_one Try.und3 rfl rfl rfl rfl) rfl rfl ?_
            refine RS.op (u := .ptr 1 0 1) rfl (op_fa Try.und53 rfl (sz_of Try.inf3) rfl rfl rfl) rfl rfl ?_
            refine RS.op (u := .int .i64 p2.From) rfl (ld_one Try.und3 rfl rfl rfl rfl) rfl rfl ?_
            refine RS.op rfl (op_int rfl rfl (ix_lss _ _ _) rfl) rfl rfl ?_
            refine RS.op rfl (op_move rfl) rfl rfl ?_
            refine RS.op (u := .ptr 1 0 1) (want1 rfl rfl rfl h3) (op_fa Try.und53 rfl (sz_of Try.inf3) rfl rfl rfl) rfl rfl ?_
            refine RS.op (u := .int .i64 p2.From) (want1 rfl rfl rfl h3) (ld_one Try.und3 rfl rfl rfl rfl) rfl rfl ?_
            refine RS.op (u := .ptr 0 0 2) (want1 rfl rfl rfl h3) (op_fa Try.und53 rfl (sz_of Try.inf3) rfl rfl rfl) rfl rfl ?_
            refine RS.op (u := .int .i64 p1.To) (want1 rfl rfl rfl h3) (ld_one Try.und3 rfl rfl rfl rfl) rfl rfl ?_
            refine RS.op (want1 rfl rfl rfl h3) (op_int rfl rfl (ix_lss _ _ _) rfl) rfl rfl ?_
            refine RS.op (u := .bool (decide (p2.From < p1.To))) rfl (op_pick1 rfl h3 rfl) rfl rfl ?_
            refine RS.op rfl (op_move rfl) rfl rfl ?_
            repeat refine RS.no (want0 rfl rfl rfl h4) rfl rfl ?_
            refine RS.op (u := .bool false) rfl (op_pick0 rfl h4 rfl) rfl rfl ?_
            refine RS.op rfl (op_move rfl) rfl rfl ?_
            refine RS.op (u := .ptr 1 0 1) (want1 rfl rfl rfl rfl) (op_fa Try.und53 rfl (sz_of Try.inf3) rfl rfl rfl) rfl rfl ?_
            refine RS.op (u := .int .i64 p2.From) (want1 rfl rfl rfl rfl) (ld_one Try.und3 rfl rfl rfl rfl) rfl rfl ?_
            refine RS.op (u := .ptr 0 0 1) (want1 rfl rfl rfl rfl) (op_fa Try.und53 rfl (sz_of Try.inf3) rfl rfl rfl) rfl rfl ?_
            refine RS.op (u := .int .i64 p1.From) (want1 rfl rfl rfl rfl) (ld_one Try.und3 rfl rfl rfl rfl) rfl rfl ?_
            refine RS.op (want1 rfl rfl rfl rfl) (op_int rfl rfl (ix_lss _ _ _) rfl) rfl rfl ?_
            refine RS.op (want1 rfl rfl rfl rfl) (op_move rfl) rfl rfl ?_
            refine RS.op (u := .ptr 0 0 1) (want1 rfl rfl rfl h8) (op_fa Try.und53 rfl (sz_of Try.inf3) rfl rfl rfl) rfl rfl ?_
            refine RS.op (u := .int .i64 p1.From) (want1 rfl rfl rfl h8) (ld_one Try.und3 rfl rfl rfl rfl) rfl rfl ?_
            refine RS.op (u := .ptr 1 0 2) (want1 rfl rfl rfl h8) (op_fa Try.und53 rfl (sz_of Try.inf3) rfl rfl rfl) rfl rfl ?_
            refine RS.op (u := .int .i64 p2.To) (want1 rfl rfl rfl h8) (ld_one Try.und3 rfl rfl rfl rfl) rfl rfl ?_
            refine RS.op (want1 rfl rfl rfl h8) (op_int rfl rfl (ix_lss _ _ _) rfl) rfl rfl ?_
            refine RS.op (u := .bool (decide (p1.From < p2.To))) (want1 rfl rfl rfl rfl) (op_pick1 rfl h8 rfl) rfl rfl ?_
            refine RS.op (want1 rfl rfl rfl rfl) (op_move rfl) rfl rfl ?_
            refine RS.op (u := .ptr 1 0 2) (want1 rfl rfl rfl h9) (op_fa Try.und53 rfl (sz_of Try.inf3) rfl rfl rfl) rfl rfl ?_
            refine RS.op (u := .int .i64 p2.To) (want1 rfl rfl rfl h9) (ld_one Try.und3 rfl rfl rfl rfl) rfl rfl ?_
            refine RS.op (u := .ptr 0 0 2) (want1 rfl rfl rfl h9) (op_fa Try.und53 rfl (sz_of Try.inf3) rfl rfl rfl) rfl rfl ?_
            refine RS.op (u := .int .i64 p1.To) (want1 rfl rfl rfl h9) (ld_one Try.und3 rfl rfl rfl rfl) rfl rfl ?_
            refine RS.op (want1 rfl rfl rfl h9) (op_int rfl rfl (ix_lss _ _ _) rfl) rfl rfl ?_
            refine RS.op (u := .bool (decide (p2.To < p1.To))) (want1 rfl rfl rfl rfl) (op_pick1 rfl h9 rfl) rfl rfl ?_
            refine RS.op (u := .bool (decide (p2.To < p1.To))) rfl (op_pick0 rfl rfl rfl) rfl rfl ?_
            refine RS.op rfl (op_assign rfl) rfl rfl ?_
            refine RS.done ?_
            repeat refine gq ?_
            exact ⟨_, _, ⟨rfl, rfl⟩, (Nat.zero_le _), Gh.toC (n1 := 2) ⟨rfl, trivial⟩ rfl (Nat.zero_le _) (by simp)⟩
          · skip
            replace h13 := cond_f h9 h13
            replace h13 := Option.some.inj h13
            subst h13
            refine WPU.region Try.tb_ok ?_
            refine RS.op (u := .ptr 0 0 1) rfl (op_fa Try.und53 rfl (sz_of Try.inf3) rfl rfl rfl) rfl rfl ?_
            refine RS.op (u := .int .i64 p1.From) rfl (ld_one Try.und3 rfl rfl rfl rfl) rfl rfl ?_
            refine RS.op (u := .ptr 1 0 1) rfl (op_fa Try.und53 rfl (sz_of Try.inf3) rfl rfl rfl) rfl rfl ?_
            refine RS.op (u := .int .i64 p2.From) rfl (ld_one Try.und3 rfl rfl rfl rfl) rfl rfl ?_
            refine RS.op rfl (op_int rfl rfl (ix_lss _ _ _) rfl) rfl rfl ?_
            refine RS.op rfl (op_move rfl) rfl rfl ?_
            refine RS.op (u := .ptr 1 0 1) (want1 rfl rfl rfl h3) (op_fa Try.und53 rfl (sz_of Try.inf3) rfl rfl rfl) rfl rfl ?_
            refine RS.op (u := .int .i64 p2.From) (want1 rfl rfl rfl h3) (ld_one Try.und3 rfl rfl rfl rfl) rfl rfl ?_
            refine RS.op (u := .ptr 0 0 2) (want1 rfl rfl rfl h3) (op_fa Try.und53 rfl (sz_of Try.inf3) rfl rfl rfl) rfl rfl ?_
            refine RS.op (u := .int .i64 p1.To) (want1 rfl rfl rfl h3) (ld_one Try.und3 rfl rfl rfl rfl) rfl rfl ?_
            refine RS.op (want1 rfl rfl rfl h3) (op_int rfl rfl (ix_lss _ _ _) rfl) rfl rfl ?_
            refine RS.op (u := .bool (decide (p2.From < p1.To))) rfl (op_pick1 rfl h3 rfl) rfl rfl ?_
            refine RS.op rfl (op_move rfl) rfl rfl ?_
            repeat refine RS.no (want0 rfl rfl rfl h4) rfl rfl ?_
            refine RS.op (u := .bool false) rfl (op_pick0 rfl h4 rfl) rfl rfl ?_
            refine RS.op rfl (op_move rfl) rfl rfl ?_
            refine RS.op (u := .ptr 1 0 1) (want1 rfl rfl rfl rfl) (op_fa Try.und53 rfl (sz_of Try.inf3) rfl rfl rfl) rfl rfl ?_
            refine RS.op (u := .int .i64 p2.From) (want1 rfl rfl rfl rfl) (ld_one Try.und3 rfl rfl rfl rfl) rfl rfl ?_
            refine RS.op (u := .ptr 0 0 1) (want1 rfl rfl rfl rfl) (op_fa Try.und53 rfl (sz_of Try.inf3) rfl rfl rfl) rfl rfl ?_
            refine RS.op (u := .int .i64 p1.From) (want1 rfl rfl rfl rfl) (ld_one Try.und3 rfl rfl rfl rfl) rfl rfl ?_
            refine RS.op (want1 rfl rfl rfl rfl) (op_int rfl rfl (ix_lss _ _ _) rfl) rfl rfl ?_
            refine RS.op (want1 rfl rfl rfl rfl) (op_move rfl) rfl rfl ?_
            refine RS.op (u := .ptr 0 0 1) (want1 rfl rfl rfl h8) (op_fa Try.und53 rfl (sz_of Try.inf3) rfl rfl rfl) rfl rfl ?_
            refine RS.op (u := .int .i64 p1.From) (want1 rfl rfl rfl h8) (ld_one Try.und3 rfl rfl rfl rfl) rfl rfl ?_
            refine RS.op (u := .ptr 1 0 2) (want1 rfl rfl rfl h8) (op_fa Try.und53 rfl (sz_of Try.inf3) rfl rfl rfl) rfl rfl ?_
            refine RS.op (u := .int .i64 p2.To) (want1 rfl rfl rfl h8) (ld_one Try.und3 rfl rfl rfl rfl) rfl rfl ?_
            refine RS.op (want1 rfl rfl rfl h8) (op_int rfl rfl (ix_lss _ _ _) rfl) rfl rfl ?_
            refine RS.op (u := .bool (decide (p1.From < p2.To))) (want1 rfl rfl rfl rfl) (op_pick1 rfl h8 rfl) rfl rfl ?_
            refine RS.op (want1 rfl rfl rfl rfl) (op_move rfl) rfl rfl ?_
            repeat refine RS.no (want0 rfl rfl rfl h9) rfl rfl ?_
            refine RS.op (u := .bool false) (want1 rfl rfl rfl rfl) (op_pick0 rfl h9 rfl) rfl rfl ?_
            refine RS.op (u := .bool false) rfl (op_pick0 rfl rfl rfl) rfl rfl ?_
            refine RS.op rfl (op_assign rfl) rfl rfl ?_
            refine RS.done ?_
            repeat refine gq ?_
            exact ⟨_, _, ⟨rfl, rfl⟩, (Nat.zero_le _), Gh.toC (n1 := 2) ⟨rfl, trivial⟩ rfl (Nat.zero_le _) (by simp)⟩
        · skip
          replace h13 := cond_f h8 h13
          replace h13 := Option.some.inj h13
          subst h13
          refine WPU.region Try.tb_ok ?_
          refine RS.op (u := .ptr 0 0 1) rfl (op_fa Try.und53 rfl (sz_of Try.inf3) rfl rfl rfl) rfl rfl ?_
          refine RS.op (u := .int .i64 p1.From) rfl (ld_one Try.und3 rfl rfl rfl rfl) rfl rfl ?_
          refine RS.op (u := .ptr 1 0 1) rfl (op_fa Try.und53 rfl (sz_of Try.inf3) rfl rfl rfl) rfl rfl ?_
          refine RS.op (u := .int .i64 p2.From) rfl (ld_one Try.und3 rfl rfl rfl rfl) rfl rfl ?_
          refine RS.op rfl (op_int rfl rfl (ix_lss _ _ _) rfl) rfl rfl ?_
          refine RS.op rfl (op_move rfl) rfl rfl ?_
          refine RS.op (u := .ptr 1 0 1) (want1 rfl rfl rfl h3) (op_fa Try.und53 rfl (sz_of Try.inf3) rfl rfl rfl) rfl rfl ?_
          refine RS.op (u := .int .i64 p2.From) (want1 rfl rfl rfl h3) (ld_one Try.und3 rfl rfl rfl rfl) rfl rfl ?_
          refine RS.op (u := .ptr 0 0 2) (want1 rfl rfl rfl h3) (op_fa Try.und53 rfl (sz_of Try.inf3) rfl rfl rfl) rfl rfl ?_
          refine RS.op (u := .int .i64 p1.To) (want1 rfl rfl rfl h3) (ld_one Try.und3 rfl rfl rfl rfl) rfl rfl ?_
          refine RS.op (want1 rfl rfl rfl h3) (op_int rfl rfl (ix_lss _ _ _) rfl) rfl rfl ?_
          refine RS.op (u := .bool (decide (p2.From < p1.To))) rfl (op_pick1 rfl h3 rfl) rfl rfl ?_
          refine RS.op rfl (op_move rfl) rfl rfl ?_
          repeat refine RS.no (want0 rfl rfl rfl h4) rfl rfl ?_
          refine RS.op (u := .bool false) rfl (op_pick0 rfl h4 rfl) rfl rfl ?_
          refine RS.op rfl (op_move rfl) rfl rfl ?_
          refine RS.op (u := .ptr 1 0 1) (want1 rfl rfl rfl rfl) (op_fa Try.und53 rfl (sz_of Try.inf3) rfl rfl rfl) rfl rfl ?_
          refine RS.op (u := .int .i64 p2.From) (want1 rfl rfl rfl rfl) (ld_one Try.und3 rfl rfl rfl rfl) rfl rfl ?_
          refine RS.op (u := .ptr 0 0 1) (want1 rfl rfl rfl rfl) (op_fa Try.und53 rfl (sz_of Try.inf3) rfl rfl rfl) rfl rfl ?_
          refine RS.op (u := .int .i64 p1.From) (want1 rfl rfl rfl rfl) (ld_one Try.und3 rfl rfl rfl rfl) rfl rfl ?_
          refine RS.op (want1 rfl rfl rfl rfl) (op_int rfl rfl (ix_lss _ _ _) rfl) rfl rfl ?_
          refine RS.op (want1 rfl rfl rfl rfl) (op_move rfl) rfl rfl ?_
          repeat refine RS.no (want0 rfl rfl rfl h8) rfl rfl ?_
          refine RS.op (u := .bool false) (want1 rfl rfl rfl rfl) (op_pick0 rfl h8 rfl) rfl rfl ?_
          refine RS.op (want1 rfl rfl rfl rfl) (op_move rfl) rfl rfl ?_
          repeat refine RS.no (want0 rfl rfl rfl rfl) rfl rfl ?_
          refine RS.op (u := .bool false) (want1 rfl rfl rfl rfl) (op_pick0 rfl rfl rfl) rfl rfl ?_
          refine RS.op (u := .bool false) rfl (op_pick0 rfl rfl rfl) rfl rfl ?_
          refine RS.op rfl (op_assign rfl) rfl rfl ?_
          refine RS.done ?_
          repeat refine gq ?_
          exact ⟨_, _, ⟨rfl, rfl⟩, (Nat.zero_le _), Gh.toC (n1 := 2) ⟨rfl, trivial⟩ rfl (Nat.zero_le _) (by simp)⟩
    · skip
      replace h13 := cond_f h3 h13
      rcases bool_tf (decide (p2.From < p1.From)) with h10 | h10
      · skip
        replace h13 := cond_t h10 h13
        rcases bool_tf (decide (p1.From < p2.To)) with h11 | h11
        · skip
          replace h13 := cond_t h11 h13
          replace h13 := Option.some.inj h13
          subst h13
          refine WPU.region Try.tb_ok ?_
          refine RS.op (u := .ptr 0 0 1) rfl (op_fa Try.und53 rfl (sz_of Try.inf3) rfl rfl rfl) rfl rfl ?_
          refine RS.op (u := .int .i64 p1.From) rfl (ld_one Try.und3 rfl rfl rfl rfl) rfl rfl ?_
          refine RS.op (u := .ptr 1 0 1) rfl (op_fa Try.und53 rfl (sz_of Try.inf3) rfl rfl rfl) rfl rfl ?_
          refine RS.op (u := .int .i64 p2.From) rfl (ld_one Try.und3 rfl rfl rfl rfl) rfl rfl ?_
          refine RS.op rfl (op_int rfl rfl (ix_lss _ _ _) rfl) rfl rfl ?_
          refine RS.op rfl (op_move rfl) rfl rfl ?_
          repeat refine RS.no (want0 rfl rfl rfl h3) rfl rfl ?_
          refine RS.op (u := .bool false) rfl (op_pick0 rfl h3 rfl) rfl rfl ?_
          refine RS.op rfl (op_move rfl) rfl rfl ?_
          repeat refine RS.no (want0 rfl rfl rfl rfl) rfl rfl ?_
          refine RS.op (u := .bool false) rfl (op_pick0 rfl rfl rfl) rfl rfl ?_
          refine RS.op rfl (op_move rfl) rfl rfl ?_
          refine RS.op (u := .ptr 1 0 1) (want1 rfl rfl rfl rfl) (op_fa Try.und53 rfl (sz_of Try.inf3) rfl rfl rfl) rfl rfl ?_
          refine RS.op (u := .int .i64 p2.From) (want1 rfl rfl rfl rfl) (ld_one Try.und3 rfl rfl rfl rfl) rfl rfl ?_
          refine RS.op (u := .ptr 0 0 1) (want1 rfl rfl rfl rfl) (op_fa Try.und53 rfl (sz_of Try.inf3) rfl rfl rfl) rfl rfl ?_
          refine RS.op (u := .int .i64 p1.From) (want1 rfl rfl rfl rfl) (ld_one Try.und3 rfl rfl rfl rfl) rfl rfl ?_
          refine RS.op (want1 rfl rfl rfl rfl) (op_int rfl rfl (ix_lss _ _ _) rfl) rfl rfl ?_
          refine RS.op (want1 rfl rfl rfl rfl) (op_move rfl) rfl rfl ?_
          refine RS.op (u := .ptr 0 0 1) (want1 rfl rfl rfl h10) (op_fa Try.und53 rfl (sz_of Try.inf3) rfl rfl rfl) rfl rfl ?_
          refine RS.op (u := .int .i64 p1.From) (want1 rfl rfl rfl h10) (ld_one Try.und3 rfl rfl rfl rfl) rfl rfl ?_
          refine RS.op (u := .ptr 1 0 2) (want1 rfl rfl rfl h10) (op_fa Try.und53 rfl (sz_of Try.inf3) rfl rfl rfl) rfl rfl ?_
          refine RS.op (u := .int .i64 p2.To) (want1 rfl rfl rfl h10) (ld_one Try.und3 rfl rfl rfl rfl) rfl rfl ?_
          refine RS.op (want1 rfl rfl rfl h10) (op_int rfl rfl (ix_lss _ _ _) rfl) rfl rfl ?_
          refine RS.op (u := .bool (decide (p1.From < p2.To))) (want1 rfl rfl rfl rfl) (op_pick1 rfl h10 rfl) rfl rfl ?_
          refine RS.op (want1 rfl rfl rfl rfl) (op_move rfl) rfl rfl ?_
          refine RS.op (u := .ptr 1 0 2) (want1 rfl rfl rfl h11) (op_fa Try.und53 rfl (sz_of Try.inf3) rfl rfl rfl) rfl rfl ?_
          refine RS.op (u := .int .i64 p2.To) (want1 rfl rfl rfl h11) (ld_one Try.und3 rfl rfl rfl rfl) rfl rfl ?_
          refine RS.op (u := .ptr 0 0 2) (want1 rfl rfl rfl h11) (op_fa Try.und53 rfl (sz_of Try.inf3) rfl rfl rfl) rfl rfl ?_
          refine RS.op (u := .int .i64 p1.To) (want1 rfl rfl rfl h11) (ld_one Try.und3 rfl rfl rfl rfl) rfl rfl ?_
          refine RS.op (want1 rfl rfl rfl h11) (op_int rfl rfl (ix_lss _ _ _) rfl) rfl rfl ?_
          refine RS.op (u := .bool (decide (p2.To < p1.To))) (want1 rfl rfl rfl rfl) (op_pick1 rfl h11 rfl) rfl rfl ?_
          refine RS.op (u := .bool (decide (p2.To < p1.To))) rfl (op_pick0 rfl rfl rfl) rfl rfl ?_
          refine RS.op rfl (op_assign rfl) rfl rfl ?_
          refine RS.done ?_
          repeat refine gq ?_
          exact ⟨_, _, ⟨rfl, rfl⟩, (Nat.zero_le _), Gh.toC (n1 := 2) ⟨rfl, trivial⟩ rfl (Nat.zero_le _) (by simp)⟩
        · skip
          replace h13 := cond_f h11 h13
          replace h13 := Option.some.inj h13
          subst h13
          refine WPU.region Try.tb_ok ?_
          refine RS.op (u := .ptr 0 0 1) rfl (op_fa Try.und53 rfl (sz_of Try.inf3) rfl rfl rfl) rfl rfl ?_
          refine RS.op (u := .int .i64 p1.From) rfl (ld_one Try.und3 rfl rfl rfl rfl) rfl rfl ?_
          refine RS.op (u := .ptr 1 0 1) rfl (op_fa Try.und53 rfl (sz_of Try.inf3) rfl rfl rfl) rfl rfl ?_
          refine RS.op (u := .int .i64 p2.From) rfl (ld_one Try.und3 rfl rfl rfl rfl) rfl rfl ?_
          refine RS.op rfl (op_int rfl rfl (ix_lss _ _ _) rfl) rfl rfl ?_
          refine RS.op rfl (op_move rfl) rfl rfl ?_
          repeat refine RS.no (want0 rfl rfl rfl h3) rfl rfl ?_
          refine RS.op (u := .bool false) rfl (op_pick0 rfl h3 rfl) rfl rfl ?_
          refine RS.op rfl (op_move rfl) rfl rfl ?_
          repeat refine RS.no (want0 rfl rfl rfl rfl) rfl rfl ?_
          refine RS.op (u := .bool false) rfl (op_pick0 rfl rfl rfl) rfl rfl ?_
          refine RS.op rfl (op_move rfl) rfl rfl ?_
          refine RS.op (u := .ptr 1 0 1) (want1 rfl rfl rfl rfl) (op_fa Try.und53 rfl (sz_of Try.inf3) rfl rfl rfl) rfl rfl ?_
          refine RS.op (u := .int .i64 p2.From) (want1 rfl rfl rfl rfl) (ld_one Try.und3 rfl rfl rfl rfl) rfl rfl ?_
          refine RS.op (u := .ptr 0 0 1) (want1 rfl rfl rfl rfl) (op_fa Try.und53 rfl (sz_of Try.inf3) rfl rfl rfl) rfl rfl ?_
          refine RS.op (u := .int .i64 p1.From) (want1 rfl rfl rfl rfl) (ld_one Try.und3 rfl rfl rfl rfl) rfl rfl ?_
          refine RS.op (want1 rfl rfl rfl rfl) (op_int rfl rfl (ix_lss _ _ _) rfl) rfl rfl ?_
          refine RS.op (want1 rfl rfl rfl rfl) (op_move rfl) rfl rfl ?_
          refine RS.op (u := .ptr 0 0 1) (want1 rfl rfl rfl h10) (op_fa Try.und53 rfl (sz_of Try.inf3) rfl rfl rfl) rfl rfl ?_
          refine RS.op (u := .int .i64 p1.From) (want1 rfl rfl rfl h10) (ld_one Try.und3 rfl rfl rfl rfl) rfl rfl ?_
          refine RS.op (u := .ptr 1 0 2) (want1 rfl rfl rfl h10) (op_fa Try.und53 rfl (sz_of Try.inf3) rfl rfl rfl) rfl rfl ?_
          refine RS.op (u := .int .i64 p2.To) (want1 rfl rfl rfl h10) (ld_one Try.und3 rfl rfl rfl rfl) rfl rfl ?_
          refine RS.op (want1 rfl rfl rfl h10) (op_int rfl rfl (ix_lss _ _ _) rfl) rfl rfl ?_
          refine RS.op (u := .bool (decide (p1.From < p2.To))) (want1 rfl rfl rfl rfl) (op_pick1 rfl h10 rfl) rfl rfl ?_
          refine RS.op (want1 rfl rfl rfl rfl) (op_move rfl) rfl rfl ?_
          repeat refine RS.no (want0 rfl rfl rfl h11) rfl rfl ?_
          refine RS.op (u := .bool false) (want1 rfl rfl rfl rfl) (op_pick0 rfl h11 rfl) rfl rfl ?_
          refine RS.op (u := .bool false) rfl (op_pick0 rfl rfl rfl) rfl rfl ?_
          refine RS.op rfl (op_assign rfl) rfl rfl ?_
          refine RS.done ?_
          repeat refine gq ?_
          exact ⟨_, _, ⟨rfl, rfl⟩, (Nat.zero_le _), Gh.toC (n1 := 2) ⟨rfl, trivial⟩ rfl (Nat.zero_le _) (by simp)⟩
      · skip
        replace h13 := cond_f h10 h13
        replace h13 := Option.some.inj h13
        subst h13
        refine WPU.region Try.tb_ok ?_
        refine RS.op (u := .ptr 0 0 1) rfl (op_fa Try.und53 rfl (sz_of Try.inf3) rfl rfl rfl) rfl rfl ?_
        refine RS.op (u := .int .i64 p1.From) rfl (ld_one Try.und3 rfl rfl rfl rfl) rfl rfl ?_
        refine RS.op (u := .ptr 1 0 1) rfl (op_fa Try.und53 rfl (sz_of Try.inf3) rfl rfl rfl) rfl rfl ?_
        refine RS.op (u := .int .i64 p2.From) rfl (ld_one Try.und3 rfl rfl rfl rfl) rfl rfl ?_
        refine RS.op rfl (op_int rfl rfl (ix_lss _ _ _) rfl) rfl rfl ?_
        refine RS.op rfl (op_move rfl) rfl rfl ?_
        repeat refine RS.no (want0 rfl rfl rfl h3) rfl rfl ?_
        refine RS.op (u := .bool false) rfl (op_pick0 rfl h3 rfl) rfl rfl ?_
        refine RS.op rfl (op_move rfl) rfl rfl ?_
        repeat refine RS.no (want0 rfl rfl rfl rfl) rfl rfl ?_
        refine RS.op (u := .bool false) rfl (op_pick0 rfl rfl rfl) rfl rfl ?_
        refine RS.op rfl (op_move rfl) rfl rfl ?_
        refine RS.op (u := .ptr 1 0 1) (want1 rfl rfl rfl rfl) (op_fa Try.und53 rfl (sz_of Try.inf3) rfl rfl rfl) rfl rfl ?_
        refine RS.op (u := .int .i64 p2.From) (want1 rfl rfl rfl rfl) (ld_one Try.und3 rfl rfl rfl rfl) rfl rfl ?_
        refine RS.op (u := .ptr 0 0 1) (want1 rfl rfl rfl rfl) (op_fa Try.und53 rfl (sz_of Try.inf3) rfl rfl rfl) rfl rfl ?_
        refine RS.op (u := .int .i64 p1.From) (want1 rfl rfl rfl rfl) (ld_one Try.und3 rfl rfl rfl rfl) rfl rfl ?_
        refine RS.op (want1 rfl rfl rfl rfl) (op_int rfl rfl (ix_lss _ _ _) rfl) rfl rfl ?_
        refine RS.op (want1 rfl rfl rfl rfl) (op_move rfl) rfl rfl ?_
        repeat refine RS.no (want0 rfl rfl rfl h10) rfl rfl ?_
        refine RS.op (u := .bool false) (want1 rfl rfl rfl rfl) (op_pick0 rfl h10 rfl) rfl rfl ?_
        refine RS.op (want1 rfl rfl rfl rfl) (op_move rfl) rfl rfl ?_
        repeat refine RS.no (want0 rfl rfl rfl rfl) rfl rfl ?_
        refine RS.op (u := .bool false) (want1 rfl rfl rfl rfl) (op_pick0 rfl rfl rfl) rfl rfl ?_
        refine RS.op (u := .bool false) rfl (op_pick0 rfl rfl rfl) rfl rfl ?_
        refine RS.op rfl (op_assign rfl) rfl rfl ?_
        refine RS.done ?_
        repeat refine gq ?_
        exact ⟨_, _, ⟨rfl, rfl⟩, (Nat.zero_le _), Gh.toC (n1 := 2) ⟨rfl, trivial⟩ rfl (Nat.zero_le _) (by simp)⟩
theorem ref50_crosses_ok (n : Nat) (p1 : GBracket) (p2 : GBracket) (r : Bool) (hF : ref50_crosses n p1 p2 = some r) (σ : Sg) : EvU Try.prog 39 [.agg (cGBracket p1), .agg (cGBracket p2)] σ (fun u σ' => u = .bool r ∧ σ' = σ) :=
  EvU.pure1C (ref50_crosses_0 n p1 p2 r hF) σ
def ref50_Match_J4 (z38 : Int) (rc2 : Int → Int → Option (GMetrics)) (z73 : Int) : Option (GMetrics) :=
  rc2 (IntKind.i64.wrap (z38 + 1)) z73
def ref50_Match_K3 (z38 : Int) (z39 : Int) (rc2 : Int → Int → Option (GMetrics)) (b71 : Bool) : Option (GMetrics) :=
  cond b71
    (ref50_Match_J4 z38 rc2 (IntKind.i64.wrap (z39 + 1)))
    (ref50_Match_J4 z38 rc2 z39)
def ref50_Match_L3 (n : Nat) (r3 : (List GBracket)) (r5 : (List GBracket)) (z38 : Int) (z39 : Int) (rc2 : Int → Int → Option (GMetrics)) : Nat → Bool → Int → Option (GMetrics)
  | 0, _, _ => none
  | m3 + 1, b69, z70 =>
    cond (decide (z70 < (r3.length : Int)))
      (bindO (cond b69
        (some true)
        (bindO (idxO r5 z38) fun x76 =>
        bindO (idxO r3 z70) fun x78 =>
        bindO (ref50_crosses n x76 x78) fun r80 =>
        some r80)) fun b82 =>
      (ref50_Match_L3 n r3 r5 z38 z39 rc2 m3) b82 (IntKind.i64.wrap (z70 + 1)))
      (ref50_Match_K3 z38 z39 rc2 b69)
def ref50_Match_K2 (r3 : (List GBracket)) (r5 : (List GBracket)) (r7 : Int) (z12 : Int) (z40 : Int) : Option (GMetrics) :=
  some (GMetrics.mk 1 z12 (r3.length : Int) (r5.length : Int) r7 z40)
def ref50_Match_L2 (n : Nat) (r3 : (List GBracket)) (r5 : (List GBracket)) (r7 : Int) (z12 : Int) : Nat → Int → Int → Option (GMetrics)
  | 0, _, _ => none
  | m2 + 1, z38, z39 =>
    cond (decide (z38 < (r5.length : Int)))
      (ref50_Match_L3 n r3 r5 z38 z39 (ref50_Match_L2 n r3 r5 r7 z12 m2) n false 0)
      (ref50_Match_K2 r3 r5 r7 z12 z39)
def ref50_Match_J1 (n : Nat) (r3 : (List GBracket)) (r5 : (List GBracket)) (r7 : Int) (z12 : Int) : Option (GMetrics) :=
  ref50_Match_L2 n r3 r5 r7 z12 n 0 0
def ref50_Match (n : Nat) (p1 : GDeriv) (p2 : GDeriv) : Option (GMetrics) :=
  bindO (ref50_Brackets n p1) fun r3 =>
  bindO (ref50_Brackets n p2) fun r5 =>
  bindO (ref50_common n r3 r5) fun r7 =>
  bindO (ref50_Equal n p1 p2) fun r9 =>
  cond r9
    (ref50_Match_J1 n r3 r5 r7 1)
    (ref50_Match_J1 n r3 r5 r7 0)
theorem ref50_Match_0 (n : Nat) (p1 : GDeriv) (p2 : GDeriv) (r : GMetrics) (hF : ref50_Match n p1 p2 = some r) : EvU Try.prog 16 [.agg (xGDeriv p1), .agg (xGDeriv p2)] ⟨[], 0⟩ (fun u _ => u = .agg (cGMetrics r) ∧ Bel 0 u) := by
  unfold ref50_Match at hF
  refine EvU.of_body Try.tb_ok Try.fn16 rfl ?_
  refine WPU.ghost (tm' := fr 57 [(0, .agg (xGDeriv p1)), (1, .agg (xGDeriv p2))]) (Gh.start (Nat.le_of_ble_eq_true rfl)) (Nat.zero_le _) ?_
  repeat refine WPU.seq ?_
  refine WPU.region Try.tb_ok ?_
  refine RS.op (u := .ptr 0 0 0) (σ' := ⟨[(0, .row (xGDeriv p1) 24)], 1⟩) rfl (op_box rfl rfl rfl) rfl rfl ?_
  refine RS.op (u := .ptr 1 0 0) (σ' := ⟨[(1, .row (xGDeriv p2) 24), (0, .row (xGDeriv p1) 24)], 2⟩) rfl (op_box rfl rfl rfl) rfl rfl ?_
  refine RS.op (u := .ptr 2 0 0) (σ' := ⟨[(2, .row [.int .i64 0, .int .i64 0, .int .i64 0, .int .i64 0, .int .i64 0, .int .i64 0] 32), (1, .row (xGDeriv p2) 24), (0, .row (xGDeriv p1) 24)], 3⟩) rfl (op_alloc Try.inf32 rfl rfl) rfl rfl ?_
  refine RS.done ?_
  repeat refine gq ?_
  repeat refine WPU.seq ?_
  obtain ⟨r3, h4, hF⟩ := bindO_some hF
  refine WPU.region Try.tb_ok ?_
  refine RS.op (u := .agg (xGDeriv p1)) rfl (ld_agg Try.und24 rfl (sz_of Try.inf24) rfl rfl rfl) rfl rfl ?_
  refine RS.call (u := .isl false (List.map cGBracket r3)) (args := [.agg (xGDeriv p1)]) rfl (op_call rfl rfl Try.fn14 Try.hb14 rfl rfl) (ref50_Brackets_ok n p1 r3 h4 _) rfl rfl ?_
  refine RS.op rfl (op_assign rfl) rfl rfl ?_
  refine RS.done ?_
  repeat refine gq ?_
  repeat refine WPU.seq ?_
  obtain ⟨r5, h6, hF⟩ := bindO_some hF
  refine WPU.region Try.tb_ok ?_
  refine RS.op (u := .agg (xGDeriv p2)) rfl (ld_agg Try.und24 rfl (sz_of Try.inf24) rfl rfl rfl) rfl rfl ?_
  refine RS.call (u := .isl false (List.map cGBracket r5)) (args := [.agg (xGDeriv p2)]) rfl (op_call rfl rfl Try.fn14 Try.hb14 rfl rfl) (ref50_Brackets_ok n p2 r5 h6 _) rfl rfl ?_
  refine RS.op rfl (op_assign rfl) rfl rfl ?_
  refine RS.done ?_
  repeat refine gq ?_
  repeat refine WPU.seq ?_
  obtain ⟨r7, h8, hF⟩ := bindO_some hF
  refine WPU.region Try.tb_ok ?_
  refine RS.op rfl (op_move rfl) rfl rfl ?_
  refine RS.op rfl (op_len rfl rfl rfl (len_isl cGBracket Try.und28)) rfl rfl ?_
  refine RS.op rfl (op_move rfl) rfl rfl ?_
  refine RS.op rfl (op_len rfl rfl rfl (len_isl cGBracket Try.und28)) rfl rfl ?_
  repeat refine RS.op rfl (op_move rfl) rfl rfl ?_
  refine RS.call (u := .int .i64 r7) (args := [.isl false (List.map cGBracket r3), .isl false (List.map cGBracket r5)]) rfl (op_call rfl rfl Try.fn37 Try.hb37 rfl rfl) (ref50_common_ok n r3 r5 r7 h8 _) rfl rfl ?_
  refine RS.op (u := .agg [.int .i64 1, .int .i64 0, .int .i64 (r3.length : Int), .int .i64 (r5.length : Int), .int .i64 r7, .int .i64 0]) rfl (op_bld Try.bd32 rfl rfl rfl) rfl rfl ?_
  refine RS.op (u := .ptr 3 0 0) (σ' := ⟨[(3, .row [.int .i64 0, .int .i64 0, .int .i64 0, .int .i64 0, .int .i64 0, .int .i64 0] 32), (2, .row [.int .i64 0, .int .i64 0, .int .i64 0, .int .i64 0, .int .i64 0, .int .i64 0] 32), (1, .row (xGDeriv p2) 24), (0, .row (xGDeriv p1) 24)], 4⟩) rfl (op_alloc Try.inf32 rfl rfl) rfl rfl ?_
  refine RS.opn (u := .junk) (σ' := ⟨[(3, .row [.int .i64 1, .int .i64 0, .int .i64 (r3.length : Int), .int .i64 (r5.length : Int), .int .i64 r7, .int .i64 0] 32), (2, .row [.int .i64 0, .int .i64 0, .int .i64 0, .int .i64 0, .int .i64 0, .int .i64 0] 32), (1, .row (xGDeriv p2) 24), (0, .row (xGDeriv p1) 24)], 4⟩) rfl (op_store (sz_of Try.inf32) rfl rfl rfl rfl rfl rfl rfl rfl) rfl ?_
  refine RS.done ?_
  repeat refine gq ?_
  repeat refine WPU.seq ?_
  obtain ⟨r9, h10, hF⟩ := bindO_some hF
  refine WPU.region Try.tb_ok ?_
  refine RS.op (u := .agg (xGDeriv p1)) rfl (ld_agg Try.und24 rfl (sz_of Try.inf24) rfl rfl rfl) rfl rfl ?_
  refine RS.op (u := .agg (xGDeriv p2)) rfl (ld_agg Try.und24 rfl (sz_of Try.inf24) rfl rfl rfl) rfl rfl ?_
  refine RS.call (u := .bool r9) (args := [.agg (xGDeriv p1), .agg (xGDeriv p2)]) rfl (op_call rfl rfl Try.fn38 Try.hb38 rfl rfl) (ref50_Equal_ok n p1 p2 r9 h10 _) rfl rfl ?_
  refine RS.done ?_
  repeat refine gq ?_
  repeat refine WPU.seq ?_
  refine WPU.joinK (fun tm σ => ∃ z12 : Int, ref50_Match_J1 n r3 r5 r7 z12 = some r ∧ tm = fr 57 [(4, .ptr 2 0 0), (5, .isl false (List.map cGBracket r3)), (6, .isl false (List.map cGBracket r5)), (7, .ptr 3 0 0)] ∧ σ = ⟨[(3, .row [.int .i64 1, .int .i64 z12, .int .i64 (r3.length : Int), .int .i64 (r5.length : Int), .int .i64 r7, .int .i64 0] 32), (2, .row [.int .i64 0, .int .i64 0, .int .i64 0, .int .i64 0, .int .i64 0, .int .i64 0] 32), (1, .row (xGDeriv p2) 24), (0, .row (xGDeriv p1) 24)], 4⟩) ?_ ?_
  · skip
    rintro _ _ ⟨z12, hF, rfl, rfl⟩
    unfold ref50_Match_J1 at hF
    repeat refine gq ?_
    repeat refine WPU.seq ?_
    refine WPU.region Try.tb_ok ?_
    refine RS.op rfl (op_assign rfl) rfl rfl ?_
    refine RS.done ?_
    repeat refine gq ?_
    repeat refine WPU.seq ?_
    refine WPU.ghost (tm' := fr 57 [(4, .ptr 2 0 0), (5, .isl false (List.map cGBracket r3)), (6, .isl false (List.map cGBracket r5)), (7, .ptr 3 0 0), (8, .int .i64 0)]) (Gh.sub ⟨rfl, rfl, rfl, rfl, rfl, trivial⟩) (Nat.zero_le _) ?_
    refine WPU.loopK (fun m tm σ => ∃ z38 : Int, ∃ z39 : Int, ref50_Match_L2 n r3 r5 r7 z12 m z38 z39 = some r ∧ tm = fr 57 [(4, .ptr 2 0 0), (5, .isl false (List.map cGBracket r3)), (6, .isl false (List.map cGBracket r5)), (7, .ptr 3 0 0), (8, .int .i64 z38)] ∧ σ = ⟨[(3, .row [.int .i64 1, .int .i64 z12, .int .i64 (r3.length : Int), .int .i64 (r5.length : Int), .int .i64 r7, .int .i64 z39] 32), (2, .row [.int .i64 0, .int .i64 0, .int .i64 0, .int .i64 0, .int .i64 0, .int .i64 0] 32), (1, .row (xGDeriv p2) 24), (0, .row (xGDeriv p1) 24)], 4⟩) (fun tm σ => ∃ z40 : Int, ref50_Match_K2 r3 r5 r7 z12 z40 = some r ∧ tm = fr 57 [(4, .ptr 2 0 0), (7, .ptr 3 0 0)] ∧ σ = ⟨[(3, .row [.int .i64 1, .int .i64 z12, .int .i64 (r3.length : Int), .int .i64 (r5.length : Int), .int .i64 r7, .int .i64 z40] 32), (2, .row [.int .i64 0, .int .i64 0, .int .i64 0, .int .i64 0, .int .i64 0, .int .i64 0] 32), (1, .row (xGDeriv p2) 24), (0, .row (xGDeriv p1) 24)], 4⟩) n ⟨0, 0, hF, rfl, rfl⟩ ?_ ?_
    · skip
      rintro _ _ ⟨z40, hF, rfl, rfl⟩
      unfold ref50_Match_K2 at hF
      repeat refine gq ?_
      repeat refine WPU.seq ?_
      refine WPU.region Try.tb_ok ?_
      refine RS.op (u := .agg [.int .i64 1, .int .i64 z12, .int .i64 (r3.length : Int), .int .i64 (r5.length : Int), .int .i64 r7, .int .i64 z40]) rfl (ld_agg Try.und32 rfl (sz_of Try.inf32) rfl rfl rfl) rfl rfl ?_
      refine RS.opn (u := .junk) (σ' := ⟨[(3, .row [.int .i64 1, .int .i64 z12, .int .i64 (r3.length : Int), .int .i64 (r5.length : Int), .int .i64 r7, .int .i64 z40] 32), (2, .row [.int .i64 1, .int .i64 z12, .int .i64 (r3.length : Int), .int .i64 (r5.length : Int), .int .i64 r7, .int .i64 z40] 32), (1, .row (xGDeriv p2) 24), (0, .row (xGDeriv p1) 24)], 4⟩) rfl (op_store (sz_of Try.inf32) rfl rfl rfl rfl rfl rfl rfl rfl) rfl ?_
      refine RS.done ?_
      repeat refine gq ?_
      repeat refine WPU.seq ?_
      refine WPU.ret ?_
      repeat refine gq ?_
      have hr := Option.some.inj hF
      subst hr
      exact ⟨.inr rfl, [.agg [.int .i64 1, .int .i64 z12, .int .i64 (r3.length : Int), .int .i64 (r5.length : Int), .int .i64 r7, .int .i64 z40]], res_c (ld_agg Try.und32 rfl (sz_of Try.inf32) rfl rfl rfl) (res_n), .agg [.int .i64 1, .int .i64 z12, .int .i64 (r3.length : Int), .int .i64 (r5.length : Int), .int .i64 r7, .int .i64 z40], ⟨[], 0⟩, Nat.le_refl _, Gh.toR (.agg [.int .i64 1, .int .i64 z12, .int .i64 (r3.length : Int), .int .i64 (r5.length : Int), .int .i64 r7, .int .i64 z40]) rfl, rfl, BU.h⟩
    · skip
      rintro m2 _ _ ⟨z38, z39, hF, rfl, rfl⟩
      cases m2 with
      | zero => cases hF
      | succ m2 =>
        unfold ref50_Match_L2 at hF
        repeat refine WPU.seq ?_
        refine WPU.region Try.tb_ok ?_
        repeat refine RS.op rfl (op_move rfl) rfl rfl ?_
        refine RS.op rfl (op_len rfl rfl rfl (len_isl cGBracket Try.und28)) rfl rfl ?_
        refine RS.op rfl (op_int rfl rfl (ix_lss _ _ _) rfl) rfl rfl ?_
        refine RS.done ?_
        repeat refine gq ?_
        repeat refine WPU.seq ?_
        refine WPU.condS (t := (decide (z38 < (r5.length : Int)))) rfl (fun h41 => ?_) (fun h41 => ?_)
        · skip
          replace hF := cond_t h41 hF
          repeat refine WPU.seq ?_
          refine WPU.skip ?_
          repeat refine gq ?_
          repeat refine WPU.seq ?_
          refine WPU.block ?_
          repeat refine WPU.seq ?_
          refine WPU.region Try.tb_ok ?_
          refine RS.op rfl (op_assign rfl) rfl rfl ?_
          refine RS.done ?_
          repeat refine gq ?_
          repeat refine WPU.seq ?_
          refine WPU.region Try.tb_ok ?_
          refine RS.op rfl (op_assign rfl) rfl rfl ?_
          refine RS.done ?_
          repeat refine gq ?_
          repeat refine WPU.seq ?_
          refine WPU.ghost (tm' := fr 57 [(4, .ptr 2 0 0), (5, .isl false (List.map cGBracket r3)), (6, .isl false (List.map cGBracket r5)), (7, .ptr 3 0 0), (8, .int .i64 z38), (9, .bool false), (10, .int .i64 0)]) (Gh.sub ⟨rfl, rfl, rfl, rfl, rfl, rfl, rfl, trivial⟩) (Nat.zero_le _) ?_
          refine WPU.loopK (fun m tm σ => ∃ b69 : Bool, ∃ z70 : Int, ref50_Match_L3 n r3 r5 z38 z39 (ref50_Match_L2 n r3 r5 r7 z12 m2) m b69 z70 = some r ∧ tm = fr 57 [(4, .ptr 2 0 0), (5, .isl false (List.map cGBracket r3)), (6, .isl false (List.map cGBracket r5)), (7, .ptr 3 0 0), (8, .int .i64 z38), (9, .bool b69), (10, .int .i64 z70)] ∧ σ = ⟨[(3, .row [.int .i64 1, .int .i64 z12, .int .i64 (r3.length : Int), .int .i64 (r5.length : Int), .int .i64 r7, .int .i64 z39] 32), (2, .row [.int .i64 0, .int .i64 0, .int .i64 0, .int .i64 0, .int .i64 0, .int .i64 0] 32), (1, .row (xGDeriv p2) 24), (0, .row (xGDeriv p1) 24)], 4⟩) (fun tm σ => ∃ b71 : Bool, ref50_Match_K3 z38 z39 (ref50_Match_L2 n r3 r5 r7 z12 m2) b71 = some r ∧ tm = fr 57 [(4, .ptr 2 0 0), (5, .isl false (List.map cGBracket r3)), (6, .isl false (List.map cGBracket r5)), (7, .ptr 3 0 0), (8, .int .i64 z38), (9, .bool b71)] ∧ σ = ⟨[(3, .row [.int .i64 1, .int .i64 z12, .int .i64 (r3.length : Int), .int .i64 (r5.length : Int), .int .i64 r7, .int .i64 z39] 32), (2, .row [.int .i64 0, .int .i64 0, .int .i64 0, .int .i64 0, .int .i64 0, .int .i64 0] 32), (1, .row (xGDeriv p2) 24), (0, .row (xGDeriv p1) 24)], 4⟩) n ⟨false, 0, hF, rfl, rfl⟩ ?_ ?_
          · skip
            rintro _ _ ⟨b71, hF, rfl, rfl⟩
            unfold ref50_Match_K3 at hF
            repeat refine gq ?_
            repeat refine WPU.seq ?_
            refine WPU.region Try.tb_ok ?_
            refine RS.op rfl (op_move rfl) rfl rfl ?_
            refine RS.done ?_
            repeat refine gq ?_
            repeat refine WPU.seq ?_
            refine WPU.joinK (fun tm σ => ∃ z73 : Int, ref50_Match_J4 z38 (ref50_Match_L2 n r3 r5 r7 z12 m2) z73 = some r ∧ tm = fr 57 [(4, .ptr 2 0 0), (5, .isl false (List.map cGBracket r3)), (6, .isl false (List.map cGBracket r5)), (7, .ptr 3 0 0), (8, .int .i64 z38)] ∧ σ = ⟨[(3, .row [.int .i64 1, .int .i64 z12, .int .i64 (r3.length : Int), .int .i64 (r5.length : Int), .int .i64 r7, .int .i64 z73] 32), (2, .row [.int .i64 0, .int .i64 0, .int .i64 0, .int .i64 0, .int .i64 0, .int .i64 0] 32), (1, .row (xGDeriv p2) 24), (0, .row (xGDeriv p1) 24)], 4⟩) ?_ ?_
            · skip
              rintro _ _ ⟨z73, hF, rfl, rfl⟩
              unfold ref50_Match_J4 at hF
              repeat refine gq ?_
              repeat refine WPU.seq ?_
              refine WPU.region Try.tb_ok ?_
              refine RS.op rfl (op_move rfl) rfl rfl ?_
              refine RS.op rfl (op_int rfl rfl (ix_add _ _ _) rfl) rfl rfl ?_
              refine RS.op rfl (op_assign rfl) rfl rfl ?_
              refine RS.done ?_
              repeat refine gq ?_
              exact ⟨m2, _, _, Nat.lt_succ_self _, ⟨(IntKind.i64.wrap (z38 + 1)), z73, hF, rfl, rfl⟩, (Nat.zero_le _), Gh.toC (n1 := 4) ⟨rfl, rfl, rfl, rfl, rfl, trivial⟩ rfl (Nat.zero_le _) (by simp)⟩
            · skip
              refine WPU.condS (t := b71) rfl (fun h72 => ?_) (fun h72 => ?_)
              · skip
                replace hF := cond_t h72 hF
                repeat refine WPU.seq ?_
                refine WPU.region Try.tb_ok ?_
                refine RS.op (u := .ptr 3 0 5) rfl (op_fa Try.und32 rfl (sz_of Try.inf3) rfl rfl rfl) rfl rfl ?_
                refine RS.op (u := .int .i64 z39) rfl (ld_one Try.und3 rfl rfl rfl rfl) rfl rfl ?_
                refine RS.op rfl (op_int rfl rfl (ix_add _ _ _) rfl) rfl rfl ?_
                refine RS.op (u := .ptr 3 0 5) rfl (op_fa Try.und32 rfl (sz_of Try.inf3) rfl rfl rfl) rfl rfl ?_
                refine RS.opn (u := .junk) (σ' := ⟨[(3, .row [.int .i64 1, .int .i64 z12, .int .i64 (r3.length : Int), .int .i64 (r5.length : Int), .int .i64 r7, .int .i64 (IntKind.i64.wrap (z39 + 1))] 32), (2, .row [.int .i64 0, .int .i64 0, .int .i64 0, .int .i64 0, .int .i64 0, .int .i64 0] 32), (1, .row (xGDeriv p2) 24), (0, .row (xGDeriv p1) 24)], 4⟩) rfl (op_store (sz_of Try.inf3) rfl rfl rfl rfl rfl rfl rfl rfl) rfl ?_
                refine RS.done ?_
                repeat refine gq ?_
                exact ⟨_, _, ⟨(IntKind.i64.wrap (z39 + 1)), hF, rfl, rfl⟩, (Nat.zero_le _), Gh.toC (n1 := 4) ⟨rfl, rfl, rfl, rfl, rfl, trivial⟩ rfl (Nat.zero_le _) (by simp)⟩
              · skip
                replace hF := cond_f h72 hF
                repeat refine WPU.seq ?_
                refine WPU.skip ?_
                repeat refine gq ?_
                exact ⟨_, _, ⟨z39, hF, rfl, rfl⟩, (Nat.zero_le _), Gh.toC (n1 := 4) ⟨rfl, rfl, rfl, rfl, rfl, trivial⟩ rfl (Nat.zero_le _) (by simp)⟩
          · skip
            rintro m3 _ _ ⟨b69, z70, hF, rfl, rfl⟩
            cases m3 with
            | zero => cases hF
            | succ m3 =>
              unfold ref50_Match_L3 at hF
              repeat refine WPU.seq ?_
              refine WPU.region Try.tb_ok ?_
              repeat refine RS.op rfl (op_move rfl) rfl rfl ?_
              refine RS.op rfl (op_len rfl rfl rfl (len_isl cGBracket Try.und28)) rfl rfl ?_
              refine RS.op rfl (op_int rfl rfl (ix_lss _ _ _) rfl) rfl rfl ?_
              refine RS.done ?_
              repeat refine gq ?_
              repeat refine WPU.seq ?_
              refine WPU.condS (t := (decide (z70 < (r3.length : Int)))) rfl (fun h74 => ?_) (fun h74 => ?_)
              · skip
                replace hF := cond_t h74 hF
                repeat refine WPU.seq ?_
                refine WPU.skip ?_
                repeat refine gq ?_
                repeat refine WPU.seq ?_
                refine WPU.block ?_
                repeat refine WPU.seq ?_
                obtain ⟨b82, h83, hF⟩ := bindO_some hF
                refine WPU.joinK (fun tm σ => tm = fr 57 [(4, .ptr 2 0 0), (5, .isl false (List.map cGBracket r3)), (6, .isl false (List.map cGBracket r5)), (7, .ptr 3 0 0), (8, .int .i64 z38), (9, .bool b82), (10, .int .i64 z70)] ∧ σ = ⟨[(3, .row [.int .i64 1, .int .i64 z12, .int .i64 (r3.length : Int), .int .i64 (r5.length : Int), .int .i64 r7, .int .i64 z39] 32), (2, .row [.int .i64 0, .int .i64 0, .int .i64 0, .int .i64 0, .int .i64 0, .int .i64 0] 32), (1, .row (xGDeriv p2) 24), (0, .row (xGDeriv p1) 24)], 4⟩) ?_ ?_
                · skip
                  rintro _ _ ⟨rfl, rfl⟩
                  repeat refine gq ?_
                  repeat refine WPU.seq ?_
                  refine WPU.region Try.tb_ok ?_
                  refine RS.op rfl (op_move rfl) rfl rfl ?_
                  refine RS.op rfl (op_int rfl rfl (ix_add _ _ _) rfl) rfl rfl ?_
                  refine RS.op rfl (op_assign rfl) rfl rfl ?_
                  refine RS.done ?_
                  repeat refine gq ?_
                  exact ⟨m3, _, _, Nat.lt_succ_self _, ⟨b82, (IntKind.i64.wrap (z70 + 1)), hF, rfl, rfl⟩, (Nat.zero_le _), Gh.toC (n1 := 4) ⟨rfl, rfl, rfl, rfl, rfl, rfl, rfl, trivial⟩ rfl (Nat.zero_le _) (by simp)⟩
                · skip
                  rcases bool_tf b69 with h75 | h75
                  · skip
                    replace h83 := cond_t h75 h83
                    replace h83 := Option.some.inj h83
                    subst h83
                    refine WPU.drawE Try.tb_ok [] (by kernel_rfl) ?_
                    repeat refine RD.look rfl (op_move rfl) rfl rfl ?_
                    repeat refine RD.no (want0 rfl rfl rfl h75) rfl rfl ?_
                    refine RD.look (u := .bool true) rfl (op_pick1 rfl h75 rfl) rfl rfl ?_
                    refine RD.look rfl (op_assign rfl) rfl rfl ?_
                    refine RD.done ⟨by kernel_rfl, trivial, ?_⟩
                    repeat refine gq ?_
                    exact ⟨_, _, ⟨rfl, rfl⟩, (Nat.zero_le _), Gh.toC (n1 := 4) ⟨rfl, rfl, rfl, rfl, rfl, rfl, rfl, trivial⟩ rfl (Nat.zero_le _) (by simp)⟩
                  · skip
                    replace h83 := cond_f h75 h83
                    obtain ⟨x76, h77, h83⟩ := bindO_some h83
                    obtain ⟨x78, h79, h83⟩ := bindO_some h83
                    obtain ⟨r80, h81, h83⟩ := bindO_some h83
                    replace h83 := Option.some.inj h83
                    subst h83
                    refine WPU.drawE Try.tb_ok [] (by kernel_rfl) ?_
                    repeat refine RD.look rfl (op_move rfl) rfl rfl ?_
                    refine RD.look (want1 rfl rfl rfl h75) (op_move rfl) rfl rfl ?_
                    refine RD.look (want1 rfl rfl rfl h75) (op_move rfl) rfl rfl ?_
                    refine RD.look (u := .iptr (cGBracket x76)) (want1 rfl rfl rfl h75) (op_ia rfl rfl (ia_isl cGBracket Try.und28 (sz_of Try.inf53) len_cGBracket h77 rfl)) rfl rfl ?_
                    refine RD.look (u := .agg (cGBracket x76)) (want1 rfl rfl rfl h75) (li_agg Try.und53 rfl (sz_of Try.inf53) rfl rfl) rfl rfl ?_
                    refine RD.look (want1 rfl rfl rfl h75) (op_move rfl) rfl rfl ?_
                    refine RD.look (want1 rfl rfl rfl h75) (op_move rfl) rfl rfl ?_
                    refine RD.look (u := .iptr (cGBracket x78)) (want1 rfl rfl rfl h75) (op_ia rfl rfl (ia_isl cGBracket Try.und28 (sz_of Try.inf53) len_cGBracket h79 rfl)) rfl rfl ?_
                    refine RD.look (u := .agg (cGBracket x78)) (want1 rfl rfl rfl h75) (li_agg Try.und53 rfl (sz_of Try.inf53) rfl rfl) rfl rfl ?_
                    refine RD.free (u := .bool r80) (args := [.agg (cGBracket x76), .agg (cGBracket x78)]) (want1 rfl rfl rfl h75) (op_call rfl rfl Try.fn39 Try.hb39 rfl rfl) (fun s => ref50_crosses_ok n x76 x78 r80 h81 s) rfl rfl ?_
                    refine RD.look (u := .bool r80) rfl (op_pick0 rfl h75 rfl) rfl rfl ?_
                    refine RD.look rfl (op_assign rfl) rfl rfl ?_
                    refine RD.done ⟨by kernel_rfl, trivial, ?_⟩
                    repeat refine gq ?_
                    exact ⟨_, _, ⟨rfl, rfl⟩, (Nat.zero_le _), Gh.toC (n1 := 4) ⟨rfl, rfl, rfl, rfl, rfl, rfl, rfl, trivial⟩ rfl (Nat.zero_le _) (by simp)⟩
              · skip
                replace hF := cond_f h74 hF
                repeat refine WPU.seq ?_
                refine WPU.exit ?_
                repeat refine gq ?_
                exact ⟨_, _, ⟨b69, hF, rfl, rfl⟩, (Nat.zero_le _), Gh.toC (n1 := 4) ⟨rfl, rfl, rfl, rfl, rfl, rfl, trivial⟩ rfl (Nat.zero_le _) (by simp)⟩
        · skip
          replace hF := cond_f h41 hF
          repeat refine WPU.seq ?_
          refine WPU.exit ?_
          repeat refine gq ?_
          exact ⟨_, _, ⟨z39, hF, rfl, rfl⟩, (Nat.zero_le _), Gh.toC (n1 := 4) ⟨rfl, rfl, trivial⟩ rfl (Nat.zero_le _) (by simp)⟩
  · skip
    refine WPU.condS (t := r9) rfl (fun h11 => ?_) (fun h11 => ?_)
    · skip
      replace hF := cond_t h11 hF
      repeat refine WPU.seq ?_
      refine WPU.region Try.tb_ok ?_
      refine RS.op (u := .ptr 3 0 1) rfl (op_fa Try.und32 rfl (sz_of Try.inf3) rfl rfl rfl) rfl rfl ?_
      refine RS.opn (u := .junk) (σ' := ⟨[(3, .row [.int .i64 1, .int .i64 1, .int .i64 (r3.length : Int), .int .i64 (r5.length : Int), .int .i64 r7, .int .i64 0] 32), (2, .row [.int .i64 0, .int .i64 0, .int .i64 0, .int .i64 0, .int .i64 0, .int .i64 0] 32), (1, .row (xGDeriv p2) 24), (0, .row (xGDeriv p1) 24)], 4⟩) rfl (op_store (sz_of Try.inf3) rfl rfl rfl rfl rfl rfl rfl rfl) rfl ?_
      refine RS.done ?_
      repeat refine gq ?_
      exact ⟨_, _, ⟨1, hF, rfl, rfl⟩, (Nat.zero_le _), Gh.toC (n1 := 4) ⟨rfl, rfl, rfl, rfl, trivial⟩ rfl (Nat.zero_le _) (by simp)⟩
    · skip
      replace hF := cond_f h11 hF
      repeat refine WPU.seq ?_
      refine WPU.skip ?_
      repeat refine gq ?_
      exact ⟨_, _, ⟨0, hF, rfl, rfl⟩, (Nat.zero_le _), Gh.toC (n1 := 4) ⟨rfl, rfl, rfl, rfl, trivial⟩ rfl (Nat.zero_le _) (by simp)⟩
theorem ref50_Match_ok (n : Nat) (p1 : GDeriv) (p2 : GDeriv) (r : GMetrics) (hF : ref50_Match n p1 p2 = some r) (σ : Sg) : EvU Try.prog 16 [.agg (xGDeriv p1), .agg (xGDeriv p2)] σ (fun u σ' => u = .agg (cGMetrics r) ∧ σ' = σ) :=
  EvU.pure1C (ref50_Match_0 n p1 p2 r hF) σ
def evaluate_Reduce_K2 (z11 : Int) (z12 : Int) (z21 : Int) : Option (GRatio × Int) :=
  needO (¬ z21 = 0) (
  needO (¬ z21 = 0) (
  some ((GRatio.mk (IntKind.i64.wrap (z11.tdiv z21)) (IntKind.i64.wrap (z12.tdiv z21))), 0)))
def evaluate_Reduce_L2 (z11 : Int) (z12 : Int) : Nat → Int → Int → Option (GRatio × Int)
  | 0, _, _ => none
  | m2 + 1, z19, z20 =>
    cond (z20 != 0)
      (needO (¬ z20 = 0) (
      (evaluate_Reduce_L2 z11 z12 m2) z20 (z19.tmod z20)))
      (evaluate_Reduce_K2 z11 z12 z19)
def evaluate_Reduce_J1 (n : Nat) (z11 : Int) (z12 : Int) : Option (GRatio × Int) :=
  evaluate_Reduce_L2 z11 z12 n (if (IntKind.i64.wrap (0 - z11)) > z11 then (IntKind.i64.wrap (0 - z11)) else z11) z12
def evaluate_Reduce (n : Nat) (p1 : Int) (p2 : Int) : Option (GRatio × Int) :=
  bindO (cond (p2 == 0)
    (some true)
    (cond (decide (p1 < (-4611686018427387904)))
      (some true)
      (cond (decide (p1 > 4611686018427387904))
        (some true)
        (cond (decide (p2 < (-4611686018427387904)))
          (some true)
          (some (decide (p2 > 4611686018427387904))))))) fun b7 =>
  cond b7
    (some ((GRatio.mk 0 0), 2))
    (cond (decide (p2 < 0))
      (evaluate_Reduce_J1 n (IntKind.i64.wrap (0 - p1)) (IntKind.i64.wrap (0 - p2)))
      (evaluate_Reduce_J1 n p1 p2))
theorem evaluate_Reduce_0 (n : Nat) (p1 : Int) (p2 : Int) (r : GRatio × Int) (hF : evaluate_Reduce n p1 p2 = some r) : EvU Try.prog 24 [.int .i64 p1, .int .i64 p2] ⟨[], 0⟩ (fun u _ => u = .tup [.agg (cGRatio r.1), .int .i64 r.2] ∧ Bel 0 u) := by
  unfold evaluate_Reduce at hF
  refine EvU.of_body Try.tb_ok Try.fn24 rfl ?_
  refine WPU.ghost (tm' := fr 51 [(0, .int .i64 p1), (1, .int .i64 p2)]) (Gh.start (Nat.le_of_ble_eq_true rfl)) (Nat.zero_le _) ?_
  repeat refine WPU.seq ?_
  refine WPU.region Try.tb_ok ?_
  refine RS.op (u := .ptr 0 0 0) (σ' := ⟨[(0, .row [.int .i64 0, .int .i64 0] 35)], 1⟩) rfl (op_alloc Try.inf35 rfl rfl) rfl rfl ?_
  refine RS.op rfl (op_assign rfl) rfl rfl ?_
  refine RS.done ?_
  repeat refine gq ?_
  repeat refine WPU.seq ?_
  obtain ⟨b7, h8, hF⟩ := bindO_some hF
  refine WPU.joinK (fun tm σ => tm = fr 51 [(0, .int .i64 p1), (1, .int .i64 p2), (4, .ptr 0 0 0), (25, .bool b7)] ∧ σ = ⟨[(0, .row [.int .i64 0, .int .i64 0] 35)], 1⟩) ?_ ?_
  · skip
    rintro _ _ ⟨rfl, rfl⟩
    repeat refine gq ?_
    repeat refine WPU.seq ?_
    refine WPU.condS (t := b7) rfl (fun h9 => ?_) (fun h9 => ?_)
    · skip
      replace hF := cond_t h9 hF
      repeat refine WPU.seq ?_
      refine WPU.region Try.tb_ok ?_
      refine RS.op (u := .agg [.int .i64 0, .int .i64 0]) rfl (op_bld Try.bd35 rfl rfl rfl) rfl rfl ?_
      refine RS.opn (u := .junk) (σ' := ⟨[(0, .row [.int .i64 0, .int .i64 0] 35)], 1⟩) rfl (op_store (sz_of Try.inf35) rfl rfl rfl rfl rfl rfl rfl rfl) rfl ?_
      refine RS.op rfl (op_assign rfl) rfl rfl ?_
      refine RS.done ?_
      repeat refine gq ?_
      repeat refine WPU.seq ?_
      refine WPU.ret ?_
      repeat refine gq ?_
      have hr := Option.some.inj hF
      subst hr
      exact ⟨.inr rfl, [.agg [.int .i64 0, .int .i64 0], .int .i64 2], res_c (ld_agg Try.und35 rfl (sz_of Try.inf35) rfl rfl rfl) (res_t rfl (res_n)), .tup [.agg [.int .i64 0, .int .i64 0], .int .i64 2], ⟨[], 0⟩, Nat.le_refl _, Gh.toR (.tup [.agg [.int .i64 0, .int .i64 0], .int .i64 2]) rfl, rfl, BU.h⟩
    · skip
      replace hF := cond_f h9 hF
      repeat refine WPU.seq ?_
      refine WPU.skip ?_
      repeat refine gq ?_
      repeat refine WPU.seq ?_
      refine WPU.region Try.tb_ok ?_
      refine RS.op rfl (op_move rfl) rfl rfl ?_
      refine RS.op rfl (op_int rfl rfl (ix_lss _ _ _) rfl) rfl rfl ?_
      refine RS.done ?_
      repeat refine gq ?_
      repeat refine WPU.seq ?_
      refine WPU.joinK (fun tm σ => ∃ z11 : Int, ∃ z12 : Int, evaluate_Reduce_J1 n z11 z12 = some r ∧ tm = fr 51 [(0, .int .i64 z11), (1, .int .i64 z12), (4, .ptr 0 0 0)] ∧ σ = ⟨[(0, .row [.int .i64 0, .int .i64 0] 35)], 1⟩) ?_ ?_
      · skip
        rintro _ _ ⟨z11, z12, hF, rfl, rfl⟩
        unfold evaluate_Reduce_J1 at hF
        repeat refine gq ?_
        repeat refine WPU.seq ?_
        refine WPU.region Try.tb_ok ?_
        repeat refine RS.op rfl (op_move rfl) rfl rfl ?_
        refine RS.op (u := .int .i64 (IntKind.i64.wrap (0 - z11))) rfl (op_un rfl rfl rfl rfl) rfl rfl ?_
        refine RS.op (u := .int .i64 (if (IntKind.i64.wrap (0 - z11)) > z11 then (IntKind.i64.wrap (0 - z11)) else z11)) rfl (op_max rfl rfl rfl rfl rfl rfl rfl) rfl rfl ?_
        refine RS.op rfl (op_move rfl) rfl rfl ?_
        repeat refine RS.op rfl (op_assign rfl) rfl rfl ?_
        refine RS.done ?_
        repeat refine gq ?_
        repeat refine WPU.seq ?_
        refine WPU.ghost (tm' := fr 51 [(0, .int .i64 z11), (1, .int .i64 z12), (4, .ptr 0 0 0), (6, .int .i64 (if (IntKind.i64.wrap (0 - z11)) > z11 then (IntKind.i64.wrap (0 - z11)) else z11)), (7, .int .i64 z12)]) (Gh.sub ⟨rfl, rfl, rfl, rfl, rfl, trivial⟩) (Nat.zero_le _) ?_
        refine WPU.loopK (fun m tm σ => ∃ z19 : Int, ∃ z20 : Int, evaluate_Reduce_L2 z11 z12 m z19 z20 = some r ∧ tm = fr 51 [(0, .int .i64 z11), (1, .int .i64 z12), (4, .ptr 0 0 0), (6, .int .i64 z19), (7, .int .i64 z20)] ∧ σ = ⟨[(0, .row [.int .i64 0, .int .i64 0] 35)], 1⟩) (fun tm σ => ∃ z21 : Int, evaluate_Reduce_K2 z11 z12 z21 = some r ∧ tm = fr 51 [(0, .int .i64 z11), (1, .int .i64 z12), (4, .ptr 0 0 0), (6, .int .i64 z21)] ∧ σ = ⟨[(0, .row [.int .i64 0, .int .i64 0] 35)], 1⟩) n ⟨(if (IntKind.i64.wrap (0 - z11)) > z11 then (IntKind.i64.wrap (0 - z11)) else z11), z12, hF, rfl, rfl⟩ ?_ ?_
        · skip
          rintro _ _ ⟨z21, hF, rfl, rfl⟩
          unfold evaluate_Reduce_K2 at hF
          repeat refine gq ?_
          repeat refine WPU.seq ?_
          obtain ⟨h22, hF⟩ := needO_some hF
          obtain ⟨h23, hF⟩ := needO_some hF
          refine WPU.drawE Try.tb_ok [] (by kernel_rfl) ?_
          repeat refine RD.look rfl (op_move rfl) rfl rfl ?_
          refine RD.look rfl (op_int rfl rfl (ix_quo _ h22) rfl) rfl rfl ?_
          repeat refine RD.look rfl (op_move rfl) rfl rfl ?_
          refine RD.look rfl (op_int rfl rfl (ix_quo _ h23) rfl) rfl rfl ?_
          refine RD.look (u := .agg [.int .i64 (IntKind.i64.wrap (z11.tdiv z21)), .int .i64 (IntKind.i64.wrap (z12.tdiv z21))]) rfl (op_bld Try.bd35 rfl rfl rfl) rfl rfl ?_
          refine RD.actn (u := .junk) (σ' := ⟨[(0, .row [.int .i64 (IntKind.i64.wrap (z11.tdiv z21)), .int .i64 (IntKind.i64.wrap (z12.tdiv z21))] 35)], 1⟩) rfl (op_store (sz_of Try.inf35) rfl rfl rfl rfl rfl rfl rfl rfl) rfl ?_
          refine RD.look rfl (op_assign rfl) rfl rfl ?_
          refine RD.done ⟨by kernel_rfl, trivial, ?_⟩
          repeat refine gq ?_
          repeat refine WPU.seq ?_
          refine WPU.ret ?_
          repeat refine gq ?_
          have hr := Option.some.inj hF
          subst hr
          exact ⟨.inr rfl, [.agg [.int .i64 (IntKind.i64.wrap (z11.tdiv z21)), .int .i64 (IntKind.i64.wrap (z12.tdiv z21))], .int .i64 0], res_c (ld_agg Try.und35 rfl (sz_of Try.inf35) rfl rfl rfl) (res_t rfl (res_n)), .tup [.agg [.int .i64 (IntKind.i64.wrap (z11.tdiv z21)), .int .i64 (IntKind.i64.wrap (z12.tdiv z21))], .int .i64 0], ⟨[], 0⟩, Nat.le_refl _, Gh.toR (.tup [.agg [.int .i64 (IntKind.i64.wrap (z11.tdiv z21)), .int .i64 (IntKind.i64.wrap (z12.tdiv z21))], .int .i64 0]) rfl, rfl, BU.h⟩
        · skip
          rintro m2 _ _ ⟨z19, z20, hF, rfl, rfl⟩
          cases m2 with
          | zero => cases hF
          | succ m2 =>
            unfold evaluate_Reduce_L2 at hF
            repeat refine WPU.seq ?_
            refine WPU.region Try.tb_ok ?_
            refine RS.op rfl (op_move rfl) rfl rfl ?_
            refine RS.op rfl (op_int rfl rfl (ix_neq _ _ _) rfl) rfl rfl ?_
            refine RS.done ?_
            repeat refine gq ?_
            repeat refine WPU.seq ?_
            refine WPU.condS (t := (z20 != 0)) rfl (fun h24 => ?_) (fun h24 => ?_)
            · skip
              replace hF := cond_t h24 hF
              repeat refine WPU.seq ?_
              refine WPU.skip ?_
              repeat refine gq ?_
              repeat refine WPU.seq ?_
              refine WPU.block ?_
              repeat refine WPU.seq ?_
              obtain ⟨h25, hF⟩ := needO_some hF
              refine WPU.drawE Try.tb_ok [] (by kernel_rfl) ?_
              repeat refine RD.look rfl (op_move rfl) rfl rfl ?_
              refine RD.look rfl (op_int rfl rfl (ix_rem _ h25) rfl) rfl rfl ?_
              repeat refine RD.look rfl (op_assign rfl) rfl rfl ?_
              refine RD.done ⟨by kernel_rfl, trivial, ?_⟩
              repeat refine gq ?_
              exact ⟨m2, _, _, Nat.lt_succ_self _, ⟨z20, (z19.tmod z20), hF, rfl, rfl⟩, (Nat.zero_le _), Gh.toC (n1 := 1) ⟨rfl, rfl, rfl, rfl, rfl, trivial⟩ rfl (Nat.zero_le _) (by simp)⟩
            · skip
              replace hF := cond_f h24 hF
              repeat refine WPU.seq ?_
              refine WPU.exit ?_
              repeat refine gq ?_
              exact ⟨_, _, ⟨z19, hF, rfl, rfl⟩, (Nat.zero_le _), Gh.toC (n1 := 1) ⟨rfl, rfl, rfl, rfl, trivial⟩ rfl (Nat.zero_le _) (by simp)⟩
      · skip
        refine WPU.condS (t := (decide (p2 < 0))) rfl (fun h10 => ?_) (fun h10 => ?_)
        · skip
          replace hF := cond_t h10 hF
          repeat refine WPU.seq ?_
          refine WPU.region Try.tb_ok ?_
          refine RS.op rfl (op_move rfl) rfl rfl ?_
          refine RS.op (u := .int .i64 (IntKind.i64.wrap (0 - p1))) rfl (op_un rfl rfl rfl rfl) rfl rfl ?_
          refine RS.op rfl (op_move rfl) rfl rfl ?_
          refine RS.op (u := .int .i64 (IntKind.i64.wrap (0 - p2))) rfl (op_un rfl rfl rfl rfl) rfl rfl ?_
          repeat refine RS.op rfl (op_assign rfl) rfl rfl ?_
          refine RS.done ?_
          repeat refine gq ?_
          exact ⟨_, _, ⟨(IntKind.i64.wrap (0 - p1)), (IntKind.i64.wrap (0 - p2)), hF, rfl, rfl⟩, (Nat.zero_le _), Gh.toC (n1 := 1) ⟨rfl, rfl, rfl, trivial⟩ rfl (Nat.zero_le _) (by simp)⟩
        · skip
          replace hF := cond_f h10 hF
          repeat refine WPU.seq ?_
          refine WPU.skip ?_
          repeat refine gq ?_
          exact ⟨_, _, ⟨p1, p2, hF, rfl, rfl⟩, (Nat.zero_le _), Gh.toC (n1 := 1) ⟨rfl, rfl, rfl, trivial⟩ rfl (Nat.zero_le _) (by simp)⟩
  · skip
    rcases bool_tf (p2 == 0) with h3 | h3
    · skip
      replace h8 := cond_t h3 h8
      replace h8 := Option.some.inj h8
      subst h8
      refine WPU.region Try.tb_ok ?_
      refine RS.op rfl (op_move rfl) rfl rfl ?_
      refine RS.op rfl (op_int rfl rfl (ix_eql _ _ _) rfl) rfl rfl ?_
      refine RS.op rfl (op_move rfl) rfl rfl ?_
      repeat refine RS.no (want0 rfl rfl rfl h3) rfl rfl ?_
      refine RS.op (u := .bool true) rfl (op_pick1 rfl h3 rfl) rfl rfl ?_
      refine RS.op rfl (op_move rfl) rfl rfl ?_
      repeat refine RS.no (want0 rfl rfl rfl rfl) rfl rfl ?_
      refine RS.op (u := .bool true) rfl (op_pick1 rfl rfl rfl) rfl rfl ?_
      refine RS.op rfl (op_move rfl) rfl rfl ?_
      repeat refine RS.no (want0 rfl rfl rfl rfl) rfl rfl ?_
      refine RS.op (u := .bool true) rfl (op_pick1 rfl rfl rfl) rfl rfl ?_
      refine RS.op rfl (op_move rfl) rfl rfl ?_
      repeat refine RS.no (want0 rfl rfl rfl rfl) rfl rfl ?_
      refine RS.op (u := .bool true) rfl (op_pick1 rfl rfl rfl) rfl rfl ?_
      refine RS.done ?_
      repeat refine gq ?_
      exact ⟨_, _, ⟨rfl, rfl⟩, (Nat.zero_le _), Gh.toC (n1 := 1) ⟨rfl, rfl, rfl, rfl, trivial⟩ rfl (Nat.zero_le _) (by simp)⟩
    · skip
      replace h8 := cond_f h3 h8
      rcases bool_tf (decide (p1 < (-4611686018427387904))) with h4 | h4
      · skip
        replace h8 := cond_t h4 h8
        replace h8 := Option.some.inj h8
        subst h8
        refine WPU.region Try.tb_ok ?_
        refine RS.op rfl (op_move rfl) rfl rfl ?_
        refine RS.op rfl (op_int rfl rfl (ix_eql _ _ _) rfl) rfl rfl ?_
        refine RS.op rfl (op_move rfl) rfl rfl ?_
        refine RS.op (want1 rfl rfl rfl h3) (op_move rfl) rfl rfl ?_
        refine RS.op (want1 rfl rfl rfl h3) (op_int rfl rfl (ix_lss _ _ _) rfl) rfl rfl ?_
        refine RS.op (u := .bool (decide (p1 < (-4611686018427387904)))) rfl (op_pick0 rfl h3 rfl) rfl rfl ?_
        refine RS.op rfl (op_move rfl) rfl rfl ?_
        repeat refine RS.no (want0 rfl rfl rfl h4) rfl rfl ?_
        refine RS.op (u := .bool true) rfl (op_pick1 rfl h4 rfl) rfl rfl ?_
        refine RS.op rfl (op_move rfl) rfl rfl ?_
        repeat refine RS.no (want0 rfl rfl rfl rfl) rfl rfl ?_
        refine RS.op (u := .bool true) rfl (op_pick1 rfl rfl rfl) rfl rfl ?_
        refine RS.op rfl (op_move rfl) rfl rfl ?_
        repeat refine RS.no (want0 rfl rfl rfl rfl) rfl rfl ?_
        refine RS.op (u := .bool true) rfl (op_pick1 rfl rfl rfl) rfl rfl ?_
        refine RS.done ?_
        repeat refine gq ?_
        exact ⟨_, _, ⟨rfl, rfl⟩, (Nat.zero_le _), Gh.toC (n1 := 1) ⟨rfl, rfl, rfl, rfl, trivial⟩ rfl (Nat.zero_le _) (by simp)⟩
      · skip
        replace h8 := cond_f h4 h8
        rcases bool_tf (decide (p1 > 4611686018427387904)) with h5 | h5
        · skip
          replace h8 := cond_t h5 h8
          replace h8 := Option.some.inj h8
          subst h8
          refine WPU.region Try.tb_ok ?_
          refine RS.op rfl (op_move rfl) rfl rfl ?_
          refine RS.op rfl (op_int rfl rfl (ix_eql _ _ _) rfl) rfl rfl ?_
          refine RS.op rfl (op_move rfl) rfl rfl ?_
          refine RS.op (want1 rfl rfl rfl h3) (op_move rfl) rfl rfl ?_
          refine RS.op (want1 rfl rfl rfl h3) (op_int rfl rfl (ix_lss _ _ _) rfl) rfl rfl ?_
          refine RS.op (u := .bool (decide (p1 < (-4611686018427387904)))) rfl (op_pick0 rfl h3 rfl) rfl rfl ?_
          refine RS.op rfl (op_move rfl) rfl rfl ?_
          refine RS.op (want1 rfl rfl rfl h4) (op_move rfl) rfl rfl ?_
          refine RS.op (want1 rfl rfl rfl h4) (op_int rfl rfl (ix_gtr _ _ _) rfl) rfl rfl ?_
          refine RS.op (u := .bool (decide (p1 > 4611686018427387904))) rfl (op_pick0 rfl h4 rfl) rfl rfl ?_
          refine RS.op rfl (op_move rfl) rfl rfl ?_
          repeat refine RS.no (want0 rfl rfl rfl h5) rfl rfl ?_
          refine RS.op (u := .bool true) rfl (op_pick1 rfl h5 rfl) rfl rfl ?_
          refine RS.op rfl (op_move rfl) rfl rfl ?_
          repeat refine RS.no (want0 rfl rfl rfl rfl) rfl rfl ?_
          refine RS.op (u := .bool true) rfl (op_pick1 rfl rfl rfl) rfl rfl ?_
          refine RS.done ?_
          repeat refine gq ?_
          exact ⟨_, _, ⟨rfl, rfl⟩, (Nat.zero_le _), Gh.toC (n1 := 1) ⟨rfl, rfl, rfl, rfl, trivial⟩ rfl (Nat.zero_le _) (by simp)⟩
        · skip
          replace h8 := cond_f h5 h8
          rcases bool_tf (decide (p2 < (-4611686018427387904))) with h6 | h6
          · skip
            replace h8 := cond_t h6 h8
            replace h8 := Option.some.inj h8
            subst h8
            refine WPU.region Try.tb_ok ?_
            refine RS.op rfl (op_move rfl) rfl rfl ?_
            refine RS.op rfl (op_int rfl rfl (ix_eql _ _ _) rfl) rfl rfl ?_
            refine RS.op rfl (op_move rfl) rfl rfl ?_
            refine RS.op (want1 rfl rfl rfl h3) (op_move rfl) rfl rfl ?_
            refine RS.op (want1 rfl rfl rfl h3) (op_int rfl rfl (ix_lss _ _ _) rfl) rfl rfl ?_
            refine RS.op (u := .bool (decide (p1 < (-4611686018427387904)))) rfl (op_pick0 rfl h3 rfl) rfl rfl ?_
            refine RS.op rfl (op_move rfl) rfl rfl ?_
            refine RS.op (want1 rfl rfl rfl h4) (op_move rfl) rfl rfl ?_
            refine RS.op (want1 rfl rfl rfl h4) (op_int rfl rfl (ix_gtr _ _ _) rfl) rfl rfl ?_
            refine RS.op (u := .bool (decide (p1 > 4611686018427387904))) rfl (op_pick0 rfl h4 rfl) rfl rfl ?_
            refine RS.op rfl (op_move rfl) rfl rfl ?_
            refine RS.op (want1 rfl rfl rfl h5) (op_move rfl) rfl rfl ?_
            refine RS.op (want1 rfl rfl rfl h5) (op_int rfl rfl (ix_lss _ _ _) rfl) rfl rfl ?_
            refine RS.op (u := .bool (decide (p2 < (-4611686018427387904)))) rfl (op_pick0 rfl h5 rfl) rfl rfl ?_
            refine RS.op rfl (op_move rfl) rfl rfl ?_
            repeat refine RS.no (want0 rfl rfl rfl h6) rfl rfl ?_
            refine RS.op (u := .bool true) rfl (op_pick1 rfl h6 rfl) rfl rfl ?_
            refine RS.done ?_
            repeat refine gq ?_
            exact ⟨_, _, ⟨rfl, rfl⟩, (Nat.zero_le _), Gh.toC (n1 := 1) ⟨rfl, rfl, rfl, rfl, trivial⟩ rfl (Nat.zero_le _) (by simp)⟩
          · skip
            replace h8 := cond_f h6 h8
            replace h8 := Option.some.inj h8
            subst h8
            refine WPU.region Try.tb_ok ?_
            refine RS.op rfl (op_move rfl) rfl rfl ?_
            refine RS.op rfl (op_int rfl rfl (ix_eql _ _ _) rfl) rfl rfl ?_
            refine RS.op rfl (op_move rfl) rfl rfl ?_
            refine RS.op (want1 rfl rfl rfl h3) (op_move rfl) rfl rfl ?_
            refine RS.op (want1 rfl rfl rfl h3) (op_int rfl rfl (ix_lss _ _ _) rfl) rfl rfl ?_
            refine RS.op (u := .bool (decide (p1 < (-4611686018427387904)))) rfl (op_pick0 rfl h3 rfl) rfl rfl ?_
            refine RS.op rfl (op_move rfl) rfl rfl ?_
            refine RS.op (want1 rfl rfl rfl h4) (op_move rfl) rfl rfl ?_
            refine RS.op (want1 rfl rfl rfl h4) (op_int rfl rfl (ix_gtr _ _ _) rfl) rfl rfl ?_
            refine RS.op (u := .bool (decide (p1 > 4611686018427387904))) rfl (op_pick0 rfl h4 rfl) rfl rfl ?_
            refine RS.op rfl (op_move rfl) rfl rfl ?_
            refine RS.op (want1 rfl rfl rfl h5) (op_move rfl) rfl rfl ?_
            refine RS.op (want1 rfl rfl rfl h5) (op_int rfl rfl (ix_lss _ _ _) rfl) rfl rfl ?_
            refine RS.op (u := .bool (decide (p2 < (-4611686018427387904)))) rfl (op_pick0 rfl h5 rfl) rfl rfl ?_
            refine RS.op rfl (op_move rfl) rfl rfl ?_
            refine RS.op (want1 rfl rfl rfl h6) (op_move rfl) rfl rfl ?_
            refine RS.op (want1 rfl rfl rfl h6) (op_int rfl rfl (ix_gtr _ _ _) rfl) rfl rfl ?_
            refine RS.op (u := .bool (decide (p2 > 4611686018427387904))) rfl (op_pick0 rfl h6 rfl) rfl rfl ?_
            refine RS.done ?_
            repeat refine gq ?_
            exact ⟨_, _, ⟨rfl, rfl⟩, (Nat.zero_le _), Gh.toC (n1 := 1) ⟨rfl, rfl, rfl, rfl, trivial⟩ rfl (Nat.zero_le _) (by simp)⟩
theorem evaluate_Reduce_ok (n : Nat) (p1 : Int) (p2 : Int) (r : GRatio × Int) (hF : evaluate_Reduce n p1 p2 = some r) (σ : Sg) : EvU Try.prog 24 [.int .i64 p1, .int .i64 p2] σ (fun u σ' => u = .tup [.agg (cGRatio r.1), .int .i64 r.2] ∧ σ' = σ) :=
  EvU.pure1C (evaluate_Reduce_0 n p1 p2 r hF) σ
def evaluate_part (n : Nat) (p1 : Int) (p2 : Int) : Option (GRatio) :=
  cond (p2 == 0)
    (some (GRatio.mk 1 1))
    (bindO (evaluate_Reduce n p1 p2) fun r4 =>
    some (GRatio.mk r4.1.Num r4.1.Den))
theorem evaluate_part_0 (n : Nat) (p1 : Int) (p2 : Int) (r : GRatio) (hF : evaluate_part n p1 p2 = some r) : EvU Try.prog 40 [.int .i64 p1, .int .i64 p2] ⟨[], 0⟩ (fun u _ => u = .agg (cGRatio r) ∧ Bel 0 u) := by
  unfold evaluate_part at hF
  refine EvU.of_body Try.tb_ok Try.fn40 rfl ?_
  refine WPU.ghost (tm' := fr 17 [(0, .int .i64 p1), (1, .int .i64 p2)]) (Gh.start (Nat.le_of_ble_eq_true rfl)) (Nat.zero_le _) ?_
  repeat refine WPU.seq ?_
  refine WPU.region Try.tb_ok ?_
  refine RS.op (u := .ptr 0 0 0) (σ' := ⟨[(0, .row [.int .i64 0, .int .i64 0] 35)], 1⟩) rfl (op_alloc Try.inf35 rfl rfl) rfl rfl ?_
  refine RS.done ?_
  repeat refine gq ?_
  repeat refine WPU.seq ?_
  refine WPU.region Try.tb_ok ?_
  refine RS.op rfl (op_move rfl) rfl rfl ?_
  refine RS.op rfl (op_int rfl rfl (ix_eql _ _ _) rfl) rfl rfl ?_
  refine RS.done ?_
  repeat refine gq ?_
  repeat refine WPU.seq ?_
  refine WPU.condS (t := (p2 == 0)) rfl (fun h3 => ?_) (fun h3 => ?_)
  · skip
    replace hF := cond_t h3 hF
    repeat refine WPU.seq ?_
    refine WPU.region Try.tb_ok ?_
    refine RS.op (u := .agg [.int .i64 1, .int .i64 1]) rfl (op_bld Try.bd35 rfl rfl rfl) rfl rfl ?_
    refine RS.opn (u := .junk) (σ' := ⟨[(0, .row [.int .i64 1, .int .i64 1] 35)], 1⟩) rfl (op_store (sz_of Try.inf35) rfl rfl rfl rfl rfl rfl rfl rfl) rfl ?_
    refine RS.done ?_
    repeat refine gq ?_
    repeat refine WPU.seq ?_
    refine WPU.ret ?_
    repeat refine gq ?_
    have hr := Option.some.inj hF
    subst hr
    exact ⟨.inr rfl, [.agg [.int .i64 1, .int .i64 1]], res_c (ld_agg Try.und35 rfl (sz_of Try.inf35) rfl rfl rfl) (res_n), .agg [.int .i64 1, .int .i64 1], ⟨[], 0⟩, Nat.le_refl _, Gh.toR (.agg [.int .i64 1, .int .i64 1]) rfl, rfl, BU.h⟩
  · skip
    replace hF := cond_f h3 hF
    repeat refine WPU.seq ?_
    refine WPU.skip ?_
    repeat refine gq ?_
    repeat refine WPU.seq ?_
    obtain ⟨r4, h5, hF⟩ := bindO_some hF
    refine WPU.region Try.tb_ok ?_
    repeat refine RS.op rfl (op_move rfl) rfl rfl ?_
    refine RS.call (u := .tup [.agg (cGRatio r4.1), .int .i64 r4.2]) (args := [.int .i64 p1, .int .i64 p2]) rfl (op_call rfl rfl Try.fn24 Try.hb24 rfl rfl) (evaluate_Reduce_ok n p1 p2 r4 h5 _) rfl rfl ?_
    refine RS.op rfl (op_move rfl) rfl rfl ?_
    refine RS.op rfl (op_ext rfl rfl) rfl rfl ?_
    refine RS.op rfl (op_ext rfl rfl) rfl rfl ?_
    refine RS.op (u := .ptr 1 0 0) (σ' := ⟨[(1, .row [.int .i64 0, .int .i64 0] 35), (0, .row [.int .i64 0, .int .i64 0] 35)], 2⟩) rfl (op_alloc Try.inf35 rfl rfl) rfl rfl ?_
    refine RS.opn (u := .junk) (σ' := ⟨[(1, .row (cGRatio r4.1) 35), (0, .row [.int .i64 0, .int .i64 0] 35)], 2⟩) rfl (op_store (sz_of Try.inf35) rfl rfl rfl rfl rfl rfl rfl rfl) rfl ?_
    refine RS.op rfl (op_assign rfl) rfl rfl ?_
    refine RS.done ?_
    repeat refine gq ?_
    repeat refine WPU.seq ?_
    refine WPU.region Try.tb_ok ?_
    refine RS.op (u := .agg (cGRatio r4.1)) rfl (ld_agg Try.und35 rfl (sz_of Try.inf35) rfl rfl rfl) rfl rfl ?_
    refine RS.opn (u := .junk) (σ' := ⟨[(1, .row (cGRatio r4.1) 35), (0, .row (cGRatio r4.1) 35)], 2⟩) rfl (op_store (sz_of Try.inf35) rfl rfl rfl rfl rfl rfl rfl rfl) rfl ?_
    refine RS.done ?_
    repeat refine gq ?_
    repeat refine WPU.seq ?_
    refine WPU.ret ?_
    repeat refine gq ?_
    have hr := Option.some.inj hF
    subst hr
    exact ⟨.inr rfl, [.agg (cGRatio r4.1)], res_c (ld_agg Try.und35 rfl (sz_of Try.inf35) rfl rfl rfl) (res_n), .agg (cGRatio r4.1), ⟨[], 0⟩, Nat.le_refl _, Gh.toR (.agg (cGRatio r4.1)) rfl, rfl, BU.h⟩
theorem evaluate_part_ok (n : Nat) (p1 : Int) (p2 : Int) (r : GRatio) (hF : evaluate_part n p1 p2 = some r) (σ : Sg) : EvU Try.prog 40 [.int .i64 p1, .int .i64 p2] σ (fun u σ' => u = .agg (cGRatio r) ∧ σ' = σ) :=
  EvU.pure1C (evaluate_part_0 n p1 p2 r hF) σ
def evaluate_Recall (n : Nat) (p1 : GMetrics) : Option (GRatio) :=
  bindO (evaluate_part n p1.Match p1.Gold) fun r2 =>
  some r2
theorem evaluate_Recall_0 (n : Nat) (p1 : GMetrics) (r : GRatio) (hF : evaluate_Recall n p1 = some r) : EvU Try.prog 17 [.agg (cGMetrics p1)] ⟨[], 0⟩ (fun u _ => u = .agg (cGRatio r) ∧ Bel 0 u) := by
  unfold evaluate_Recall at hF
  refine EvU.of_body Try.tb_ok Try.fn17 rfl ?_
  refine WPU.ghost (tm' := fr 8 [(0, .agg (cGMetrics p1))]) (Gh.start (Nat.le_of_ble_eq_true rfl)) (Nat.zero_le _) ?_
  repeat refine WPU.seq ?_
  refine WPU.region Try.tb_ok ?_
  refine RS.op (u := .ptr 0 0 0) (σ' := ⟨[(0, .row (cGMetrics p1) 32)], 1⟩) rfl (op_box rfl rfl rfl) rfl rfl ?_
  refine RS.op (u := .ptr 1 0 0) (σ' := ⟨[(1, .row [.int .i64 0, .int .i64 0] 35), (0, .row (cGMetrics p1) 32)], 2⟩) rfl (op_alloc Try.inf35 rfl rfl) rfl rfl ?_
  refine RS.done ?_
  repeat refine gq ?_
  repeat refine WPU.seq ?_
  obtain ⟨r2, h3, hF⟩ := bindO_some hF
  refine WPU.region Try.tb_ok ?_
  refine RS.op (u := .ptr 0 0 4) rfl (op_fa Try.und32 rfl (sz_of Try.inf3) rfl rfl rfl) rfl rfl ?_
  refine RS.op (u := .int .i64 p1.Match) rfl (ld_one Try.und3 rfl rfl rfl rfl) rfl rfl ?_
  refine RS.op (u := .ptr 0 0 2) rfl (op_fa Try.und32 rfl (sz_of Try.inf3) rfl rfl rfl) rfl rfl ?_
  refine RS.op (u := .int .i64 p1.Gold) rfl (ld_one Try.und3 rfl rfl rfl rfl) rfl rfl ?_
  refine RS.call (u := .agg (cGRatio r2)) (args := [.int .i64 p1.Match, .int .i64 p1.Gold]) rfl (op_call rfl rfl Try.fn40 Try.hb40 rfl rfl) (evaluate_part_ok n p1.Match p1.Gold r2 h3 _) rfl rfl ?_
  refine RS.opn (u := .junk) (σ' := ⟨[(1, .row (cGRatio r2) 35), (0, .row (cGMetrics p1) 32)], 2⟩) rfl (op_store (sz_of Try.inf35) rfl rfl rfl rfl rfl rfl rfl rfl) rfl ?_
  refine RS.done ?_
  repeat refine gq ?_
  repeat refine WPU.seq ?_
  refine WPU.ret ?_
  repeat refine gq ?_
  have hr := Option.some.inj hF
  subst hr
  exact ⟨.inr rfl, [.agg (cGRatio r2)], res_c (ld_agg Try.und35 rfl (sz_of Try.inf35) rfl rfl rfl) (res_n), .agg (cGRatio r2), ⟨[], 0⟩, Nat.le_refl _, Gh.toR (.agg (cGRatio r2)) rfl, rfl, BU.h⟩
theorem evaluate_Recall_ok (n : Nat) (p1 : GMetrics) (r : GRatio) (hF : evaluate_Recall n p1 = some r) (σ : Sg) : EvU Try.prog 17 [.agg (cGMetrics p1)] σ (fun u σ' => u = .agg (cGRatio r) ∧ σ' = σ) :=
  EvU.pure1C (evaluate_Recall_0 n p1 r hF) σ
def ref50_divisor_K1  (z7 : Int) : Option (Int) :=
  some z7
def ref50_divisor_L1  : Nat → Int → Int → Option (Int)
  | 0, _, _ => none
  | m1 + 1, z5, z6 =>
    cond (decide (z6 > 0))
      (needO (¬ z6 = 0) (
      (ref50_divisor_L1 m1) z6 (z5.tmod z6)))
      (ref50_divisor_K1 z5)
def ref50_divisor (n : Nat) (p1 : Int) (p2 : Int) : Option (Int) :=
  ref50_divisor_L1 n p1 p2
theorem ref50_divisor_0 (n : Nat) (p1 : Int) (p2 : Int) (r : Int) (hF : ref50_divisor n p1 p2 = some r) : EvU Try.prog 43 [.int .i64 p1, .int .i64 p2] ⟨[], 0⟩ (fun u _ => u = .int .i64 r ∧ Bel 0 u) := by
  unfold ref50_divisor at hF
  refine EvU.of_body Try.tb_ok Try.fn43 rfl ?_
  refine WPU.ghost (tm' := fr 14 [(0, .int .i64 p1), (1, .int .i64 p2)]) (Gh.start (Nat.le_of_ble_eq_true rfl)) (Nat.zero_le _) ?_
  repeat refine WPU.seq ?_
  refine WPU.region Try.tb_ok ?_
  refine RS.op rfl (op_assign rfl) rfl rfl ?_
  refine RS.done ?_
  repeat refine gq ?_
  repeat refine WPU.seq ?_
  refine WPU.ghost (tm' := fr 14 [(0, .int .i64 p1), (1, .int .i64 p2)]) (Gh.sub ⟨rfl, rfl, trivial⟩) (Nat.zero_le _) ?_
  refine WPU.loopK (fun m tm σ => ∃ z5 : Int, ∃ z6 : Int, ref50_divisor_L1 m z5 z6 = some r ∧ tm = fr 14 [(0, .int .i64 z5), (1, .int .i64 z6)] ∧ σ = ⟨[], 0⟩) (fun tm σ => ∃ z7 : Int, ref50_divisor_K1 z7 = some r ∧ tm = fr 14 [(0, .int .i64 z7)] ∧ σ = ⟨[], 0⟩) n ⟨p1, p2, hF, rfl, rfl⟩ ?_ ?_
  · skip
    rintro _ _ ⟨z7, hF, rfl, rfl⟩
    unfold ref50_divisor_K1 at hF
    repeat refine gq ?_
    repeat refine WPU.seq ?_
    refine WPU.region Try.tb_ok ?_
    refine RS.op rfl (op_move rfl) rfl rfl ?_
    refine RS.op rfl (op_assign rfl) rfl rfl ?_
    refine RS.done ?_
    repeat refine gq ?_
    repeat refine WPU.seq ?_
    refine WPU.ret ?_
    repeat refine gq ?_
    have hr := Option.some.inj hF
    subst hr
    exact ⟨.inr rfl, [.int .i64 z7], res_t rfl (res_n), .int .i64 z7, ⟨[], 0⟩, Nat.le_refl _, Gh.toR (.int .i64 z7) rfl, rfl, BU.h⟩
  · skip
    rintro m1 _ _ ⟨z5, z6, hF, rfl, rfl⟩
    cases m1 with
    | zero => cases hF
    | succ m1 =>
      unfold ref50_divisor_L1 at hF
      repeat refine WPU.seq ?_
      refine WPU.region Try.tb_ok ?_
      refine RS.op rfl (op_move rfl) rfl rfl ?_
      refine RS.op rfl (op_int rfl rfl (ix_gtr _ _ _) rfl) rfl rfl ?_
      refine RS.done ?_
      repeat refine gq ?_
      repeat refine WPU.seq ?_
      refine WPU.condS (t := (decide (z6 > 0))) rfl (fun h8 => ?_) (fun h8 => ?_)
      · skip
        replace hF := cond_t h8 hF
        repeat refine WPU.seq ?_
        refine WPU.skip ?_
        repeat refine gq ?_
        repeat refine WPU.seq ?_
        refine WPU.block ?_
        repeat refine WPU.seq ?_
        obtain ⟨h9, hF⟩ := needO_some hF
        refine WPU.region Try.tb_ok ?_
        repeat refine RS.op rfl (op_move rfl) rfl rfl ?_
        refine RS.op rfl (op_int rfl rfl (ix_rem _ h9) rfl) rfl rfl ?_
        refine RS.op rfl (op_assign rfl) rfl rfl ?_
        refine RS.done ?_
        repeat refine gq ?_
        repeat refine WPU.seq ?_
        refine WPU.region Try.tb_ok ?_
        refine RS.op rfl (op_move rfl) rfl rfl ?_
        refine RS.op rfl (op_assign rfl) rfl rfl ?_
        refine RS.done ?_
        repeat refine gq ?_
        repeat refine WPU.seq ?_
        refine WPU.region Try.tb_ok ?_
        refine RS.op rfl (op_move rfl) rfl rfl ?_
        refine RS.op rfl (op_assign rfl) rfl rfl ?_
        refine RS.done ?_
        repeat refine gq ?_
        exact ⟨m1, _, _, Nat.lt_succ_self _, ⟨z6, (z5.tmod z6), hF, rfl, rfl⟩, (Nat.zero_le _), Gh.toC (n1 := 0) ⟨rfl, rfl, trivial⟩ rfl (Nat.zero_le _) (by simp)⟩
      · skip
        replace hF := cond_f h8 hF
        repeat refine WPU.seq ?_
        refine WPU.exit ?_
        repeat refine gq ?_
        exact ⟨_, _, ⟨z5, hF, rfl, rfl⟩, (Nat.zero_le _), Gh.toC (n1 := 0) ⟨rfl, trivial⟩ rfl (Nat.zero_le _) (by simp)⟩
theorem ref50_divisor_ok (n : Nat) (p1 : Int) (p2 : Int) (r : Int) (hF : ref50_divisor n p1 p2 = some r) (σ : Sg) : EvU Try.prog 43 [.int .i64 p1, .int .i64 p2] σ (fun u σ' => u = .int .i64 r ∧ σ' = σ) :=
  EvU.pure1C (ref50_divisor_0 n p1 p2 r hF) σ
def ref50_Reduce_J1 (n : Nat) (z11 : Int) (z12 : Int) : Option (GRatio × Int) :=
  bindO (ref50_divisor n (if (IntKind.i64.wrap (0 - z11)) > z11 then (IntKind.i64.wrap (0 - z11)) else z11) z12) fun r13 =>
  needO (¬ r13 = 0) (
  needO (¬ r13 = 0) (
  some ((GRatio.mk (IntKind.i64.wrap (z11.tdiv r13)) (IntKind.i64.wrap (z12.tdiv r13))), 0)))
def ref50_Reduce (n : Nat) (p1 : Int) (p2 : Int) : Option (GRatio × Int) :=
  bindO (cond (p2 == 0)
    (some true)
    (cond (decide (p1 < (-4611686018427387904)))
      (some true)
      (cond (decide (p1 > 4611686018427387904))
        (some true)
        (cond (decide (p2 < (-4611686018427387904)))
          (some true)
          (some (decide (p2 > 4611686018427387904))))))) fun b7 =>
  cond b7
    (some ((GRatio.mk 0 0), 2))
    (cond (decide (p2 < 0))
      (ref50_Reduce_J1 n (IntKind.i64.wrap (0 - p1)) (IntKind.i64.wrap (0 - p2)))
      (ref50_Reduce_J1 n p1 p2))
theorem ref50_Reduce_0 (n : Nat) (p1 : Int) (p2 : Int) (r : GRatio × Int) (hF : ref50_Reduce n p1 p2 = some r) : EvU Try.prog 25 [.int .i64 p1, .int .i64 p2] ⟨[], 0⟩ (fun u _ => u = .tup [.agg (cGRatio r.1), .int .i64 r.2] ∧ Bel 0 u) := by
  unfold ref50_Reduce at hF
  refine EvU.of_body Try.tb_ok Try.fn25 rfl ?_
  refine WPU.ghost (tm' := fr 45 [(0, .int .i64 p1), (1, .int .i64 p2)]) (Gh.start (Nat.le_of_ble_eq_true rfl)) (Nat.zero_le _) ?_
  repeat refine WPU.seq ?_
  refine WPU.region Try.tb_ok ?_
  refine RS.op (u := .ptr 0 0 0) (σ' := ⟨[(0, .row [.int .i64 0, .int .i64 0] 35)], 1⟩) rfl (op_alloc Try.inf35 rfl rfl) rfl rfl ?_
  refine RS.op rfl (op_assign rfl) rfl rfl ?_
  refine RS.done ?_
  repeat refine gq ?_
  repeat refine WPU.seq ?_
  obtain ⟨b7, h8, hF⟩ := bindO_some hF
  refine WPU.joinK (fun tm σ => tm = fr 45 [(0, .int .i64 p1), (1, .int .i64 p2), (4, .ptr 0 0 0), (24, .bool b7)] ∧ σ = ⟨[(0, .row [.int .i64 0, .int .i64 0] 35)], 1⟩) ?_ ?_
  · skip
    rintro _ _ ⟨rfl, rfl⟩
    repeat refine gq ?_
    repeat refine WPU.seq ?_
    refine WPU.condS (t := b7) rfl (fun h9 => ?_) (fun h9 => ?_)
    · skip
      replace hF := cond_t h9 hF
      repeat refine WPU.seq ?_
      refine WPU.region Try.tb_ok ?_
      refine RS.op (u := .agg [.int .i64 0, .int .i64 0]) rfl (op_bld Try.bd35 rfl rfl rfl) rfl rfl ?_
      refine RS.opn (u := .junk) (σ' := ⟨[(0, .row [.int .i64 0, .int .i64 0] 35)], 1⟩) rfl (op_store (sz_of Try.inf35) rfl rfl rfl rfl rfl rfl rfl rfl) rfl ?_
      refine RS.op rfl (op_assign rfl) rfl rfl ?_
      refine RS.done ?_
      repeat refine gq ?_
      repeat refine WPU.seq ?_
      refine WPU.ret ?_
      repeat refine gq ?_
      have hr := Option.some.inj hF
      subst hr
      exact ⟨.inr rfl, [.agg [.int .i64 0, .int .i64 0], .int .i64 2], res_c (ld_agg Try.und35 rfl (sz_of Try.inf35) rfl rfl rfl) (res_t rfl (res_n)), .tup [.agg [.int .i64 0, .int .i64 0], .int .i64 2], ⟨[], 0⟩, Nat.le_refl _, Gh.toR (.tup [.agg [.int .i64 0, .int .i64 0], .int .i64 2]) rfl, rfl, BU.h⟩
    · skip
      replace hF := cond_f h9 hF
      repeat refine WPU.seq ?_
      refine WPU.skip ?_
      repeat refine gq ?_
      repeat refine WPU.seq ?_
      refine WPU.region Try.tb_ok ?_
      refine RS.op rfl (op_move rfl) rfl rfl ?_
      refine RS.op rfl (op_int rfl rfl (ix_lss _ _ _) rfl) rfl rfl ?_
      refine RS.done ?_
      repeat refine gq ?_
      repeat refine WPU.seq ?_
      refine WPU.joinK (fun tm σ => ∃ z11 : Int, ∃ z12 : Int, ref50_Reduce_J1 n z11 z12 = some r ∧ tm = fr 45 [(0, .int .i64 z11), (1, .int .i64 z12), (4, .ptr 0 0 0)] ∧ σ = ⟨[(0, .row [.int .i64 0, .int .i64 0] 35)], 1⟩) ?_ ?_
      · skip
        rintro _ _ ⟨z11, z12, hF, rfl, rfl⟩
        unfold ref50_Reduce_J1 at hF
        repeat refine gq ?_
        repeat refine WPU.seq ?_
        obtain ⟨r13, h14, hF⟩ := bindO_some hF
        refine WPU.region Try.tb_ok ?_
        repeat refine RS.op rfl (op_move rfl) rfl rfl ?_
        refine RS.op (u := .int .i64 (IntKind.i64.wrap (0 - z11))) rfl (op_un rfl rfl rfl rfl) rfl rfl ?_
        refine RS.op (u := .int .i64 (if (IntKind.i64.wrap (0 - z11)) > z11 then (IntKind.i64.wrap (0 - z11)) else z11)) rfl (op_max rfl rfl rfl rfl rfl rfl rfl) rfl rfl ?_
        refine RS.op rfl (op_move rfl) rfl rfl ?_
        refine RS.call (u := .int .i64 r13) (args := [.int .i64 (if (IntKind.i64.wrap (0 - z11)) > z11 then (IntKind.i64.wrap (0 - z11)) else z11), .int .i64 z12]) rfl (op_call rfl rfl Try.fn43 Try.hb43 rfl rfl) (ref50_divisor_ok n (if (IntKind.i64.wrap (0 - z11)) > z11 then (IntKind.i64.wrap (0 - z11)) else z11) z12 r13 h14 _) rfl rfl ?_
        refine RS.op rfl (op_assign rfl) rfl rfl ?_
        refine RS.done ?_
        repeat refine gq ?_
        repeat refine WPU.seq ?_
        obtain ⟨h15, hF⟩ := needO_some hF
        obtain ⟨h16, hF⟩ := needO_some hF
        refine WPU.drawE Try.tb_ok [] (by kernel_rfl) ?_
        repeat refine RD.look rfl (op_move rfl) rfl rfl ?_
        refine RD.look rfl (op_int rfl rfl (ix_quo _ h15) rfl) rfl rfl ?_
        repeat refine RD.look rfl (op_move rfl) rfl rfl ?_
        refine RD.look rfl (op_int rfl rfl (ix_quo _ h16) rfl) rfl rfl ?_
        refine RD.look (u := .agg [.int .i64 (IntKind.i64.wrap (z11.tdiv r13)), .int .i64 (IntKind.i64.wrap (z12.tdiv r13))]) rfl (op_bld Try.bd35 rfl rfl rfl) rfl rfl ?_
        refine RD.actn (u := .junk) (σ' := ⟨[(0, .row [.int .i64 (IntKind.i64.wrap (z11.tdiv r13)), .int .i64 (IntKind.i64.wrap (z12.tdiv r13))] 35)], 1⟩) rfl (op_store (sz_of Try.inf35) rfl rfl rfl rfl rfl rfl rfl rfl) rfl ?_
        refine RD.look rfl (op_assign rfl) rfl rfl ?_
        refine RD.done ⟨by kernel_rfl, trivial, ?_⟩
        repeat refine gq ?_
        repeat refine WPU.seq ?_
        refine WPU.ret ?_
        repeat refine gq ?_
        have hr := Option.some.inj hF
        subst hr
        exact ⟨.inr rfl, [.agg [.int .i64 (IntKind.i64.wrap (z11.tdiv r13)), .int .i64 (IntKind.i64.wrap (z12.tdiv r13))], .int .i64 0], res_c (ld_agg Try.und35 rfl (sz_of Try.inf35) rfl rfl rfl) (res_t rfl (res_n)), .tup [.agg [.int .i64 (IntKind.i64.wrap (z11.tdiv r13)), .int .i64 (IntKind.i64.wrap (z12.tdiv r13))], .int .i64 0], ⟨[], 0⟩, Nat.le_refl _, Gh.toR (.tup [.agg [.int .i64 (IntKind.i64.wrap (z11.tdiv r13)), .int .i64 (IntKind.i64.wrap (z12.tdiv r13))], .int .i64 0]) rfl, rfl, BU.h⟩
      · skip
        refine WPU.condS (t := (decide (p2 < 0))) rfl (fun h10 => ?_) (fun h10 => ?_)
        · skip
          replace hF := cond_t h10 hF
          repeat refine WPU.seq ?_
          refine WPU.region Try.tb_ok ?_
          refine RS.op rfl (op_move rfl) rfl rfl ?_
          refine RS.op (u := .int .i64 (IntKind.i64.wrap (0 - p1))) rfl (op_un rfl rfl rfl rfl) rfl rfl ?_
          refine RS.op rfl (op_assign rfl) rfl rfl ?_
          refine RS.done ?_
          repeat refine gq ?_
          repeat refine WPU.seq ?_
          refine WPU.region Try.tb_ok ?_
          refine RS.op rfl (op_move rfl) rfl rfl ?_
          refine RS.op (u := .int .i64 (IntKind.i64.wrap (0 - p2))) rfl (op_un rfl rfl rfl rfl) rfl rfl ?_
          refine RS.op rfl (op_assign rfl) rfl rfl ?_
          refine RS.done ?_
          repeat refine gq ?_
          exact ⟨_, _, ⟨(IntKind.i64.wrap (0 - p1)), (IntKind.i64.wrap (0 - p2)), hF, rfl, rfl⟩, (Nat.zero_le _), Gh.toC (n1 := 1) ⟨rfl, rfl, rfl, trivial⟩ rfl (Nat.zero_le _) (by simp)⟩
        · skip
          replace hF := cond_f h10 hF
          repeat refine WPU.seq ?_
          refine WPU.skip ?_
          repeat refine gq ?_
          exact ⟨_, _, ⟨p1, p2, hF, rfl, rfl⟩, (Nat.zero_le _), Gh.toC (n1 := 1) ⟨rfl, rfl, rfl, trivial⟩ rfl (Nat.zero_le _) (by simp)⟩
  · skip
    rcases bool_tf (p2 == 0) with h3 | h3
    · skip
      replace h8 := cond_t h3 h8
      replace h8 := Option.some.inj h8
      subst h8
      refine WPU.region Try.tb_ok ?_
      refine RS.op rfl (op_move rfl) rfl rfl ?_
      refine RS.op rfl (op_int rfl rfl (ix_eql _ _ _) rfl) rfl rfl ?_
      refine RS.op rfl (op_move rfl) rfl rfl ?_
      repeat refine RS.no (want0 rfl rfl rfl h3) rfl rfl ?_
      refine RS.op (u := .bool true) rfl (op_pick1 rfl h3 rfl) rfl rfl ?_
      refine RS.op rfl (op_move rfl) rfl rfl ?_
      repeat refine RS.no (want0 rfl rfl rfl rfl) rfl rfl ?_
      refine RS.op (u := .bool true) rfl (op_pick1 rfl rfl rfl) rfl rfl ?_
      refine RS.op rfl (op_move rfl) rfl rfl ?_
      repeat refine RS.no (want0 rfl rfl rfl rfl) rfl rfl ?_
      refine RS.op (u := .bool true) rfl (op_pick1 rfl rfl rfl) rfl rfl ?_
      refine RS.op rfl (op_move rfl) rfl rfl ?_
      repeat refine RS.no (want0 rfl rfl rfl rfl) rfl rfl ?_
      refine RS.op (u := .bool true) rfl (op_pick1 rfl rfl rfl) rfl rfl ?_
      refine RS.done ?_
      repeat refine gq ?_
      exact ⟨_, _, ⟨rfl, rfl⟩, (Nat.zero_le _), Gh.toC (n1 := 1) ⟨rfl, rfl, rfl, rfl, trivial⟩ rfl (Nat.zero_le _) (by simp)⟩
    · skip
      replace h8 := cond_f h3 h8
      rcases bool_tf (decide (p1 < (-4611686018427387904))) with h4 | h4
      · skip
        replace h8 := cond_t h4 h8
        replace h8 := Option.some.inj h8
        subst h8
        refine WPU.region Try.tb_ok ?_
        refine RS.op rfl (op_move rfl) rfl rfl ?_
        refine RS.op rfl (op_int rfl rfl (ix_eql _ _ _) rfl) rfl rfl ?_
        refine RS.op rfl (op_move rfl) rfl rfl ?_
        refine RS.op (want1 rfl rfl rfl h3) (op_move rfl) rfl rfl ?_
        refine RS.op (want1 rfl rfl rfl h3) (op_int rfl rfl (ix_lss _ _ _) rfl) rfl rfl ?_
        refine RS.op (u := .bool (decide (p1 < (-4611686018427387904)))) rfl (op_pick0 rfl h3 rfl) rfl rfl ?_
        refine RS.op rfl (op_move rfl) rfl rfl ?_
        repeat refine RS.no (want0 rfl rfl rfl h4) rfl rfl ?_
        refine RS.op (u := .bool true) rfl (op_pick1 rfl h4 rfl) rfl rfl ?_
        refine RS.op rfl (op_move rfl) rfl rfl ?_
        repeat refine RS.no (want0 rfl rfl rfl rfl) rfl rfl ?_
        refine RS.op (u := .bool true) rfl (op_pick1 rfl rfl rfl) rfl rfl ?_
        refine RS.op rfl (op_move rfl) rfl rfl ?_
        repeat refine RS.no (want0 rfl rfl rfl rfl) rfl rfl ?_
        refine RS.op (u := .bool true) rfl (op_pick1 rfl rfl rfl) rfl rfl ?_
        refine RS.done ?_
        repeat refine gq ?_
        exact ⟨_, _, ⟨rfl, rfl⟩, (Nat.zero_le _), Gh.toC (n1 := 1) ⟨rfl, rfl, rfl, rfl, trivial⟩ rfl (Nat.zero_le _) (by simp)⟩
      · skip
        replace h8 := cond_f h4 h8
        rcases bool_tf (decide (p1 > 4611686018427387904)) with h5 | h5
        · skip
          replace h8 := cond_t h5 h8
          replace h8 := Option.some.inj h8
          subst h8
          refine WPU.region Try.tb_ok ?_
          refine RS.op rfl (op_move rfl) rfl rfl ?_
          refine RS.op rfl (op_int rfl rfl (ix_eql _ _ _) rfl) rfl rfl ?_
          refine RS.op rfl (op_move rfl) rfl rfl ?_
          refine RS.op (want1 rfl rfl rfl h3) (op_move rfl) rfl rfl ?_
          refine RS.op (want1 rfl rfl rfl h3) (op_int rfl rfl (ix_lss _ _ _) rfl) rfl rfl ?_
          refine RS.op (u := .bool (decide (p1 < (-4611686018427387904)))) rfl (op_pick0 rfl h3 rfl) rfl rfl ?_
          refine RS.op rfl (op_move rfl) rfl rfl ?_
          refine RS.op (want1 rfl rfl rfl h4) (op_move rfl) rfl rfl ?_
          refine RS.op (want1 rfl rfl rfl h4) (op_int rfl rfl (ix_gtr _ _ _) rfl) rfl rfl ?_
          refine RS.op (u := .bool (decide (p1 > 4611686018427387904))) rfl (op_pick0 rfl h4 rfl) rfl rfl ?_
          refine RS.op rfl (op_move rfl) rfl rfl ?_
          repeat refine RS.no (want0 rfl rfl rfl h5) rfl rfl ?_
          refine RS.op (u := .bool true) rfl (op_pick1 rfl h5 rfl) rfl rfl ?_
          refine RS.op rfl (op_move rfl) rfl rfl ?_
          repeat refine RS.no (want0 rfl rfl rfl rfl) rfl rfl ?_
          refine RS.op (u := .bool true) rfl (op_pick1 rfl rfl rfl) rfl rfl ?_
          refine RS.done ?_
          repeat refine gq ?_
          exact ⟨_, _, ⟨rfl, rfl⟩, (Nat.zero_le _), Gh.toC (n1 := 1) ⟨rfl, rfl, rfl, rfl, trivial⟩ rfl (Nat.zero_le _) (by simp)⟩
        · skip
          replace h8 := cond_f h5 h8
          rcases bool_tf (decide (p2 < (-4611686018427387904))) with h6 | h6
          · skip
            replace h8 := cond_t h6 h8
            replace h8 := Option.some.inj h8
            subst h8
            refine WPU.region Try.tb_ok ?_
            refine RS.op rfl (op_move rfl) rfl rfl ?_
            refine RS.op rfl (op_int rfl rfl (ix_eql _ _ _) rfl) rfl rfl ?_
            refine RS.op rfl (op_move rfl) rfl rfl ?_
            refine RS.op (want1 rfl rfl rfl h3) (op_move rfl) rfl rfl ?_
            refine RS.op (want1 rfl rfl rfl h3) (op_int rfl rfl (ix_lss _ _ _) rfl) rfl rfl ?_
            refine RS.op (u := .bool (decide (p1 < (-4611686018427387904)))) rfl (op_pick0 rfl h3 rfl) rfl rfl ?_
            refine RS.op rfl (op_move rfl) rfl rfl ?_
            refine RS.op (want1 rfl rfl rfl h4) (op_move rfl) rfl rfl ?_
            refine RS.op (want1 rfl rfl rfl h4) (op_int rfl rfl (ix_gtr _ _ _) rfl) rfl rfl ?_
            refine RS.op (u := .bool (decide (p1 > 4611686018427387904))) rfl (op_pick0 rfl h4 rfl) rfl rfl ?_
            refine RS.op rfl (op_move rfl) rfl rfl ?_
            refine RS.op (want1 rfl rfl rfl h5) (op_move rfl) rfl rfl ?_
            refine RS.op (want1 rfl rfl rfl h5) (op_int rfl rfl (ix_lss _ _ _) rfl) rfl rfl ?_
            refine RS.op (u := .bool (decide (p2 < (-4611686018427387904)))) rfl (op_pick0 rfl h5 rfl) rfl rfl ?_
            refine RS.op rfl (op_move rfl) rfl rfl ?_
            repeat refine RS.no (want0 rfl rfl rfl h6) rfl rfl ?_
            refine RS.op (u := .bool true) rfl (op_pick1 rfl h6 rfl) rfl rfl ?_
            refine RS.done ?_
            repeat refine gq ?_
            exact ⟨_, _, ⟨rfl, rfl⟩, (Nat.zero_le _), Gh.toC (n1 := 1) ⟨rfl, rfl, rfl, rfl, trivial⟩ rfl (Nat.zero_le _) (by simp)⟩
          · skip
            replace h8 := cond_f h6 h8
            replace h8 := Option.some.inj h8
            subst h8
            refine WPU.region Try.tb_ok ?_
            refine RS.op rfl (op_move rfl) rfl rfl ?_
            refine RS.op rfl (op_int rfl rfl (ix_eql _ _ _) rfl) rfl rfl ?_
            refine RS.op rfl (op_move rfl) rfl rfl ?_
            refine RS.op (want1 rfl rfl rfl h3) (op_move rfl) rfl rfl ?_
            refine RS.op (want1 rfl rfl rfl h3) (op_int rfl rfl (ix_lss _ _ _) rfl) rfl rfl ?_
            refine RS.op (u := .bool (decide (p1 < (-4611686018427387904)))) rfl (op_pick0 rfl h3 rfl) rfl rfl ?_
            refine RS.op rfl (op_move rfl) rfl rfl ?_
            refine RS.op (want1 rfl rfl rfl h4) (op_move rfl) rfl rfl ?_
            refine RS.op (want1 rfl rfl rfl h4) (op_int rfl rfl (ix_gtr _ _ _) rfl) rfl rfl ?_
            refine RS.op (u := .bool (decide (p1 > 4611686018427387904))) rfl (op_pick0 rfl h4 rfl) rfl rfl ?_
            refine RS.op rfl (op_move rfl) rfl rfl ?_
            refine RS.op (want1 rfl rfl rfl h5) (op_move rfl) rfl rfl ?_
            refine RS.op (want1 rfl rfl rfl h5) (op_int rfl rfl (ix_lss _ _ _) rfl) rfl rfl ?_
            refine RS.op (u := .bool (decide (p2 < (-4611686018427387904)))) rfl (op_pick0 rfl h5 rfl) rfl rfl ?_
            refine RS.op rfl (op_move rfl) rfl rfl ?_
            refine RS.op (want1 rfl rfl rfl h6) (op_move rfl) rfl rfl ?_
            refine RS.op (want1 rfl rfl rfl h6) (op_int rfl rfl (ix_gtr _ _ _) rfl) rfl rfl ?_
            refine RS.op (u := .bool (decide (p2 > 4611686018427387904))) rfl (op_pick0 rfl h6 rfl) rfl rfl ?_
            refine RS.done ?_
            repeat refine gq ?_
            exact ⟨_, _, ⟨rfl, rfl⟩, (Nat.zero_le _), Gh.toC (n1 := 1) ⟨rfl, rfl, rfl, rfl, trivial⟩ rfl (Nat.zero_le _) (by simp)⟩
theorem ref50_Reduce_ok (n : Nat) (p1 : Int) (p2 : Int) (r : GRatio × Int) (hF : ref50_Reduce n p1 p2 = some r) (σ : Sg) : EvU Try.prog 25 [.int .i64 p1, .int .i64 p2] σ (fun u σ' => u = .tup [.agg (cGRatio r.1), .int .i64 r.2] ∧ σ' = σ) :=
  EvU.pure1C (ref50_Reduce_0 n p1 p2 r hF) σ
def ref50_part (n : Nat) (p1 : Int) (p2 : Int) : Option (GRatio) :=
  cond (p2 == 0)
    (some (GRatio.mk 1 1))
    (bindO (ref50_Reduce n p1 p2) fun r4 =>
    some (GRatio.mk r4.1.Num r4.1.Den))
theorem ref50_part_0 (n : Nat) (p1 : Int) (p2 : Int) (r : GRatio) (hF : ref50_part n p1 p2 = some r) : EvU Try.prog 41 [.int .i64 p1, .int .i64 p2] ⟨[], 0⟩ (fun u _ => u = .agg (cGRatio r) ∧ Bel 0 u) := by
  unfold ref50_part at hF
  refine EvU.of_body Try.tb_ok Try.fn41 rfl ?_
  refine WPU.ghost (tm' := fr 17 [(0, .int .i64 p1), (1, .int .i64 p2)]) (Gh.start (Nat.le_of_ble_eq_true rfl)) (Nat.zero_le _) ?_
  repeat refine WPU.seq ?_
  refine WPU.region Try.tb_ok ?_
  refine RS.op (u := .ptr 0 0 0) (σ' := ⟨[(0, .row [.int .i64 0, .int .i64 0] 35)], 1⟩) rfl (op_alloc Try.inf35 rfl rfl) rfl rfl ?_
  refine RS.done ?_
  repeat refine gq ?_
  repeat refine WPU.seq ?_
  refine WPU.region Try.tb_ok ?_
  refine RS.op rfl (op_move rfl) rfl rfl ?_
  refine RS.op rfl (op_int rfl rfl (ix_eql _ _ _) rfl) rfl rfl ?_
  refine RS.done ?_
  repeat refine gq ?_
  repeat refine WPU.seq ?_
  refine WPU.condS (t := (p2 == 0)) rfl (fun h3 => ?_) (fun h3 => ?_)
  · skip
    replace hF := cond_t h3 hF
    repeat refine WPU.seq ?_
    refine WPU.region Try.tb_ok ?_
    refine RS.op (u := .agg [.int .i64 1, .int .i64 1]) rfl (op_bld Try.bd35 rfl rfl rfl) rfl rfl ?_
    refine RS.opn (u := .junk) (σ' := ⟨[(0, .row [.int .i64 1, .int .i64 1] 35)], 1⟩) rfl (op_store (sz_of Try.inf35) rfl rfl rfl rfl rfl rfl rfl rfl) rfl ?_
    refine RS.done ?_
    repeat refine gq ?_
    repeat refine WPU.seq ?_
    refine WPU.ret ?_
    repeat refine gq ?_
    have hr := Option.some.inj hF
    subst hr
    exact ⟨.inr rfl, [.agg [.int .i64 1, .int .i64 1]], res_c (ld_agg Try.und35 rfl (sz_of Try.inf35) rfl rfl rfl) (res_n), .agg [.int .i64 1, .int .i64 1], ⟨[], 0⟩, Nat.le_refl _, Gh.toR (.agg [.int .i64 1, .int .i64 1]) rfl, rfl, BU.h⟩
  · skip
    replace hF := cond_f h3 hF
    repeat refine WPU.seq ?_
    refine WPU.skip ?_
    repeat refine gq ?_
    repeat refine WPU.seq ?_
    obtain ⟨r4, h5, hF⟩ := bindO_some hF
    refine WPU.region Try.tb_ok ?_
    repeat refine RS.op rfl (op_move rfl) rfl rfl ?_
    refine RS.call (u := .tup [.agg (cGRatio r4.1), .int .i64 r4.2]) (args := [.int .i64 p1, .int .i64 p2]) rfl (op_call rfl rfl Try.fn25 Try.hb25 rfl rfl) (ref50_Reduce_ok n p1 p2 r4 h5 _) rfl rfl ?_
    refine RS.op rfl (op_move rfl) rfl rfl ?_
    refine RS.op rfl (op_ext rfl rfl) rfl rfl ?_
    refine RS.op rfl (op_ext rfl rfl) rfl rfl ?_
    refine RS.op (u := .ptr 1 0 0) (σ' := ⟨[(1, .row [.int .i64 0, .int .i64 0] 35), (0, .row [.int .i64 0, .int .i64 0] 35)], 2⟩) rfl (op_alloc Try.inf35 rfl rfl) rfl rfl ?_
    refine RS.opn (u := .junk) (σ' := ⟨[(1, .row (cGRatio r4.1) 35), (0, .row [.int .i64 0, .int .i64 0] 35)], 2⟩) rfl (op_store (sz_of Try.inf35) rfl rfl rfl rfl rfl rfl rfl rfl) rfl ?_
    refine RS.op rfl (op_assign rfl) rfl rfl ?_
    refine RS.done ?_
    repeat refine gq ?_
    repeat refine WPU.seq ?_
    refine WPU.region Try.tb_ok ?_
    refine RS.op (u := .agg (cGRatio r4.1)) rfl (ld_agg Try.und35 rfl (sz_of Try.inf35) rfl rfl rfl) rfl rfl ?_
    refine RS.opn (u := .junk) (σ' := ⟨[(1, .row (cGRatio r4.1) 35), (0, .row (cGRatio r4.1) 35)], 2⟩) rfl (op_store (sz_of Try.inf35) rfl rfl rfl rfl rfl rfl rfl rfl) rfl ?_
    refine RS.done ?_
    repeat refine gq ?_
    repeat refine WPU.seq ?_
    refine WPU.ret ?_
    repeat refine gq ?_
    have hr := Option.some.inj hF
    subst hr
    exact ⟨.inr rfl, [.agg (cGRatio r4.1)], res_c (ld_agg Try.und35 rfl (sz_of Try.inf35) rfl rfl rfl) (res_n), .agg (cGRatio r4.1), ⟨[], 0⟩, Nat.le_refl _, Gh.toR (.agg (cGRatio r4.1)) rfl, rfl, BU.h⟩
theorem ref50_part_ok (n : Nat) (p1 : Int) (p2 : Int) (r : GRatio) (hF : ref50_part n p1 p2 = some r) (σ : Sg) : EvU Try.prog 41 [.int .i64 p1, .int .i64 p2] σ (fun u σ' => u = .agg (cGRatio r) ∧ σ' = σ) :=
  EvU.pure1C (ref50_part_0 n p1 p2 r hF) σ
def ref50_Recall (n : Nat) (p1 : GMetrics) : Option (GRatio) :=
  bindO (ref50_part n p1.Match p1.Gold) fun r2 =>
  some r2
theorem ref50_Recall_0 (n : Nat) (p1 : GMetrics) (r : GRatio) (hF : ref50_Recall n p1 = some r) : EvU Try.prog 18 [.agg (cGMetrics p1)] ⟨[], 0⟩ (fun u _ => u = .agg (cGRatio r) ∧ Bel 0 u) := by
  unfold ref50_Recall at hF
  refine EvU.of_body Try.tb_ok Try.fn18 rfl ?_
  refine WPU.ghost (tm' := fr 8 [(0, .agg (cGMetrics p1))]) (Gh.start (Nat.le_of_ble_eq_true rfl)) (Nat.zero_le _) ?_
  repeat refine WPU.seq ?_
  refine WPU.region Try.tb_ok ?_
  refine RS.op (u := .ptr 0 0 0) (σ' := ⟨[(0, .row (cGMetrics p1) 32)], 1⟩) rfl (op_box rfl rfl rfl) rfl rfl ?_
  refine RS.op (u := .ptr 1 0 0) (σ' := ⟨[(1, .row [.int .i64 0, .int .i64 0] 35), (0, .row (cGMetrics p1) 32)], 2⟩) rfl (op_alloc Try.inf35 rfl rfl) rfl rfl ?_
  refine RS.done ?_
  repeat refine gq ?_
  repeat refine WPU.seq ?_
  obtain ⟨r2, h3, hF⟩ := bindO_some hF
  refine WPU.region Try.tb_ok ?_
  refine RS.op (u := .ptr 0 0 4) rfl (op_fa Try.und32 rfl (sz_of Try.inf3) rfl rfl rfl) rfl rfl ?_
  refine RS.op (u := .int .i64 p1.Match) rfl (ld_one Try.und3 rfl rfl rfl rfl) rfl rfl ?_
  refine RS.op (u := .ptr 0 0 2) rfl (op_fa Try.und32 rfl (sz_of Try.inf3) rfl rfl rfl) rfl rfl ?_
  refine RS.op (u := .int .i64 p1.Gold) rfl (ld_one Try.und3 rfl rfl rfl rfl) rfl rfl ?_
  refine RS.call (u := .agg (cGRatio r2)) (args := [.int .i64 p1.Match, .int .i64 p1.Gold]) rfl (op_call rfl rfl Try.fn41 Try.hb41 rfl rfl) (ref50_part_ok n p1.Match p1.Gold r2 h3 _) rfl rfl ?_
  refine RS.opn (u := .junk) (σ' := ⟨[(1, .row (cGRatio r2) 35), (0, .row (cGMetrics p1) 32)], 2⟩) rfl (op_store (sz_of Try.inf35) rfl rfl rfl rfl rfl rfl rfl rfl) rfl ?_
  refine RS.done ?_
  repeat refine gq ?_
  repeat refine WPU.seq ?_
  refine WPU.ret ?_
  repeat refine gq ?_
  have hr := Option.some.inj hF
  subst hr
  exact ⟨.inr rfl, [.agg (cGRatio r2)], res_c (ld_agg Try.und35 rfl (sz_of Try.inf35) rfl rfl rfl) (res_n), .agg (cGRatio r2), ⟨[], 0⟩, Nat.le_refl _, Gh.toR (.agg (cGRatio r2)) rfl, rfl, BU.h⟩
theorem ref50_Recall_ok (n : Nat) (p1 : GMetrics) (r : GRatio) (hF : ref50_Recall n p1 = some r) (σ : Sg) : EvU Try.prog 18 [.agg (cGMetrics p1)] σ (fun u σ' => u = .agg (cGRatio r) ∧ σ' = σ) :=
  EvU.pure1C (ref50_Recall_0 n p1 r hF) σ
def evaluate_Precision (n : Nat) (p1 : GMetrics) : Option (GRatio) :=
  bindO (evaluate_part n p1.Match p1.Test) fun r2 =>
  some r2
theorem evaluate_Precision_0 (n : Nat) (p1 : GMetrics) (r : GRatio) (hF : evaluate_Precision n p1 = some r) : EvU Try.prog 19 [.agg (cGMetrics p1)] ⟨[], 0⟩ (fun u _ => u = .agg (cGRatio r) ∧ Bel 0 u) := by
  unfold evaluate_Precision at hF
  refine EvU.of_body Try.tb_ok Try.fn19 rfl ?_
  refine WPU.ghost (tm' := fr 8 [(0, .agg (cGMetrics p1))]) (Gh.start (Nat.le_of_ble_eq_true rfl)) (Nat.zero_le _) ?_
  repeat refine WPU.seq ?_
  refine WPU.region Try.tb_ok ?_
  refine RS.op (u := .ptr 0 0 0) (σ' := ⟨[(0, .row (cGMetrics p1) 32)], 1⟩) rfl (op_box rfl rfl rfl) rfl rfl ?_
  refine RS.op (u := .ptr 1 0 0) (σ' := ⟨[(1, .row [.int .i64 0, .int .i64 0] 35), (0, .row (cGMetrics p1) 32)], 2⟩) rfl (op_alloc Try.inf35 rfl rfl) rfl rfl ?_
  refine RS.done ?_
  repeat refine gq ?_
  repeat refine WPU.seq ?_
  obtain ⟨r2, h3, hF⟩ := bindO_some hF
  refine WPU.region Try.tb_ok ?_
  refine RS.op (u := .ptr 0 0 4) rfl (op_fa Try.und32 rfl (sz_of Try.inf3) rfl rfl rfl) rfl rfl ?_
  refine RS.op (u := .int .i64 p1.Match) rfl (ld_one Try.und3 rfl rfl rfl rfl) rfl rfl ?_
  refine RS.op (u := .ptr 0 0 3) rfl (op_fa Try.und32 rfl (sz_of Try.inf3) rfl rfl rfl) rfl rfl ?_
  refine RS.op (u := .int .i64 p1.Test) rfl (ld_one Try.und3 rfl rfl rfl rfl) rfl rfl ?_
  refine RS.call (u := .agg (cGRatio r2)) (args := [.int .i64 p1.Match, .int .i64 p1.Test]) rfl (op_call rfl rfl Try.fn40 Try.hb40 rfl rfl) (evaluate_part_ok n p1.Match p1.Test r2 h3 _) rfl rfl ?_
  refine RS.opn (u := .junk) (σ' := ⟨[(1, .row (cGRatio r2) 35), (0, .row (cGMetrics p1) 32)], 2⟩) rfl (op_store (sz_of Try.inf35) rfl rfl rfl rfl rfl rfl rfl rfl) rfl ?_
  refine RS.done ?_
  repeat refine gq ?_
  repeat refine WPU.seq ?_
  refine WPU.ret ?_
  repeat refine gq ?_
  have hr := Option.some.inj hF
  subst hr
  exact ⟨.inr rfl, [.agg (cGRatio r2)], res_c (ld_agg Try.und35 rfl (sz_of Try.inf35) rfl rfl rfl) (res_n), .agg (cGRatio r2), ⟨[], 0⟩, Nat.le_refl _, Gh.toR (.agg (cGRatio r2)) rfl, rfl, BU.h⟩
theorem evaluate_Precision_ok (n : Nat) (p1 : GMetrics) (r : GRatio) (hF : evaluate_Precision n p1 = some r) (σ : Sg) : EvU Try.prog 19 [.agg (cGMetrics p1)] σ (fun u σ' => u = .agg (cGRatio r) ∧ σ' = σ) :=
  EvU.pure1C (evaluate_Precision_0 n p1 r hF) σ
def ref50_Precision (n : Nat) (p1 : GMetrics) : Option (GRatio) :=
  bindO (ref50_part n p1.Match p1.Test) fun r2 =>
  some r2
theorem ref50_Precision_0 (n : Nat) (p1 : GMetrics) (r : GRatio) (hF : ref50_Precision n p1 = some r) : EvU Try.prog 20 [.agg (cGMetrics p1)] ⟨[], 0⟩ (fun u _ => u = .agg (cGRatio r) ∧ Bel 0 u) := by
  unfold ref50_Precision at hF
  refine EvU.of_body Try.tb_ok Try.fn20 rfl ?_
  refine WPU.ghost (tm' := fr 8 [(0, .agg (cGMetrics p1))]) (Gh.start (Nat.le_of_ble_eq_true rfl)) (Nat.zero_le _) ?_
  repeat refine WPU.seq ?_
  refine WPU.region Try.tb_ok ?_
  refine RS.op (u := .ptr 0 0 0) (σ' := ⟨[(0, .row (cGMetrics p1) 32)], 1⟩) rfl (op_box rfl rfl rfl) rfl rfl ?_
  refine RS.op (u := .ptr 1 0 0) (σ' := ⟨[(1, .row [.int .i64 0, .int .i64 0] 35), (0, .row (cGMetrics p1) 32)], 2⟩) rfl (op_alloc Try.inf35 rfl rfl) rfl rfl ?_
  refine RS.done ?_
  repeat refine gq ?_
  repeat refine WPU.seq ?_
  obtain ⟨r2, h3, hF⟩ := bindO_some hF
  refine WPU.region Try.tb_ok ?_
  refine RS.op (u := .ptr 0 0 4) rfl (op_fa Try.und32 rfl (sz_of Try.inf3) rfl rfl rfl) rfl rfl ?_
  refine RS.op (u := .int .i64 p1.Match) rfl (ld_one Try.und3 rfl rfl rfl rfl) rfl rfl ?_
  refine RS.op (u := .ptr 0 0 3) rfl (op_fa Try.und32 rfl (sz_of Try.inf3) rfl rfl rfl) rfl rfl ?_
  refine RS.op (u := .int .i64 p1.Test) rfl (ld_one Try.und3 rfl rfl rfl rfl) rfl rfl ?_
  refine RS.call (u := .agg (cGRatio r2)) (args := [.int .i64 p1.Match, .int .i64 p1.Test]) rfl (op_call rfl rfl Try.fn41 Try.hb41 rfl rfl) (ref50_part_ok n p1.Match p1.Test r2 h3 _) rfl rfl ?_
  refine RS.opn (u := .junk) (σ' := ⟨[(1, .row (cGRatio r2) 35), (0, .row (cGMetrics p1) 32)], 2⟩) rfl (op_store (sz_of Try.inf35) rfl rfl rfl rfl rfl rfl rfl rfl) rfl ?_
  refine RS.done ?_
  repeat refine gq ?_
  repeat refine WPU.seq ?_
  refine WPU.ret ?_
  repeat refine gq ?_
  have hr := Option.some.inj hF
  subst hr
  exact ⟨.inr rfl, [.agg (cGRatio r2)], res_c (ld_agg Try.und35 rfl (sz_of Try.inf35) rfl rfl rfl) (res_n), .agg (cGRatio r2), ⟨[], 0⟩, Nat.le_refl _, Gh.toR (.agg (cGRatio r2)) rfl, rfl, BU.h⟩
theorem ref50_Precision_ok (n : Nat) (p1 : GMetrics) (r : GRatio) (hF : ref50_Precision n p1 = some r) (σ : Sg) : EvU Try.prog 20 [.agg (cGMetrics p1)] σ (fun u σ' => u = .agg (cGRatio r) ∧ σ' = σ) :=
  EvU.pure1C (ref50_Precision_0 n p1 r hF) σ
def law50_EvaluateMatches (n : Nat) (p1 : GDeriv) (p2 : GDeriv) : Option (Bool) :=
  bindO (law50_valid n ([p1, p2])) fun r3 =>
  cond (!r3)
    (bindO (law50_exampleHolds n) fun r6 =>
    some r6)
    (bindO (evaluate_Match n p1 p2) fun r8 =>
    bindO (ref50_Match n p1 p2) fun r10 =>
    bindO (cond (eqGMetrics r8 r10)
      (bindO (evaluate_Recall n r8) fun r13 =>
      bindO (ref50_Recall n r10) fun r15 =>
      cond (eqGRatio r13 r15)
        (bindO (evaluate_Precision n r8) fun r18 =>
        bindO (ref50_Precision n r10) fun r20 =>
        cond (eqGRatio r18 r20)
          (bindO (law50_exampleHolds n) fun r23 =>
          some r23)
          (some false))
        (some false))
      (some false)) fun b25 =>
    some b25)
theorem law50_EvaluateMatches_0 (n : Nat) (p1 : GDeriv) (p2 : GDeriv) (r : Bool) (hF : law50_EvaluateMatches n p1 p2 = some r) : EvU Try.prog 4 [.agg (xGDeriv p1), .agg (xGDeriv p2)] ⟨[], 0⟩ (fun u _ => u = .bool r ∧ Bel 0 u) := by
  unfold law50_EvaluateMatches at hF
  refine EvU.of_body Try.tb_ok Try.fn4 rfl ?_
  refine WPU.ghost (tm' := fr 39 [(0, .agg (xGDeriv p1)), (1, .agg (xGDeriv p2))]) (Gh.start (Nat.le_of_ble_eq_true rfl)) (Nat.zero_le _) ?_
  repeat refine WPU.seq ?_
  refine WPU.region Try.tb_ok ?_
  refine RS.op (u := .ptr 0 0 0) (σ' := ⟨[(0, .row (xGDeriv p1) 24)], 1⟩) rfl (op_box rfl rfl rfl) rfl rfl ?_
  refine RS.op (u := .ptr 1 0 0) (σ' := ⟨[(1, .row (xGDeriv p2) 24), (0, .row (xGDeriv p1) 24)], 2⟩) rfl (op_box rfl rfl rfl) rfl rfl ?_
  refine RS.op rfl (op_assign rfl) rfl rfl ?_
  refine RS.done ?_
  repeat refine gq ?_
  repeat refine WPU.seq ?_
  obtain ⟨r3, h4, hF⟩ := bindO_some hF
  refine WPU.region Try.tb_ok ?_
  refine RS.op (u := .agg (xGDeriv p1)) rfl (ld_agg Try.und24 rfl (sz_of Try.inf24) rfl rfl rfl) rfl rfl ?_
  refine RS.op (u := .agg (xGDeriv p2)) rfl (ld_agg Try.und24 rfl (sz_of Try.inf24) rfl rfl rfl) rfl rfl ?_
  refine RS.op (u := .sl 2 0 2 2) (σ' := ⟨[(2, .row [.int .i64 p1.Kind, .str p1.Name, .int .i64 p1.From, .int .i64 p1.To, .isl false (List.map cGDeriv p1.Kids), .int .i64 p2.Kind, .str p2.Name, .int .i64 p2.From, .int .i64 p2.To, .isl false (List.map cGDeriv p2.Kids)] 24), (1, .row (xGDeriv p2) 24), (0, .row (xGDeriv p1) 24)], 3⟩) rfl (op_bsl Try.und22 Try.inf24 rfl rfl rfl rfl rfl rfl rfl) rfl rfl ?_
  refine RS.call (u := .bool r3) (args := [.sl 2 0 2 2]) rfl (op_call rfl rfl Try.fn10 Try.hb10 rfl rfl) (EvU.view (law50_valid_0 n ([p1, p2]) r3 h4) BUL.h (by simp only [toV, toVL, okL, okC, cond_true] <;> rfl) (fun m => by simp [ren, renL]) (Gh.trans (Gh.fz (tm' := [.isl true (List.map cGDeriv ([p1, p2]))]) (h' := [(1, .row (xGDeriv p2) 24), (0, .row (xGDeriv p1) 24)]) 2 (.row [.int .i64 p1.Kind, .str p1.Name, .int .i64 p1.From, .int .i64 p1.To, .isl false (List.map cGDeriv p1.Kids), .int .i64 p2.Kind, .str p2.Name, .int .i64 p2.From, .int .i64 p2.To, .isl false (List.map cGDeriv p2.Kids)] 24) 5 rfl (by simp) (by simp only [oneU, fzL_nil, fzL_cons, fz_int, fz_bool, fz_str, fz_nils, fz_nilp, fz_nilm, fz_nilf, fz_junk, fz_isl, fz_map, fz_agg, fz_tup, fz_fn, junkT, fz_sl, fz_p0, fz_xGDeriv, Nat.reduceLeDiff, Nat.reduceMul, List.length_cons, List.length_nil, Nat.reduceAdd] <;> simp only [chunks, List.take, List.drop, List.map, cGDeriv_eq, xGDeriv]) (by simp only [fzH, fzB, Nat.beq, cond_true, cond_false, oneU, fzL_nil, fzL_cons, fz_int, fz_bool, fz_str, fz_nils, fz_nilp, fz_nilm, fz_nilf, fz_junk, fz_isl, fz_map, fz_agg, fz_tup, fz_fn, junkT, fz_sl, fz_p0, fz_xGDeriv, Nat.reduceLeDiff, Nat.reduceMul, List.length_cons, List.length_nil, Nat.reduceAdd])) (Gh.wk (tm' := [.isl false (List.map cGDeriv ([p1, p2]))]) (.cons (.full _) .nil)))) rfl rfl ?_
  refine RS.op (u := .bool (!r3)) rfl (op_un rfl rfl rfl rfl) rfl rfl ?_
  refine RS.done ?_
  repeat refine gq ?_
  repeat refine WPU.seq ?_
  refine WPU.condS (t := (!r3)) rfl (fun h5 => ?_) (fun h5 => ?_)
  · skip
    replace hF := cond_t h5 hF
    repeat refine WPU.seq ?_
    obtain ⟨r6, h7, hF⟩ := bindO_some hF
    refine WPU.region Try.tb_ok ?_
    refine RS.call (u := .bool r6) (args := []) rfl (op_call rfl rfl Try.fn11 Try.hb11 rfl rfl) (law50_exampleHolds_ok n  r6 h7 _) rfl rfl ?_
    refine RS.op rfl (op_assign rfl) rfl rfl ?_
    refine RS.done ?_
    repeat refine gq ?_
    repeat refine WPU.seq ?_
    refine WPU.ret ?_
    repeat refine gq ?_
    have hr := Option.some.inj hF
    subst hr
    exact ⟨.inr rfl, [.bool r6], res_t rfl (res_n), .bool r6, ⟨[], 0⟩, Nat.le_refl _, Gh.toR (.bool r6) rfl, rfl, BU.h⟩
  · skip
    replace hF := cond_f h5 hF
    repeat refine WPU.seq ?_
    refine WPU.skip ?_
    repeat refine gq ?_
    repeat refine WPU.seq ?_
    obtain ⟨r8, h9, hF⟩ := bindO_some hF
    obtain ⟨r10, h11, hF⟩ := bindO_some hF
    refine WPU.drawQ Try.tb_ok [(6, [.int .i64 0, .int .i64 0, .int .i64 0, .int .i64 0, .int .i64 0, .int .i64 0], 32), (7, [.int .i64 0, .int .i64 0, .int .i64 0, .int .i64 0, .int .i64 0, .int .i64 0], 32)] [] (nb := 3) (σe := ⟨[(2, .row [.int .i64 p1.Kind, .str p1.Name, .int .i64 p1.From, .int .i64 p1.To, .isl false (List.map cGDeriv p1.Kids), .int .i64 p2.Kind, .str p2.Name, .int .i64 p2.From, .int .i64 p2.To, .isl false (List.map cGDeriv p2.Kids)] 24), (1, .row (xGDeriv p2) 24), (0, .row (xGDeriv p1) 24)], 5⟩) (σ1 := ⟨[(4, .row [.int .i64 0, .int .i64 0, .int .i64 0, .int .i64 0, .int .i64 0, .int .i64 0] 32), (3, .row [.int .i64 0, .int .i64 0, .int .i64 0, .int .i64 0, .int .i64 0, .int .i64 0] 32), (2, .row [.int .i64 p1.Kind, .str p1.Name, .int .i64 p1.From, .int .i64 p1.To, .isl false (List.map cGDeriv p1.Kids), .int .i64 p2.Kind, .str p2.Name, .int .i64 p2.From, .int .i64 p2.To, .isl false (List.map cGDeriv p2.Kids)] 24), (1, .row (xGDeriv p2) 24), (0, .row (xGDeriv p1) 24)], 5⟩) (q := [⟨6, 3, [.int .i64 0, .int .i64 0, .int .i64 0, .int .i64 0, .int .i64 0, .int .i64 0], 32⟩, ⟨7, 4, [.int .i64 0, .int .i64 0, .int .i64 0, .int .i64 0, .int .i64 0, .int .i64 0], 32⟩]) (by kernel_rfl) (List.cons_ne_nil _ _) ⟨⟨_, _, _, Try.inf32, rfl, rfl⟩, ⟨_, _, _, Try.inf32, rfl, rfl⟩, trivial⟩ rfl rfl rfl rfl ?_
    refine RQ.early (u := .agg (xGDeriv p1)) rfl (ld_agg Try.und24 rfl (sz_of Try.inf24) rfl rfl rfl) (ld_agg Try.und24 rfl (sz_of Try.inf24) rfl rfl rfl) rfl BU.h rfl rfl ?_
    refine RQ.early (u := .agg (xGDeriv p2)) rfl (ld_agg Try.und24 rfl (sz_of Try.inf24) rfl rfl rfl) (ld_agg Try.und24 rfl (sz_of Try.inf24) rfl rfl rfl) rfl BU.h rfl rfl ?_
    refine RQ.free (u := .agg (cGMetrics r8)) (args := [.agg (xGDeriv p1), .agg (xGDeriv p2)]) rfl (op_call rfl rfl Try.fn15 Try.hb15 rfl rfl) (fun s => evaluate_Match_ok n p1 p2 r8 h9 s) BU.h rfl rfl ?_
    refine RQ.early (u := .agg (xGDeriv p1)) rfl (ld_agg Try.und24 rfl (sz_of Try.inf24) rfl rfl rfl) (ld_agg Try.und24 rfl (sz_of Try.inf24) rfl rfl rfl) rfl BU.h rfl rfl ?_
    refine RQ.early (u := .agg (xGDeriv p2)) rfl (ld_agg Try.und24 rfl (sz_of Try.inf24) rfl rfl rfl) (ld_agg Try.und24 rfl (sz_of Try.inf24) rfl rfl rfl) rfl BU.h rfl rfl ?_
    refine RQ.free (u := .agg (cGMetrics r10)) (args := [.agg (xGDeriv p1), .agg (xGDeriv p2)]) rfl (op_call rfl rfl Try.fn16 Try.hb16 rfl rfl) (fun s => ref50_Match_ok n p1 p2 r10 h11 s) BU.h rfl rfl ?_
    refine RQ.alloc rfl rfl rfl rfl rfl ?_
    refine RQ.alloc rfl rfl rfl rfl rfl ?_
    refine RQ.actn (u := .junk) (σ' := ⟨[(4, .row [.int .i64 0, .int .i64 0, .int .i64 0, .int .i64 0, .int .i64 0, .int .i64 0] 32), (3, .row (cGMetrics r8) 32), (2, .row [.int .i64 p1.Kind, .str p1.Name, .int .i64 p1.From, .int .i64 p1.To, .isl false (List.map cGDeriv p1.Kids), .int .i64 p2.Kind, .str p2.Name, .int .i64 p2.From, .int .i64 p2.To, .isl false (List.map cGDeriv p2.Kids)] 24), (1, .row (xGDeriv p2) 24), (0, .row (xGDeriv p1) 24)], 5⟩) rfl (op_store (sz_of Try.inf32) rfl rfl rfl rfl rfl rfl rfl rfl) rfl ?_
    refine RQ.actn (u := .junk) (σ' := ⟨[(4, .row (cGMetrics r10) 32), (3, .row (cGMetrics r8) 32), (2, .row [.int .i64 p1.Kind, .str p1.Name, .int .i64 p1.From, .int .i64 p1.To, .isl false (List.map cGDeriv p1.Kids), .int .i64 p2.Kind, .str p2.Name, .int .i64 p2.From, .int .i64 p2.To, .isl false (List.map cGDeriv p2.Kids)] 24), (1, .row (xGDeriv p2) 24), (0, .row (xGDeriv p1) 24)], 5⟩) rfl (op_store (sz_of Try.inf32) rfl rfl rfl rfl rfl rfl rfl rfl) rfl ?_
    refine RQ.done ⟨by kernel_rfl, by kernel_rfl, trivial, ?_⟩
    repeat refine gq ?_
    repeat refine WPU.seq ?_
    obtain ⟨b25, h26, hF⟩ := bindO_some hF
    refine WPU.joinK (fun tm σ => tm = fr 39 [(4, .bool b25)] ∧ σ = ⟨[(4, .row (cGMetrics r10) 32), (3, .row (cGMetrics r8) 32), (2, .row [.int .i64 p1.Kind, .str p1.Name, .int .i64 p1.From, .int .i64 p1.To, .isl false (List.map cGDeriv p1.Kids), .int .i64 p2.Kind, .str p2.Name, .int .i64 p2.From, .int .i64 p2.To, .isl false (List.map cGDeriv p2.Kids)] 24), (1, .row (xGDeriv p2) 24), (0, .row (xGDeriv p1) 24)], 5⟩) ?_ ?_
    · skip
      rintro _ _ ⟨rfl, rfl⟩
      repeat refine gq ?_
      repeat refine WPU.seq ?_
      refine WPU.ret ?_
      repeat refine gq ?_
      have hr := Option.some.inj hF
      subst hr
      exact ⟨.inr rfl, [.bool b25], res_t rfl (res_n), .bool b25, ⟨[], 0⟩, Nat.le_refl _, Gh.toR (.bool b25) rfl, rfl, BU.h⟩
    · skip
      rcases bool_tf (eqGMetrics r8 r10) with h12 | h12
      · skip
        replace h26 := cond_t h12 h26
        obtain ⟨r13, h14, h26⟩ := bindO_some h26
        obtain ⟨r15, h16, h26⟩ := bindO_some h26
        rcases bool_tf (eqGRatio r13 r15) with h17 | h17
        · skip
          replace h26 := cond_t h17 h26
          obtain ⟨r18, h19, h26⟩ := bindO_some h26
          obtain ⟨r20, h21, h26⟩ := bindO_some h26
          rcases bool_tf (eqGRatio r18 r20) with h22 | h22
          · skip
            replace h26 := cond_t h22 h26
            obtain ⟨r23, h24, h26⟩ := bindO_some h26
            replace h26 := Option.some.inj h26
            subst h26
            refine WPU.drawE Try.tb_ok [] (by kernel_rfl) ?_
            refine RD.look (u := .agg (cGMetrics r8)) rfl (ld_agg Try.und32 rfl (sz_of Try.inf32) rfl rfl rfl) rfl rfl ?_
            refine RD.look (u := .agg (cGMetrics r10)) rfl (ld_agg Try.und32 rfl (sz_of Try.inf32) rfl rfl rfl) rfl rfl ?_
            refine RD.look (u := .bool (eqGMetrics r8 r10)) rfl (op_bin rfl rfl (eqq32_eql r8 r10)) rfl rfl ?_
            refine RD.look rfl (op_move rfl) rfl rfl ?_
            refine RD.look (u := .agg (cGMetrics r8)) (want1 rfl rfl rfl h12) (ld_agg Try.und32 rfl (sz_of Try.inf32) rfl rfl rfl) rfl rfl ?_
            refine RD.free (u := .agg (cGRatio r13)) (args := [.agg (cGMetrics r8)]) (want1 rfl rfl rfl h12) (op_call rfl rfl Try.fn17 Try.hb17 rfl rfl) (fun s => evaluate_Recall_ok n r8 r13 h14 s) rfl rfl ?_
            refine RD.look (u := .agg (cGMetrics r10)) (want1 rfl rfl rfl h12) (ld_agg Try.und32 rfl (sz_of Try.inf32) rfl rfl rfl) rfl rfl ?_
            refine RD.free (u := .agg (cGRatio r15)) (args := [.agg (cGMetrics r10)]) (want1 rfl rfl rfl h12) (op_call rfl rfl Try.fn18 Try.hb18 rfl rfl) (fun s => ref50_Recall_ok n r10 r15 h16 s) rfl rfl ?_
            refine RD.look (u := .bool (eqGRatio r13 r15)) (want1 rfl rfl rfl h12) (op_bin rfl rfl (eqq35_eql r13 r15)) rfl rfl ?_
            refine RD.look (u := .bool (eqGRatio r13 r15)) rfl (op_pick1 rfl h12 rfl) rfl rfl ?_
            refine RD.look rfl (op_move rfl) rfl rfl ?_
            refine RD.look (u := .agg (cGMetrics r8)) (want1 rfl rfl rfl h17) (ld_agg Try.und32 rfl (sz_of Try.inf32) rfl rfl rfl) rfl rfl ?_
            refine RD.free (u := .agg (cGRatio r18)) (args := [.agg (cGMetrics r8)]) (want1 rfl rfl rfl h17) (op_call rfl rfl Try.fn19 Try.hb19 rfl rfl) (fun s => evaluate_Precision_ok n r8 r18 h19 s) rfl rfl ?_
            refine RD.look (u := .agg (cGMetrics r10)) (want1 rfl rfl rfl h17) (ld_agg Try.und32 rfl (sz_of Try.inf32) rfl rfl rfl) rfl rfl ?_
            refine RD.free (u := .agg (cGRatio r20)) (args := [.agg (cGMetrics r10)]) (want1 rfl rfl rfl h17) (op_call rfl rfl Try.fn20 Try.hb20 rfl rfl) (fun s => ref50_Precision_ok n r10 r20 h21 s) rfl rfl ?_
            refine RD.look (u := .bool (eqGRatio r18 r20)) (want1 rfl rfl rfl h17) (op_bin rfl rfl (eqq35_eql r18 r20)) rfl rfl ?_
            refine RD.look (u := .bool (eqGRatio r18 r20)) rfl (op_pick1 rfl h17 rfl) rfl rfl ?_
            refine RD.look rfl (op_move rfl) rfl rfl ?_
            refine RD.free (u := .bool r23) (args := []) (want1 rfl rfl rfl h22) (op_call rfl rfl Try.fn11 Try.hb11 rfl rfl) (fun s => law50_exampleHolds_ok n  r23 h24 s) rfl rfl ?_
            refine RD.look (u := .bool r23) rfl (op_pick1 rfl h22 rfl) rfl rfl ?_
            refine RD.look rfl (op_assign rfl) rfl rfl ?_
            refine RD.done ⟨by kernel_rfl, trivial, ?_⟩
            repeat refine gq ?_
            exact ⟨_, _, ⟨rfl, rfl⟩, (Nat.zero_le _), Gh.toC (n1 := 5) ⟨rfl, trivial⟩ rfl (Nat.zero_le _) (by simp)⟩
          · skip
            replace h26 := cond_f h22 h26
            replace h26 := Option.some.inj h26
            subst h26
            refine WPU.drawE Try.tb_ok [] (by kernel_rfl) ?_
            refine RD.look (u := .agg (cGMetrics r8)) rfl (ld_agg Try.und32 rfl (sz_of Try.inf32) rfl rfl rfl) rfl rfl ?_
            refine RD.look (u := .agg (cGMetrics r10)) rfl (ld_agg Try.und32 rfl (sz_of Try.inf32) rfl rfl rfl) rfl rfl ?_
            refine RD.look (u := .bool (eqGMetrics r8 r10)) rfl (op_bin rfl rfl (eqq32_eql r8 r10)) rfl rfl ?_
            refine RD.look rfl (op_move rfl) rfl rfl ?_
            refine RD.look (u := .agg (cGMetrics r8)) (want1 rfl rfl rfl h12) (ld_agg Try.und32 rfl (sz_of Try.inf32) rfl rfl rfl) rfl rfl ?_
            refine RD.free (u := .agg (cGRatio r13)) (args := [.agg (cGMetrics r8)]) (want1 rfl rfl rfl h12) (op_call rfl rfl Try.fn17 Try.hb17 rfl rfl) (fun s => evaluate_Recall_ok n r8 r13 h14 s) rfl rfl ?_
            refine RD.look (u := .agg (cGMetrics r10)) (want1 rfl rfl rfl h12) (ld_agg Try.und32 rfl (sz_of Try.inf32) rfl rfl rfl) rfl rfl ?_
            refine RD.free (u := .agg (cGRatio r15)) (args := [.agg (cGMetrics r10)]) (want1 rfl rfl rfl h12) (op_call rfl rfl Try.fn18 Try.hb18 rfl rfl) (fun s => ref50_Recall_ok n r10 r15 h16 s) rfl rfl ?_
            refine RD.look (u := .bool (eqGRatio r13 r15)) (want1 rfl rfl rfl h12) (op_bin rfl rfl (eqq35_eql r13 r15)) rfl rfl ?_
            refine RD.look (u := .bool (eqGRatio r13 r15)) rfl (op_pick1 rfl h12 rfl) rfl rfl ?_
            refine RD.look rfl (op_move rfl) rfl rfl ?_
            refine RD.look (u := .agg (cGMetrics r8)) (want1 rfl rfl rfl h17) (ld_agg Try.und32 rfl (sz_of Try.inf32) rfl rfl rfl) rfl rfl ?_
            refine RD.free (u := .agg (cGRatio r18)) (args := [.agg (cGMetrics r8)]) (want1 rfl rfl rfl h17) (op_call rfl rfl Try.fn19 Try.hb19 rfl rfl) (fun s => evaluate_Precision_ok n r8 r18 h19 s) rfl rfl ?_
            refine RD.look (u := .agg (cGMetrics r10)) (want1 rfl rfl rfl h17) (ld_agg Try.und32 rfl (sz_of Try.inf32) rfl rfl rfl) rfl rfl ?_
            refine RD.free (u := .agg (cGRatio r20)) (args := [.agg (cGMetrics r10)]) (want1 rfl rfl rfl h17) (op_call rfl rfl Try.fn20 Try.hb20 rfl rfl) (fun s => ref50_Precision_ok n r10 r20 h21 s) rfl rfl ?_
            refine RD.look (u := .bool (eqGRatio r18 r20)) (want1 rfl rfl rfl h17) (op_bin rfl rfl (eqq35_eql r18 r20)) rfl rfl ?_
            refine RD.look (u := .bool (eqGRatio r18 r20)) rfl (op_pick1 rfl h17 rfl) rfl rfl ?_
            refine RD.look rfl (op_move rfl) rfl rfl ?_
            refine RD.no (want0 rfl rfl rfl h22) rfl rfl ?_
            refine RD.look (u := .bool false) rfl (op_pick0 rfl h22 rfl) rfl rfl ?_
            refine RD.look rfl (op_assign rfl) rfl rfl ?_
            refine RD.done ⟨by kernel_rfl, trivial, ?_⟩
            repeat refine gq ?_
            exact ⟨_, _, ⟨rfl, rfl⟩, (Nat.zero_le _), Gh.toC (n1 := 5) ⟨rfl, trivial⟩ rfl (Nat.zero_le _) (by simp)⟩
        · skip
          replace h26 := cond_f h17 h26
          replace h26 := Option.some.inj h26
          subst h26
          refine WPU.drawE Try.tb_ok [] (by kernel_rfl) ?_
          refine RD.look (u := .agg (cGMetrics r8)) rfl (ld_agg Try.und32 rfl (sz_of Try.inf32) rfl rfl rfl) rfl rfl ?_
          refine RD.look (u := .agg (cGMetrics r10)) rfl (ld_agg Try.und32 rfl (sz_of Try.inf32) rfl rfl rfl) rfl rfl ?_
          refine RD.look (u := .bool (eqGMetrics r8 r10)) rfl (op_bin rfl rfl (eqq32_eql r8 r10)) rfl rfl ?_
          refine RD.look rfl (op_move rfl) rfl rfl ?_
          refine RD.look (u := .agg (cGMetrics r8)) (want1 rfl rfl rfl h12) (ld_agg Try.und32 rfl (sz_of Try.inf32) rfl rfl rfl) rfl rfl ?_
          refine RD.free (u := .agg (cGRatio r13)) (args := [.agg (cGMetrics r8)]) (want1 rfl rfl rfl h12) (op_call rfl rfl Try.fn17 Try.hb17 rfl rfl) (fun s => evaluate_Recall_ok n r8 r13 h14 s) rfl rfl ?_
          refine RD.look (u := .agg (cGMetrics r10)) (want1 rfl rfl rfl h12) (ld_agg Try.und32 rfl (sz_of Try.inf32) rfl rfl rfl) rfl rfl ?_
          refine RD.free (u := .agg (cGRatio r15)) (args := [.agg (cGMetrics r10)]) (want1 rfl rfl rfl h12) (op_call rfl rfl Try.fn18 Try.hb18 rfl rfl) (fun s => ref50_Recall_ok n r10 r15 h16 s) rfl rfl ?_
          refine RD.look (u := .bool (eqGRatio r13 r15)) (want1 rfl rfl rfl h12) (op_bin rfl rfl (eqq35_eql r13 r15)) rfl rfl ?_
          refine RD.look (u := .bool (eqGRatio r13 r15)) rfl (op_pick1 rfl h12 rfl) rfl rfl ?_
          refine RD.look rfl (op_move rfl) rfl rfl ?_
          repeat refine RD.no (want0 rfl rfl rfl h17) rfl rfl ?_
          refine RD.look (u := .bool false) rfl (op_pick0 rfl h17 rfl) rfl rfl ?_
          refine RD.look rfl (op_move rfl) rfl rfl ?_
          refine RD.no (want0 rfl rfl rfl rfl) rfl rfl ?_
          refine RD.look (u := .bool false) rfl (op_pick0 rfl rfl rfl) rfl rfl ?_
          refine RD.look rfl (op_assign rfl) rfl rfl ?_
          refine RD.done ⟨by kernel_rfl, trivial, ?_⟩
          repeat refine gq ?_
          exact ⟨_, _, ⟨rfl, rfl⟩, (Nat.zero_le _), Gh.toC (n1 := 5) ⟨rfl, trivial⟩ rfl (Nat.zero_le _) (by simp)⟩
      · skip
        replace h26 := cond_f h12 h26
        replace h26 := Option.some.inj h26
        subst h26
        refine WPU.drawE Try.tb_ok [] (by kernel_rfl) ?_
        refine RD.look (u := .agg (cGMetrics r8)) rfl (ld_agg Try.und32 rfl (sz_of Try.inf32) rfl rfl rfl) rfl rfl ?_
        refine RD.look (u := .agg (cGMetrics r10)) rfl (ld_agg Try.und32 rfl (sz_of Try.inf32) rfl rfl rfl) rfl rfl ?_
        refine RD.look (u := .bool (eqGMetrics r8 r10)) rfl (op_bin rfl rfl (eqq32_eql r8 r10)) rfl rfl ?_
        refine RD.look rfl (op_move rfl) rfl rfl ?_
        repeat refine RD.no (want0 rfl rfl rfl h12) rfl rfl ?_
        refine RD.look (u := .bool false) rfl (op_pick0 rfl h12 rfl) rfl rfl ?_
        refine RD.look rfl (op_move rfl) rfl rfl ?_
        repeat refine RD.no (want0 rfl rfl rfl rfl) rfl rfl ?_
        refine RD.look (u := .bool false) rfl (op_pick0 rfl rfl rfl) rfl rfl ?_
        refine RD.look rfl (op_move rfl) rfl rfl ?_
        refine RD.no (want0 rfl rfl rfl rfl) rfl rfl ?_
        refine RD.look (u := .bool false) rfl (op_pick0 rfl rfl rfl) rfl rfl ?_
        refine RD.look rfl (op_assign rfl) rfl rfl ?_
        refine RD.done ⟨by kernel_rfl, trivial, ?_⟩
        repeat refine gq ?_
        exact ⟨_, _, ⟨rfl, rfl⟩, (Nat.zero_le _), Gh.toC (n1 := 5) ⟨rfl, trivial⟩ rfl (Nat.zero_le _) (by simp)⟩
end Go.Proofs
end
