/-
  Texts of the walk: D4.
-/
import Derived.Test.YtpckiabjgmbnfaaP14
section
namespace Go.Proofs
open Go Go.Rx Go.Vx
set_option maxRecDepth 10000
set_option linter.unusedSimpArgs false
set_option linter.unusedVariables false
def disc_Props (n : Nat) (p1 : GDeriv) : Option ((List GProp)) :=
  bindO (disc_collect n ([] : List GProp) p1) fun r2 =>
  needO (r2.length < 4611686018427387904) (
  bindO (slices_Compact_Prop n (srtP r2)) fun r6 =>
  some r6)
theorem disc_Props_0 (n : Nat) (p1 : GDeriv) (r : (List GProp)) (hF : disc_Props n p1 = some r) : EvU Try.prog 13 [.agg (xGDeriv p1)] ⟨[], 0⟩ (fun u _ => u = .isl false (List.map cGProp r) ∧ Bel 0 u) := by
  unfold disc_Props at hF
  refine EvU.of_body Try.tb_ok Try.fn13 rfl ?_
  refine WPU.ghost (tm' := fr 10 [(0, .agg (xGDeriv p1))]) (Gh.start (Nat.le_of_ble_eq_true rfl)) (Nat.zero_le _) ?_
  repeat refine sq ?_
  refine WPU.region Try.tb_ok ?_
  refine RS.op (u := .ptr 0 0 0) (σ' := ⟨[(0, .row (xGDeriv p1) 24)], 1⟩) rfl (op_box rfl rfl rfl) rfl rfl ?_
  refine RS.as rfl rfl rfl rfl ?_
  refine RS.done ?_
  repeat refine gq ?_
  repeat refine sq ?_
  obtain ⟨r2, h3, hF⟩ := bindO_some hF
  refine WPU.region Try.tb_ok ?_
  refine RS.op (u := .agg (xGDeriv p1)) rfl (ld_agg Try.und24 rfl (sz_of Try.inf24) rfl rfl rfl) rfl rfl ?_
  refine RS.callx (args := [.nils, .agg (xGDeriv p1)]) rfl (op_call rfl rfl Try.fn28 Try.hb28 rfl rfl) (EvU.nil1 26 4 (by decide) (disc_collect_ok n ([] : List GProp) p1 r2 h3 _ rfl rfl)) rfl rfl ?_
  rintro _ _ ⟨t4, rfl, rfl⟩
  refine RS.as rfl rfl rfl rfl ?_
  refine RS.done ?_
  repeat refine gq ?_
  repeat refine sq ?_
  obtain ⟨h5, hF⟩ := needO_some hF
  refine WPU.joinK (fun tm σ => tm = fr 10 [(3, .vl 1 t4 0 ((srtP r2).length))] ∧ σ = ⟨[(1, .vec (List.map cGProp (srtP r2)).flatten 26 4 t4), (0, .row (xGDeriv p1) 24)], 2⟩) ?_ ?_
  rintro _ _ ⟨rfl, rfl⟩
  repeat refine gq ?_
  repeat refine sq ?_
  obtain ⟨r6, h7, hF⟩ := bindO_some hF
  refine WPU.region Try.tb_ok ?_
  refine RS.mv rfl rfl rfl rfl ?_
  refine RS.callx (args := [.vl 1 t4 0 ((srtP r2).length)]) rfl (op_call rfl rfl Try.fn31 Try.hb31 rfl rfl) (slices_Compact_Prop_ok n (srtP r2) r6 h7 _ rfl rfl) rfl rfl ?_
  rintro _ _ ⟨t8, rfl, rfl⟩
  refine RS.as rfl rfl rfl rfl ?_
  refine RS.done ?_
  repeat refine gq ?_
  repeat refine sq ?_
  refine WPU.ret ?_
  repeat refine gq ?_
  have hr := Option.some.inj hF
  subst hr
  exact ⟨.inr rfl, [.vl 1 t8 0 r6.length], res_t rfl (res_n), .isl false (List.map cGProp r6), ⟨[], 0⟩, Nat.le_refl _, Gh.trans (Gh.fz (tm' := [.isl false (List.map cGProp r6)]) (h' := [(0, .row (xGDeriv p1) 24)]) 1 (.vec (List.map cGProp r6).flatten 26 4 t8) 4 rfl (by simp) (by simp only [oneU, fzL_nil, fzL_cons, fz_int, fz_bool, fz_str, fz_nils, fz_nilp, fz_nilm, fz_nilf, fz_junk, fz_isl, fz_map, fz_agg, fz_tup, fz_fn, junkT, fz_vl len_cGProp, fz_xGDeriv]) (by simp only [fzH, fzB, ug, Nat.beq, cond_true, cond_false, oneU, fzL_nil, fzL_cons, fz_int, fz_bool, fz_str, fz_nils, fz_nilp, fz_nilm, fz_nilf, fz_junk, fz_isl, fz_map, fz_agg, fz_tup, fz_fn, junkT, fz_vl len_cGProp, fz_xGDeriv])) (Gh.toR (.isl false (List.map cGProp r6)) rfl), rfl, BU.h⟩
  refine WPU.region Try.tb_ok ?_
  refine RS.mv rfl rfl rfl rfl ?_
  refine RS.callx (args := [.vl 1 t4 0 r2.length, .fn (.func 30) [] []]) rfl (op_call rfl rfl Try.fn29 Try.hb29 rfl rfl) (srtP_ok r2 h5 _ rfl rfl) rfl rfl ?_
  rintro _ _ ⟨rfl, rfl⟩
  refine RS.done ?_
  repeat refine gq ?_
  exact ⟨_, _, ⟨rfl, rfl⟩, (Nat.zero_le _), Gh.eqS ⟨(by simp only [srtP_len r2]; rfl), trivial⟩ rfl⟩
theorem disc_Props_ok (n : Nat) (p1 : GDeriv) (r : (List GProp)) (hF : disc_Props n p1 = some r) (σ : Sg) : EvU Try.prog 13 [.agg (xGDeriv p1)] σ (fun u σ' => u = .isl false (List.map cGProp r) ∧ σ' = σ) :=
  EvU.pure1C (disc_Props_0 n p1 r hF) σ
def disc_Holds (n : Nat) (p1 : GDeriv) (p2 : GProp) : Option (Bool) :=
  bindO (disc_Props n p1) fun r3 =>
  bindO (disc_has n r3 p2) fun r5 =>
  some r5
theorem disc_Holds_0 (n : Nat) (p1 : GDeriv) (p2 : GProp) (r : Bool) (hF : disc_Holds n p1 p2 = some r) : EvU Try.prog 15 [.agg (xGDeriv p1), .agg (cGProp p2)] ⟨[], 0⟩ (fun u _ => u = .bool r ∧ Bel 0 u) := by
  unfold disc_Holds at hF
  refine EvU.of_body Try.tb_ok Try.fn15 rfl ?_
  refine WPU.ghost (tm' := fr 9 [(0, .agg (xGDeriv p1)), (1, .agg (cGProp p2))]) (Gh.start (Nat.le_of_ble_eq_true rfl)) (Nat.zero_le _) ?_
  repeat refine sq ?_
  refine WPU.region Try.tb_ok ?_
  refine RS.op (u := .ptr 0 0 0) (σ' := ⟨[(0, .row (xGDeriv p1) 24)], 1⟩) rfl (op_box rfl rfl rfl) rfl rfl ?_
  refine RS.op (u := .ptr 1 0 0) (σ' := ⟨[(1, .row (cGProp p2) 26), (0, .row (xGDeriv p1) 24)], 2⟩) rfl (op_box rfl rfl rfl) rfl rfl ?_
  refine RS.as rfl rfl rfl rfl ?_
  refine RS.done ?_
  repeat refine gq ?_
  repeat refine sq ?_
  obtain ⟨r3, h4, hF⟩ := bindO_some hF
  obtain ⟨r5, h6, hF⟩ := bindO_some hF
  refine WPU.drawE Try.tb_ok [] (by kernel_rfl) ?_
  refine RD.look (u := .agg (xGDeriv p1)) rfl (ld_agg Try.und24 rfl (sz_of Try.inf24) rfl rfl rfl) rfl rfl ?_
  refine RD.free (u := .isl false (List.map cGProp r3)) (args := [.agg (xGDeriv p1)]) rfl (op_call rfl rfl Try.fn13 Try.hb13 rfl rfl) (fun s => disc_Props_ok n p1 r3 h4 s) rfl rfl ?_
  refine RD.look (u := .agg (cGProp p2)) rfl (ld_agg Try.und26 rfl (sz_of Try.inf26) rfl rfl rfl) rfl rfl ?_
  refine RD.free (u := .bool r5) (args := [.isl false (List.map cGProp r3), .agg (cGProp p2)]) rfl (op_call rfl rfl Try.fn33 Try.hb33 rfl rfl) (fun s => disc_has_ok n r3 p2 r5 h6 s) rfl rfl ?_
  refine RD.as rfl rfl rfl rfl ?_
  refine RD.done ⟨by kernel_rfl, trivial, ?_⟩
  repeat refine gq ?_
  repeat refine sq ?_
  refine WPU.ret ?_
  repeat refine gq ?_
  have hr := Option.some.inj hF
  subst hr
  exact ⟨.inr rfl, [.bool r5], res_t rfl (res_n), .bool r5, ⟨[], 0⟩, Nat.le_refl _, Gh.toR (.bool r5) rfl, rfl, BU.h⟩
theorem disc_Holds_ok (n : Nat) (p1 : GDeriv) (p2 : GProp) (r : Bool) (hF : disc_Holds n p1 p2 = some r) (σ : Sg) : EvU Try.prog 15 [.agg (xGDeriv p1), .agg (cGProp p2)] σ (fun u σ' => u = .bool r ∧ σ' = σ) :=
  EvU.pure1C (disc_Holds_0 n p1 p2 r hF) σ
def disc_differ_J3 (rc1 : Int → (List GProp) → Option ((List GProp))) (z26 : Int) (l28 : List GProp) : Option ((List GProp)) :=
  rc1 z26 l28
def disc_differ_K2 (p1 : List (List GProp)) (r2 : List GProp) (z12 : Int) (l13 : List GProp) (rc1 : Int → (List GProp) → Option ((List GProp))) (z26 : Int) : Option ((List GProp)) :=
  cond (decide ((IntKind.i64.wrap (z26 - z12)) < (p1.length : Int)))
    (bindO (idxO (srtP r2) z12) fun x30 =>
    needO ((l13.length + 1) * 40 ≤ 140737488355328 ∧ l13.length + 1 ≤ 140737488355328) (
    disc_differ_J3 rc1 z26 (l13 ++ [x30])))
    (disc_differ_J3 rc1 z26 l13)
def disc_differ_L2 (p1 : List (List GProp)) (r2 : List GProp) (z12 : Int) (l13 : List GProp) (rc1 : Int → (List GProp) → Option ((List GProp))) : Nat → Int → Option ((List GProp))
  | 0, _ => none
  | m2 + 1, z25 =>
    bindO (cond (decide (z25 < ((srtP r2).length : Int)))
      (bindO (idxO (srtP r2) z25) fun x34 =>
      bindO (idxO (srtP r2) z12) fun x36 =>
      some (eqGProp x34 x36))
      (some false)) fun b38 =>
    cond b38
      ((disc_differ_L2 p1 r2 z12 l13 rc1 m2) (IntKind.i64.wrap (z25 + 1)))
      (disc_differ_K2 p1 r2 z12 l13 rc1 z25)
def disc_differ_K1  (l15 : List GProp) : Option ((List GProp)) :=
  some l15
def disc_differ_L1 (p1 : List (List GProp)) (n : Nat) (r2 : List GProp) : Nat → Int → (List GProp) → Option ((List GProp))
  | 0, _, _ => none
  | m1 + 1, z12, l13 =>
    cond (decide (z12 < ((srtP r2).length : Int)))
      (disc_differ_L2 p1 r2 z12 l13 (disc_differ_L1 p1 n r2 m1) n (IntKind.i64.wrap (z12 + 1)))
      (disc_differ_K1 l13)
def disc_differ (n : Nat) (p1 : List (List GProp)) : Option ((List GProp)) :=
  bindO (slices_Concat_Prop n p1) fun r2 =>
  needO (r2.length < 4611686018427387904) (
  disc_differ_L1 p1 n r2 n 0 ([] : List GProp))
theorem disc_differ_0 (n : Nat) (p1 : List (List GProp)) (r : (List GProp)) (hF : disc_differ n p1 = some r) : EvU Try.prog 36 [.isl false (List.map (cL cGProp) p1)] ⟨[], 0⟩ (fun u _ => u = .isl false (List.map cGProp r) ∧ Bel 0 u) := by
  unfold disc_differ at hF
  refine EvU.of_body Try.tb_ok Try.fn36 rfl ?_
  refine WPU.ghost (tm' := fr 49 [(0, .isl false (List.map (cL cGProp) p1))]) (Gh.start (Nat.le_of_ble_eq_true rfl)) (Nat.zero_le _) ?_
  repeat refine sq ?_
  refine WPU.region Try.tb_ok ?_
  refine RS.as rfl rfl rfl rfl ?_
  refine RS.done ?_
  repeat refine gq ?_
  repeat refine sq ?_
  obtain ⟨r2, h3, hF⟩ := bindO_some hF
  refine WPU.region Try.tb_ok ?_
  refine RS.mv rfl rfl rfl rfl ?_
  refine RS.callx (R := fun u σ' => ∃ t4, u = .vl 0 t4 0 r2.length ∧ σ' = ⟨[(0, .vec (List.map cGProp r2).flatten 26 4 t4)], 1⟩) (args := [.isl false (List.map (cL cGProp) p1)]) rfl (op_call rfl rfl Try.fn49 Try.hb49 rfl rfl) (EvU.own1 cGProp (slices_Concat_Prop_0 n p1 r2 h3) _ 0 rfl) rfl rfl ?_
  rintro _ _ ⟨t4, rfl, rfl⟩
  refine RS.as rfl rfl rfl rfl ?_
  refine RS.done ?_
  repeat refine gq ?_
  repeat refine sq ?_
  obtain ⟨h5, hF⟩ := needO_some hF
  refine WPU.joinK (fun tm σ => tm = fr 49 [(0, .isl false (List.map (cL cGProp) p1)), (3, .vl 0 t4 0 ((srtP r2).length))] ∧ σ = ⟨[(0, .vec (List.map cGProp (srtP r2)).flatten 26 4 t4)], 1⟩) ?_ ?_
  rintro _ _ ⟨rfl, rfl⟩
  repeat refine gq ?_
  repeat refine sq ?_
  refine WPU.region Try.tb_ok ?_
  refine RS.as rfl rfl rfl rfl ?_
  refine RS.done ?_
  repeat refine gq ?_
  repeat refine sq ?_
  refine WPU.region Try.tb_ok ?_
  refine RS.as rfl rfl rfl rfl ?_
  refine RS.done ?_
  repeat refine gq ?_
  repeat refine sq ?_
  refine WPU.ghost (tm' := fr 49 [(0, .isl false (List.map (cL cGProp) p1)), (3, .vl 0 t4 0 ((srtP r2).length)), (4, .vl 1 0 0 (([] : List GProp).length)), (5, .int .i64 0)]) (σ' := ⟨[(1, .vec (List.map cGProp ([] : List GProp)).flatten 26 4 0), (0, .vec (List.map cGProp (srtP r2)).flatten 26 4 t4)], 2⟩) (Gh.trans (Gh.nilS 4 26 4 (by decide) (Nat.zero_le _) rfl rfl) (Gh.eqS ⟨rfl, rfl, rfl, rfl, trivial⟩ rfl)) (Nat.zero_le _) ?_
  refine WPU.ghost (tm' := fr 49 [(0, .isl false (List.map (cL cGProp) p1)), (3, .vl 0 t4 0 ((srtP r2).length)), (4, .vl 1 0 0 (([] : List GProp).length)), (5, .int .i64 0)]) (Gh.sub ⟨rfl, rfl, rfl, rfl, trivial⟩) (Nat.zero_le _) ?_
  refine WPU.loopK (fun m tm σ => ∃ z12 : Int, ∃ l13 : List GProp, ∃ t14 : Nat, disc_differ_L1 p1 n r2 m z12 l13 = some r ∧ tm = fr 49 [(0, .isl false (List.map (cL cGProp) p1)), (3, .vl 0 t4 0 ((srtP r2).length)), (4, .vl 1 t14 0 l13.length), (5, .int .i64 z12)] ∧ σ = ⟨[(1, .vec (List.map cGProp l13).flatten 26 4 t14), (0, .vec (List.map cGProp (srtP r2)).flatten 26 4 t4)], 2⟩) (fun tm σ => ∃ l15 : List GProp, ∃ t16 : Nat, disc_differ_K1 l15 = some r ∧ tm = fr 49 [(4, .vl 1 t16 0 l15.length)] ∧ σ = ⟨[(1, .vec (List.map cGProp l15).flatten 26 4 t16), (0, .vec (List.map cGProp (srtP r2)).flatten 26 4 t4)], 2⟩) n ⟨0, ([] : List GProp), 0, hF, rfl, rfl⟩ ?_ ?_
  rintro _ _ ⟨l15, t16, hF, rfl, rfl⟩
  unfold disc_differ_K1 at hF
  repeat refine gq ?_
  repeat refine sq ?_
  refine WPU.region Try.tb_ok ?_
  refine RS.mv rfl rfl rfl rfl ?_
  refine RS.as rfl rfl rfl rfl ?_
  refine RS.done ?_
  repeat refine gq ?_
  repeat refine sq ?_
  refine WPU.ret ?_
  repeat refine gq ?_
  have hr := Option.some.inj hF
  subst hr
  exact ⟨.inr rfl, [.vl 1 t16 0 l15.length], res_t rfl (res_n), .isl false (List.map cGProp l15), ⟨[], 0⟩, Nat.le_refl _, Gh.trans (Gh.fz (tm' := [.isl false (List.map cGProp l15)]) (h' := [(0, .vec (List.map cGProp (srtP r2)).flatten 26 4 t4)]) 1 (.vec (List.map cGProp l15).flatten 26 4 t16) 4 rfl (by simp) (by simp only [oneU, fzL_nil, fzL_cons, fz_int, fz_bool, fz_str, fz_nils, fz_nilp, fz_nilm, fz_nilf, fz_junk, fz_isl, fz_map, fz_agg, fz_tup, fz_fn, junkT, fz_vl len_cGProp, fzL_bel _ _ _ (bel_flat 1 (fun q => bel_cGProp _ q) (srtP r2))]) (by simp only [fzH, fzB, ug, Nat.beq, cond_true, cond_false, oneU, fzL_nil, fzL_cons, fz_int, fz_bool, fz_str, fz_nils, fz_nilp, fz_nilm, fz_nilf, fz_junk, fz_isl, fz_map, fz_agg, fz_tup, fz_fn, junkT, fz_vl len_cGProp, fzL_bel _ _ _ (bel_flat 1 (fun q => bel_cGProp _ q) (srtP r2))])) (Gh.toR (.isl false (List.map cGProp l15)) rfl), rfl, BU.h⟩
  rintro m1 _ _ ⟨z12, l13, t14, hF, rfl, rfl⟩
  rcases m1 with _ | m1
  cases hF
  unfold disc_differ_L1 at hF
  repeat refine sq ?_
  refine WPU.region Try.tb_ok ?_
  repeat refine RS.mv rfl rfl rfl rfl ?_
  refine RS.op rfl (op_len rfl rfl rfl (len_vl Try.und30 rfl)) rfl rfl ?_
  refine RS.op rfl (op_int rfl rfl (ix_lss _ _ _) rfl) rfl rfl ?_
  refine RS.done ?_
  repeat refine gq ?_
  repeat refine sq ?_
  refine WPU.condS (t := (decide (z12 < ((srtP r2).length : Int)))) rfl (fun h17 => ?_) (fun h17 => ?_)
  replace hF := cond_t h17 hF
  repeat refine sq ?_
  refine WPU.skip ?_
  repeat refine gq ?_
  repeat refine sq ?_
  refine WPU.block ?_
  repeat refine sq ?_
  refine WPU.region Try.tb_ok ?_
  refine RS.mv rfl rfl rfl rfl ?_
  refine RS.op rfl (op_int rfl rfl (ix_add _ _ _) rfl) rfl rfl ?_
  refine RS.as rfl rfl rfl rfl ?_
  refine RS.done ?_
  repeat refine gq ?_
  repeat refine sq ?_
  refine WPU.ghost (tm' := fr 49 [(0, .isl false (List.map (cL cGProp) p1)), (3, .vl 0 t4 0 ((srtP r2).length)), (4, .vl 1 t14 0 l13.length), (5, .int .i64 z12), (6, .int .i64 (IntKind.i64.wrap (z12 + 1)))]) (Gh.sub ⟨rfl, rfl, rfl, rfl, rfl, trivial⟩) (Nat.zero_le _) ?_
  refine WPU.loopK (fun m tm σ => ∃ z25 : Int, disc_differ_L2 p1 r2 z12 l13 (disc_differ_L1 p1 n r2 m1) m z25 = some r ∧ tm = fr 49 [(0, .isl false (List.map (cL cGProp) p1)), (3, .vl 0 t4 0 ((srtP r2).length)), (4, .vl 1 t14 0 l13.length), (5, .int .i64 z12), (6, .int .i64 z25)] ∧ σ = ⟨[(1, .vec (List.map cGProp l13).flatten 26 4 t14), (0, .vec (List.map cGProp (srtP r2)).flatten 26 4 t4)], 2⟩) (fun tm σ => ∃ z26 : Int, disc_differ_K2 p1 r2 z12 l13 (disc_differ_L1 p1 n r2 m1) z26 = some r ∧ tm = fr 49 [(0, .isl false (List.map (cL cGProp) p1)), (3, .vl 0 t4 0 ((srtP r2).length)), (4, .vl 1 t14 0 l13.length), (5, .int .i64 z12), (6, .int .i64 z26)] ∧ σ = ⟨[(1, .vec (List.map cGProp l13).flatten 26 4 t14), (0, .vec (List.map cGProp (srtP r2)).flatten 26 4 t4)], 2⟩) n ⟨(IntKind.i64.wrap (z12 + 1)), hF, rfl, rfl⟩ ?_ ?_
  rintro _ _ ⟨z26, hF, rfl, rfl⟩
  unfold disc_differ_K2 at hF
  repeat refine gq ?_
  repeat refine sq ?_
  refine WPU.region Try.tb_ok ?_
  repeat refine RS.mv rfl rfl rfl rfl ?_
  refine RS.op rfl (op_int rfl rfl (ix_sub _ _ _) rfl) rfl rfl ?_
  refine RS.mv rfl rfl rfl rfl ?_
  refine RS.op rfl (op_len rfl rfl rfl (len_isl (cL cGProp) Try.und55)) rfl rfl ?_
  refine RS.op rfl (op_int rfl rfl (ix_lss _ _ _) rfl) rfl rfl ?_
  refine RS.done ?_
  repeat refine gq ?_
  repeat refine sq ?_
  refine WPU.joinK (fun tm σ => ∃ l28 : List GProp, ∃ t29 : Nat, disc_differ_J3 (disc_differ_L1 p1 n r2 m1) z26 l28 = some r ∧ tm = fr 49 [(0, .isl false (List.map (cL cGProp) p1)), (3, .vl 0 t4 0 ((srtP r2).length)), (4, .vl 1 t29 0 l28.length), (6, .int .i64 z26)] ∧ σ = ⟨[(1, .vec (List.map cGProp l28).flatten 26 4 t29), (0, .vec (List.map cGProp (srtP r2)).flatten 26 4 t4)], 2⟩) ?_ ?_
  rintro _ _ ⟨l28, t29, hF, rfl, rfl⟩
  unfold disc_differ_J3 at hF
  repeat refine gq ?_
  repeat refine sq ?_
  refine WPU.region Try.tb_ok ?_
  refine RS.mv rfl rfl rfl rfl ?_
  refine RS.as rfl rfl rfl rfl ?_
  refine RS.done ?_
  repeat refine gq ?_
  exact ⟨m1, _, _, Nat.lt_succ_self _, ⟨z26, l28, t29, hF, rfl, rfl⟩, (Nat.zero_le _), Gh.toC (n1 := 2) ⟨rfl, rfl, rfl, rfl, trivial⟩ rfl (Nat.zero_le _) (by simp)⟩
  refine WPU.condS (t := (decide ((IntKind.i64.wrap (z26 - z12)) < (p1.length : Int)))) rfl (fun h27 => ?_) (fun h27 => ?_)
  replace hF := cond_t h27 hF
  repeat refine sq ?_
  obtain ⟨x30, h31, hF⟩ := bindO_some hF
  obtain ⟨h32, hF⟩ := needO_some hF
  refine WPU.region Try.tb_ok ?_
  repeat refine RS.mv rfl rfl rfl rfl ?_
  refine RS.op (u := .ptr 0 t4 (0 * 4 + z12.toNat * 4)) rfl (op_ia rfl rfl (ia_vl cGProp Try.und30 (sz_of Try.inf26) (by decide) len_cGProp (vo rfl) h31)) rfl rfl ?_
  refine RS.op (u := .agg (cGProp x30)) rfl (ld_vec cGProp Try.und26 rfl (sz_of Try.inf26) len_cGProp rfl rfl h31 rfl) rfl rfl ?_
  refine RS.op (u := .sl 2 0 1 1) (σ' := ⟨[(2, .row (cGProp x30) 26), (1, .vec (List.map cGProp l13).flatten 26 4 t14), (0, .vec (List.map cGProp (srtP r2)).flatten 26 4 t4)], 3⟩) rfl (op_bsl Try.und30 Try.inf26 rfl rfl rfl rfl rfl rfl rfl) rfl rfl ?_
  refine RS.op (u := .vl 1 (t14 + 1) 0 ((l13 ++ [x30]).length)) (σ' := ⟨[(2, .row (cGProp x30) 26), (1, .vec (List.map cGProp (l13 ++ [x30])).flatten 26 4 (t14 + 1)), (0, .vec (List.map cGProp (srtP r2)).flatten 26 4 t4)], 3⟩) rfl (op_app rfl rfl rfl rfl (app_vl cGProp ([x30]) Try.und30 Try.und30 Try.inf26 rfl len_cGProp rfl (src_row cGProp [x30] rfl rfl rfl rfl) h32)) rfl rfl ?_
  refine RS.as rfl rfl rfl rfl ?_
  refine RS.done ?_
  repeat refine gq ?_
  exact ⟨_, _, ⟨(l13 ++ [x30]), (t14 + 1), hF, rfl, rfl⟩, (Nat.zero_le _), Gh.toC (n1 := 2) ⟨rfl, rfl, rfl, rfl, trivial⟩ rfl (Nat.zero_le _) (by simp)⟩
  replace hF := cond_f h27 hF
  repeat refine sq ?_
  refine WPU.skip ?_
  repeat refine gq ?_
  exact ⟨_, _, ⟨l13, t14, hF, rfl, rfl⟩, (Nat.zero_le _), Gh.toC (n1 := 2) ⟨rfl, rfl, rfl, rfl, trivial⟩ rfl (Nat.zero_le _) (by simp)⟩
  rintro m2 _ _ ⟨z25, hF, rfl, rfl⟩
  rcases m2 with _ | m2
  cases hF
  unfold disc_differ_L2 at hF
  repeat refine sq ?_
  obtain ⟨b38, h39, hF⟩ := bindO_some hF
  refine WPU.joinK (fun tm σ => tm = fr 49 [(0, .isl false (List.map (cL cGProp) p1)), (3, .vl 0 t4 0 ((srtP r2).length)), (4, .vl 1 t14 0 l13.length), (5, .int .i64 z12), (6, .int .i64 z25), (31, .bool b38)] ∧ σ = ⟨[(1, .vec (List.map cGProp l13).flatten 26 4 t14), (0, .vec (List.map cGProp (srtP r2)).flatten 26 4 t4)], 2⟩) ?_ ?_
  rintro _ _ ⟨rfl, rfl⟩
  repeat refine gq ?_
  repeat refine sq ?_
  refine WPU.condS (t := b38) rfl (fun h40 => ?_) (fun h40 => ?_)
  replace hF := cond_t h40 hF
  repeat refine sq ?_
  refine WPU.skip ?_
  repeat refine gq ?_
  repeat refine sq ?_
  refine WPU.block ?_
  repeat refine sq ?_
  refine WPU.region Try.tb_ok ?_
  refine RS.mv rfl rfl rfl rfl ?_
  refine RS.op rfl (op_int rfl rfl (ix_add _ _ _) rfl) rfl rfl ?_
  refine RS.as rfl rfl rfl rfl ?_
  refine RS.done ?_
  repeat refine gq ?_
  exact ⟨m2, _, _, Nat.lt_succ_self _, ⟨(IntKind.i64.wrap (z25 + 1)), hF, rfl, rfl⟩, (Nat.zero_le _), Gh.toC (n1 := 2) ⟨rfl, rfl, rfl, rfl, rfl, trivial⟩ rfl (Nat.zero_le _) (by simp)⟩
  replace hF := cond_f h40 hF
  repeat refine sq ?_
  refine WPU.exit ?_
  repeat refine gq ?_
  exact ⟨_, _, ⟨z25, hF, rfl, rfl⟩, (Nat.zero_le _), Gh.toC (n1 := 2) ⟨rfl, rfl, rfl, rfl, rfl, trivial⟩ rfl (Nat.zero_le _) (by simp)⟩
  rcases bool_tf (decide (z25 < ((srtP r2).length : Int))) with h33 | h33
  replace h39 := cond_t h33 h39
  obtain ⟨x34, h35, h39⟩ := bindO_some h39
  obtain ⟨x36, h37, h39⟩ := bindO_some h39
  replace h39 := Option.some.inj h39
  subst h39
  refine WPU.drawE Try.tb_ok [] (by kernel_rfl) ?_
  repeat refine RD.mv rfl rfl rfl rfl ?_
  refine RD.look rfl (op_len rfl rfl rfl (len_vl Try.und30 rfl)) rfl rfl ?_
  refine RD.look rfl (op_int rfl rfl (ix_lss _ _ _) rfl) rfl rfl ?_
  refine RD.mv rfl rfl rfl rfl ?_
  refine RD.look (want1 rfl rfl rfl h33) (op_move rfl) rfl rfl ?_
  refine RD.look (want1 rfl rfl rfl h33) (op_move rfl) rfl rfl ?_
  refine RD.look (u := .ptr 0 t4 (0 * 4 + z25.toNat * 4)) (want1 rfl rfl rfl h33) (op_ia rfl rfl (ia_vl cGProp Try.und30 (sz_of Try.inf26) (by decide) len_cGProp (vo rfl) h35)) rfl rfl ?_
  refine RD.look (u := .agg (cGProp x34)) (want1 rfl rfl rfl h33) (ld_vec cGProp Try.und26 rfl (sz_of Try.inf26) len_cGProp rfl rfl h35 rfl) rfl rfl ?_
  refine RD.look (want1 rfl rfl rfl h33) (op_move rfl) rfl rfl ?_
  refine RD.look (want1 rfl rfl rfl h33) (op_move rfl) rfl rfl ?_
  refine RD.look (u := .ptr 0 t4 (0 * 4 + z12.toNat * 4)) (want1 rfl rfl rfl h33) (op_ia rfl rfl (ia_vl cGProp Try.und30 (sz_of Try.inf26) (by decide) len_cGProp (vo rfl) h37)) rfl rfl ?_
  refine RD.look (u := .agg (cGProp x36)) (want1 rfl rfl rfl h33) (ld_vec cGProp Try.und26 rfl (sz_of Try.inf26) len_cGProp rfl rfl h37 rfl) rfl rfl ?_
  refine RD.look (u := .bool (eqGProp x34 x36)) (want1 rfl rfl rfl h33) (op_bin rfl rfl (eqq26_eql x34 x36)) rfl rfl ?_
  refine RD.look (u := .bool (eqGProp x34 x36)) rfl (op_pick1 rfl h33 rfl) rfl rfl ?_
  refine RD.done ⟨by kernel_rfl, trivial, ?_⟩
  repeat refine gq ?_
  exact ⟨_, _, ⟨rfl, rfl⟩, (Nat.zero_le _), Gh.toC (n1 := 2) ⟨rfl, rfl, rfl, rfl, rfl, rfl, trivial⟩ rfl (Nat.zero_le _) (by simp)⟩
  replace h39 := cond_f h33 h39
  replace h39 := Option.some.inj h39
  subst h39
  refine WPU.drawE Try.tb_ok [] (by kernel_rfl) ?_
  repeat refine RD.mv rfl rfl rfl rfl ?_
  refine RD.look rfl (op_len rfl rfl rfl (len_vl Try.und30 rfl)) rfl rfl ?_
  refine RD.look rfl (op_int rfl rfl (ix_lss _ _ _) rfl) rfl rfl ?_
  refine RD.mv rfl rfl rfl rfl ?_
  repeat refine RD.no (want0 rfl rfl rfl h33) rfl rfl ?_
  refine RD.look (u := .bool false) rfl (op_pick0 rfl h33 rfl) rfl rfl ?_
  refine RD.done ⟨by kernel_rfl, trivial, ?_⟩
  repeat refine gq ?_
  exact ⟨_, _, ⟨rfl, rfl⟩, (Nat.zero_le _), Gh.toC (n1 := 2) ⟨rfl, rfl, rfl, rfl, rfl, rfl, trivial⟩ rfl (Nat.zero_le _) (by simp)⟩
  replace hF := cond_f h17 hF
  repeat refine sq ?_
  refine WPU.exit ?_
  repeat refine gq ?_
  exact ⟨_, _, ⟨l13, t14, hF, rfl, rfl⟩, (Nat.zero_le _), Gh.toC (n1 := 2) ⟨rfl, trivial⟩ rfl (Nat.zero_le _) (by simp)⟩
  refine WPU.region Try.tb_ok ?_
  refine RS.mv rfl rfl rfl rfl ?_
  refine RS.callx (args := [.vl 0 t4 0 r2.length, .fn (.func 30) [] []]) rfl (op_call rfl rfl Try.fn29 Try.hb29 rfl rfl) (srtP_ok r2 h5 _ rfl rfl) rfl rfl ?_
  rintro _ _ ⟨rfl, rfl⟩
  refine RS.done ?_
  repeat refine gq ?_
  exact ⟨_, _, ⟨rfl, rfl⟩, (Nat.zero_le _), Gh.eqS ⟨rfl, (by simp only [srtP_len r2]; rfl), trivial⟩ rfl⟩
theorem disc_differ_ok (n : Nat) (p1 : List (List GProp)) (r : (List GProp)) (hF : disc_differ n p1 = some r) (σ : Sg) : EvU Try.prog 36 [.isl false (List.map (cL cGProp) p1)] σ (fun u σ' => u = .isl false (List.map cGProp r) ∧ σ' = σ) :=
  EvU.pure1C (disc_differ_0 n p1 r hF) σ
def disc_all_K1 (p1 : List GDeriv) (l9 : List (List GProp)) : Option ((List (List GProp))) :=
  needO ((p1.length : Int).toNat = l9.length) (
  some l9)
def disc_all_L1 (p1 : List GDeriv) (n : Nat) : Nat → Int → (List (List GProp)) → Option ((List (List GProp)))
  | 0, _, _ => none
  | m1 + 1, z7, l8 =>
    cond (decide (z7 < (p1.length : Int)))
      (bindO (idxO p1 z7) fun x12 =>
      bindO (disc_Props n x12) fun r14 =>
      bindO (idxV l8 0 ((p1.length : Int).toNat) z7) fun x16 =>
      (disc_all_L1 p1 n m1) (IntKind.i64.wrap (z7 + 1)) (l8.set z7.toNat r14))
      (disc_all_K1 p1 l8)
def disc_all (n : Nat) (p1 : List GDeriv) : Option ((List (List GProp))) :=
  needO (0 ≤ (p1.length : Int) ∧ 24 * (p1.length : Int).toNat ≤ 281474976710656 ∧ (p1.length : Int) ≤ 281474976710656) (
  disc_all_L1 p1 n n 0 (List.replicate (p1.length : Int).toNat []))
theorem disc_all_0 (n : Nat) (p1 : List GDeriv) (r : (List (List GProp))) (hF : disc_all n p1 = some r) : EvU Try.prog 37 [.isl false (List.map cGDeriv p1)] ⟨[], 0⟩ (fun u _ => u = .isl false (List.map (cL cGProp) r) ∧ Bel 0 u) := by
  unfold disc_all at hF
  refine EvU.of_body Try.tb_ok Try.fn37 rfl ?_
  refine WPU.ghost (tm' := fr 23 [(0, .isl false (List.map cGDeriv p1))]) (Gh.start (Nat.le_of_ble_eq_true rfl)) (Nat.zero_le _) ?_
  repeat refine sq ?_
  refine WPU.region Try.tb_ok ?_
  refine RS.as rfl rfl rfl rfl ?_
  refine RS.done ?_
  repeat refine gq ?_
  repeat refine sq ?_
  obtain ⟨h2, hF⟩ := needO_some hF
  refine WPU.region Try.tb_ok ?_
  refine RS.mv rfl rfl rfl rfl ?_
  refine RS.op rfl (op_len rfl rfl rfl (len_isl cGDeriv Try.und22)) rfl rfl ?_
  refine RS.op (u := .sl 0 0 ((p1.length : Int).toNat) ((p1.length : Int).toNat)) (σ' := ⟨[(0, .row (List.map (cL cGProp) (List.replicate (p1.length : Int).toNat [])).flatten 30)], 1⟩) rfl (op_mks (cL cGProp) [] rfl rfl Try.und55 Try.inf30 rfl rfl rfl rfl h2) rfl rfl ?_
  refine RS.as rfl rfl rfl rfl ?_
  refine RS.done ?_
  repeat refine gq ?_
  repeat refine sq ?_
  refine WPU.region Try.tb_ok ?_
  refine RS.mv rfl rfl rfl rfl ?_
  refine RS.op rfl (op_len rfl rfl rfl (len_isl cGDeriv Try.und22)) rfl rfl ?_
  refine RS.mv rfl rfl rfl rfl ?_
  refine RS.done ?_
  repeat refine gq ?_
  repeat refine sq ?_
  refine WPU.ghost (tm' := fr 23 [(3, .sl 0 0 ((p1.length : Int).toNat) ((p1.length : Int).toNat)), (9, .isl false (List.map cGDeriv p1)), (10, .int .i64 (p1.length : Int)), (11, .int .i64 0)]) (Gh.sub ⟨rfl, rfl, rfl, rfl, trivial⟩) (Nat.zero_le _) ?_
  refine WPU.loopK (fun m tm σ => ∃ z7 : Int, ∃ l8 : List (List GProp), disc_all_L1 p1 n m z7 l8 = some r ∧ tm = fr 23 [(3, .sl 0 0 ((p1.length : Int).toNat) ((p1.length : Int).toNat)), (9, .isl false (List.map cGDeriv p1)), (10, .int .i64 (p1.length : Int)), (11, .int .i64 z7)] ∧ σ = ⟨[(0, .row (List.map (cL cGProp) l8).flatten 30)], 1⟩) (fun tm σ => ∃ l9 : List (List GProp), disc_all_K1 p1 l9 = some r ∧ tm = fr 23 [(3, .sl 0 0 ((p1.length : Int).toNat) ((p1.length : Int).toNat))] ∧ σ = ⟨[(0, .row (List.map (cL cGProp) l9).flatten 30)], 1⟩) n ⟨0, (List.replicate (p1.length : Int).toNat []), hF, rfl, rfl⟩ ?_ ?_
  rintro _ _ ⟨l9, hF, rfl, rfl⟩
  unfold disc_all_K1 at hF
  repeat refine gq ?_
  repeat refine sq ?_
  refine WPU.region Try.tb_ok ?_
  refine RS.mv rfl rfl rfl rfl ?_
  refine RS.as rfl rfl rfl rfl ?_
  refine RS.done ?_
  repeat refine gq ?_
  repeat refine sq ?_
  refine WPU.ret ?_
  repeat refine gq ?_
  obtain ⟨h10, hF⟩ := needO_some hF
  have hr := Option.some.inj hF
  subst hr
  exact ⟨.inr rfl, [.sl 0 0 ((p1.length : Int).toNat) ((p1.length : Int).toNat)], res_t rfl (res_n), .isl false (List.map (cL cGProp) l9), ⟨[], 0⟩, Nat.le_refl _, Gh.trans (Gh.fz (tm' := [.isl false (List.map (cL cGProp) l9)]) (h' := []) 0 (.row (List.map (cL cGProp) l9).flatten 30) 1 rfl (by simp) (by simp only [oneU, fzL_nil, fzL_cons, fz_int, fz_bool, fz_str, fz_nils, fz_nilp, fz_nilm, fz_nilf, fz_junk, fz_isl, fz_map, fz_agg, fz_tup, fz_fn, junkT, fz_rl (len_cL cGProp) h10]) (by simp only [fzH, fzB, ug, Nat.beq, cond_true, cond_false, oneU, fzL_nil, fzL_cons, fz_int, fz_bool, fz_str, fz_nils, fz_nilp, fz_nilm, fz_nilf, fz_junk, fz_isl, fz_map, fz_agg, fz_tup, fz_fn, junkT, fz_rl (len_cL cGProp) h10])) (Gh.toR (.isl false (List.map (cL cGProp) l9)) rfl), rfl, BU.h⟩
  rintro m1 _ _ ⟨z7, l8, hF, rfl, rfl⟩
  rcases m1 with _ | m1
  cases hF
  unfold disc_all_L1 at hF
  repeat refine sq ?_
  refine WPU.region Try.tb_ok ?_
  refine RS.op rfl (op_int rfl rfl (ix_lss _ _ _) rfl) rfl rfl ?_
  refine RS.done ?_
  repeat refine gq ?_
  repeat refine sq ?_
  refine WPU.condS (t := (decide (z7 < (p1.length : Int)))) rfl (fun h11 => ?_) (fun h11 => ?_)
  replace hF := cond_t h11 hF
  repeat refine sq ?_
  refine WPU.skip ?_
  repeat refine gq ?_
  repeat refine sq ?_
  refine WPU.block ?_
  repeat refine sq ?_
  obtain ⟨x12, h13, hF⟩ := bindO_some hF
  refine WPU.region Try.tb_ok ?_
  refine RS.mv rfl rfl rfl rfl ?_
  refine RS.op (u := .iptr (xGDeriv x12)) rfl (op_ia rfl rfl (ia_isl cGDeriv Try.und22 (sz_of Try.inf24) len_cGDeriv h13 (cGDeriv_eq x12))) rfl rfl ?_
  refine RS.op (u := .agg (xGDeriv x12)) rfl (li_agg Try.und24 rfl (sz_of Try.inf24) rfl rfl) rfl rfl ?_
  refine RS.op (u := .ptr 1 0 0) (σ' := ⟨[(1, .row [.int .i64 0, .str [], .int .i64 0, .int .i64 0, .nils] 24), (0, .row (List.map (cL cGProp) l8).flatten 30)], 2⟩) rfl (op_alloc Try.inf24 rfl rfl) rfl rfl ?_
  refine RS.as rfl rfl rfl rfl ?_
  refine RS.opn (u := .junk) (σ' := ⟨[(1, .row (xGDeriv x12) 24), (0, .row (List.map (cL cGProp) l8).flatten 30)], 2⟩) rfl (op_store (sz_of Try.inf24) rfl rfl rfl rfl rfl rfl rfl rfl) rfl ?_
  refine RS.done ?_
  repeat refine gq ?_
  repeat refine sq ?_
  obtain ⟨r14, h15, hF⟩ := bindO_some hF
  obtain ⟨x16, h17, hF⟩ := bindO_some hF
  refine WPU.region Try.tb_ok ?_
  repeat refine RS.mv rfl rfl rfl rfl ?_
  refine RS.op (u := .agg (xGDeriv x12)) rfl (ld_agg Try.und24 rfl (sz_of Try.inf24) rfl rfl rfl) rfl rfl ?_
  refine RS.call (u := .isl false (List.map cGProp r14)) (args := [.agg (xGDeriv x12)]) rfl (op_call rfl rfl Try.fn13 Try.hb13 rfl rfl) (disc_Props_ok n x12 r14 h15 _) rfl rfl ?_
  refine RS.op (u := .ptr 0 0 (0 * 1 + z7.toNat * 1)) rfl (op_ia rfl rfl (ia_rl Try.und55 (sz_of Try.inf30) rfl h17)) rfl rfl ?_
  refine RS.opn (u := .junk) (σ' := ⟨[(1, .row (xGDeriv x12) 24), (0, .row (List.map (cL cGProp) (l8.set z7.toNat r14)).flatten 30)], 2⟩) rfl (st_rl (cL cGProp) (sz_of Try.inf30) (len_cL cGProp) rfl rfl rfl rfl rfl rfl h17 rfl) rfl ?_
  refine RS.done ?_
  repeat refine gq ?_
  repeat refine sq ?_
  refine WPU.region Try.tb_ok ?_
  refine RS.op rfl (op_int rfl rfl (ix_add _ _ _) rfl) rfl rfl ?_
  refine RS.mv rfl rfl rfl rfl ?_
  refine RS.done ?_
  repeat refine gq ?_
  exact ⟨m1, _, _, Nat.lt_succ_self _, ⟨(IntKind.i64.wrap (z7 + 1)), (l8.set z7.toNat r14), hF, rfl, rfl⟩, (Nat.zero_le _), Gh.toC (n1 := 1) ⟨rfl, rfl, rfl, rfl, trivial⟩ rfl (Nat.zero_le _) (by simp)⟩
  replace hF := cond_f h11 hF
  repeat refine sq ?_
  refine WPU.exit ?_
  repeat refine gq ?_
  exact ⟨_, _, ⟨l8, hF, rfl, rfl⟩, (Nat.zero_le _), Gh.toC (n1 := 1) ⟨rfl, trivial⟩ rfl (Nat.zero_le _) (by simp)⟩
theorem disc_all_ok (n : Nat) (p1 : List GDeriv) (r : (List (List GProp))) (hF : disc_all n p1 = some r) (σ : Sg) : EvU Try.prog 37 [.isl false (List.map cGDeriv p1)] σ (fun u σ' => u = .isl false (List.map (cL cGProp) r) ∧ σ' = σ) :=
  EvU.pure1C (disc_all_0 n p1 r hF) σ
def disc_Discriminants (n : Nat) (p1 : List GDeriv) : Option ((List GProp)) :=
  bindO (disc_all n p1) fun r2 =>
  bindO (disc_differ n r2) fun r4 =>
  some r4
theorem disc_Discriminants_0 (n : Nat) (p1 : List GDeriv) (r : (List GProp)) (hF : disc_Discriminants n p1 = some r) : EvU Try.prog 18 [.isl false (List.map cGDeriv p1)] ⟨[], 0⟩ (fun u _ => u = .isl false (List.map cGProp r) ∧ Bel 0 u) := by
  unfold disc_Discriminants at hF
  refine EvU.of_body Try.tb_ok Try.fn18 rfl ?_
  refine WPU.ghost (tm' := fr 6 [(0, .isl false (List.map cGDeriv p1))]) (Gh.start (Nat.le_of_ble_eq_true rfl)) (Nat.zero_le _) ?_
  repeat refine sq ?_
  refine WPU.region Try.tb_ok ?_
  refine RS.as rfl rfl rfl rfl ?_
  refine RS.done ?_
  repeat refine gq ?_
  repeat refine sq ?_
  obtain ⟨r2, h3, hF⟩ := bindO_some hF
  obtain ⟨r4, h5, hF⟩ := bindO_some hF
  refine WPU.region Try.tb_ok ?_
  refine RS.mv rfl rfl rfl rfl ?_
  refine RS.call (u := .isl false (List.map (cL cGProp) r2)) (args := [.isl false (List.map cGDeriv p1)]) rfl (op_call rfl rfl Try.fn37 Try.hb37 rfl rfl) (disc_all_ok n p1 r2 h3 _) rfl rfl ?_
  refine RS.call (u := .isl false (List.map cGProp r4)) (args := [.isl false (List.map (cL cGProp) r2)]) rfl (op_call rfl rfl Try.fn36 Try.hb36 rfl rfl) (disc_differ_ok n r2 r4 h5 _) rfl rfl ?_
  refine RS.as rfl rfl rfl rfl ?_
  refine RS.done ?_
  repeat refine gq ?_
  repeat refine sq ?_
  refine WPU.ret ?_
  repeat refine gq ?_
  have hr := Option.some.inj hF
  subst hr
  exact ⟨.inr rfl, [.isl false (List.map cGProp r4)], res_t rfl (res_n), .isl false (List.map cGProp r4), ⟨[], 0⟩, Nat.le_refl _, Gh.toR (.isl false (List.map cGProp r4)) rfl, rfl, BU.h⟩
theorem disc_Discriminants_ok (n : Nat) (p1 : List GDeriv) (r : (List GProp)) (hF : disc_Discriminants n p1 = some r) (σ : Sg) : EvU Try.prog 18 [.isl false (List.map cGDeriv p1)] σ (fun u σ' => u = .isl false (List.map cGProp r) ∧ σ' = σ) :=
  EvU.pure1C (disc_Discriminants_0 n p1 r hF) σ
def slices_IndexFunc_Decision_remaining_1_K1   : Option (Int) :=
  some (-1)
def slices_IndexFunc_Decision_remaining_1_L1 (p1 : List GDecision) (c2 : List GProp) (f1 : GDecision → (List GProp) → Option (Bool)) : Nat → Int → Option (Int)
  | 0, _ => none
  | m1 + 1, z6 =>
    cond (decide (z6 < (p1.length : Int)))
      (bindO (idxO p1 z6) fun x8 =>
      bindO (f1 x8 c2) fun r10 =>
      cond r10
        (some z6)
        ((slices_IndexFunc_Decision_remaining_1_L1 p1 c2 f1 m1) (IntKind.i64.wrap (z6 + 1))))
      (slices_IndexFunc_Decision_remaining_1_K1)
def slices_IndexFunc_Decision_remaining_1 (f1 : GDecision → (List GProp) → Option (Bool)) (n : Nat) (p1 : List GDecision) (c2 : List GProp) : Option (Int) :=
  slices_IndexFunc_Decision_remaining_1_L1 p1 c2 f1 n 0
theorem slices_IndexFunc_Decision_remaining_1_0 (f1 : GDecision → (List GProp) → Option (Bool)) (hf1 : ∀ (a0 : GDecision) (a1 : List GProp) (r : Bool), f1 a0 a1 = some r → EvU Try.prog 50 [.agg (cGDecision a0), .iptr [.isl false (List.map cGProp a1)]] ⟨[], 0⟩ (fun u _ => u = .bool r ∧ Bel 0 u)) (n : Nat) (p1 : List GDecision) (c2 : List GProp) (r : Int) (hF : slices_IndexFunc_Decision_remaining_1 f1 n p1 c2 = some r) : EvU Try.prog 51 [.isl false (List.map cGDecision p1), .fn (.func 50) [] [.iptr [.isl false (List.map cGProp c2)]]] ⟨[], 0⟩ (fun u _ => u = .int .i64 r ∧ Bel 0 u) := by
  unfold slices_IndexFunc_Decision_remaining_1 at hF
  have hf1S : ∀ (a0 : GDecision) (a1 : List GProp) (r : Bool), f1 a0 a1 = some r → ∀ σ, EvU Try.prog 50 [.agg (cGDecision a0), .iptr [.isl false (List.map cGProp a1)]] σ (fun u σ' => u = .bool r ∧ σ' = σ) := fun a0 a1 r h σ => EvU.pure1C (hf1 a0 a1 r h) σ
  refine EvU.of_body Try.tb_ok Try.fn51 rfl ?_
  refine WPU.ghost (tm' := fr 19 [(0, .isl false (List.map cGDecision p1)), (1, .fn (.func 50) [] [.iptr [.isl false (List.map cGProp c2)]])]) (Gh.start (Nat.le_of_ble_eq_true rfl)) (Nat.zero_le _) ?_
  repeat refine sq ?_
  refine WPU.region Try.tb_ok ?_
  refine RS.as rfl rfl rfl rfl ?_
  refine RS.done ?_
  repeat refine gq ?_
  repeat refine sq ?_
  refine WPU.region Try.tb_ok ?_
  refine RS.mv rfl rfl rfl rfl ?_
  refine RS.op rfl (op_len rfl rfl rfl (len_isl cGDecision Try.und36)) rfl rfl ?_
  refine RS.mv rfl rfl rfl rfl ?_
  refine RS.done ?_
  repeat refine gq ?_
  repeat refine sq ?_
  refine WPU.ghost (tm' := fr 19 [(0, .isl false (List.map cGDecision p1)), (1, .fn (.func 50) [] [.iptr [.isl false (List.map cGProp c2)]]), (7, .int .i64 (p1.length : Int)), (8, .int .i64 0)]) (Gh.sub ⟨rfl, rfl, rfl, rfl, trivial⟩) (Nat.zero_le _) ?_
  refine WPU.loopK (fun m tm σ => ∃ z6 : Int, slices_IndexFunc_Decision_remaining_1_L1 p1 c2 f1 m z6 = some r ∧ tm = fr 19 [(0, .isl false (List.map cGDecision p1)), (1, .fn (.func 50) [] [.iptr [.isl false (List.map cGProp c2)]]), (7, .int .i64 (p1.length : Int)), (8, .int .i64 z6)] ∧ σ = ⟨[], 0⟩) (fun tm σ => slices_IndexFunc_Decision_remaining_1_K1 = some r ∧ tm = fr 19 [] ∧ σ = ⟨[], 0⟩) n ⟨0, hF, rfl, rfl⟩ ?_ ?_
  rintro _ _ ⟨hF, rfl, rfl⟩
  unfold slices_IndexFunc_Decision_remaining_1_K1 at hF
  repeat refine gq ?_
  repeat refine sq ?_
  refine WPU.region Try.tb_ok ?_
  refine RS.as rfl rfl rfl rfl ?_
  refine RS.done ?_
  repeat refine gq ?_
  repeat refine sq ?_
  refine WPU.ret ?_
  repeat refine gq ?_
  have hr := Option.some.inj hF
  subst hr
  exact ⟨.inr rfl, [.int .i64 (-1)], res_t rfl (res_n), .int .i64 (-1), ⟨[], 0⟩, Nat.le_refl _, Gh.toR (.int .i64 (-1)) rfl, rfl, BU.h⟩
  rintro m1 _ _ ⟨z6, hF, rfl, rfl⟩
  rcases m1 with _ | m1
  cases hF
  unfold slices_IndexFunc_Decision_remaining_1_L1 at hF
  repeat refine sq ?_
  refine WPU.region Try.tb_ok ?_
  refine RS.op rfl (op_int rfl rfl (ix_lss _ _ _) rfl) rfl rfl ?_
  refine RS.done ?_
  repeat refine gq ?_
  repeat refine sq ?_
  refine WPU.condS (t := (decide (z6 < (p1.length : Int)))) rfl (fun h7 => ?_) (fun h7 => ?_)
  replace hF := cond_t h7 hF
  repeat refine sq ?_
  refine WPU.skip ?_
  repeat refine gq ?_
  repeat refine sq ?_
  refine WPU.block ?_
  repeat refine sq ?_
  refine WPU.region Try.tb_ok ?_
  refine RS.mv rfl rfl rfl rfl ?_
  refine RS.as rfl rfl rfl rfl ?_
  refine RS.done ?_
  repeat refine gq ?_
  repeat refine sq ?_
  obtain ⟨x8, h9, hF⟩ := bindO_some hF
  obtain ⟨r10, h11, hF⟩ := bindO_some hF
  refine WPU.region Try.tb_ok ?_
  repeat refine RS.mv rfl rfl rfl rfl ?_
  refine RS.op (u := .iptr (cGDecision x8)) rfl (op_ia rfl rfl (ia_isl cGDecision Try.und36 (sz_of Try.inf44) len_cGDecision h9 rfl)) rfl rfl ?_
  refine RS.op (u := .agg (cGDecision x8)) rfl (li_agg Try.und44 rfl (sz_of Try.inf44) rfl rfl) rfl rfl ?_
  refine RS.call (u := .bool r10) (args := [.agg (cGDecision x8), .iptr [.isl false (List.map cGProp c2)]]) rfl (op_call rfl rfl Try.fn50 Try.hb50 rfl rfl) (hf1S x8 c2 r10 h11 _) rfl rfl ?_
  refine RS.done ?_
  repeat refine gq ?_
  repeat refine sq ?_
  refine WPU.condS (t := r10) rfl (fun h12 => ?_) (fun h12 => ?_)
  replace hF := cond_t h12 hF
  repeat refine sq ?_
  refine WPU.region Try.tb_ok ?_
  refine RS.mv rfl rfl rfl rfl ?_
  refine RS.as rfl rfl rfl rfl ?_
  refine RS.done ?_
  repeat refine gq ?_
  repeat refine sq ?_
  refine WPU.ret ?_
  repeat refine gq ?_
  have hr := Option.some.inj hF
  subst hr
  exact ⟨.inr rfl, [.int .i64 z6], res_t rfl (res_n), .int .i64 z6, ⟨[], 0⟩, Nat.le_refl _, Gh.toR (.int .i64 z6) rfl, rfl, BU.h⟩
  replace hF := cond_f h12 hF
  repeat refine sq ?_
  refine WPU.skip ?_
  repeat refine gq ?_
  repeat refine sq ?_
  refine WPU.region Try.tb_ok ?_
  refine RS.op rfl (op_int rfl rfl (ix_add _ _ _) rfl) rfl rfl ?_
  refine RS.mv rfl rfl rfl rfl ?_
  refine RS.done ?_
  repeat refine gq ?_
  exact ⟨m1, _, _, Nat.lt_succ_self _, ⟨(IntKind.i64.wrap (z6 + 1)), hF, rfl, rfl⟩, (Nat.zero_le _), Gh.toC (n1 := 0) ⟨rfl, rfl, rfl, rfl, trivial⟩ rfl (Nat.zero_le _) (by simp)⟩
  replace hF := cond_f h7 hF
  repeat refine sq ?_
  refine WPU.exit ?_
  repeat refine gq ?_
  exact ⟨_, _, ⟨hF, rfl, rfl⟩, (Nat.zero_le _), Gh.toC (n1 := 0) trivial rfl (Nat.zero_le _) (by simp)⟩
theorem slices_IndexFunc_Decision_remaining_1_ok (f1 : GDecision → (List GProp) → Option (Bool)) (hf1 : ∀ (a0 : GDecision) (a1 : List GProp) (r : Bool), f1 a0 a1 = some r → EvU Try.prog 50 [.agg (cGDecision a0), .iptr [.isl false (List.map cGProp a1)]] ⟨[], 0⟩ (fun u _ => u = .bool r ∧ Bel 0 u)) (n : Nat) (p1 : List GDecision) (c2 : List GProp) (r : Int) (hF : slices_IndexFunc_Decision_remaining_1 f1 n p1 c2 = some r) (σ : Sg) : EvU Try.prog 51 [.isl false (List.map cGDecision p1), .fn (.func 50) [] [.iptr [.isl false (List.map cGProp c2)]]] σ (fun u σ' => u = .int .i64 r ∧ σ' = σ) :=
  EvU.pure1C (slices_IndexFunc_Decision_remaining_1_0 f1 hf1 n p1 c2 r hF) σ
def slices_ContainsFunc_Decision_remaining_1 (f1 : GDecision → (List GProp) → Option (Bool)) (n : Nat) (p1 : List GDecision) (c2 : List GProp) : Option (Bool) :=
  bindO (slices_IndexFunc_Decision_remaining_1 f1 n p1 c2) fun r3 =>
  some (decide (r3 ≥ 0))
theorem slices_ContainsFunc_Decision_remaining_1_0 (f1 : GDecision → (List GProp) → Option (Bool)) (hf1 : ∀ (a0 : GDecision) (a1 : List GProp) (r : Bool), f1 a0 a1 = some r → EvU Try.prog 50 [.agg (cGDecision a0), .iptr [.isl false (List.map cGProp a1)]] ⟨[], 0⟩ (fun u _ => u = .bool r ∧ Bel 0 u)) (n : Nat) (p1 : List GDecision) (c2 : List GProp) (r : Bool) (hF : slices_ContainsFunc_Decision_remaining_1 f1 n p1 c2 = some r) : EvU Try.prog 39 [.isl false (List.map cGDecision p1), .fn (.func 50) [] [.iptr [.isl false (List.map cGProp c2)]]] ⟨[], 0⟩ (fun u _ => u = .bool r ∧ Bel 0 u) := by
  unfold slices_ContainsFunc_Decision_remaining_1 at hF
  have hf1S : ∀ (a0 : GDecision) (a1 : List GProp) (r : Bool), f1 a0 a1 = some r → ∀ σ, EvU Try.prog 50 [.agg (cGDecision a0), .iptr [.isl false (List.map cGProp a1)]] σ (fun u σ' => u = .bool r ∧ σ' = σ) := fun a0 a1 r h σ => EvU.pure1C (hf1 a0 a1 r h) σ
  refine EvU.of_body Try.tb_ok Try.fn39 rfl ?_
  refine WPU.ghost (tm' := fr 9 [(0, .isl false (List.map cGDecision p1)), (1, .fn (.func 50) [] [.iptr [.isl false (List.map cGProp c2)]])]) (Gh.start (Nat.le_of_ble_eq_true rfl)) (Nat.zero_le _) ?_
  repeat refine sq ?_
  refine WPU.region Try.tb_ok ?_
  refine RS.as rfl rfl rfl rfl ?_
  refine RS.done ?_
  repeat refine gq ?_
  repeat refine sq ?_
  obtain ⟨r3, h4, hF⟩ := bindO_some hF
  refine WPU.region Try.tb_ok ?_
  repeat refine RS.mv rfl rfl rfl rfl ?_
  refine RS.call (u := .int .i64 r3) (args := [.isl false (List.map cGDecision p1), .fn (.func 50) [] [.iptr [.isl false (List.map cGProp c2)]]]) rfl (op_call rfl rfl Try.fn51 Try.hb51 rfl rfl) (slices_IndexFunc_Decision_remaining_1_ok f1 hf1 n p1 c2 r3 h4 _) rfl rfl ?_
  refine RS.op rfl (op_int rfl rfl (ix_geq _ _ _) rfl) rfl rfl ?_
  refine RS.as rfl rfl rfl rfl ?_
  refine RS.done ?_
  repeat refine gq ?_
  repeat refine sq ?_
  refine WPU.ret ?_
  repeat refine gq ?_
  have hr := Option.some.inj hF
  subst hr
  exact ⟨.inr rfl, [.bool (decide (r3 ≥ 0))], res_t rfl (res_n), .bool (decide (r3 ≥ 0)), ⟨[], 0⟩, Nat.le_refl _, Gh.toR (.bool (decide (r3 ≥ 0))) rfl, rfl, BU.h⟩
def disc_remaining_1 (n : Nat) (p1 : GDecision) (c2 : List GProp) : Option (Bool) :=
  bindO (disc_has n c2 p1.Propx) fun r3 =>
  some (!(r3 == p1.Yes))
theorem disc_remaining_1_0 (n : Nat) (p1 : GDecision) (c2 : List GProp) (r : Bool) (hF : disc_remaining_1 n p1 c2 = some r) : EvU Try.prog 50 [.agg (cGDecision p1), .iptr [.isl false (List.map cGProp c2)]] ⟨[], 0⟩ (fun u _ => u = .bool r ∧ Bel 0 u) := by
  unfold disc_remaining_1 at hF
  refine EvU.of_body Try.tb_ok Try.fn50 rfl ?_
  refine WPU.ghost (tm' := fr 11 [(0, .agg (cGDecision p1)), (1, .iptr [.isl false (List.map cGProp c2)])]) (Gh.start (Nat.le_of_ble_eq_true rfl)) (Nat.zero_le _) ?_
  repeat refine sq ?_
  refine WPU.region Try.tb_ok ?_
  refine RS.op (u := .ptr 0 0 0) (σ' := ⟨[(0, .row (cGDecision p1) 44)], 1⟩) rfl (op_box rfl rfl rfl) rfl rfl ?_
  refine RS.as rfl rfl rfl rfl ?_
  refine RS.done ?_
  repeat refine gq ?_
  repeat refine sq ?_
  obtain ⟨r3, h4, hF⟩ := bindO_some hF
  refine WPU.drawE Try.tb_ok [] (by kernel_rfl) ?_
  refine RD.look (u := .isl false (List.map cGProp c2)) rfl (li_one Try.und30 rfl rfl rfl) rfl rfl ?_
  refine RD.look (u := .ptr 0 0 0) rfl (op_fa Try.und44 rfl (sz_of Try.inf26) rfl rfl rfl) rfl rfl ?_
  refine RD.look (u := .agg (cGProp p1.Propx)) rfl (ld_agg Try.und26 rfl (sz_of Try.inf26) rfl rfl rfl) rfl rfl ?_
  refine RD.free (u := .bool r3) (args := [.isl false (List.map cGProp c2), .agg (cGProp p1.Propx)]) rfl (op_call rfl rfl Try.fn33 Try.hb33 rfl rfl) (fun s => disc_has_ok n c2 p1.Propx r3 h4 s) rfl rfl ?_
  refine RD.look (u := .ptr 0 0 4) rfl (op_fa Try.und44 rfl (sz_of Try.inf4) rfl rfl rfl) rfl rfl ?_
  refine RD.look (u := .bool p1.Yes) rfl (ld_one Try.und4 rfl rfl rfl rfl) rfl rfl ?_
  refine RD.look (u := .bool (!(r3 == p1.Yes))) rfl (op_bin rfl rfl (by simp only [g2, toV, binX, guardX, eqv, cond_true, ofV, Try.und4])) rfl rfl ?_
  refine RD.as rfl rfl rfl rfl ?_
  refine RD.done ⟨by kernel_rfl, trivial, ?_⟩
  repeat refine gq ?_
  repeat refine sq ?_
  refine WPU.ret ?_
  repeat refine gq ?_
  have hr := Option.some.inj hF
  subst hr
  exact ⟨.inr rfl, [.bool (!(r3 == p1.Yes))], res_t rfl (res_n), .bool (!(r3 == p1.Yes)), ⟨[], 0⟩, Nat.le_refl _, Gh.toR (.bool (!(r3 == p1.Yes))) rfl, rfl, BU.h⟩
def disc_remaining_J2 (z9 : Int) (rc1 : Int → (List Int) → Option ((List Int))) (l20 : List Int) : Option ((List Int)) :=
  rc1 (IntKind.i64.wrap (z9 + 1)) l20
def disc_remaining_K1  (l12 : List Int) : Option ((List Int)) :=
  some l12
def disc_remaining_L1 (p1 : List (List GProp)) (p2 : List GDecision) (n : Nat) : Nat → Int → (List Int) → Option ((List Int))
  | 0, _, _ => none
  | m1 + 1, z9, l10 =>
    cond (decide (z9 < (p1.length : Int)))
      (bindO (idxO p1 z9) fun x15 =>
      bindO (slices_ContainsFunc_Decision_remaining_1 (disc_remaining_1 n) n p2 x15) fun r17 =>
      cond (!r17)
        (needO ((l10.length + 1) * 8 ≤ 140737488355328 ∧ l10.length + 1 ≤ 140737488355328) (
        disc_remaining_J2 z9 (disc_remaining_L1 p1 p2 n m1) (l10 ++ [z9])))
        (disc_remaining_J2 z9 (disc_remaining_L1 p1 p2 n m1) l10))
      (disc_remaining_K1 l10)
def disc_remaining (n : Nat) (p1 : List (List GProp)) (p2 : List GDecision) : Option ((List Int)) :=
  disc_remaining_L1 p1 p2 n n 0 ([] : List Int)
theorem disc_remaining_0 (n : Nat) (p1 : List (List GProp)) (p2 : List GDecision) (r : (List Int)) (hF : disc_remaining n p1 p2 = some r) : EvU Try.prog 38 [.isl false (List.map (cL cGProp) p1), .isl false (List.map cGDecision p2)] ⟨[], 0⟩ (fun u _ => u = .isl false (List.map (cI .i64) r) ∧ Bel 0 u) := by
  unfold disc_remaining at hF
  refine EvU.of_body Try.tb_ok Try.fn38 rfl ?_
  refine WPU.ghost (tm' := fr 27 [(0, .isl false (List.map (cL cGProp) p1)), (1, .isl false (List.map cGDecision p2))]) (Gh.start (Nat.le_of_ble_eq_true rfl)) (Nat.zero_le _) ?_
  repeat refine sq ?_
  refine WPU.region Try.tb_ok ?_
  refine RS.as rfl rfl rfl rfl ?_
  refine RS.done ?_
  repeat refine gq ?_
  repeat refine sq ?_
  refine WPU.region Try.tb_ok ?_
  refine RS.as rfl rfl rfl rfl ?_
  refine RS.done ?_
  repeat refine gq ?_
  repeat refine sq ?_
  refine WPU.region Try.tb_ok ?_
  refine RS.mv rfl rfl rfl rfl ?_
  refine RS.op rfl (op_len rfl rfl rfl (len_isl (cL cGProp) Try.und55)) rfl rfl ?_
  refine RS.mv rfl rfl rfl rfl ?_
  refine RS.done ?_
  repeat refine gq ?_
  repeat refine sq ?_
  refine WPU.ghost (tm' := fr 27 [(1, .isl false (List.map cGDecision p2)), (5, .vl 0 0 0 (([] : List Int).length)), (9, .isl false (List.map (cL cGProp) p1)), (10, .int .i64 (p1.length : Int)), (11, .int .i64 0)]) (σ' := ⟨[(0, .vec (List.map (cI .i64) ([] : List Int)).flatten 3 1 0)], 1⟩) (Gh.trans (Gh.nilS 5 3 1 (by decide) (Nat.zero_le _) rfl rfl) (Gh.eqS ⟨rfl, rfl, rfl, rfl, rfl, trivial⟩ rfl)) (Nat.zero_le _) ?_
  refine WPU.ghost (tm' := fr 27 [(1, .isl false (List.map cGDecision p2)), (5, .vl 0 0 0 (([] : List Int).length)), (9, .isl false (List.map (cL cGProp) p1)), (10, .int .i64 (p1.length : Int)), (11, .int .i64 0)]) (Gh.sub ⟨rfl, rfl, rfl, rfl, rfl, trivial⟩) (Nat.zero_le _) ?_
  refine WPU.loopK (fun m tm σ => ∃ z9 : Int, ∃ l10 : List Int, ∃ t11 : Nat, disc_remaining_L1 p1 p2 n m z9 l10 = some r ∧ tm = fr 27 [(1, .isl false (List.map cGDecision p2)), (5, .vl 0 t11 0 l10.length), (9, .isl false (List.map (cL cGProp) p1)), (10, .int .i64 (p1.length : Int)), (11, .int .i64 z9)] ∧ σ = ⟨[(0, .vec (List.map (cI .i64) l10).flatten 3 1 t11)], 1⟩) (fun tm σ => ∃ l12 : List Int, ∃ t13 : Nat, disc_remaining_K1 l12 = some r ∧ tm = fr 27 [(5, .vl 0 t13 0 l12.length)] ∧ σ = ⟨[(0, .vec (List.map (cI .i64) l12).flatten 3 1 t13)], 1⟩) n ⟨0, ([] : List Int), 0, hF, rfl, rfl⟩ ?_ ?_
  rintro _ _ ⟨l12, t13, hF, rfl, rfl⟩
  unfold disc_remaining_K1 at hF
  repeat refine gq ?_
  repeat refine sq ?_
  refine WPU.region Try.tb_ok ?_
  refine RS.mv rfl rfl rfl rfl ?_
  refine RS.as rfl rfl rfl rfl ?_
  refine RS.done ?_
  repeat refine gq ?_
  repeat refine sq ?_
  refine WPU.ret ?_
  repeat refine gq ?_
  have hr := Option.some.inj hF
  subst hr
  exact ⟨.inr rfl, [.vl 0 t13 0 l12.length], res_t rfl (res_n), .isl false (List.map (cI .i64) l12), ⟨[], 0⟩, Nat.le_refl _, Gh.trans (Gh.fz (tm' := [.isl false (List.map (cI .i64) l12)]) (h' := []) 0 (.vec (List.map (cI .i64) l12).flatten 3 1 t13) 1 rfl (by simp) (by simp only [oneU, fzL_nil, fzL_cons, fz_int, fz_bool, fz_str, fz_nils, fz_nilp, fz_nilm, fz_nilf, fz_junk, fz_isl, fz_map, fz_agg, fz_tup, fz_fn, junkT, fz_vl (len_cI .i64)]) (by simp only [fzH, fzB, ug, Nat.beq, cond_true, cond_false, oneU, fzL_nil, fzL_cons, fz_int, fz_bool, fz_str, fz_nils, fz_nilp, fz_nilm, fz_nilf, fz_junk, fz_isl, fz_map, fz_agg, fz_tup, fz_fn, junkT, fz_vl (len_cI .i64)])) (Gh.toR (.isl false (List.map (cI .i64) l12)) rfl), rfl, BU.h⟩
  rintro m1 _ _ ⟨z9, l10, t11, hF, rfl, rfl⟩
  rcases m1 with _ | m1
  cases hF
  unfold disc_remaining_L1 at hF
  repeat refine sq ?_
  refine WPU.region Try.tb_ok ?_
  refine RS.op rfl (op_int rfl rfl (ix_lss _ _ _) rfl) rfl rfl ?_
  refine RS.done ?_
  repeat refine gq ?_
  repeat refine sq ?_
  refine WPU.condS (t := (decide (z9 < (p1.length : Int)))) rfl (fun h14 => ?_) (fun h14 => ?_)
  replace hF := cond_t h14 hF
  repeat refine sq ?_
  refine WPU.skip ?_
  repeat refine gq ?_
  repeat refine sq ?_
  refine WPU.block ?_
  repeat refine sq ?_
  obtain ⟨x15, h16, hF⟩ := bindO_some hF
  refine WPU.region Try.tb_ok ?_
  refine RS.mv rfl rfl rfl rfl ?_
  refine RS.op (u := .iptr [.isl false (List.map cGProp x15)]) rfl (op_ia rfl rfl (ia_isl (cL cGProp) Try.und55 (sz_of Try.inf30) (len_cL cGProp) h16 rfl)) rfl rfl ?_
  refine RS.op (u := .isl false (List.map cGProp x15)) rfl (li_one Try.und30 rfl rfl rfl) rfl rfl ?_
  refine RS.op (u := .ptr 1 0 0) (σ' := ⟨[(1, .row [.nils] 30), (0, .vec (List.map (cI .i64) l10).flatten 3 1 t11)], 2⟩) rfl (op_alloc Try.inf30 rfl rfl) rfl rfl ?_
  refine RS.as rfl rfl rfl rfl ?_
  refine RS.opn (u := .junk) (σ' := ⟨[(1, .row [.isl false (List.map cGProp x15)] 30), (0, .vec (List.map (cI .i64) l10).flatten 3 1 t11)], 2⟩) rfl (op_store (sz_of Try.inf30) rfl rfl rfl rfl rfl rfl rfl rfl) rfl ?_
  refine RS.done ?_
  repeat refine gq ?_
  repeat refine sq ?_
  refine WPU.region Try.tb_ok ?_
  refine RS.op rfl (op_fun rfl rfl) rfl rfl ?_
  refine RS.as rfl rfl rfl rfl ?_
  refine RS.done ?_
  repeat refine gq ?_
  repeat refine sq ?_
  obtain ⟨r17, h18, hF⟩ := bindO_some hF
  refine WPU.region Try.tb_ok ?_
  repeat refine RS.mv rfl rfl rfl rfl ?_
  refine RS.call (u := .bool r17) (args := [.isl false (List.map cGDecision p2), .fn (.func 50) [] [.ptr 1 0 0]]) rfl (op_call rfl rfl Try.fn39 Try.hb39 rfl rfl) (EvU.view (slices_ContainsFunc_Decision_remaining_1_0 (disc_remaining_1 n) (disc_remaining_1_0 n) n p2 x15 r17 h18) BUL.h (by simp only [toV, toVL, okL, okC, cond_true] <;> rfl) (fun m => by simp [ren, renL]) (Gh.fz (tm' := [.isl false (List.map cGDecision p2), .fn (.func 50) [] [.iptr [.isl false (List.map cGProp x15)]]]) (h' := [(0, .vec (List.map (cI .i64) l10).flatten 3 1 t11)]) 1 (.row [.isl false (List.map cGProp x15)] 30) 1 rfl (by simp) (by simp only [oneU, fzL_nil, fzL_cons, fz_int, fz_bool, fz_str, fz_nils, fz_nilp, fz_nilm, fz_nilf, fz_junk, fz_isl, fz_map, fz_agg, fz_tup, fz_fn, junkT, fz_sl, fz_p0, fzL_bel _ _ _ (bel_flat 1 (fun q => bel_cI _ .i64 q) l10), Nat.reduceLeDiff, Nat.reduceMul, List.length_cons, List.length_nil, Nat.reduceAdd] <;> simp only [chunks, List.take, List.drop, List.map, cI, cB, cS, cL]) (by simp only [fzH, fzB, ug, Nat.beq, cond_true, cond_false, oneU, fzL_nil, fzL_cons, fz_int, fz_bool, fz_str, fz_nils, fz_nilp, fz_nilm, fz_nilf, fz_junk, fz_isl, fz_map, fz_agg, fz_tup, fz_fn, junkT, fz_sl, fz_p0, fzL_bel _ _ _ (bel_flat 1 (fun q => bel_cI _ .i64 q) l10), Nat.reduceLeDiff, Nat.reduceMul, List.length_cons, List.length_nil, Nat.reduceAdd] <;> simp only [chunks, List.take, List.drop, List.map, cI, cB, cS, cL]))) rfl rfl ?_
  refine RS.op (u := .bool (!r17)) rfl (op_un rfl rfl rfl rfl) rfl rfl ?_
  refine RS.done ?_
  repeat refine gq ?_
  repeat refine sq ?_
  refine WPU.joinK (fun tm σ => ∃ l20 : List Int, ∃ t21 : Nat, disc_remaining_J2 z9 (disc_remaining_L1 p1 p2 n m1) l20 = some r ∧ tm = fr 27 [(1, .isl false (List.map cGDecision p2)), (5, .vl 0 t21 0 l20.length), (9, .isl false (List.map (cL cGProp) p1)), (10, .int .i64 (p1.length : Int)), (11, .int .i64 z9)] ∧ σ = ⟨[(1, .row [.isl false (List.map cGProp x15)] 30), (0, .vec (List.map (cI .i64) l20).flatten 3 1 t21)], 2⟩) ?_ ?_
  rintro _ _ ⟨l20, t21, hF, rfl, rfl⟩
  unfold disc_remaining_J2 at hF
  repeat refine gq ?_
  repeat refine sq ?_
  refine WPU.region Try.tb_ok ?_
  refine RS.op rfl (op_int rfl rfl (ix_add _ _ _) rfl) rfl rfl ?_
  refine RS.mv rfl rfl rfl rfl ?_
  refine RS.done ?_
  repeat refine gq ?_
  exact ⟨m1, _, _, Nat.lt_succ_self _, ⟨(IntKind.i64.wrap (z9 + 1)), l20, t21, hF, rfl, rfl⟩, (Nat.zero_le _), Gh.toC (n1 := 1) ⟨rfl, rfl, rfl, rfl, rfl, trivial⟩ rfl (Nat.zero_le _) (by simp)⟩
  refine WPU.condS (t := (!r17)) rfl (fun h19 => ?_) (fun h19 => ?_)
  replace hF := cond_t h19 hF
  repeat refine sq ?_
  obtain ⟨h22, hF⟩ := needO_some hF
  refine WPU.region Try.tb_ok ?_
  repeat refine RS.mv rfl rfl rfl rfl ?_
  refine RS.op (u := .sl 2 0 1 1) (σ' := ⟨[(2, .row [.int .i64 z9] 3), (1, .row [.isl false (List.map cGProp x15)] 30), (0, .vec (List.map (cI .i64) l10).flatten 3 1 t11)], 3⟩) rfl (op_bsl Try.und38 Try.inf3 rfl rfl rfl rfl rfl rfl rfl) rfl rfl ?_
  refine RS.op (u := .vl 0 (t11 + 1) 0 ((l10 ++ [z9]).length)) (σ' := ⟨[(2, .row [.int .i64 z9] 3), (1, .row [.isl false (List.map cGProp x15)] 30), (0, .vec (List.map (cI .i64) (l10 ++ [z9])).flatten 3 1 (t11 + 1))], 3⟩) rfl (op_app rfl rfl rfl rfl (app_vl (cI .i64) ([z9]) Try.und38 Try.und38 Try.inf3 rfl (len_cI .i64) rfl (src_row (cI .i64) [z9] rfl rfl rfl rfl) h22)) rfl rfl ?_
  refine RS.as rfl rfl rfl rfl ?_
  refine RS.done ?_
  repeat refine gq ?_
  exact ⟨_, _, ⟨(l10 ++ [z9]), (t11 + 1), hF, rfl, rfl⟩, (Nat.zero_le _), Gh.toC (n1 := 2) ⟨rfl, rfl, rfl, rfl, rfl, trivial⟩ rfl (Nat.zero_le _) (by simp)⟩
  replace hF := cond_f h19 hF
  repeat refine sq ?_
  refine WPU.skip ?_
  repeat refine gq ?_
  exact ⟨_, _, ⟨l10, t11, hF, rfl, rfl⟩, (Nat.zero_le _), Gh.toC (n1 := 2) ⟨rfl, rfl, rfl, rfl, rfl, trivial⟩ rfl (Nat.zero_le _) (by simp)⟩
  replace hF := cond_f h14 hF
  repeat refine sq ?_
  refine WPU.exit ?_
  repeat refine gq ?_
  exact ⟨_, _, ⟨l10, t11, hF, rfl, rfl⟩, (Nat.zero_le _), Gh.toC (n1 := 1) ⟨rfl, trivial⟩ rfl (Nat.zero_le _) (by simp)⟩
theorem disc_remaining_ok (n : Nat) (p1 : List (List GProp)) (p2 : List GDecision) (r : (List Int)) (hF : disc_remaining n p1 p2 = some r) (σ : Sg) : EvU Try.prog 38 [.isl false (List.map (cL cGProp) p1), .isl false (List.map cGDecision p2)] σ (fun u σ' => u = .isl false (List.map (cI .i64) r) ∧ σ' = σ) :=
  EvU.pure1C (disc_remaining_0 n p1 p2 r hF) σ
def disc_Remaining (n : Nat) (p1 : List GDeriv) (p2 : List GDecision) : Option ((List Int)) :=
  bindO (disc_all n p1) fun r3 =>
  bindO (disc_remaining n r3 p2) fun r5 =>
  some r5
theorem disc_Remaining_0 (n : Nat) (p1 : List GDeriv) (p2 : List GDecision) (r : (List Int)) (hF : disc_Remaining n p1 p2 = some r) : EvU Try.prog 21 [.isl false (List.map cGDeriv p1), .isl false (List.map cGDecision p2)] ⟨[], 0⟩ (fun u _ => u = .isl false (List.map (cI .i64) r) ∧ Bel 0 u) := by
  unfold disc_Remaining at hF
  refine EvU.of_body Try.tb_ok Try.fn21 rfl ?_
  refine WPU.ghost (tm' := fr 9 [(0, .isl false (List.map cGDeriv p1)), (1, .isl false (List.map cGDecision p2))]) (Gh.start (Nat.le_of_ble_eq_true rfl)) (Nat.zero_le _) ?_
  repeat refine sq ?_
  refine WPU.region Try.tb_ok ?_
  refine RS.as rfl rfl rfl rfl ?_
  refine RS.done ?_
  repeat refine gq ?_
  repeat refine sq ?_
  obtain ⟨r3, h4, hF⟩ := bindO_some hF
  obtain ⟨r5, h6, hF⟩ := bindO_some hF
  refine WPU.region Try.tb_ok ?_
  refine RS.mv rfl rfl rfl rfl ?_
  refine RS.call (u := .isl false (List.map (cL cGProp) r3)) (args := [.isl false (List.map cGDeriv p1)]) rfl (op_call rfl rfl Try.fn37 Try.hb37 rfl rfl) (disc_all_ok n p1 r3 h4 _) rfl rfl ?_
  refine RS.mv rfl rfl rfl rfl ?_
  refine RS.call (u := .isl false (List.map (cI .i64) r5)) (args := [.isl false (List.map (cL cGProp) r3), .isl false (List.map cGDecision p2)]) rfl (op_call rfl rfl Try.fn38 Try.hb38 rfl rfl) (disc_remaining_ok n r3 p2 r5 h6 _) rfl rfl ?_
  refine RS.as rfl rfl rfl rfl ?_
  refine RS.done ?_
  repeat refine gq ?_
  repeat refine sq ?_
  refine WPU.ret ?_
  repeat refine gq ?_
  have hr := Option.some.inj hF
  subst hr
  exact ⟨.inr rfl, [.isl false (List.map (cI .i64) r5)], res_t rfl (res_n), .isl false (List.map (cI .i64) r5), ⟨[], 0⟩, Nat.le_refl _, Gh.toR (.isl false (List.map (cI .i64) r5)) rfl, rfl, BU.h⟩
theorem disc_Remaining_ok (n : Nat) (p1 : List GDeriv) (p2 : List GDecision) (r : (List Int)) (hF : disc_Remaining n p1 p2 = some r) (σ : Sg) : EvU Try.prog 21 [.isl false (List.map cGDeriv p1), .isl false (List.map cGDecision p2)] σ (fun u σ' => u = .isl false (List.map (cI .i64) r) ∧ σ' = σ) :=
  EvU.pure1C (disc_Remaining_0 n p1 p2 r hF) σ
def slices_IndexFunc_Decision_Implied_1_K1   : Option (Int) :=
  some (-1)
def slices_IndexFunc_Decision_Implied_1_L1 (p1 : List GDecision) (c2 : GProp) (f1 : GDecision → GProp → Option (Bool)) : Nat → Int → Option (Int)
  | 0, _ => none
  | m1 + 1, z6 =>
    cond (decide (z6 < (p1.length : Int)))
      (bindO (idxO p1 z6) fun x8 =>
      bindO (f1 x8 c2) fun r10 =>
      cond r10
        (some z6)
        ((slices_IndexFunc_Decision_Implied_1_L1 p1 c2 f1 m1) (IntKind.i64.wrap (z6 + 1))))
      (slices_IndexFunc_Decision_Implied_1_K1)
def slices_IndexFunc_Decision_Implied_1 (f1 : GDecision → GProp → Option (Bool)) (n : Nat) (p1 : List GDecision) (c2 : GProp) : Option (Int) :=
  slices_IndexFunc_Decision_Implied_1_L1 p1 c2 f1 n 0
theorem slices_IndexFunc_Decision_Implied_1_0 (f1 : GDecision → GProp → Option (Bool)) (hf1 : ∀ (a0 : GDecision) (a1 : GProp) (r : Bool), f1 a0 a1 = some r → EvU Try.prog 40 [.agg (cGDecision a0), .iptr (cGProp a1)] ⟨[], 0⟩ (fun u _ => u = .bool r ∧ Bel 0 u)) (n : Nat) (p1 : List GDecision) (c2 : GProp) (r : Int) (hF : slices_IndexFunc_Decision_Implied_1 f1 n p1 c2 = some r) : EvU Try.prog 51 [.isl false (List.map cGDecision p1), .fn (.func 40) [] [.iptr (cGProp c2)]] ⟨[], 0⟩ (fun u _ => u = .int .i64 r ∧ Bel 0 u) := by
  unfold slices_IndexFunc_Decision_Implied_1 at hF
  have hf1S : ∀ (a0 : GDecision) (a1 : GProp) (r : Bool), f1 a0 a1 = some r → ∀ σ, EvU Try.prog 40 [.agg (cGDecision a0), .iptr (cGProp a1)] σ (fun u σ' => u = .bool r ∧ σ' = σ) := fun a0 a1 r h σ => EvU.pure1C (hf1 a0 a1 r h) σ
  refine EvU.of_body Try.tb_ok Try.fn51 rfl ?_
  refine WPU.ghost (tm' := fr 19 [(0, .isl false (List.map cGDecision p1)), (1, .fn (.func 40) [] [.iptr (cGProp c2)])]) (Gh.start (Nat.le_of_ble_eq_true rfl)) (Nat.zero_le _) ?_
  repeat refine sq ?_
  refine WPU.region Try.tb_ok ?_
  refine RS.as rfl rfl rfl rfl ?_
  refine RS.done ?_
  repeat refine gq ?_
  repeat refine sq ?_
  refine WPU.region Try.tb_ok ?_
  refine RS.mv rfl rfl rfl rfl ?_
  refine RS.op rfl (op_len rfl rfl rfl (len_isl cGDecision Try.und36)) rfl rfl ?_
  refine RS.mv rfl rfl rfl rfl ?_
  refine RS.done ?_
  repeat refine gq ?_
  repeat refine sq ?_
  refine WPU.ghost (tm' := fr 19 [(0, .isl false (List.map cGDecision p1)), (1, .fn (.func 40) [] [.iptr (cGProp c2)]), (7, .int .i64 (p1.length : Int)), (8, .int .i64 0)]) (Gh.sub ⟨rfl, rfl, rfl, rfl, trivial⟩) (Nat.zero_le _) ?_
  refine WPU.loopK (fun m tm σ => ∃ z6 : Int, slices_IndexFunc_Decision_Implied_1_L1 p1 c2 f1 m z6 = some r ∧ tm = fr 19 [(0, .isl false (List.map cGDecision p1)), (1, .fn (.func 40) [] [.iptr (cGProp c2)]), (7, .int .i64 (p1.length : Int)), (8, .int .i64 z6)] ∧ σ = ⟨[], 0⟩) (fun tm σ => slices_IndexFunc_Decision_Implied_1_K1 = some r ∧ tm = fr 19 [] ∧ σ = ⟨[], 0⟩) n ⟨0, hF, rfl, rfl⟩ ?_ ?_
  rintro _ _ ⟨hF, rfl, rfl⟩
  unfold slices_IndexFunc_Decision_Implied_1_K1 at hF
  repeat refine gq ?_
  repeat refine sq ?_
  refine WPU.region Try.tb_ok ?_
  refine RS.as rfl rfl rfl rfl ?_
  refine RS.done ?_
  repeat refine gq ?_
  repeat refine sq ?_
  refine WPU.ret ?_
  repeat refine gq ?_
  have hr := Option.some.inj hF
  subst hr
  exact ⟨.inr rfl, [.int .i64 (-1)], res_t rfl (res_n), .int .i64 (-1), ⟨[], 0⟩, Nat.le_refl _, Gh.toR (.int .i64 (-1)) rfl, rfl, BU.h⟩
  rintro m1 _ _ ⟨z6, hF, rfl, rfl⟩
  rcases m1 with _ | m1
  cases hF
  unfold slices_IndexFunc_Decision_Implied_1_L1 at hF
  repeat refine sq ?_
  refine WPU.region Try.tb_ok ?_
  refine RS.op rfl (op_int rfl rfl (ix_lss _ _ _) rfl) rfl rfl ?_
  refine RS.done ?_
  repeat refine gq ?_
  repeat refine sq ?_
  refine WPU.condS (t := (decide (z6 < (p1.length : Int)))) rfl (fun h7 => ?_) (fun h7 => ?_)
  replace hF := cond_t h7 hF
  repeat refine sq ?_
  refine WPU.skip ?_
  repeat refine gq ?_
  repeat refine sq ?_
  refine WPU.block ?_
  repeat refine sq ?_
  refine WPU.region Try.tb_ok ?_
  refine RS.mv rfl rfl rfl rfl ?_
  refine RS.as rfl rfl rfl rfl ?_
  refine RS.done ?_
  repeat refine gq ?_
  repeat refine sq ?_
  obtain ⟨x8, h9, hF⟩ := bindO_some hF
  obtain ⟨r10, h11, hF⟩ := bindO_some hF
  refine WPU.region Try.tb_ok ?_
  repeat refine RS.mv rfl rfl rfl rfl ?_
  refine RS.op (u := .iptr (cGDecision x8)) rfl (op_ia rfl rfl (ia_isl cGDecision Try.und36 (sz_of Try.inf44) len_cGDecision h9 rfl)) rfl rfl ?_
  refine RS.op (u := .agg (cGDecision x8)) rfl (li_agg Try.und44 rfl (sz_of Try.inf44) rfl rfl) rfl rfl ?_
  refine RS.call (u := .bool r10) (args := [.agg (cGDecision x8), .iptr (cGProp c2)]) rfl (op_call rfl rfl Try.fn40 Try.hb40 rfl rfl) (hf1S x8 c2 r10 h11 _) rfl rfl ?_
  refine RS.done ?_
  repeat refine gq ?_
  repeat refine sq ?_
  refine WPU.condS (t := r10) rfl (fun h12 => ?_) (fun h12 => ?_)
  replace hF := cond_t h12 hF
  repeat refine sq ?_
  refine WPU.region Try.tb_ok ?_
  refine RS.mv rfl rfl rfl rfl ?_
  refine RS.as rfl rfl rfl rfl ?_
  refine RS.done ?_
  repeat refine gq ?_
  repeat refine sq ?_
  refine WPU.ret ?_
  repeat refine gq ?_
  have hr := Option.some.inj hF
  subst hr
  exact ⟨.inr rfl, [.int .i64 z6], res_t rfl (res_n), .int .i64 z6, ⟨[], 0⟩, Nat.le_refl _, Gh.toR (.int .i64 z6) rfl, rfl, BU.h⟩
  replace hF := cond_f h12 hF
  repeat refine sq ?_
  refine WPU.skip ?_
  repeat refine gq ?_
  repeat refine sq ?_
  refine WPU.region Try.tb_ok ?_
  refine RS.op rfl (op_int rfl rfl (ix_add _ _ _) rfl) rfl rfl ?_
  refine RS.mv rfl rfl rfl rfl ?_
  refine RS.done ?_
  repeat refine gq ?_
  exact ⟨m1, _, _, Nat.lt_succ_self _, ⟨(IntKind.i64.wrap (z6 + 1)), hF, rfl, rfl⟩, (Nat.zero_le _), Gh.toC (n1 := 0) ⟨rfl, rfl, rfl, rfl, trivial⟩ rfl (Nat.zero_le _) (by simp)⟩
  replace hF := cond_f h7 hF
  repeat refine sq ?_
  refine WPU.exit ?_
  repeat refine gq ?_
  exact ⟨_, _, ⟨hF, rfl, rfl⟩, (Nat.zero_le _), Gh.toC (n1 := 0) trivial rfl (Nat.zero_le _) (by simp)⟩
theorem slices_IndexFunc_Decision_Implied_1_ok (f1 : GDecision → GProp → Option (Bool)) (hf1 : ∀ (a0 : GDecision) (a1 : GProp) (r : Bool), f1 a0 a1 = some r → EvU Try.prog 40 [.agg (cGDecision a0), .iptr (cGProp a1)] ⟨[], 0⟩ (fun u _ => u = .bool r ∧ Bel 0 u)) (n : Nat) (p1 : List GDecision) (c2 : GProp) (r : Int) (hF : slices_IndexFunc_Decision_Implied_1 f1 n p1 c2 = some r) (σ : Sg) : EvU Try.prog 51 [.isl false (List.map cGDecision p1), .fn (.func 40) [] [.iptr (cGProp c2)]] σ (fun u σ' => u = .int .i64 r ∧ σ' = σ) :=
  EvU.pure1C (slices_IndexFunc_Decision_Implied_1_0 f1 hf1 n p1 c2 r hF) σ
def slices_ContainsFunc_Decision_Implied_1 (f1 : GDecision → GProp → Option (Bool)) (n : Nat) (p1 : List GDecision) (c2 : GProp) : Option (Bool) :=
  bindO (slices_IndexFunc_Decision_Implied_1 f1 n p1 c2) fun r3 =>
  some (decide (r3 ≥ 0))
theorem slices_ContainsFunc_Decision_Implied_1_0 (f1 : GDecision → GProp → Option (Bool)) (hf1 : ∀ (a0 : GDecision) (a1 : GProp) (r : Bool), f1 a0 a1 = some r → EvU Try.prog 40 [.agg (cGDecision a0), .iptr (cGProp a1)] ⟨[], 0⟩ (fun u _ => u = .bool r ∧ Bel 0 u)) (n : Nat) (p1 : List GDecision) (c2 : GProp) (r : Bool) (hF : slices_ContainsFunc_Decision_Implied_1 f1 n p1 c2 = some r) : EvU Try.prog 39 [.isl false (List.map cGDecision p1), .fn (.func 40) [] [.iptr (cGProp c2)]] ⟨[], 0⟩ (fun u _ => u = .bool r ∧ Bel 0 u) := by
  unfold slices_ContainsFunc_Decision_Implied_1 at hF
  have hf1S : ∀ (a0 : GDecision) (a1 : GProp) (r : Bool), f1 a0 a1 = some r → ∀ σ, EvU Try.prog 40 [.agg (cGDecision a0), .iptr (cGProp a1)] σ (fun u σ' => u = .bool r ∧ σ' = σ) := fun a0 a1 r h σ => EvU.pure1C (hf1 a0 a1 r h) σ
  refine EvU.of_body Try.tb_ok Try.fn39 rfl ?_
  refine WPU.ghost (tm' := fr 9 [(0, .isl false (List.map cGDecision p1)), (1, .fn (.func 40) [] [.iptr (cGProp c2)])]) (Gh.start (Nat.le_of_ble_eq_true rfl)) (Nat.zero_le _) ?_
  repeat refine sq ?_
  refine WPU.region Try.tb_ok ?_
  refine RS.as rfl rfl rfl rfl ?_
  refine RS.done ?_
  repeat refine gq ?_
  repeat refine sq ?_
  obtain ⟨r3, h4, hF⟩ := bindO_some hF
  refine WPU.region Try.tb_ok ?_
  repeat refine RS.mv rfl rfl rfl rfl ?_
  refine RS.call (u := .int .i64 r3) (args := [.isl false (List.map cGDecision p1), .fn (.func 40) [] [.iptr (cGProp c2)]]) rfl (op_call rfl rfl Try.fn51 Try.hb51 rfl rfl) (slices_IndexFunc_Decision_Implied_1_ok f1 hf1 n p1 c2 r3 h4 _) rfl rfl ?_
  refine RS.op rfl (op_int rfl rfl (ix_geq _ _ _) rfl) rfl rfl ?_
  refine RS.as rfl rfl rfl rfl ?_
  refine RS.done ?_
  repeat refine gq ?_
  repeat refine sq ?_
  refine WPU.ret ?_
  repeat refine gq ?_
  have hr := Option.some.inj hF
  subst hr
  exact ⟨.inr rfl, [.bool (decide (r3 ≥ 0))], res_t rfl (res_n), .bool (decide (r3 ≥ 0)), ⟨[], 0⟩, Nat.le_refl _, Gh.toR (.bool (decide (r3 ≥ 0))) rfl, rfl, BU.h⟩
def disc_Implied_1 (n : Nat) (p1 : GDecision) (c2 : GProp) : Option (Bool) :=
  some (eqGProp p1.Propx c2)
theorem disc_Implied_1_0 (n : Nat) (p1 : GDecision) (c2 : GProp) (r : Bool) (hF : disc_Implied_1 n p1 c2 = some r) : EvU Try.prog 40 [.agg (cGDecision p1), .iptr (cGProp c2)] ⟨[], 0⟩ (fun u _ => u = .bool r ∧ Bel 0 u) := by
  unfold disc_Implied_1 at hF
  refine EvU.of_body Try.tb_ok Try.fn40 rfl ?_
  refine WPU.ghost (tm' := fr 8 [(0, .agg (cGDecision p1)), (1, .iptr (cGProp c2))]) (Gh.start (Nat.le_of_ble_eq_true rfl)) (Nat.zero_le _) ?_
  repeat refine sq ?_
  refine WPU.region Try.tb_ok ?_
  refine RS.op (u := .ptr 0 0 0) (σ' := ⟨[(0, .row (cGDecision p1) 44)], 1⟩) rfl (op_box rfl rfl rfl) rfl rfl ?_
  refine RS.as rfl rfl rfl rfl ?_
  refine RS.done ?_
  repeat refine gq ?_
  repeat refine sq ?_
  refine WPU.region Try.tb_ok ?_
  refine RS.op (u := .ptr 0 0 0) rfl (op_fa Try.und44 rfl (sz_of Try.inf26) rfl rfl rfl) rfl rfl ?_
  refine RS.op (u := .agg (cGProp p1.Propx)) rfl (ld_agg Try.und26 rfl (sz_of Try.inf26) rfl rfl rfl) rfl rfl ?_
  refine RS.op (u := .agg (cGProp c2)) rfl (li_agg Try.und26 rfl (sz_of Try.inf26) rfl rfl) rfl rfl ?_
  refine RS.op (u := .bool (eqGProp p1.Propx c2)) rfl (op_bin rfl rfl (eqq26_eql p1.Propx c2)) rfl rfl ?_
  refine RS.as rfl rfl rfl rfl ?_
  refine RS.done ?_
  repeat refine gq ?_
  repeat refine sq ?_
  refine WPU.ret ?_
  repeat refine gq ?_
  have hr := Option.some.inj hF
  subst hr
  exact ⟨.inr rfl, [.bool (eqGProp p1.Propx c2)], res_t rfl (res_n), .bool (eqGProp p1.Propx c2), ⟨[], 0⟩, Nat.le_refl _, Gh.toR (.bool (eqGProp p1.Propx c2)) rfl, rfl, BU.h⟩
def disc_Implied_J3 (z18 : Int) (rc1 : Int → (List GDecision) → Option ((List GDecision))) (l52 : List GDecision) : Option ((List GDecision)) :=
  rc1 (IntKind.i64.wrap (z18 + 1)) l52
def disc_Implied_J4 (z46 : Int) (rc2 : Int → Int → Option ((List GDecision))) (z63 : Int) : Option ((List GDecision)) :=
  rc2 z63 (IntKind.i64.wrap (z46 + 1))
def disc_Implied_K2 (r5 : (List Int)) (z18 : Int) (l19 : List GDecision) (rc1 : Int → (List GDecision) → Option ((List GDecision))) (x24 : GProp) (z47 : Int) : Option ((List GDecision)) :=
  bindO (cond (z47 == 0)
    (some true)
    (some (z47 == (r5.length : Int)))) fun b49 =>
  cond b49
    (needO ((l19.length + 1) * 48 ≤ 140737488355328 ∧ l19.length + 1 ≤ 140737488355328) (
    disc_Implied_J3 z18 rc1 (l19 ++ [(GDecision.mk x24 (decide (z47 > 0)))])))
    (disc_Implied_J3 z18 rc1 l19)
def disc_Implied_L2 (n : Nat) (r3 : (List (List GProp))) (r5 : (List Int)) (z18 : Int) (l19 : List GDecision) (rc1 : Int → (List GDecision) → Option ((List GDecision))) (x24 : GProp) : Nat → Int → Int → Option ((List GDecision))
  | 0, _, _ => none
  | m2 + 1, z45, z46 =>
    cond (decide (z46 < (r5.length : Int)))
      (bindO (idxO r5 z46) fun x56 =>
      bindO (idxO r3 x56) fun x58 =>
      bindO (disc_has n x58 x24) fun r60 =>
      cond r60
        (disc_Implied_J4 z46 (disc_Implied_L2 n r3 r5 z18 l19 rc1 x24 m2) (IntKind.i64.wrap (z45 + 1)))
        (disc_Implied_J4 z46 (disc_Implied_L2 n r3 r5 z18 l19 rc1 x24 m2) z45))
      (disc_Implied_K2 r5 z18 l19 rc1 x24 z45)
def disc_Implied_K1  (l21 : List GDecision) : Option ((List GDecision)) :=
  some l21
def disc_Implied_L1 (p2 : List GDecision) (n : Nat) (r3 : (List (List GProp))) (r5 : (List Int)) (r8 : (List GProp)) : Nat → Int → (List GDecision) → Option ((List GDecision))
  | 0, _, _ => none
  | m1 + 1, z18, l19 =>
    cond (decide (z18 < (r8.length : Int)))
      (bindO (idxO r8 z18) fun x24 =>
      bindO (slices_ContainsFunc_Decision_Implied_1 (disc_Implied_1 n) n p2 x24) fun r26 =>
      cond r26
        ((disc_Implied_L1 p2 n r3 r5 r8 m1) (IntKind.i64.wrap (z18 + 1)) l19)
        (disc_Implied_L2 n r3 r5 z18 l19 (disc_Implied_L1 p2 n r3 r5 r8 m1) x24 n 0 0))
      (disc_Implied_K1 l19)
def disc_Implied (n : Nat) (p1 : List GDeriv) (p2 : List GDecision) : Option ((List GDecision)) :=
  bindO (disc_all n p1) fun r3 =>
  bindO (disc_remaining n r3 p2) fun r5 =>
  cond ((r5.length : Int) == 0)
    (some [])
    (bindO (disc_differ n r3) fun r8 =>
    disc_Implied_L1 p2 n r3 r5 r8 n 0 ([] : List GDecision))
theorem disc_Implied_0 (n : Nat) (p1 : List GDeriv) (p2 : List GDecision) (r : (List GDecision)) (hF : disc_Implied n p1 p2 = some r) : EvU Try.prog 24 [.isl false (List.map cGDeriv p1), .isl false (List.map cGDecision p2)] ⟨[], 0⟩ (fun u _ => u = .isl false (List.map cGDecision r) ∧ Bel 0 u) := by
  unfold disc_Implied at hF
  refine EvU.of_body Try.tb_ok Try.fn24 rfl ?_
  refine WPU.ghost (tm' := fr 63 [(0, .isl false (List.map cGDeriv p1)), (1, .isl false (List.map cGDecision p2))]) (Gh.start (Nat.le_of_ble_eq_true rfl)) (Nat.zero_le _) ?_
  repeat refine sq ?_
  refine WPU.region Try.tb_ok ?_
  refine RS.as rfl rfl rfl rfl ?_
  refine RS.done ?_
  repeat refine gq ?_
  repeat refine sq ?_
  obtain ⟨r3, h4, hF⟩ := bindO_some hF
  refine WPU.region Try.tb_ok ?_
  refine RS.mv rfl rfl rfl rfl ?_
  refine RS.call (u := .isl false (List.map (cL cGProp) r3)) (args := [.isl false (List.map cGDeriv p1)]) rfl (op_call rfl rfl Try.fn37 Try.hb37 rfl rfl) (disc_all_ok n p1 r3 h4 _) rfl rfl ?_
  refine RS.as rfl rfl rfl rfl ?_
  refine RS.done ?_
  repeat refine gq ?_
  repeat refine sq ?_
  obtain ⟨r5, h6, hF⟩ := bindO_some hF
  refine WPU.region Try.tb_ok ?_
  repeat refine RS.mv rfl rfl rfl rfl ?_
  refine RS.call (u := .isl false (List.map (cI .i64) r5)) (args := [.isl false (List.map (cL cGProp) r3), .isl false (List.map cGDecision p2)]) rfl (op_call rfl rfl Try.fn38 Try.hb38 rfl rfl) (disc_remaining_ok n r3 p2 r5 h6 _) rfl rfl ?_
  refine RS.as rfl rfl rfl rfl ?_
  refine RS.done ?_
  repeat refine gq ?_
  repeat refine sq ?_
  refine WPU.region Try.tb_ok ?_
  refine RS.mv rfl rfl rfl rfl ?_
  refine RS.op rfl (op_len rfl rfl rfl (len_isl (cI .i64) Try.und38)) rfl rfl ?_
  refine RS.op rfl (op_int rfl rfl (ix_eql _ _ _) rfl) rfl rfl ?_
  refine RS.done ?_
  repeat refine gq ?_
  repeat refine sq ?_
  refine WPU.condS (t := ((r5.length : Int) == 0)) rfl (fun h7 => ?_) (fun h7 => ?_)
  replace hF := cond_t h7 hF
  repeat refine sq ?_
  refine WPU.region Try.tb_ok ?_
  refine RS.as rfl rfl rfl rfl ?_
  refine RS.done ?_
  repeat refine gq ?_
  repeat refine sq ?_
  refine WPU.ret ?_
  repeat refine gq ?_
  have hr := Option.some.inj hF
  subst hr
  exact ⟨.inr rfl, [.nils], res_t rfl (res_n), .isl false [], ⟨[], 0⟩, Nat.le_refl _, Gh.trans (Gh.wk (.cons (.nil false) .nil)) (Gh.toR (.isl false []) rfl), rfl, BU.h⟩
  replace hF := cond_f h7 hF
  repeat refine sq ?_
  refine WPU.skip ?_
  repeat refine gq ?_
  repeat refine sq ?_
  refine WPU.region Try.tb_ok ?_
  refine RS.as rfl rfl rfl rfl ?_
  refine RS.done ?_
  repeat refine gq ?_
  repeat refine sq ?_
  obtain ⟨r8, h9, hF⟩ := bindO_some hF
  refine WPU.region Try.tb_ok ?_
  refine RS.mv rfl rfl rfl rfl ?_
  refine RS.call (u := .isl false (List.map cGProp r8)) (args := [.isl false (List.map (cL cGProp) r3)]) rfl (op_call rfl rfl Try.fn36 Try.hb36 rfl rfl) (disc_differ_ok n r3 r8 h9 _) rfl rfl ?_
  refine RS.op rfl (op_len rfl rfl rfl (len_isl cGProp Try.und30)) rfl rfl ?_
  refine RS.mv rfl rfl rfl rfl ?_
  refine RS.done ?_
  repeat refine gq ?_
  repeat refine sq ?_
  refine WPU.ghost (tm' := fr 63 [(1, .isl false (List.map cGDecision p2)), (5, .isl false (List.map (cL cGProp) r3)), (6, .isl false (List.map (cI .i64) r5)), (7, .vl 0 0 0 (([] : List GDecision).length)), (22, .isl false (List.map cGProp r8)), (23, .int .i64 (r8.length : Int)), (24, .int .i64 0)]) (σ' := ⟨[(0, .vec (List.map cGDecision ([] : List GDecision)).flatten 44 5 0)], 1⟩) (Gh.trans (Gh.nilS 7 44 5 (by decide) (Nat.zero_le _) rfl rfl) (Gh.eqS ⟨rfl, rfl, rfl, rfl, rfl, rfl, rfl, trivial⟩ rfl)) (Nat.zero_le _) ?_
  refine WPU.ghost (tm' := fr 63 [(1, .isl false (List.map cGDecision p2)), (5, .isl false (List.map (cL cGProp) r3)), (6, .isl false (List.map (cI .i64) r5)), (7, .vl 0 0 0 (([] : List GDecision).length)), (22, .isl false (List.map cGProp r8)), (23, .int .i64 (r8.length : Int)), (24, .int .i64 0)]) (Gh.sub ⟨rfl, rfl, rfl, rfl, rfl, rfl, rfl, trivial⟩) (Nat.zero_le _) ?_
  refine WPU.loopK (fun m tm σ => ∃ z18 : Int, ∃ l19 : List GDecision, ∃ t20 : Nat, disc_Implied_L1 p2 n r3 r5 r8 m z18 l19 = some r ∧ tm = fr 63 [(1, .isl false (List.map cGDecision p2)), (5, .isl false (List.map (cL cGProp) r3)), (6, .isl false (List.map (cI .i64) r5)), (7, .vl 0 t20 0 l19.length), (22, .isl false (List.map cGProp r8)), (23, .int .i64 (r8.length : Int)), (24, .int .i64 z18)] ∧ σ = ⟨[(0, .vec (List.map cGDecision l19).flatten 44 5 t20)], 1⟩) (fun tm σ => ∃ l21 : List GDecision, ∃ t22 : Nat, disc_Implied_K1 l21 = some r ∧ tm = fr 63 [(7, .vl 0 t22 0 l21.length)] ∧ σ = ⟨[(0, .vec (List.map cGDecision l21).flatten 44 5 t22)], 1⟩) n ⟨0, ([] : List GDecision), 0, hF, rfl, rfl⟩ ?_ ?_
  rintro _ _ ⟨l21, t22, hF, rfl, rfl⟩
  unfold disc_Implied_K1 at hF
  repeat refine gq ?_
  repeat refine sq ?_
  refine WPU.region Try.tb_ok ?_
  refine RS.mv rfl rfl rfl rfl ?_
  refine RS.as rfl rfl rfl rfl ?_
  refine RS.done ?_
  repeat refine gq ?_
  repeat refine sq ?_
  refine WPU.ret ?_
  repeat refine gq ?_
  have hr := Option.some.inj hF
  subst hr
  exact ⟨.inr rfl, [.vl 0 t22 0 l21.length], res_t rfl (res_n), .isl false (List.map cGDecision l21), ⟨[], 0⟩, Nat.le_refl _, Gh.trans (Gh.fz (tm' := [.isl false (List.map cGDecision l21)]) (h' := []) 0 (.vec (List.map cGDecision l21).flatten 44 5 t22) 5 rfl (by simp) (by simp only [oneU, fzL_nil, fzL_cons, fz_int, fz_bool, fz_str, fz_nils, fz_nilp, fz_nilm, fz_nilf, fz_junk, fz_isl, fz_map, fz_agg, fz_tup, fz_fn, junkT, fz_vl len_cGDecision]) (by simp only [fzH, fzB, ug, Nat.beq, cond_true, cond_false, oneU, fzL_nil, fzL_cons, fz_int, fz_bool, fz_str, fz_nils, fz_nilp, fz_nilm, fz_nilf, fz_junk, fz_isl, fz_map, fz_agg, fz_tup, fz_fn, junkT, fz_vl len_cGDecision])) (Gh.toR (.isl false (List.map cGDecision l21)) rfl), rfl, BU.h⟩
  rintro m1 _ _ ⟨z18, l19, t20, hF, rfl, rfl⟩
  rcases m1 with _ | m1
  cases hF
  unfold disc_Implied_L1 at hF
  repeat refine sq ?_
  refine WPU.region Try.tb_ok ?_
  refine RS.op rfl (op_int rfl rfl (ix_lss _ _ _) rfl) rfl rfl ?_
  refine RS.done ?_
  repeat refine gq ?_
  repeat refine sq ?_
  refine WPU.condS (t := (decide (z18 < (r8.length : Int)))) rfl (fun h23 => ?_) (fun h23 => ?_)
  replace hF := cond_t h23 hF
  repeat refine sq ?_
  refine WPU.skip ?_
  repeat refine gq ?_
  repeat refine sq ?_
  refine WPU.block ?_
  repeat refine sq ?_
  obtain ⟨x24, h25, hF⟩ := bindO_some hF
  refine WPU.region Try.tb_ok ?_
  refine RS.op (u := .iptr (cGProp x24)) rfl (op_ia rfl rfl (ia_isl cGProp Try.und30 (sz_of Try.inf26) len_cGProp h25 rfl)) rfl rfl ?_
  refine RS.op (u := .agg (cGProp x24)) rfl (li_agg Try.und26 rfl (sz_of Try.inf26) rfl rfl) rfl rfl ?_
  refine RS.op (u := .ptr 1 0 0) (σ' := ⟨[(1, .row [.int .i64 0, .str [], .int .i64 0, .int .i64 0] 26), (0, .vec (List.map cGDecision l19).flatten 44 5 t20)], 2⟩) rfl (op_alloc Try.inf26 rfl rfl) rfl rfl ?_
  refine RS.opn (u := .junk) (σ' := ⟨[(1, .row (cGProp x24) 26), (0, .vec (List.map cGDecision l19).flatten 44 5 t20)], 2⟩) rfl (op_store (sz_of Try.inf26) rfl rfl rfl rfl rfl rfl rfl rfl) rfl ?_
  refine RS.done ?_
  repeat refine gq ?_
  repeat refine sq ?_
  obtain ⟨r26, h27, hF⟩ := bindO_some hF
  refine WPU.region Try.tb_ok ?_
  refine RS.mv rfl rfl rfl rfl ?_
  refine RS.op rfl (op_fun rfl rfl) rfl rfl ?_
  refine RS.call (u := .bool r26) (args := [.isl false (List.map cGDecision p2), .fn (.func 40) [] [.ptr 1 0 0]]) rfl (op_call rfl rfl Try.fn39 Try.hb39 rfl rfl) (EvU.view (slices_ContainsFunc_Decision_Implied_1_0 (disc_Implied_1 n) (disc_Implied_1_0 n) n p2 x24 r26 h27) BUL.h (by simp only [toV, toVL, okL, okC, cond_true] <;> rfl) (fun m => by simp [ren, renL]) (Gh.fz (tm' := [.isl false (List.map cGDecision p2), .fn (.func 40) [] [.iptr (cGProp x24)]]) (h' := [(0, .vec (List.map cGDecision l19).flatten 44 5 t20)]) 1 (.row [.int .i64 x24.Kind, .str x24.Name, .int .i64 x24.From, .int .i64 x24.To] 26) 4 rfl (by simp) (by simp only [oneU, fzL_nil, fzL_cons, fz_int, fz_bool, fz_str, fz_nils, fz_nilp, fz_nilm, fz_nilf, fz_junk, fz_isl, fz_map, fz_agg, fz_tup, fz_fn, junkT, fz_sl, fz_p0, fz_cGProp, fzL_bel _ _ _ (bel_flat 1 (fun q => bel_cGDecision _ q) l19), Nat.reduceLeDiff, Nat.reduceMul, List.length_cons, List.length_nil, Nat.reduceAdd] <;> simp only [chunks, List.take, List.drop, List.map, cGProp]) (by simp only [fzH, fzB, ug, Nat.beq, cond_true, cond_false, oneU, fzL_nil, fzL_cons, fz_int, fz_bool, fz_str, fz_nils, fz_nilp, fz_nilm, fz_nilf, fz_junk, fz_isl, fz_map, fz_agg, fz_tup, fz_fn, junkT, fz_sl, fz_p0, fz_cGProp, fzL_bel _ _ _ (bel_flat 1 (fun q => bel_cGDecision _ q) l19), Nat.reduceLeDiff, Nat.reduceMul, List.length_cons, List.length_nil, Nat.reduceAdd] <;> simp only [chunks, List.take, List.drop, List.map, cGProp]))) rfl rfl ?_
  refine RS.done ?_
  repeat refine gq ?_
  repeat refine sq ?_
  refine WPU.condS (t := r26) rfl (fun h28 => ?_) (fun h28 => ?_)
  replace hF := cond_t h28 hF
  repeat refine sq ?_
  refine WPU.exit ?_
  repeat refine gq ?_
  repeat refine sq ?_
  refine WPU.region Try.tb_ok ?_
  refine RS.op rfl (op_int rfl rfl (ix_add _ _ _) rfl) rfl rfl ?_
  refine RS.mv rfl rfl rfl rfl ?_
  refine RS.done ?_
  repeat refine gq ?_
  exact ⟨m1, _, _, Nat.lt_succ_self _, ⟨(IntKind.i64.wrap (z18 + 1)), l19, t20, hF, rfl, rfl⟩, (Nat.zero_le _), Gh.toC (n1 := 1) ⟨rfl, rfl, rfl, rfl, rfl, rfl, rfl, trivial⟩ rfl (Nat.zero_le _) (by simp)⟩
  replace hF := cond_f h28 hF
  repeat refine sq ?_
  refine WPU.skip ?_
  repeat refine gq ?_
  repeat refine sq ?_
  refine WPU.region Try.tb_ok ?_
  refine RS.as rfl rfl rfl rfl ?_
  refine RS.done ?_
  repeat refine gq ?_
  repeat refine sq ?_
  refine WPU.region Try.tb_ok ?_
  refine RS.mv rfl rfl rfl rfl ?_
  refine RS.op rfl (op_len rfl rfl rfl (len_isl (cI .i64) Try.und38)) rfl rfl ?_
  refine RS.mv rfl rfl rfl rfl ?_
  refine RS.done ?_
  repeat refine gq ?_
  repeat refine sq ?_
  refine WPU.ghost (tm' := fr 63 [(1, .isl false (List.map cGDecision p2)), (5, .isl false (List.map (cL cGProp) r3)), (6, .isl false (List.map (cI .i64) r5)), (7, .vl 0 t20 0 l19.length), (9, .ptr 1 0 0), (10, .int .i64 0), (22, .isl false (List.map cGProp r8)), (23, .int .i64 (r8.length : Int)), (24, .int .i64 z18), (31, .isl false (List.map (cI .i64) r5)), (32, .int .i64 (r5.length : Int)), (33, .int .i64 0)]) (Gh.sub ⟨rfl, rfl, rfl, rfl, rfl, rfl, rfl, rfl, rfl, rfl, rfl, rfl, trivial⟩) (Nat.zero_le _) ?_
  refine WPU.loopK (fun m tm σ => ∃ z45 : Int, ∃ z46 : Int, disc_Implied_L2 n r3 r5 z18 l19 (disc_Implied_L1 p2 n r3 r5 r8 m1) x24 m z45 z46 = some r ∧ tm = fr 63 [(1, .isl false (List.map cGDecision p2)), (5, .isl false (List.map (cL cGProp) r3)), (6, .isl false (List.map (cI .i64) r5)), (7, .vl 0 t20 0 l19.length), (9, .ptr 1 0 0), (10, .int .i64 z45), (22, .isl false (List.map cGProp r8)), (23, .int .i64 (r8.length : Int)), (24, .int .i64 z18), (31, .isl false (List.map (cI .i64) r5)), (32, .int .i64 (r5.length : Int)), (33, .int .i64 z46)] ∧ σ = ⟨[(1, .row (cGProp x24) 26), (0, .vec (List.map cGDecision l19).flatten 44 5 t20)], 2⟩) (fun tm σ => ∃ z47 : Int, disc_Implied_K2 r5 z18 l19 (disc_Implied_L1 p2 n r3 r5 r8 m1) x24 z47 = some r ∧ tm = fr 63 [(1, .isl false (List.map cGDecision p2)), (5, .isl false (List.map (cL cGProp) r3)), (6, .isl false (List.map (cI .i64) r5)), (7, .vl 0 t20 0 l19.length), (9, .ptr 1 0 0), (10, .int .i64 z47), (22, .isl false (List.map cGProp r8)), (23, .int .i64 (r8.length : Int)), (24, .int .i64 z18)] ∧ σ = ⟨[(1, .row (cGProp x24) 26), (0, .vec (List.map cGDecision l19).flatten 44 5 t20)], 2⟩) n ⟨0, 0, hF, rfl, rfl⟩ ?_ ?_
  rintro _ _ ⟨z47, hF, rfl, rfl⟩
  unfold disc_Implied_K2 at hF
  repeat refine gq ?_
  repeat refine sq ?_
  obtain ⟨b49, h50, hF⟩ := bindO_some hF
  refine WPU.joinK (fun tm σ => tm = fr 63 [(1, .isl false (List.map cGDecision p2)), (5, .isl false (List.map (cL cGProp) r3)), (6, .isl false (List.map (cI .i64) r5)), (7, .vl 0 t20 0 l19.length), (9, .ptr 1 0 0), (10, .int .i64 z47), (22, .isl false (List.map cGProp r8)), (23, .int .i64 (r8.length : Int)), (24, .int .i64 z18), (53, .bool b49)] ∧ σ = ⟨[(1, .row (cGProp x24) 26), (0, .vec (List.map cGDecision l19).flatten 44 5 t20)], 2⟩) ?_ ?_
  rintro _ _ ⟨rfl, rfl⟩
  repeat refine gq ?_
  repeat refine sq ?_
  refine WPU.joinK (fun tm σ => ∃ l52 : List GDecision, ∃ t53 : Nat, disc_Implied_J3 z18 (disc_Implied_L1 p2 n r3 r5 r8 m1) l52 = some r ∧ tm = fr 63 [(1, .isl false (List.map cGDecision p2)), (5, .isl false (List.map (cL cGProp) r3)), (6, .isl false (List.map (cI .i64) r5)), (7, .vl 0 t53 0 l52.length), (22, .isl false (List.map cGProp r8)), (23, .int .i64 (r8.length : Int)), (24, .int .i64 z18)] ∧ σ = ⟨[(1, .row (cGProp x24) 26), (0, .vec (List.map cGDecision l52).flatten 44 5 t53)], 2⟩) ?_ ?_
  rintro _ _ ⟨l52, t53, hF, rfl, rfl⟩
  unfold disc_Implied_J3 at hF
  repeat refine gq ?_
  repeat refine sq ?_
  refine WPU.region Try.tb_ok ?_
  refine RS.op rfl (op_int rfl rfl (ix_add _ _ _) rfl) rfl rfl ?_
  refine RS.mv rfl rfl rfl rfl ?_
  refine RS.done ?_
  repeat refine gq ?_
  exact ⟨m1, _, _, Nat.lt_succ_self _, ⟨(IntKind.i64.wrap (z18 + 1)), l52, t53, hF, rfl, rfl⟩, (Nat.zero_le _), Gh.toC (n1 := 1) ⟨rfl, rfl, rfl, rfl, rfl, rfl, rfl, trivial⟩ rfl (Nat.zero_le _) (by simp)⟩
  refine WPU.condS (t := b49) rfl (fun h51 => ?_) (fun h51 => ?_)
  replace hF := cond_t h51 hF
  repeat refine sq ?_
  obtain ⟨h54, hF⟩ := needO_some hF
  refine WPU.region Try.tb_ok ?_
  refine RS.mv rfl rfl rfl rfl ?_
  refine RS.op (u := .agg (cGProp x24)) rfl (ld_agg Try.und26 rfl (sz_of Try.inf26) rfl rfl rfl) rfl rfl ?_
  refine RS.mv rfl rfl rfl rfl ?_
  refine RS.op rfl (op_int rfl rfl (ix_gtr _ _ _) rfl) rfl rfl ?_
  refine RS.op (u := .agg [.int .i64 x24.Kind, .str x24.Name, .int .i64 x24.From, .int .i64 x24.To, .bool (decide (z47 > 0))]) rfl (op_bld Try.bd44 rfl rfl rfl) rfl rfl ?_
  refine RS.op (u := .sl 2 0 1 1) (σ' := ⟨[(2, .row [.int .i64 x24.Kind, .str x24.Name, .int .i64 x24.From, .int .i64 x24.To, .bool (decide (z47 > 0))] 44), (1, .row (cGProp x24) 26), (0, .vec (List.map cGDecision l19).flatten 44 5 t20)], 3⟩) rfl (op_bsl Try.und36 Try.inf44 rfl rfl rfl rfl rfl rfl rfl) rfl rfl ?_
  refine RS.op (u := .vl 0 (t20 + 1) 0 ((l19 ++ [(GDecision.mk x24 (decide (z47 > 0)))]).length)) (σ' := ⟨[(2, .row [.int .i64 x24.Kind, .str x24.Name, .int .i64 x24.From, .int .i64 x24.To, .bool (decide (z47 > 0))] 44), (1, .row (cGProp x24) 26), (0, .vec (List.map cGDecision (l19 ++ [(GDecision.mk x24 (decide (z47 > 0)))])).flatten 44 5 (t20 + 1))], 3⟩) rfl (op_app rfl rfl rfl rfl (app_vl cGDecision ([(GDecision.mk x24 (decide (z47 > 0)))]) Try.und36 Try.und36 Try.inf44 rfl len_cGDecision rfl (src_row cGDecision [(GDecision.mk x24 (decide (z47 > 0)))] rfl rfl rfl rfl) h54)) rfl rfl ?_
  refine RS.as rfl rfl rfl rfl ?_
  refine RS.done ?_
  repeat refine gq ?_
  exact ⟨_, _, ⟨(l19 ++ [(GDecision.mk x24 (decide (z47 > 0)))]), (t20 + 1), hF, rfl, rfl⟩, (Nat.zero_le _), Gh.toC (n1 := 2) ⟨rfl, rfl, rfl, rfl, rfl, rfl, rfl, trivial⟩ rfl (Nat.zero_le _) (by simp)⟩
  replace hF := cond_f h51 hF
  repeat refine sq ?_
  refine WPU.skip ?_
  repeat refine gq ?_
  exact ⟨_, _, ⟨l19, t20, hF, rfl, rfl⟩, (Nat.zero_le _), Gh.toC (n1 := 2) ⟨rfl, rfl, rfl, rfl, rfl, rfl, rfl, trivial⟩ rfl (Nat.zero_le _) (by simp)⟩
  rcases bool_tf (z47 == 0) with h48 | h48
  replace h50 := cond_t h48 h50
  replace h50 := Option.some.inj h50
  subst h50
  refine WPU.region Try.tb_ok ?_
  refine RS.mv rfl rfl rfl rfl ?_
  refine RS.op rfl (op_int rfl rfl (ix_eql _ _ _) rfl) rfl rfl ?_
  refine RS.mv rfl rfl rfl rfl ?_
  repeat refine RS.no (want0 rfl rfl rfl h48) rfl rfl ?_
  refine RS.op (u := .bool true) rfl (op_pick1 rfl h48 rfl) rfl rfl ?_
  refine RS.done ?_
  repeat refine gq ?_
  exact ⟨_, _, ⟨rfl, rfl⟩, (Nat.zero_le _), Gh.toC (n1 := 2) ⟨rfl, rfl, rfl, rfl, rfl, rfl, rfl, rfl, rfl, rfl, trivial⟩ rfl (Nat.zero_le _) (by simp)⟩
  replace h50 := cond_f h48 h50
  replace h50 := Option.some.inj h50
  subst h50
  refine WPU.region Try.tb_ok ?_
  refine RS.mv rfl rfl rfl rfl ?_
  refine RS.op rfl (op_int rfl rfl (ix_eql _ _ _) rfl) rfl rfl ?_
  refine RS.mv rfl rfl rfl rfl ?_
  refine RS.op (want1 rfl rfl rfl h48) (op_move rfl) rfl rfl ?_
  refine RS.op (want1 rfl rfl rfl h48) (op_move rfl) rfl rfl ?_
  refine RS.op (want1 rfl rfl rfl h48) (op_len rfl rfl rfl (len_isl (cI .i64) Try.und38)) rfl rfl ?_
  refine RS.op (want1 rfl rfl rfl h48) (op_int rfl rfl (ix_eql _ _ _) rfl) rfl rfl ?_
  refine RS.op (u := .bool (z47 == (r5.length : Int))) rfl (op_pick0 rfl h48 rfl) rfl rfl ?_
  refine RS.done ?_
  repeat refine gq ?_
  exact ⟨_, _, ⟨rfl, rfl⟩, (Nat.zero_le _), Gh.toC (n1 := 2) ⟨rfl, rfl, rfl, rfl, rfl, rfl, rfl, rfl, rfl, rfl, trivial⟩ rfl (Nat.zero_le _) (by simp)⟩
  rintro m2 _ _ ⟨z45, z46, hF, rfl, rfl⟩
  rcases m2 with _ | m2
  cases hF
  unfold disc_Implied_L2 at hF
  repeat refine sq ?_
  refine WPU.region Try.tb_ok ?_
  refine RS.op rfl (op_int rfl rfl (ix_lss _ _ _) rfl) rfl rfl ?_
  refine RS.done ?_
  repeat refine gq ?_
  repeat refine sq ?_
  refine WPU.condS (t := (decide (z46 < (r5.length : Int)))) rfl (fun h55 => ?_) (fun h55 => ?_)
  replace hF := cond_t h55 hF
  repeat refine sq ?_
  refine WPU.skip ?_
  repeat refine gq ?_
  repeat refine sq ?_
  refine WPU.block ?_
  repeat refine sq ?_
  obtain ⟨x56, h57, hF⟩ := bindO_some hF
  refine WPU.region Try.tb_ok ?_
  refine RS.op (u := .iptr [.int .i64 x56]) rfl (op_ia rfl rfl (ia_isl (cI .i64) Try.und38 (sz_of Try.inf3) (len_cI .i64) h57 rfl)) rfl rfl ?_
  refine RS.op (u := .int .i64 x56) rfl (li_one Try.und3 rfl rfl rfl) rfl rfl ?_
  refine RS.as rfl rfl rfl rfl ?_
  refine RS.done ?_
  repeat refine gq ?_
  repeat refine sq ?_
  obtain ⟨x58, h59, hF⟩ := bindO_some hF
  obtain ⟨r60, h61, hF⟩ := bindO_some hF
  refine WPU.drawE Try.tb_ok [] (by kernel_rfl) ?_
  repeat refine RD.mv rfl rfl rfl rfl ?_
  refine RD.look (u := .iptr [.isl false (List.map cGProp x58)]) rfl (op_ia rfl rfl (ia_isl (cL cGProp) Try.und55 (sz_of Try.inf30) (len_cL cGProp) h59 rfl)) rfl rfl ?_
  refine RD.look (u := .isl false (List.map cGProp x58)) rfl (li_one Try.und30 rfl rfl rfl) rfl rfl ?_
  refine RD.look (u := .agg (cGProp x24)) rfl (ld_agg Try.und26 rfl (sz_of Try.inf26) rfl rfl rfl) rfl rfl ?_
  refine RD.free (u := .bool r60) (args := [.isl false (List.map cGProp x58), .agg (cGProp x24)]) rfl (op_call rfl rfl Try.fn33 Try.hb33 rfl rfl) (fun s => disc_has_ok n x58 x24 r60 h61 s) rfl rfl ?_
  refine RD.done ⟨by kernel_rfl, trivial, ?_⟩
  repeat refine gq ?_
  repeat refine sq ?_
  refine WPU.joinK (fun tm σ => ∃ z63 : Int, disc_Implied_J4 z46 (disc_Implied_L2 n r3 r5 z18 l19 (disc_Implied_L1 p2 n r3 r5 r8 m1) x24 m2) z63 = some r ∧ tm = fr 63 [(1, .isl false (List.map cGDecision p2)), (5, .isl false (List.map (cL cGProp) r3)), (6, .isl false (List.map (cI .i64) r5)), (7, .vl 0 t20 0 l19.length), (9, .ptr 1 0 0), (10, .int .i64 z63), (22, .isl false (List.map cGProp r8)), (23, .int .i64 (r8.length : Int)), (24, .int .i64 z18), (31, .isl false (List.map (cI .i64) r5)), (32, .int .i64 (r5.length : Int)), (33, .int .i64 z46)] ∧ σ = ⟨[(1, .row (cGProp x24) 26), (0, .vec (List.map cGDecision l19).flatten 44 5 t20)], 2⟩) ?_ ?_
  rintro _ _ ⟨z63, hF, rfl, rfl⟩
  unfold disc_Implied_J4 at hF
  repeat refine gq ?_
  repeat refine sq ?_
  refine WPU.region Try.tb_ok ?_
  refine RS.op rfl (op_int rfl rfl (ix_add _ _ _) rfl) rfl rfl ?_
  refine RS.mv rfl rfl rfl rfl ?_
  refine RS.done ?_
  repeat refine gq ?_
  exact ⟨m2, _, _, Nat.lt_succ_self _, ⟨z63, (IntKind.i64.wrap (z46 + 1)), hF, rfl, rfl⟩, (Nat.zero_le _), Gh.toC (n1 := 2) ⟨rfl, rfl, rfl, rfl, rfl, rfl, rfl, rfl, rfl, rfl, rfl, rfl, trivial⟩ rfl (Nat.zero_le _) (by simp)⟩
  refine WPU.condS (t := r60) rfl (fun h62 => ?_) (fun h62 => ?_)
  replace hF := cond_t h62 hF
  repeat refine sq ?_
  refine WPU.region Try.tb_ok ?_
  refine RS.mv rfl rfl rfl rfl ?_
  refine RS.op rfl (op_int rfl rfl (ix_add _ _ _) rfl) rfl rfl ?_
  refine RS.as rfl rfl rfl rfl ?_
  refine RS.done ?_
  repeat refine gq ?_
  exact ⟨_, _, ⟨(IntKind.i64.wrap (z45 + 1)), hF, rfl, rfl⟩, (Nat.zero_le _), Gh.toC (n1 := 2) ⟨rfl, rfl, rfl, rfl, rfl, rfl, rfl, rfl, rfl, rfl, rfl, rfl, trivial⟩ rfl (Nat.zero_le _) (by simp)⟩
  replace hF := cond_f h62 hF
  repeat refine sq ?_
  refine WPU.skip ?_
  repeat refine gq ?_
  exact ⟨_, _, ⟨z45, hF, rfl, rfl⟩, (Nat.zero_le _), Gh.toC (n1 := 2) ⟨rfl, rfl, rfl, rfl, rfl, rfl, rfl, rfl, rfl, rfl, rfl, rfl, trivial⟩ rfl (Nat.zero_le _) (by simp)⟩
  replace hF := cond_f h55 hF
  repeat refine sq ?_
  refine WPU.exit ?_
  repeat refine gq ?_
  exact ⟨_, _, ⟨z45, hF, rfl, rfl⟩, (Nat.zero_le _), Gh.toC (n1 := 2) ⟨rfl, rfl, rfl, rfl, rfl, rfl, rfl, rfl, rfl, trivial⟩ rfl (Nat.zero_le _) (by simp)⟩
  replace hF := cond_f h23 hF
  repeat refine sq ?_
  refine WPU.exit ?_
  repeat refine gq ?_
  exact ⟨_, _, ⟨l19, t20, hF, rfl, rfl⟩, (Nat.zero_le _), Gh.toC (n1 := 1) ⟨rfl, trivial⟩ rfl (Nat.zero_le _) (by simp)⟩
theorem disc_Implied_ok (n : Nat) (p1 : List GDeriv) (p2 : List GDecision) (r : (List GDecision)) (hF : disc_Implied n p1 p2 = some r) (σ : Sg) : EvU Try.prog 24 [.isl false (List.map cGDeriv p1), .isl false (List.map cGDecision p2)] σ (fun u σ' => u = .isl false (List.map cGDecision r) ∧ σ' = σ) :=
  EvU.pure1C (disc_Implied_0 n p1 p2 r hF) σ
def law45_exampleHolds (n : Nat)  : Option (Bool) :=
  bindO (law45_leaf n ([97]) 0 1) fun r1 =>
  bindO (law45_leaf n ([98]) 1 3) fun r3 =>
  bindO (law45_leaf n ([99]) 0 2) fun r5 =>
  bindO (law45_leaf n ([100]) 2 3) fun r7 =>
  bindO (bindO (disc_Discriminants n ([(GDeriv.mk 2 ([115]) 0 3 ([r1, r3])), (GDeriv.mk 2 ([115]) 0 3 ([r5, r7]))])) fun r9 =>
  bindO (ref45_SameProps n r9 ([(GProp.mk 0 ([97]) 0 1), (GProp.mk 0 ([99]) 0 2), (GProp.mk 0 ([98]) 1 3), (GProp.mk 0 ([100]) 2 3)])) fun r11 =>
  cond r11
    (bindO (disc_Remaining n ([(GDeriv.mk 2 ([115]) 0 3 ([r1, r3])), (GDeriv.mk 2 ([115]) 0 3 ([r5, r7]))]) ([(GDecision.mk (GProp.mk 0 ([97]) 0 1) true)])) fun r14 =>
    bindO (ref45_SameNumbers n r14 ([0])) fun r16 =>
    cond r16
      (bindO (disc_Implied n ([(GDeriv.mk 2 ([115]) 0 3 ([r1, r3])), (GDeriv.mk 2 ([115]) 0 3 ([r5, r7]))]) ([(GDecision.mk (GProp.mk 0 ([97]) 0 1) true)])) fun r19 =>
      bindO (ref45_SameDecisions n r19 ([(GDecision.mk (GProp.mk 0 ([99]) 0 2) false), (GDecision.mk (GProp.mk 0 ([98]) 1 3) true), (GDecision.mk (GProp.mk 0 ([100]) 2 3) false)])) fun r21 =>
      cond r21
        (bindO (disc_Holds n (GDeriv.mk 2 ([115]) 0 3 ([r1, r3])) (GProp.mk 3 [] 0 3)) fun r24 =>
        cond r24
          (bindO (disc_Holds n (GDeriv.mk 2 ([115]) 0 3 ([r1, r3])) (GProp.mk 0 ([99]) 0 2)) fun r27 =>
          cond (!r27)
            (bindO (disc_Props n (GDeriv.mk 2 ([115]) 0 3 ([r1, r3]))) fun r30 =>
            cond ((r30.length : Int) == 4)
              (bindO (cutO ([(GDeriv.mk 2 ([115]) 0 3 ([r1, r3])), (GDeriv.mk 2 ([115]) 0 3 ([r5, r7]))]) 0 1) fun l33 =>
              bindO (disc_Discriminants n l33) fun r37 =>
              some ((r37.length : Int) == 0))
              (some false))
            (some false))
          (some false))
        (some false))
      (some false))
    (some false)) fun b39 =>
  some b39
theorem law45_exampleHolds_0 (n : Nat)  (r : Bool) (hF : law45_exampleHolds n  = some r) : EvU Try.prog 11 [] ⟨[], 0⟩ (fun u _ => u = .bool r ∧ Bel 0 u) := by
  unfold law45_exampleHolds at hF
  refine EvU.of_body Try.tb_ok Try.fn11 rfl ?_
  refine WPU.ghost (tm' := fr 81 []) (Gh.start (Nat.le_of_ble_eq_true rfl)) (Nat.zero_le _) ?_
  repeat refine sq ?_
  refine WPU.region Try.tb_ok ?_
  refine RS.as rfl rfl rfl rfl ?_
  refine RS.done ?_
  repeat refine gq ?_
  repeat refine sq ?_
  obtain ⟨r1, h2, hF⟩ := bindO_some hF
  obtain ⟨r3, h4, hF⟩ := bindO_some hF
  refine WPU.region Try.tb_ok ?_
  refine RS.call (u := .agg (xGDeriv r1)) (args := [.str ([97]), .int .i64 0, .int .i64 1]) rfl (op_call rfl rfl Try.fn27 Try.hb27 rfl rfl) (law45_leaf_ok n ([97]) 0 1 r1 h2 _) rfl rfl ?_
  refine RS.call (u := .agg (xGDeriv r3)) (args := [.str ([98]), .int .i64 1, .int .i64 3]) rfl (op_call rfl rfl Try.fn27 Try.hb27 rfl rfl) (law45_leaf_ok n ([98]) 1 3 r3 h4 _) rfl rfl ?_
  refine RS.op (u := .sl 0 0 2 2) (σ' := ⟨[(0, .row [.int .i64 r1.Kind, .str r1.Name, .int .i64 r1.From, .int .i64 r1.To, .isl false (List.map cGDeriv r1.Kids), .int .i64 r3.Kind, .str r3.Name, .int .i64 r3.From, .int .i64 r3.To, .isl false (List.map cGDeriv r3.Kids)] 24)], 1⟩) rfl (op_bsl Try.und22 Try.inf24 rfl rfl rfl rfl rfl rfl rfl) rfl rfl ?_
  refine RS.op (u := .agg [.int .i64 2, .str ([115]), .int .i64 0, .int .i64 3, .sl 0 0 2 2]) rfl (op_bld Try.bd24 rfl rfl rfl) rfl rfl ?_
  refine RS.op (u := .ptr 1 0 0) (σ' := ⟨[(1, .row [.int .i64 0, .str [], .int .i64 0, .int .i64 0, .nils] 24), (0, .row [.int .i64 r1.Kind, .str r1.Name, .int .i64 r1.From, .int .i64 r1.To, .isl false (List.map cGDeriv r1.Kids), .int .i64 r3.Kind, .str r3.Name, .int .i64 r3.From, .int .i64 r3.To, .isl false (List.map cGDeriv r3.Kids)] 24)], 2⟩) rfl (op_alloc Try.inf24 rfl rfl) rfl rfl ?_
  refine RS.opn (u := .junk) (σ' := ⟨[(1, .row [.int .i64 2, .str ([115]), .int .i64 0, .int .i64 3, .sl 0 0 2 2] 24), (0, .row [.int .i64 r1.Kind, .str r1.Name, .int .i64 r1.From, .int .i64 r1.To, .isl false (List.map cGDeriv r1.Kids), .int .i64 r3.Kind, .str r3.Name, .int .i64 r3.From, .int .i64 r3.To, .isl false (List.map cGDeriv r3.Kids)] 24)], 2⟩) rfl (op_store (sz_of Try.inf24) rfl rfl rfl rfl rfl rfl rfl rfl) rfl ?_
  refine RS.done ?_
  repeat refine gq ?_
  repeat refine sq ?_
  obtain ⟨r5, h6, hF⟩ := bindO_some hF
  obtain ⟨r7, h8, hF⟩ := bindO_some hF
  refine WPU.region Try.tb_ok ?_
  refine RS.call (u := .agg (xGDeriv r5)) (args := [.str ([99]), .int .i64 0, .int .i64 2]) rfl (op_call rfl rfl Try.fn27 Try.hb27 rfl rfl) (law45_leaf_ok n ([99]) 0 2 r5 h6 _) rfl rfl ?_
  refine RS.call (u := .agg (xGDeriv r7)) (args := [.str ([100]), .int .i64 2, .int .i64 3]) rfl (op_call rfl rfl Try.fn27 Try.hb27 rfl rfl) (law45_leaf_ok n ([100]) 2 3 r7 h8 _) rfl rfl ?_
  refine RS.op (u := .sl 2 0 2 2) (σ' := ⟨[(2, .row [.int .i64 r5.Kind, .str r5.Name, .int .i64 r5.From, .int .i64 r5.To, .isl false (List.map cGDeriv r5.Kids), .int .i64 r7.Kind, .str r7.Name, .int .i64 r7.From, .int .i64 r7.To, .isl false (List.map cGDeriv r7.Kids)] 24), (1, .row [.int .i64 2, .str ([115]), .int .i64 0, .int .i64 3, .sl 0 0 2 2] 24), (0, .row [.int .i64 r1.Kind, .str r1.Name, .int .i64 r1.From, .int .i64 r1.To, .isl false (List.map cGDeriv r1.Kids), .int .i64 r3.Kind, .str r3.Name, .int .i64 r3.From, .int .i64 r3.To, .isl false (List.map cGDeriv r3.Kids)] 24)], 3⟩) rfl (op_bsl Try.und22 Try.inf24 rfl rfl rfl rfl rfl rfl rfl) rfl rfl ?_
  refine RS.op (u := .agg [.int .i64 2, .str ([115]), .int .i64 0, .int .i64 3, .sl 2 0 2 2]) rfl (op_bld Try.bd24 rfl rfl rfl) rfl rfl ?_
  refine RS.op (u := .ptr 3 0 0) (σ' := ⟨[(3, .row [.int .i64 0, .str [], .int .i64 0, .int .i64 0, .nils] 24), (2, .row [.int .i64 r5.Kind, .str r5.Name, .int .i64 r5.From, .int .i64 r5.To, .isl false (List.map cGDeriv r5.Kids), .int .i64 r7.Kind, .str r7.Name, .int .i64 r7.From, .int .i64 r7.To, .isl false (List.map cGDeriv r7.Kids)] 24), (1, .row [.int .i64 2, .str ([115]), .int .i64 0, .int .i64 3, .sl 0 0 2 2] 24), (0, .row [.int .i64 r1.Kind, .str r1.Name, .int .i64 r1.From, .int .i64 r1.To, .isl false (List.map cGDeriv r1.Kids), .int .i64 r3.Kind, .str r3.Name, .int .i64 r3.From, .int .i64 r3.To, .isl false (List.map cGDeriv r3.Kids)] 24)], 4⟩) rfl (op_alloc Try.inf24 rfl rfl) rfl rfl ?_
  refine RS.opn (u := .junk) (σ' := ⟨[(3, .row [.int .i64 2, .str ([115]), .int .i64 0, .int .i64 3, .sl 2 0 2 2] 24), (2, .row [.int .i64 r5.Kind, .str r5.Name, .int .i64 r5.From, .int .i64 r5.To, .isl false (List.map cGDeriv r5.Kids), .int .i64 r7.Kind, .str r7.Name, .int .i64 r7.From, .int .i64 r7.To, .isl false (List.map cGDeriv r7.Kids)] 24), (1, .row [.int .i64 2, .str ([115]), .int .i64 0, .int .i64 3, .sl 0 0 2 2] 24), (0, .row [.int .i64 r1.Kind, .str r1.Name, .int .i64 r1.From, .int .i64 r1.To, .isl false (List.map cGDeriv r1.Kids), .int .i64 r3.Kind, .str r3.Name, .int .i64 r3.From, .int .i64 r3.To, .isl false (List.map cGDeriv r3.Kids)] 24)], 4⟩) rfl (op_store (sz_of Try.inf24) rfl rfl rfl rfl rfl rfl rfl rfl) rfl ?_
  refine RS.done ?_
  repeat refine gq ?_
  repeat refine sq ?_
  refine WPU.region Try.tb_ok ?_
  refine RS.op (u := .agg [.int .i64 2, .str ([115]), .int .i64 0, .int .i64 3, .sl 0 0 2 2]) rfl (ld_agg Try.und24 rfl (sz_of Try.inf24) rfl rfl rfl) rfl rfl ?_
  refine RS.op (u := .agg [.int .i64 2, .str ([115]), .int .i64 0, .int .i64 3, .sl 2 0 2 2]) rfl (ld_agg Try.und24 rfl (sz_of Try.inf24) rfl rfl rfl) rfl rfl ?_
  refine RS.op (u := .sl 4 0 2 2) (σ' := ⟨[(4, .row [.int .i64 2, .str ([115]), .int .i64 0, .int .i64 3, .sl 0 0 2 2, .int .i64 2, .str ([115]), .int .i64 0, .int .i64 3, .sl 2 0 2 2] 24), (3, .row [.int .i64 2, .str ([115]), .int .i64 0, .int .i64 3, .sl 2 0 2 2] 24), (2, .row [.int .i64 r5.Kind, .str r5.Name, .int .i64 r5.From, .int .i64 r5.To, .isl false (List.map cGDeriv r5.Kids), .int .i64 r7.Kind, .str r7.Name, .int .i64 r7.From, .int .i64 r7.To, .isl false (List.map cGDeriv r7.Kids)] 24), (1, .row [.int .i64 2, .str ([115]), .int .i64 0, .int .i64 3, .sl 0 0 2 2] 24), (0, .row [.int .i64 r1.Kind, .str r1.Name, .int .i64 r1.From, .int .i64 r1.To, .isl false (List.map cGDeriv r1.Kids), .int .i64 r3.Kind, .str r3.Name, .int .i64 r3.From, .int .i64 r3.To, .isl false (List.map cGDeriv r3.Kids)] 24)], 5⟩) rfl (op_bsl Try.und22 Try.inf24 rfl rfl rfl rfl rfl rfl rfl) rfl rfl ?_
  refine RS.as rfl rfl rfl rfl ?_
  refine RS.done ?_
  repeat refine gq ?_
  repeat refine sq ?_
  refine WPU.region Try.tb_ok ?_
  refine RS.op (u := .agg [.int .i64 0, .str ([97]), .int .i64 0, .int .i64 1]) rfl (op_bld Try.bd26 rfl rfl rfl) rfl rfl ?_
  refine RS.op (u := .agg [.int .i64 0, .str ([98]), .int .i64 1, .int .i64 3]) rfl (op_bld Try.bd26 rfl rfl rfl) rfl rfl ?_
  refine RS.op (u := .ptr 5 0 0) (σ' := ⟨[(5, .row [.int .i64 0, .str [], .int .i64 0, .int .i64 0] 26), (4, .row [.int .i64 2, .str ([115]), .int .i64 0, .int .i64 3, .sl 0 0 2 2, .int .i64 2, .str ([115]), .int .i64 0, .int .i64 3, .sl 2 0 2 2] 24), (3, .row [.int .i64 2, .str ([115]), .int .i64 0, .int .i64 3, .sl 2 0 2 2] 24), (2, .row [.int .i64 r5.Kind, .str r5.Name, .int .i64 r5.From, .int .i64 r5.To, .isl false (List.map cGDeriv r5.Kids), .int .i64 r7.Kind, .str r7.Name, .int .i64 r7.From, .int .i64 r7.To, .isl false (List.map cGDeriv r7.Kids)] 24), (1, .row [.int .i64 2, .str ([115]), .int .i64 0, .int .i64 3, .sl 0 0 2 2] 24), (0, .row [.int .i64 r1.Kind, .str r1.Name, .int .i64 r1.From, .int .i64 r1.To, .isl false (List.map cGDeriv r1.Kids), .int .i64 r3.Kind, .str r3.Name, .int .i64 r3.From, .int .i64 r3.To, .isl false (List.map cGDeriv r3.Kids)] 24)], 6⟩) rfl (op_alloc Try.inf26 rfl rfl) rfl rfl ?_
  refine RS.op (u := .ptr 6 0 0) (σ' := ⟨[(6, .row [.int .i64 0, .str [], .int .i64 0, .int .i64 0] 26), (5, .row [.int .i64 0, .str [], .int .i64 0, .int .i64 0] 26), (4, .row [.int .i64 2, .str ([115]), .int .i64 0, .int .i64 3, .sl 0 0 2 2, .int .i64 2, .str ([115]), .int .i64 0, .int .i64 3, .sl 2 0 2 2] 24), (3, .row [.int .i64 2, .str ([115]), .int .i64 0, .int .i64 3, .sl 2 0 2 2] 24), (2, .row [.int .i64 r5.Kind, .str r5.Name, .int .i64 r5.From, .int .i64 r5.To, .isl false (List.map cGDeriv r5.Kids), .int .i64 r7.Kind, .str r7.Name, .int .i64 r7.From, .int .i64 r7.To, .isl false (List.map cGDeriv r7.Kids)] 24), (1, .row [.int .i64 2, .str ([115]), .int .i64 0, .int .i64 3, .sl 0 0 2 2] 24), (0, .row [.int .i64 r1.Kind, .str r1.Name, .int .i64 r1.From, .int .i64 r1.To, .isl false (List.map cGDeriv r1.Kids), .int .i64 r3.Kind, .str r3.Name, .int .i64 r3.From, .int .i64 r3.To, .isl false (List.map cGDeriv r3.Kids)] 24)], 7⟩) rfl (op_alloc Try.inf26 rfl rfl) rfl rfl ?_
  refine RS.opn (u := .junk) (σ' := ⟨[(6, .row [.int .i64 0, .str [], .int .i64 0, .int .i64 0] 26), (5, .row [.int .i64 0, .str ([97]), .int .i64 0, .int .i64 1] 26), (4, .row [.int .i64 2, .str ([115]), .int .i64 0, .int .i64 3, .sl 0 0 2 2, .int .i64 2, .str ([115]), .int .i64 0, .int .i64 3, .sl 2 0 2 2] 24), (3, .row [.int .i64 2, .str ([115]), .int .i64 0, .int .i64 3, .sl 2 0 2 2] 24), (2, .row [.int .i64 r5.Kind, .str r5.Name, .int .i64 r5.From, .int .i64 r5.To, .isl false (List.map cGDeriv r5.Kids), .int .i64 r7.Kind, .str r7.Name, .int .i64 r7.From, .int .i64 r7.To, .isl false (List.map cGDeriv r7.Kids)] 24), (1, .row [.int .i64 2, .str ([115]), .int .i64 0, .int .i64 3, .sl 0 0 2 2] 24), (0, .row [.int .i64 r1.Kind, .str r1.Name, .int .i64 r1.From, .int .i64 r1.To, .isl false (List.map cGDeriv r1.Kids), .int .i64 r3.Kind, .str r3.Name, .int .i64 r3.From, .int .i64 r3.To, .isl false (List.map cGDeriv r3.Kids)] 24)], 7⟩) rfl (op_store (sz_of Try.inf26) rfl rfl rfl rfl rfl rfl rfl rfl) rfl ?_
  refine RS.opn (u := .junk) (σ' := ⟨[(6, .row [.int .i64 0, .str ([98]), .int .i64 1, .int .i64 3] 26), (5, .row [.int .i64 0, .str ([97]), .int .i64 0, .int .i64 1] 26), (4, .row [.int .i64 2, .str ([115]), .int .i64 0, .int .i64 3, .sl 0 0 2 2, .int .i64 2, .str ([115]), .int .i64 0, .int .i64 3, .sl 2 0 2 2] 24), (3, .row [.int .i64 2, .str ([115]), .int .i64 0, .int .i64 3, .sl 2 0 2 2] 24), (2, .row [.int .i64 r5.Kind, .str r5.Name, .int .i64 r5.From, .int .i64 r5.To, .isl false (List.map cGDeriv r5.Kids), .int .i64 r7.Kind, .str r7.Name, .int .i64 r7.From, .int .i64 r7.To, .isl false (List.map cGDeriv r7.Kids)] 24), (1, .row [.int .i64 2, .str ([115]), .int .i64 0, .int .i64 3, .sl 0 0 2 2] 24), (0, .row [.int .i64 r1.Kind, .str r1.Name, .int .i64 r1.From, .int .i64 r1.To, .isl false (List.map cGDeriv r1.Kids), .int .i64 r3.Kind, .str r3.Name, .int .i64 r3.From, .int .i64 r3.To, .isl false (List.map cGDeriv r3.Kids)] 24)], 7⟩) rfl (op_store (sz_of Try.inf26) rfl rfl rfl rfl rfl rfl rfl rfl) rfl ?_
  refine RS.done ?_
  repeat refine gq ?_
  repeat refine sq ?_
  refine WPU.region Try.tb_ok ?_
  refine RS.op (u := .agg [.int .i64 0, .str ([99]), .int .i64 0, .int .i64 2]) rfl (op_bld Try.bd26 rfl rfl rfl) rfl rfl ?_
  refine RS.op (u := .agg [.int .i64 0, .str ([100]), .int .i64 2, .int .i64 3]) rfl (op_bld Try.bd26 rfl rfl rfl) rfl rfl ?_
  refine RS.op (u := .ptr 7 0 0) (σ' := ⟨[(7, .row [.int .i64 0, .str [], .int .i64 0, .int .i64 0] 26), (6, .row [.int .i64 0, .str ([98]), .int .i64 1, .int .i64 3] 26), (5, .row [.int .i64 0, .str ([97]), .int .i64 0, .int .i64 1] 26), (4, .row [.int .i64 2, .str ([115]), .int .i64 0, .int .i64 3, .sl 0 0 2 2, .int .i64 2, .str ([115]), .int .i64 0, .int .i64 3, .sl 2 0 2 2] 24), (3, .row [.int .i64 2, .str ([115]), .int .i64 0, .int .i64 3, .sl 2 0 2 2] 24), (2, .row [.int .i64 r5.Kind, .str r5.Name, .int .i64 r5.From, .int .i64 r5.To, .isl false (List.map cGDeriv r5.Kids), .int .i64 r7.Kind, .str r7.Name, .int .i64 r7.From, .int .i64 r7.To, .isl false (List.map cGDeriv r7.Kids)] 24), (1, .row [.int .i64 2, .str ([115]), .int .i64 0, .int .i64 3, .sl 0 0 2 2] 24), (0, .row [.int .i64 r1.Kind, .str r1.Name, .int .i64 r1.From, .int .i64 r1.To, .isl false (List.map cGDeriv r1.Kids), .int .i64 r3.Kind, .str r3.Name, .int .i64 r3.From, .int .i64 r3.To, .isl false (List.map cGDeriv r3.Kids)] 24)], 8⟩) rfl (op_alloc Try.inf26 rfl rfl) rfl rfl ?_
  refine RS.op (u := .ptr 8 0 0) (σ' := ⟨[(8, .row [.int .i64 0, .str [], .int .i64 0, .int .i64 0] 26), (7, .row [.int .i64 0, .str [], .int .i64 0, .int .i64 0] 26), (6, .row [.int .i64 0, .str ([98]), .int .i64 1, .int .i64 3] 26), (5, .row [.int .i64 0, .str ([97]), .int .i64 0, .int .i64 1] 26), (4, .row [.int .i64 2, .str ([115]), .int .i64 0, .int .i64 3, .sl 0 0 2 2, .int .i64 2, .str ([115]), .int .i64 0, .int .i64 3, .sl 2 0 2 2] 24), (3, .row [.int .i64 2, .str ([115]), .int .i64 0, .int .i64 3, .sl 2 0 2 2] 24), (2, .row [.int .i64 r5.Kind, .str r5.Name, .int .i64 r5.From, .int .i64 r5.To, .isl false (List.map cGDeriv r5.Kids), .int .i64 r7.Kind, .str r7.Name, .int .i64 r7.From, .int .i64 r7.To, .isl false (List.map cGDeriv r7.Kids)] 24), (1, .row [.int .i64 2, .str ([115]), .int .i64 0, .int .i64 3, .sl 0 0 2 2] 24), (0, .row [.int .i64 r1.Kind, .str r1.Name, .int .i64 r1.From, .int .i64 r1.To, .isl false (List.map cGDeriv r1.Kids), .int .i64 r3.Kind, .str r3.Name, .int .i64 r3.From, .int .i64 r3.To, .isl false (List.map cGDeriv r3.Kids)] 24)], 9⟩) rfl (op_alloc Try.inf26 rfl rfl) rfl rfl ?_
  refine RS.opn (u := .junk) (σ' := ⟨[(8, .row [.int .i64 0, .str [], .int .i64 0, .int .i64 0] 26), (7, .row [.int .i64 0, .str ([99]), .int .i64 0, .int .i64 2] 26), (6, .row [.int .i64 0, .str ([98]), .int .i64 1, .int .i64 3] 26), (5, .row [.int .i64 0, .str ([97]), .int .i64 0, .int .i64 1] 26), (4, .row [.int .i64 2, .str ([115]), .int .i64 0, .int .i64 3, .sl 0 0 2 2, .int .i64 2, .str ([115]), .int .i64 0, .int .i64 3, .sl 2 0 2 2] 24), (3, .row [.int .i64 2, .str ([115]), .int .i64 0, .int .i64 3, .sl 2 0 2 2] 24), (2, .row [.int .i64 r5.Kind, .str r5.Name, .int .i64 r5.From, .int .i64 r5.To, .isl false (List.map cGDeriv r5.Kids), .int .i64 r7.Kind, .str r7.Name, .int .i64 r7.From, .int .i64 r7.To, .isl false (List.map cGDeriv r7.Kids)] 24), (1, .row [.int .i64 2, .str ([115]), .int .i64 0, .int .i64 3, .sl 0 0 2 2] 24), (0, .row [.int .i64 r1.Kind, .str r1.Name, .int .i64 r1.From, .int .i64 r1.To, .isl false (List.map cGDeriv r1.Kids), .int .i64 r3.Kind, .str r3.Name, .int .i64 r3.From, .int .i64 r3.To, .isl false (List.map cGDeriv r3.Kids)] 24)], 9⟩) rfl (op_store (sz_of Try.inf26) rfl rfl rfl rfl rfl rfl rfl rfl) rfl ?_
  refine RS.opn (u := .junk) (σ' := ⟨[(8, .row [.int .i64 0, .str ([100]), .int .i64 2, .int .i64 3] 26), (7, .row [.int .i64 0, .str ([99]), .int .i64 0, .int .i64 2] 26), (6, .row [.int .i64 0, .str ([98]), .int .i64 1, .int .i64 3] 26), (5, .row [.int .i64 0, .str ([97]), .int .i64 0, .int .i64 1] 26), (4, .row [.int .i64 2, .str ([115]), .int .i64 0, .int .i64 3, .sl 0 0 2 2, .int .i64 2, .str ([115]), .int .i64 0, .int .i64 3, .sl 2 0 2 2] 24), (3, .row [.int .i64 2, .str ([115]), .int .i64 0, .int .i64 3, .sl 2 0 2 2] 24), (2, .row [.int .i64 r5.Kind, .str r5.Name, .int .i64 r5.From, .int .i64 r5.To, .isl false (List.map cGDeriv r5.Kids), .int .i64 r7.Kind, .str r7.Name, .int .i64 r7.From, .int .i64 r7.To, .isl false (List.map cGDeriv r7.Kids)] 24), (1, .row [.int .i64 2, .str ([115]), .int .i64 0, .int .i64 3, .sl 0 0 2 2] 24), (0, .row [.int .i64 r1.Kind, .str r1.Name, .int .i64 r1.From, .int .i64 r1.To, .isl false (List.map cGDeriv r1.Kids), .int .i64 r3.Kind, .str r3.Name, .int .i64 r3.From, .int .i64 r3.To, .isl false (List.map cGDeriv r3.Kids)] 24)], 9⟩) rfl (op_store (sz_of Try.inf26) rfl rfl rfl rfl rfl rfl rfl rfl) rfl ?_
  refine RS.done ?_
  repeat refine gq ?_
  repeat refine sq ?_
  refine WPU.region Try.tb_ok ?_
  refine RS.op (u := .agg [.int .i64 0, .str ([97]), .int .i64 0, .int .i64 1]) rfl (ld_agg Try.und26 rfl (sz_of Try.inf26) rfl rfl rfl) rfl rfl ?_
  refine RS.op (u := .agg [.int .i64 0, .str ([97]), .int .i64 0, .int .i64 1, .bool true]) rfl (op_bld Try.bd44 rfl rfl rfl) rfl rfl ?_
  refine RS.op (u := .sl 9 0 1 1) (σ' := ⟨[(9, .row [.int .i64 0, .str ([97]), .int .i64 0, .int .i64 1, .bool true] 44), (8, .row [.int .i64 0, .str ([100]), .int .i64 2, .int .i64 3] 26), (7, .row [.int .i64 0, .str ([99]), .int .i64 0, .int .i64 2] 26), (6, .row [.int .i64 0, .str ([98]), .int .i64 1, .int .i64 3] 26), (5, .row [.int .i64 0, .str ([97]), .int .i64 0, .int .i64 1] 26), (4, .row [.int .i64 2, .str ([115]), .int .i64 0, .int .i64 3, .sl 0 0 2 2, .int .i64 2, .str ([115]), .int .i64 0, .int .i64 3, .sl 2 0 2 2] 24), (3, .row [.int .i64 2, .str ([115]), .int .i64 0, .int .i64 3, .sl 2 0 2 2] 24), (2, .row [.int .i64 r5.Kind, .str r5.Name, .int .i64 r5.From, .int .i64 r5.To, .isl false (List.map cGDeriv r5.Kids), .int .i64 r7.Kind, .str r7.Name, .int .i64 r7.From, .int .i64 r7.To, .isl false (List.map cGDeriv r7.Kids)] 24), (1, .row [.int .i64 2, .str ([115]), .int .i64 0, .int .i64 3, .sl 0 0 2 2] 24), (0, .row [.int .i64 r1.Kind, .str r1.Name, .int .i64 r1.From, .int .i64 r1.To, .isl false (List.map cGDeriv r1.Kids), .int .i64 r3.Kind, .str r3.Name, .int .i64 r3.From, .int .i64 r3.To, .isl false (List.map cGDeriv r3.Kids)] 24)], 10⟩) rfl (op_bsl Try.und36 Try.inf44 rfl rfl rfl rfl rfl rfl rfl) rfl rfl ?_
  refine RS.as rfl rfl rfl rfl ?_
  refine RS.done ?_
  repeat refine gq ?_
  repeat refine sq ?_
  refine WPU.region Try.tb_ok ?_
  refine RS.op (u := .agg [.int .i64 0, .str ([99]), .int .i64 0, .int .i64 2]) rfl (ld_agg Try.und26 rfl (sz_of Try.inf26) rfl rfl rfl) rfl rfl ?_
  refine RS.op (u := .agg [.int .i64 0, .str ([99]), .int .i64 0, .int .i64 2, .bool false]) rfl (op_bld Try.bd44 rfl rfl rfl) rfl rfl ?_
  refine RS.op (u := .agg [.int .i64 0, .str ([98]), .int .i64 1, .int .i64 3]) rfl (ld_agg Try.und26 rfl (sz_of Try.inf26) rfl rfl rfl) rfl rfl ?_
  refine RS.op (u := .agg [.int .i64 0, .str ([98]), .int .i64 1, .int .i64 3, .bool true]) rfl (op_bld Try.bd44 rfl rfl rfl) rfl rfl ?_
  refine RS.op (u := .agg [.int .i64 0, .str ([100]), .int .i64 2, .int .i64 3]) rfl (ld_agg Try.und26 rfl (sz_of Try.inf26) rfl rfl rfl) rfl rfl ?_
  refine RS.op (u := .agg [.int .i64 0, .str ([100]), .int .i64 2, .int .i64 3, .bool false]) rfl (op_bld Try.bd44 rfl rfl rfl) rfl rfl ?_
  refine RS.op (u := .sl 10 0 3 3) (σ' := ⟨[(10, .row [.int .i64 0, .str ([99]), .int .i64 0, .int .i64 2, .bool false, .int .i64 0, .str ([98]), .int .i64 1, .int .i64 3, .bool true, .int .i64 0, .str ([100]), .int .i64 2, .int .i64 3, .bool false] 44), (9, .row [.int .i64 0, .str ([97]), .int .i64 0, .int .i64 1, .bool true] 44), (8, .row [.int .i64 0, .str ([100]), .int .i64 2, .int .i64 3] 26), (7, .row [.int .i64 0, .str ([99]), .int .i64 0, .int .i64 2] 26), (6, .row [.int .i64 0, .str ([98]), .int .i64 1, .int .i64 3] 26), (5, .row [.int .i64 0, .str ([97]), .int .i64 0, .int .i64 1] 26), (4, .row [.int .i64 2, .str ([115]), .int .i64 0, .int .i64 3, .sl 0 0 2 2, .int .i64 2, .str ([115]), .int .i64 0, .int .i64 3, .sl 2 0 2 2] 24), (3, .row [.int .i64 2, .str ([115]), .int .i64 0, .int .i64 3, .sl 2 0 2 2] 24), (2, .row [.int .i64 r5.Kind, .str r5.Name, .int .i64 r5.From, .int .i64 r5.To, .isl false (List.map cGDeriv r5.Kids), .int .i64 r7.Kind, .str r7.Name, .int .i64 r7.From, .int .i64 r7.To, .isl false (List.map cGDeriv r7.Kids)] 24), (1, .row [.int .i64 2, .str ([115]), .int .i64 0, .int .i64 3, .sl 0 0 2 2] 24), (0, .row [.int .i64 r1.Kind, .str r1.Name, .int .i64 r1.From, .int .i64 r1.To, .isl false (List.map cGDeriv r1.Kids), .int .i64 r3.Kind, .str r3.Name, .int .i64 r3.From, .int .i64 r3.To, .isl false (List.map cGDeriv r3.Kids)] 24)], 11⟩) rfl (op_bsl Try.und36 Try.inf44 rfl rfl rfl rfl rfl rfl rfl) rfl rfl ?_
  refine RS.as rfl rfl rfl rfl ?_
  refine RS.done ?_
  repeat refine gq ?_
  repeat refine sq ?_
  refine WPU.ghost (tm' := fr 81 [(1, .ptr 1 0 0), (3, .sl 4 0 2 2), (4, .ptr 5 0 0), (5, .ptr 6 0 0), (6, .ptr 7 0 0), (7, .ptr 8 0 0), (8, .sl 9 0 1 1), (9, .sl 10 0 3 3)]) (σ' := ⟨[(10, .row [.int .i64 0, .str ([99]), .int .i64 0, .int .i64 2, .bool false, .int .i64 0, .str ([98]), .int .i64 1, .int .i64 3, .bool true, .int .i64 0, .str ([100]), .int .i64 2, .int .i64 3, .bool false] 44), (9, .row [.int .i64 0, .str ([97]), .int .i64 0, .int .i64 1, .bool true] 44), (8, .row [.int .i64 0, .str ([100]), .int .i64 2, .int .i64 3] 26), (7, .row [.int .i64 0, .str ([99]), .int .i64 0, .int .i64 2] 26), (6, .row [.int .i64 0, .str ([98]), .int .i64 1, .int .i64 3] 26), (5, .row [.int .i64 0, .str ([97]), .int .i64 0, .int .i64 1] 26), (4, .row [.int .i64 2, .str ([115]), .int .i64 0, .int .i64 3, .isl false (List.map cGDeriv ([r1, r3])), .int .i64 2, .str ([115]), .int .i64 0, .int .i64 3, .sl 2 0 2 2] 24), (3, .row [.int .i64 2, .str ([115]), .int .i64 0, .int .i64 3, .sl 2 0 2 2] 24), (2, .row [.int .i64 r5.Kind, .str r5.Name, .int .i64 r5.From, .int .i64 r5.To, .isl false (List.map cGDeriv r5.Kids), .int .i64 r7.Kind, .str r7.Name, .int .i64 r7.From, .int .i64 r7.To, .isl false (List.map cGDeriv r7.Kids)] 24), (1, .row [.int .i64 2, .str ([115]), .int .i64 0, .int .i64 3, .isl false (List.map cGDeriv ([r1, r3]))] 24)], 11⟩) (Gh.trans (Gh.sub (l' := [(1, .ptr 1 0 0), (3, .sl 4 0 2 2), (4, .ptr 5 0 0), (5, .ptr 6 0 0), (6, .ptr 7 0 0), (7, .ptr 8 0 0), (8, .sl 9 0 1 1), (9, .sl 10 0 3 3)]) ⟨rfl, rfl, rfl, rfl, rfl, rfl, rfl, rfl, trivial⟩) (Gh.fzS (l' := [(1, .ptr 1 0 0), (3, .sl 4 0 2 2), (4, .ptr 5 0 0), (5, .ptr 6 0 0), (6, .ptr 7 0 0), (7, .ptr 8 0 0), (8, .sl 9 0 1 1), (9, .sl 10 0 3 3)]) (h' := [(10, .row [.int .i64 0, .str ([99]), .int .i64 0, .int .i64 2, .bool false, .int .i64 0, .str ([98]), .int .i64 1, .int .i64 3, .bool true, .int .i64 0, .str ([100]), .int .i64 2, .int .i64 3, .bool false] 44), (9, .row [.int .i64 0, .str ([97]), .int .i64 0, .int .i64 1, .bool true] 44), (8, .row [.int .i64 0, .str ([100]), .int .i64 2, .int .i64 3] 26), (7, .row [.int .i64 0, .str ([99]), .int .i64 0, .int .i64 2] 26), (6, .row [.int .i64 0, .str ([98]), .int .i64 1, .int .i64 3] 26), (5, .row [.int .i64 0, .str ([97]), .int .i64 0, .int .i64 1] 26), (4, .row [.int .i64 2, .str ([115]), .int .i64 0, .int .i64 3, .isl false (List.map cGDeriv ([r1, r3])), .int .i64 2, .str ([115]), .int .i64 0, .int .i64 3, .sl 2 0 2 2] 24), (3, .row [.int .i64 2, .str ([115]), .int .i64 0, .int .i64 3, .sl 2 0 2 2] 24), (2, .row [.int .i64 r5.Kind, .str r5.Name, .int .i64 r5.From, .int .i64 r5.To, .isl false (List.map cGDeriv r5.Kids), .int .i64 r7.Kind, .str r7.Name, .int .i64 r7.From, .int .i64 r7.To, .isl false (List.map cGDeriv r7.Kids)] 24), (1, .row [.int .i64 2, .str ([115]), .int .i64 0, .int .i64 3, .isl false (List.map cGDeriv ([r1, r3]))] 24)]) 0 (.row [.int .i64 r1.Kind, .str r1.Name, .int .i64 r1.From, .int .i64 r1.To, .isl false (List.map cGDeriv r1.Kids), .int .i64 r3.Kind, .str r3.Name, .int .i64 r3.From, .int .i64 r3.To, .isl false (List.map cGDeriv r3.Kids)] 24) 5 rfl (by simp) (by simp only [fzS, oneU, fzL_nil, fzL_cons, fz_int, fz_bool, fz_str, fz_nils, fz_nilp, fz_nilm, fz_nilf, fz_junk, fz_isl, fz_map, fz_agg, fz_tup, fz_fn, junkT, fz_sl, fz_p0, fz_vn (show Nat.beq 1 0 = false from rfl), fz_sn (show Nat.beq 1 0 = false from rfl), fz_pn (show Nat.beq 1 0 = false from rfl), fz_vn (show Nat.beq 2 0 = false from rfl), fz_sn (show Nat.beq 2 0 = false from rfl), fz_pn (show Nat.beq 2 0 = false from rfl), fz_vn (show Nat.beq 4 0 = false from rfl), fz_sn (show Nat.beq 4 0 = false from rfl), fz_pn (show Nat.beq 4 0 = false from rfl), fz_vn (show Nat.beq 5 0 = false from rfl), fz_sn (show Nat.beq 5 0 = false from rfl), fz_pn (show Nat.beq 5 0 = false from rfl), fz_vn (show Nat.beq 6 0 = false from rfl), fz_sn (show Nat.beq 6 0 = false from rfl), fz_pn (show Nat.beq 6 0 = false from rfl), fz_vn (show Nat.beq 7 0 = false from rfl), fz_sn (show Nat.beq 7 0 = false from rfl), fz_pn (show Nat.beq 7 0 = false from rfl), fz_vn (show Nat.beq 8 0 = false from rfl), fz_sn (show Nat.beq 8 0 = false from rfl), fz_pn (show Nat.beq 8 0 = false from rfl), fz_vn (show Nat.beq 9 0 = false from rfl), fz_sn (show Nat.beq 9 0 = false from rfl), fz_pn (show Nat.beq 9 0 = false from rfl), fz_vn (show Nat.beq 10 0 = false from rfl), fz_sn (show Nat.beq 10 0 = false from rfl), fz_pn (show Nat.beq 10 0 = false from rfl), Nat.reduceLeDiff, Nat.reduceMul, List.length_cons, List.length_nil, Nat.reduceAdd] <;> simp only [chunks, List.take, List.drop, List.map, cGDeriv_eq, xGDeriv, GDeriv.Kind, GDeriv.Name, GDeriv.From, GDeriv.To, GDeriv.Kids]) (by simp only [fzH, fzB, ug, Nat.beq, cond_true, cond_false, oneU, fzL_nil, fzL_cons, fz_int, fz_bool, fz_str, fz_nils, fz_nilp, fz_nilm, fz_nilf, fz_junk, fz_isl, fz_map, fz_agg, fz_tup, fz_fn, junkT, fz_sl, fz_p0, fz_vn (show Nat.beq 1 0 = false from rfl), fz_sn (show Nat.beq 1 0 = false from rfl), fz_pn (show Nat.beq 1 0 = false from rfl), fz_vn (show Nat.beq 2 0 = false from rfl), fz_sn (show Nat.beq 2 0 = false from rfl), fz_pn (show Nat.beq 2 0 = false from rfl), fz_vn (show Nat.beq 4 0 = false from rfl), fz_sn (show Nat.beq 4 0 = false from rfl), fz_pn (show Nat.beq 4 0 = false from rfl), fz_vn (show Nat.beq 5 0 = false from rfl), fz_sn (show Nat.beq 5 0 = false from rfl), fz_pn (show Nat.beq 5 0 = false from rfl), fz_vn (show Nat.beq 6 0 = false from rfl), fz_sn (show Nat.beq 6 0 = false from rfl), fz_pn (show Nat.beq 6 0 = false from rfl), fz_vn (show Nat.beq 7 0 = false from rfl), fz_sn (show Nat.beq 7 0 = false from rfl), fz_pn (show Nat.beq 7 0 = false from rfl), fz_vn (show Nat.beq 8 0 = false from rfl), fz_sn (show Nat.beq 8 0 = false from rfl), fz_pn (show Nat.beq 8 0 = false from rfl), fz_vn (show Nat.beq 9 0 = false from rfl), fz_sn (show Nat.beq 9 0 = false from rfl), fz_pn (show Nat.beq 9 0 = false from rfl), fz_vn (show Nat.beq 10 0 = false from rfl), fz_sn (show Nat.beq 10 0 = false from rfl), fz_pn (show Nat.beq 10 0 = false from rfl), Nat.reduceLeDiff, Nat.reduceMul, List.length_cons, List.length_nil, Nat.reduceAdd] <;> simp only [chunks, List.take, List.drop, List.map, cGDeriv_eq, xGDeriv, GDeriv.Kind, GDeriv.Name, GDeriv.From, GDeriv.To, GDeriv.Kids]))) (Nat.zero_le _) ?_
  refine WPU.ghost (tm' := fr 81 [(1, .ptr 1 0 0), (3, .sl 4 0 2 2), (4, .ptr 5 0 0), (5, .ptr 6 0 0), (6, .ptr 7 0 0), (7, .ptr 8 0 0), (8, .sl 9 0 1 1), (9, .sl 10 0 3 3)]) (σ' := ⟨[(10, .row [.int .i64 0, .str ([99]), .int .i64 0, .int .i64 2, .bool false, .int .i64 0, .str ([98]), .int .i64 1, .int .i64 3, .bool true, .int .i64 0, .str ([100]), .int .i64 2, .int .i64 3, .bool false] 44), (9, .row [.int .i64 0, .str ([97]), .int .i64 0, .int .i64 1, .bool true] 44), (8, .row [.int .i64 0, .str ([100]), .int .i64 2, .int .i64 3] 26), (7, .row [.int .i64 0, .str ([99]), .int .i64 0, .int .i64 2] 26), (6, .row [.int .i64 0, .str ([98]), .int .i64 1, .int .i64 3] 26), (5, .row [.int .i64 0, .str ([97]), .int .i64 0, .int .i64 1] 26), (4, .row [.int .i64 2, .str ([115]), .int .i64 0, .int .i64 3, .isl false (List.map cGDeriv ([r1, r3])), .int .i64 2, .str ([115]), .int .i64 0, .int .i64 3, .isl false (List.map cGDeriv ([r5, r7]))] 24), (3, .row [.int .i64 2, .str ([115]), .int .i64 0, .int .i64 3, .isl false (List.map cGDeriv ([r5, r7]))] 24), (1, .row [.int .i64 2, .str ([115]), .int .i64 0, .int .i64 3, .isl false (List.map cGDeriv ([r1, r3]))] 24)], 11⟩) (Gh.trans (Gh.sub (l' := [(1, .ptr 1 0 0), (3, .sl 4 0 2 2), (4, .ptr 5 0 0), (5, .ptr 6 0 0), (6, .ptr 7 0 0), (7, .ptr 8 0 0), (8, .sl 9 0 1 1), (9, .sl 10 0 3 3)]) ⟨rfl, rfl, rfl, rfl, rfl, rfl, rfl, rfl, trivial⟩) (Gh.fzS (l' := [(1, .ptr 1 0 0), (3, .sl 4 0 2 2), (4, .ptr 5 0 0), (5, .ptr 6 0 0), (6, .ptr 7 0 0), (7, .ptr 8 0 0), (8, .sl 9 0 1 1), (9, .sl 10 0 3 3)]) (h' := [(10, .row [.int .i64 0, .str ([99]), .int .i64 0, .int .i64 2, .bool false, .int .i64 0, .str ([98]), .int .i64 1, .int .i64 3, .bool true, .int .i64 0, .str ([100]), .int .i64 2, .int .i64 3, .bool false] 44), (9, .row [.int .i64 0, .str ([97]), .int .i64 0, .int .i64 1, .bool true] 44), (8, .row [.int .i64 0, .str ([100]), .int .i64 2, .int .i64 3] 26), (7, .row [.int .i64 0, .str ([99]), .int .i64 0, .int .i64 2] 26), (6, .row [.int .i64 0, .str ([98]), .int .i64 1, .int .i64 3] 26), (5, .row [.int .i64 0, .str ([97]), .int .i64 0, .int .i64 1] 26), (4, .row [.int .i64 2, .str ([115]), .int .i64 0, .int .i64 3, .isl false (List.map cGDeriv ([r1, r3])), .int .i64 2, .str ([115]), .int .i64 0, .int .i64 3, .isl false (List.map cGDeriv ([r5, r7]))] 24), (3, .row [.int .i64 2, .str ([115]), .int .i64 0, .int .i64 3, .isl false (List.map cGDeriv ([r5, r7]))] 24), (1, .row [.int .i64 2, .str ([115]), .int .i64 0, .int .i64 3, .isl false (List.map cGDeriv ([r1, r3]))] 24)]) 2 (.row [.int .i64 r5.Kind, .str r5.Name, .int .i64 r5.From, .int .i64 r5.To, .isl false (List.map cGDeriv r5.Kids), .int .i64 r7.Kind, .str r7.Name, .int .i64 r7.From, .int .i64 r7.To, .isl false (List.map cGDeriv r7.Kids)] 24) 5 rfl (by simp) (by simp only [fzS, oneU, fzL_nil, fzL_cons, fz_int, fz_bool, fz_str, fz_nils, fz_nilp, fz_nilm, fz_nilf, fz_junk, fz_isl, fz_map, fz_agg, fz_tup, fz_fn, junkT, fz_sl, fz_p0, fz_vn (show Nat.beq 1 2 = false from rfl), fz_sn (show Nat.beq 1 2 = false from rfl), fz_pn (show Nat.beq 1 2 = false from rfl), fz_vn (show Nat.beq 4 2 = false from rfl), fz_sn (show Nat.beq 4 2 = false from rfl), fz_pn (show Nat.beq 4 2 = false from rfl), fz_vn (show Nat.beq 5 2 = false from rfl), fz_sn (show Nat.beq 5 2 = false from rfl), fz_pn (show Nat.beq 5 2 = false from rfl), fz_vn (show Nat.beq 6 2 = false from rfl), fz_sn (show Nat.beq 6 2 = false from rfl), fz_pn (show Nat.beq 6 2 = false from rfl), fz_vn (show Nat.beq 7 2 = false from rfl), fz_sn (show Nat.beq 7 2 = false from rfl), fz_pn (show Nat.beq 7 2 = false from rfl), fz_vn (show Nat.beq 8 2 = false from rfl), fz_sn (show Nat.beq 8 2 = false from rfl), fz_pn (show Nat.beq 8 2 = false from rfl), fz_vn (show Nat.beq 9 2 = false from rfl), fz_sn (show Nat.beq 9 2 = false from rfl), fz_pn (show Nat.beq 9 2 = false from rfl), fz_vn (show Nat.beq 10 2 = false from rfl), fz_sn (show Nat.beq 10 2 = false from rfl), fz_pn (show Nat.beq 10 2 = false from rfl), Nat.reduceLeDiff, Nat.reduceMul, List.length_cons, List.length_nil, Nat.reduceAdd] <;> simp only [chunks, List.take, List.drop, List.map, cGDeriv_eq, xGDeriv, GDeriv.Kind, GDeriv.Name, GDeriv.From, GDeriv.To, GDeriv.Kids]) (by simp only [fzH, fzB, ug, Nat.beq, cond_true, cond_false, oneU, fzL_nil, fzL_cons, fz_int, fz_bool, fz_str, fz_nils, fz_nilp, fz_nilm, fz_nilf, fz_junk, fz_isl, fz_map, fz_agg, fz_tup, fz_fn, junkT, fz_sl, fz_p0, fz_vn (show Nat.beq 1 2 = false from rfl), fz_sn (show Nat.beq 1 2 = false from rfl), fz_pn (show Nat.beq 1 2 = false from rfl), fz_vn (show Nat.beq 4 2 = false from rfl), fz_sn (show Nat.beq 4 2 = false from rfl), fz_pn (show Nat.beq 4 2 = false from rfl), fz_vn (show Nat.beq 5 2 = false from rfl), fz_sn (show Nat.beq 5 2 = false from rfl), fz_pn (show Nat.beq 5 2 = false from rfl), fz_vn (show Nat.beq 6 2 = false from rfl), fz_sn (show Nat.beq 6 2 = false from rfl), fz_pn (show Nat.beq 6 2 = false from rfl), fz_vn (show Nat.beq 7 2 = false from rfl), fz_sn (show Nat.beq 7 2 = false from rfl), fz_pn (show Nat.beq 7 2 = false from rfl), fz_vn (show Nat.beq 8 2 = false from rfl), fz_sn (show Nat.beq 8 2 = false from rfl), fz_pn (show Nat.beq 8 2 = false from rfl), fz_vn (show Nat.beq 9 2 = false from rfl), fz_sn (show Nat.beq 9 2 = false from rfl), fz_pn (show Nat.beq 9 2 = false from rfl), fz_vn (show Nat.beq 10 2 = false from rfl), fz_sn (show Nat.beq 10 2 = false from rfl), fz_pn (show Nat.beq 10 2 = false from rfl), Nat.reduceLeDiff, Nat.reduceMul, List.length_cons, List.length_nil, Nat.reduceAdd] <;> simp only [chunks, List.take, List.drop, List.map, cGDeriv_eq, xGDeriv, GDeriv.Kind, GDeriv.Name, GDeriv.From, GDeriv.To, GDeriv.Kids]))) (Nat.zero_le _) ?_
  refine WPU.ghost (tm' := fr 81 [(1, .ptr 1 0 0), (3, .isl false (List.map cGDeriv ([(GDeriv.mk 2 ([115]) 0 3 ([r1, r3])), (GDeriv.mk 2 ([115]) 0 3 ([r5, r7]))]))), (4, .ptr 5 0 0), (5, .ptr 6 0 0), (6, .ptr 7 0 0), (7, .ptr 8 0 0), (8, .sl 9 0 1 1), (9, .sl 10 0 3 3)]) (σ' := ⟨[(10, .row [.int .i64 0, .str ([99]), .int .i64 0, .int .i64 2, .bool false, .int .i64 0, .str ([98]), .int .i64 1, .int .i64 3, .bool true, .int .i64 0, .str ([100]), .int .i64 2, .int .i64 3, .bool false] 44), (9, .row [.int .i64 0, .str ([97]), .int .i64 0, .int .i64 1, .bool true] 44), (8, .row [.int .i64 0, .str ([100]), .int .i64 2, .int .i64 3] 26), (7, .row [.int .i64 0, .str ([99]), .int .i64 0, .int .i64 2] 26), (6, .row [.int .i64 0, .str ([98]), .int .i64 1, .int .i64 3] 26), (5, .row [.int .i64 0, .str ([97]), .int .i64 0, .int .i64 1] 26), (3, .row [.int .i64 2, .str ([115]), .int .i64 0, .int .i64 3, .isl false (List.map cGDeriv ([r5, r7]))] 24), (1, .row [.int .i64 2, .str ([115]), .int .i64 0, .int .i64 3, .isl false (List.map cGDeriv ([r1, r3]))] 24)], 11⟩) (Gh.trans (Gh.sub (l' := [(1, .ptr 1 0 0), (3, .sl 4 0 2 2), (4, .ptr 5 0 0), (5, .ptr 6 0 0), (6, .ptr 7 0 0), (7, .ptr 8 0 0), (8, .sl 9 0 1 1), (9, .sl 10 0 3 3)]) ⟨rfl, rfl, rfl, rfl, rfl, rfl, rfl, rfl, trivial⟩) (Gh.fzS (l' := [(1, .ptr 1 0 0), (3, .isl false (List.map cGDeriv ([(GDeriv.mk 2 ([115]) 0 3 ([r1, r3])), (GDeriv.mk 2 ([115]) 0 3 ([r5, r7]))]))), (4, .ptr 5 0 0), (5, .ptr 6 0 0), (6, .ptr 7 0 0), (7, .ptr 8 0 0), (8, .sl 9 0 1 1), (9, .sl 10 0 3 3)]) (h' := [(10, .row [.int .i64 0, .str ([99]), .int .i64 0, .int .i64 2, .bool false, .int .i64 0, .str ([98]), .int .i64 1, .int .i64 3, .bool true, .int .i64 0, .str ([100]), .int .i64 2, .int .i64 3, .bool false] 44), (9, .row [.int .i64 0, .str ([97]), .int .i64 0, .int .i64 1, .bool true] 44), (8, .row [.int .i64 0, .str ([100]), .int .i64 2, .int .i64 3] 26), (7, .row [.int .i64 0, .str ([99]), .int .i64 0, .int .i64 2] 26), (6, .row [.int .i64 0, .str ([98]), .int .i64 1, .int .i64 3] 26), (5, .row [.int .i64 0, .str ([97]), .int .i64 0, .int .i64 1] 26), (3, .row [.int .i64 2, .str ([115]), .int .i64 0, .int .i64 3, .isl false (List.map cGDeriv ([r5, r7]))] 24), (1, .row [.int .i64 2, .str ([115]), .int .i64 0, .int .i64 3, .isl false (List.map cGDeriv ([r1, r3]))] 24)]) 4 (.row [.int .i64 2, .str ([115]), .int .i64 0, .int .i64 3, .isl false (List.map cGDeriv ([r1, r3])), .int .i64 2, .str ([115]), .int .i64 0, .int .i64 3, .isl false (List.map cGDeriv ([r5, r7]))] 24) 5 rfl (by simp) (by simp only [fzS, oneU, fzL_nil, fzL_cons, fz_int, fz_bool, fz_str, fz_nils, fz_nilp, fz_nilm, fz_nilf, fz_junk, fz_isl, fz_map, fz_agg, fz_tup, fz_fn, junkT, fz_sl, fz_p0, fz_vn (show Nat.beq 1 4 = false from rfl), fz_sn (show Nat.beq 1 4 = false from rfl), fz_pn (show Nat.beq 1 4 = false from rfl), fz_vn (show Nat.beq 5 4 = false from rfl), fz_sn (show Nat.beq 5 4 = false from rfl), fz_pn (show Nat.beq 5 4 = false from rfl), fz_vn (show Nat.beq 6 4 = false from rfl), fz_sn (show Nat.beq 6 4 = false from rfl), fz_pn (show Nat.beq 6 4 = false from rfl), fz_vn (show Nat.beq 7 4 = false from rfl), fz_sn (show Nat.beq 7 4 = false from rfl), fz_pn (show Nat.beq 7 4 = false from rfl), fz_vn (show Nat.beq 8 4 = false from rfl), fz_sn (show Nat.beq 8 4 = false from rfl), fz_pn (show Nat.beq 8 4 = false from rfl), fz_vn (show Nat.beq 9 4 = false from rfl), fz_sn (show Nat.beq 9 4 = false from rfl), fz_pn (show Nat.beq 9 4 = false from rfl), fz_vn (show Nat.beq 10 4 = false from rfl), fz_sn (show Nat.beq 10 4 = false from rfl), fz_pn (show Nat.beq 10 4 = false from rfl), Nat.reduceLeDiff, Nat.reduceMul, List.length_cons, List.length_nil, Nat.reduceAdd] <;> simp only [chunks, List.take, List.drop, List.map, cGDeriv_eq, xGDeriv, GDeriv.Kind, GDeriv.Name, GDeriv.From, GDeriv.To, GDeriv.Kids]) (by simp only [fzH, fzB, ug, Nat.beq, cond_true, cond_false, oneU, fzL_nil, fzL_cons, fz_int, fz_bool, fz_str, fz_nils, fz_nilp, fz_nilm, fz_nilf, fz_junk, fz_isl, fz_map, fz_agg, fz_tup, fz_fn, junkT, fz_sl, fz_p0, fz_vn (show Nat.beq 1 4 = false from rfl), fz_sn (show Nat.beq 1 4 = false from rfl), fz_pn (show Nat.beq 1 4 = false from rfl), fz_vn (show Nat.beq 5 4 = false from rfl), fz_sn (show Nat.beq 5 4 = false from rfl), fz_pn (show Nat.beq 5 4 = false from rfl), fz_vn (show Nat.beq 6 4 = false from rfl), fz_sn (show Nat.beq 6 4 = false from rfl), fz_pn (show Nat.beq 6 4 = false from rfl), fz_vn (show Nat.beq 7 4 = false from rfl), fz_sn (show Nat.beq 7 4 = false from rfl), fz_pn (show Nat.beq 7 4 = false from rfl), fz_vn (show Nat.beq 8 4 = false from rfl), fz_sn (show Nat.beq 8 4 = false from rfl), fz_pn (show Nat.beq 8 4 = false from rfl), fz_vn (show Nat.beq 9 4 = false from rfl), fz_sn (show Nat.beq 9 4 = false from rfl), fz_pn (show Nat.beq 9 4 = false from rfl), fz_vn (show Nat.beq 10 4 = false from rfl), fz_sn (show Nat.beq 10 4 = false from rfl), fz_pn (show Nat.beq 10 4 = false from rfl), Nat.reduceLeDiff, Nat.reduceMul, List.length_cons, List.length_nil, Nat.reduceAdd] <;> simp only [chunks, List.take, List.drop, List.map, cGDeriv_eq, xGDeriv, GDeriv.Kind, GDeriv.Name, GDeriv.From, GDeriv.To, GDeriv.Kids]))) (Nat.zero_le _) ?_
  refine WPU.ghost (tm' := fr 81 [(1, .ptr 1 0 0), (3, .isl false (List.map cGDeriv ([(GDeriv.mk 2 ([115]) 0 3 ([r1, r3])), (GDeriv.mk 2 ([115]) 0 3 ([r5, r7]))]))), (4, .ptr 5 0 0), (5, .ptr 6 0 0), (6, .ptr 7 0 0), (7, .ptr 8 0 0), (8, .isl false (List.map cGDecision ([(GDecision.mk (GProp.mk 0 ([97]) 0 1) true)]))), (9, .sl 10 0 3 3)]) (σ' := ⟨[(10, .row [.int .i64 0, .str ([99]), .int .i64 0, .int .i64 2, .bool false, .int .i64 0, .str ([98]), .int .i64 1, .int .i64 3, .bool true, .int .i64 0, .str ([100]), .int .i64 2, .int .i64 3, .bool false] 44), (8, .row [.int .i64 0, .str ([100]), .int .i64 2, .int .i64 3] 26), (7, .row [.int .i64 0, .str ([99]), .int .i64 0, .int .i64 2] 26), (6, .row [.int .i64 0, .str ([98]), .int .i64 1, .int .i64 3] 26), (5, .row [.int .i64 0, .str ([97]), .int .i64 0, .int .i64 1] 26), (3, .row [.int .i64 2, .str ([115]), .int .i64 0, .int .i64 3, .isl false (List.map cGDeriv ([r5, r7]))] 24), (1, .row [.int .i64 2, .str ([115]), .int .i64 0, .int .i64 3, .isl false (List.map cGDeriv ([r1, r3]))] 24)], 11⟩) (Gh.trans (Gh.sub (l' := [(1, .ptr 1 0 0), (3, .isl false (List.map cGDeriv ([(GDeriv.mk 2 ([115]) 0 3 ([r1, r3])), (GDeriv.mk 2 ([115]) 0 3 ([r5, r7]))]))), (4, .ptr 5 0 0), (5, .ptr 6 0 0), (6, .ptr 7 0 0), (7, .ptr 8 0 0), (8, .sl 9 0 1 1), (9, .sl 10 0 3 3)]) ⟨rfl, rfl, rfl, rfl, rfl, rfl, rfl, rfl, trivial⟩) (Gh.fzS (l' := [(1, .ptr 1 0 0), (3, .isl false (List.map cGDeriv ([(GDeriv.mk 2 ([115]) 0 3 ([r1, r3])), (GDeriv.mk 2 ([115]) 0 3 ([r5, r7]))]))), (4, .ptr 5 0 0), (5, .ptr 6 0 0), (6, .ptr 7 0 0), (7, .ptr 8 0 0), (8, .isl false (List.map cGDecision ([(GDecision.mk (GProp.mk 0 ([97]) 0 1) true)]))), (9, .sl 10 0 3 3)]) (h' := [(10, .row [.int .i64 0, .str ([99]), .int .i64 0, .int .i64 2, .bool false, .int .i64 0, .str ([98]), .int .i64 1, .int .i64 3, .bool true, .int .i64 0, .str ([100]), .int .i64 2, .int .i64 3, .bool false] 44), (8, .row [.int .i64 0, .str ([100]), .int .i64 2, .int .i64 3] 26), (7, .row [.int .i64 0, .str ([99]), .int .i64 0, .int .i64 2] 26), (6, .row [.int .i64 0, .str ([98]), .int .i64 1, .int .i64 3] 26), (5, .row [.int .i64 0, .str ([97]), .int .i64 0, .int .i64 1] 26), (3, .row [.int .i64 2, .str ([115]), .int .i64 0, .int .i64 3, .isl false (List.map cGDeriv ([r5, r7]))] 24), (1, .row [.int .i64 2, .str ([115]), .int .i64 0, .int .i64 3, .isl false (List.map cGDeriv ([r1, r3]))] 24)]) 9 (.row [.int .i64 0, .str ([97]), .int .i64 0, .int .i64 1, .bool true] 44) 5 rfl (by simp) (by simp only [fzS, oneU, fzL_nil, fzL_cons, fz_int, fz_bool, fz_str, fz_nils, fz_nilp, fz_nilm, fz_nilf, fz_junk, fz_isl, fz_map, fz_agg, fz_tup, fz_fn, junkT, fz_sl, fz_p0, fz_vn (show Nat.beq 1 9 = false from rfl), fz_sn (show Nat.beq 1 9 = false from rfl), fz_pn (show Nat.beq 1 9 = false from rfl), fz_vn (show Nat.beq 5 9 = false from rfl), fz_sn (show Nat.beq 5 9 = false from rfl), fz_pn (show Nat.beq 5 9 = false from rfl), fz_vn (show Nat.beq 6 9 = false from rfl), fz_sn (show Nat.beq 6 9 = false from rfl), fz_pn (show Nat.beq 6 9 = false from rfl), fz_vn (show Nat.beq 7 9 = false from rfl), fz_sn (show Nat.beq 7 9 = false from rfl), fz_pn (show Nat.beq 7 9 = false from rfl), fz_vn (show Nat.beq 8 9 = false from rfl), fz_sn (show Nat.beq 8 9 = false from rfl), fz_pn (show Nat.beq 8 9 = false from rfl), fz_vn (show Nat.beq 10 9 = false from rfl), fz_sn (show Nat.beq 10 9 = false from rfl), fz_pn (show Nat.beq 10 9 = false from rfl), Nat.reduceLeDiff, Nat.reduceMul, List.length_cons, List.length_nil, Nat.reduceAdd] <;> simp only [chunks, List.take, List.drop, List.map, cGDecision]) (by simp only [fzH, fzB, ug, Nat.beq, cond_true, cond_false, oneU, fzL_nil, fzL_cons, fz_int, fz_bool, fz_str, fz_nils, fz_nilp, fz_nilm, fz_nilf, fz_junk, fz_isl, fz_map, fz_agg, fz_tup, fz_fn, junkT, fz_sl, fz_p0, fz_vn (show Nat.beq 1 9 = false from rfl), fz_sn (show Nat.beq 1 9 = false from rfl), fz_pn (show Nat.beq 1 9 = false from rfl), fz_vn (show Nat.beq 5 9 = false from rfl), fz_sn (show Nat.beq 5 9 = false from rfl), fz_pn (show Nat.beq 5 9 = false from rfl), fz_vn (show Nat.beq 6 9 = false from rfl), fz_sn (show Nat.beq 6 9 = false from rfl), fz_pn (show Nat.beq 6 9 = false from rfl), fz_vn (show Nat.beq 7 9 = false from rfl), fz_sn (show Nat.beq 7 9 = false from rfl), fz_pn (show Nat.beq 7 9 = false from rfl), fz_vn (show Nat.beq 8 9 = false from rfl), fz_sn (show Nat.beq 8 9 = false from rfl), fz_pn (show Nat.beq 8 9 = false from rfl), fz_vn (show Nat.beq 10 9 = false from rfl), fz_sn (show Nat.beq 10 9 = false from rfl), fz_pn (show Nat.beq 10 9 = false from rfl), Nat.reduceLeDiff, Nat.reduceMul, List.length_cons, List.length_nil, Nat.reduceAdd] <;> simp only [chunks, List.take, List.drop, List.map, cGDecision]))) (Nat.zero_le _) ?_
  repeat refine sq ?_
  obtain ⟨b39, h40, hF⟩ := bindO_some hF
  refine WPU.joinK (fun tm σ => tm = fr 81 [(0, .bool b39)] ∧ σ = ⟨[(11, .row [.int .i64 0, .str ([97]), .int .i64 0, .int .i64 1, .int .i64 0, .str ([99]), .int .i64 0, .int .i64 2, .int .i64 0, .str ([98]), .int .i64 1, .int .i64 3, .int .i64 0, .str ([100]), .int .i64 2, .int .i64 3] 26), (10, .row [.int .i64 0, .str ([99]), .int .i64 0, .int .i64 2, .bool false, .int .i64 0, .str ([98]), .int .i64 1, .int .i64 3, .bool true, .int .i64 0, .str ([100]), .int .i64 2, .int .i64 3, .bool false] 44), (8, .row [.int .i64 0, .str ([100]), .int .i64 2, .int .i64 3] 26), (7, .row [.int .i64 0, .str ([99]), .int .i64 0, .int .i64 2] 26), (6, .row [.int .i64 0, .str ([98]), .int .i64 1, .int .i64 3] 26), (5, .row [.int .i64 0, .str ([97]), .int .i64 0, .int .i64 1] 26), (3, .row [.int .i64 2, .str ([115]), .int .i64 0, .int .i64 3, .isl false (List.map cGDeriv ([r5, r7]))] 24), (1, .row [.int .i64 2, .str ([115]), .int .i64 0, .int .i64 3, .isl false (List.map cGDeriv ([r1, r3]))] 24)], 12⟩) ?_ ?_
  rintro _ _ ⟨rfl, rfl⟩
  repeat refine gq ?_
  repeat refine sq ?_
  refine WPU.ret ?_
  repeat refine gq ?_
  have hr := Option.some.inj hF
  subst hr
  exact ⟨.inr rfl, [.bool b39], res_t rfl (res_n), .bool b39, ⟨[], 0⟩, Nat.le_refl _, Gh.toR (.bool b39) rfl, rfl, BU.h⟩
  obtain ⟨r9, h10, h40⟩ := bindO_some h40
  obtain ⟨r11, h12, h40⟩ := bindO_some h40
  rcases bool_tf r11 with h13 | h13
  replace h40 := cond_t h13 h40
  obtain ⟨r14, h15, h40⟩ := bindO_some h40
  obtain ⟨r16, h17, h40⟩ := bindO_some h40
  rcases bool_tf r16 with h18 | h18
  replace h40 := cond_t h18 h40
  obtain ⟨r19, h20, h40⟩ := bindO_some h40
  obtain ⟨r21, h22, h40⟩ := bindO_some h40
  rcases bool_tf r21 with h23 | h23
  replace h40 := cond_t h23 h40
  obtain ⟨r24, h25, h40⟩ := bindO_some h40
  rcases bool_tf r24 with h26 | h26
  replace h40 := cond_t h26 h40
  obtain ⟨r27, h28, h40⟩ := bindO_some h40
  rcases bool_tf (!r27) with h29 | h29
  replace h40 := cond_t h29 h40
  obtain ⟨r30, h31, h40⟩ := bindO_some h40
  rcases bool_tf ((r30.length : Int) == 4) with h32 | h32
  replace h40 := cond_t h32 h40
  obtain ⟨l33, h34, h40⟩ := bindO_some h40
  obtain ⟨h35, h36⟩ := cut_hi cGDeriv .i64 h34
  obtain ⟨r37, h38, h40⟩ := bindO_some h40
  replace h40 := Option.some.inj h40
  subst h40
  refine WPU.drawE Try.tb_ok [(0, 6), (9, 12), (10, 12)] (by kernel_rfl) ?_
  refine RD.mv rfl rfl rfl rfl ?_
  refine RD.free (u := .isl false (List.map cGProp r9)) (args := [.isl false (List.map cGDeriv ([(GDeriv.mk 2 ([115]) 0 3 ([r1, r3])), (GDeriv.mk 2 ([115]) 0 3 ([r5, r7]))]))]) rfl (op_call rfl rfl Try.fn18 Try.hb18 rfl rfl) (fun s => disc_Discriminants_ok n ([(GDeriv.mk 2 ([115]) 0 3 ([r1, r3])), (GDeriv.mk 2 ([115]) 0 3 ([r5, r7]))]) r9 h10 s) rfl rfl ?_
  refine RD.look (u := .agg [.int .i64 0, .str ([97]), .int .i64 0, .int .i64 1]) rfl (ld_agg Try.und26 rfl (sz_of Try.inf26) rfl rfl rfl) rfl rfl ?_
  refine RD.look (u := .agg [.int .i64 0, .str ([99]), .int .i64 0, .int .i64 2]) rfl (ld_agg Try.und26 rfl (sz_of Try.inf26) rfl rfl rfl) rfl rfl ?_
  refine RD.look (u := .agg [.int .i64 0, .str ([98]), .int .i64 1, .int .i64 3]) rfl (ld_agg Try.und26 rfl (sz_of Try.inf26) rfl rfl rfl) rfl rfl ?_
  refine RD.look (u := .agg [.int .i64 0, .str ([100]), .int .i64 2, .int .i64 3]) rfl (ld_agg Try.und26 rfl (sz_of Try.inf26) rfl rfl rfl) rfl rfl ?_
  refine RD.act (u := .sl 11 0 4 4) (σ' := ⟨[(11, .row [.int .i64 0, .str ([97]), .int .i64 0, .int .i64 1, .int .i64 0, .str ([99]), .int .i64 0, .int .i64 2, .int .i64 0, .str ([98]), .int .i64 1, .int .i64 3, .int .i64 0, .str ([100]), .int .i64 2, .int .i64 3] 26), (10, .row [.int .i64 0, .str ([99]), .int .i64 0, .int .i64 2, .bool false, .int .i64 0, .str ([98]), .int .i64 1, .int .i64 3, .bool true, .int .i64 0, .str ([100]), .int .i64 2, .int .i64 3, .bool false] 44), (8, .row [.int .i64 0, .str ([100]), .int .i64 2, .int .i64 3] 26), (7, .row [.int .i64 0, .str ([99]), .int .i64 0, .int .i64 2] 26), (6, .row [.int .i64 0, .str ([98]), .int .i64 1, .int .i64 3] 26), (5, .row [.int .i64 0, .str ([97]), .int .i64 0, .int .i64 1] 26), (3, .row [.int .i64 2, .str ([115]), .int .i64 0, .int .i64 3, .isl false (List.map cGDeriv ([r5, r7]))] 24), (1, .row [.int .i64 2, .str ([115]), .int .i64 0, .int .i64 3, .isl false (List.map cGDeriv ([r1, r3]))] 24)], 12⟩) rfl (op_bsl Try.und30 Try.inf26 rfl rfl rfl rfl rfl rfl rfl) rfl rfl ?_
  refine RD.call (u := .bool r11) (args := [.isl false (List.map cGProp r9), .sl 11 0 4 4]) rfl (op_call rfl rfl Try.fn12 Try.hb12 rfl rfl) (EvU.view (ref45_SameProps_0 n r9 ([(GProp.mk 0 ([97]) 0 1), (GProp.mk 0 ([99]) 0 2), (GProp.mk 0 ([98]) 1 3), (GProp.mk 0 ([100]) 2 3)]) r11 h12) BUL.h (by simp only [toV, toVL, okL, okC, cond_true] <;> rfl) (fun m => by simp [ren, renL]) (Gh.fz (tm' := [.isl false (List.map cGProp r9), .isl false (List.map cGProp ([(GProp.mk 0 ([97]) 0 1), (GProp.mk 0 ([99]) 0 2), (GProp.mk 0 ([98]) 1 3), (GProp.mk 0 ([100]) 2 3)]))]) (h' := [(10, .row [.int .i64 0, .str ([99]), .int .i64 0, .int .i64 2, .bool false, .int .i64 0, .str ([98]), .int .i64 1, .int .i64 3, .bool true, .int .i64 0, .str ([100]), .int .i64 2, .int .i64 3, .bool false] 44), (8, .row [.int .i64 0, .str ([100]), .int .i64 2, .int .i64 3] 26), (7, .row [.int .i64 0, .str ([99]), .int .i64 0, .int .i64 2] 26), (6, .row [.int .i64 0, .str ([98]), .int .i64 1, .int .i64 3] 26), (5, .row [.int .i64 0, .str ([97]), .int .i64 0, .int .i64 1] 26), (3, .row [.int .i64 2, .str ([115]), .int .i64 0, .int .i64 3, .isl false (List.map cGDeriv ([r5, r7]))] 24), (1, .row [.int .i64 2, .str ([115]), .int .i64 0, .int .i64 3, .isl false (List.map cGDeriv ([r1, r3]))] 24)]) 11 (.row [.int .i64 0, .str ([97]), .int .i64 0, .int .i64 1, .int .i64 0, .str ([99]), .int .i64 0, .int .i64 2, .int .i64 0, .str ([98]), .int .i64 1, .int .i64 3, .int .i64 0, .str ([100]), .int .i64 2, .int .i64 3] 26) 4 rfl (by simp) (by simp only [oneU, fzL_nil, fzL_cons, fz_int, fz_bool, fz_str, fz_nils, fz_nilp, fz_nilm, fz_nilf, fz_junk, fz_isl, fz_map, fz_agg, fz_tup, fz_fn, junkT, fz_sl, fz_p0, Nat.reduceLeDiff, Nat.reduceMul, List.length_cons, List.length_nil, Nat.reduceAdd] <;> simp only [chunks, List.take, List.drop, List.map, cGProp]) (by simp only [fzH, fzB, ug, Nat.beq, cond_true, cond_false, oneU, fzL_nil, fzL_cons, fz_int, fz_bool, fz_str, fz_nils, fz_nilp, fz_nilm, fz_nilf, fz_junk, fz_isl, fz_map, fz_agg, fz_tup, fz_fn, junkT, fz_sl, fz_p0, Nat.reduceLeDiff, Nat.reduceMul, List.length_cons, List.length_nil, Nat.reduceAdd] <;> simp only [chunks, List.take, List.drop, List.map, cGProp]))) rfl rfl ?_
  refine RD.mv rfl rfl rfl rfl ?_
  refine RD.look (want1 rfl rfl rfl h13) (op_move rfl) rfl rfl ?_
  refine RD.look (want1 rfl rfl rfl h13) (op_move rfl) rfl rfl ?_
  refine RD.free (u := .isl false (List.map (cI .i64) r14)) (args := [.isl false (List.map cGDeriv ([(GDeriv.mk 2 ([115]) 0 3 ([r1, r3])), (GDeriv.mk 2 ([115]) 0 3 ([r5, r7]))])), .isl false (List.map cGDecision ([(GDecision.mk (GProp.mk 0 ([97]) 0 1) true)]))]) (want1 rfl rfl rfl h13) (op_call rfl rfl Try.fn21 Try.hb21 rfl rfl) (fun s => disc_Remaining_ok n ([(GDeriv.mk 2 ([115]) 0 3 ([r1, r3])), (GDeriv.mk 2 ([115]) 0 3 ([r5, r7]))]) ([(GDecision.mk (GProp.mk 0 ([97]) 0 1) true)]) r14 h15 s) rfl rfl ?_
  refine RD.act (u := .sl 12 0 1 1) (σ' := ⟨[(12, .row [.int .i64 0] 3), (11, .row [.int .i64 0, .str ([97]), .int .i64 0, .int .i64 1, .int .i64 0, .str ([99]), .int .i64 0, .int .i64 2, .int .i64 0, .str ([98]), .int .i64 1, .int .i64 3, .int .i64 0, .str ([100]), .int .i64 2, .int .i64 3] 26), (10, .row [.int .i64 0, .str ([99]), .int .i64 0, .int .i64 2, .bool false, .int .i64 0, .str ([98]), .int .i64 1, .int .i64 3, .bool true, .int .i64 0, .str ([100]), .int .i64 2, .int .i64 3, .bool false] 44), (8, .row [.int .i64 0, .str ([100]), .int .i64 2, .int .i64 3] 26), (7, .row [.int .i64 0, .str ([99]), .int .i64 0, .int .i64 2] 26), (6, .row [.int .i64 0, .str ([98]), .int .i64 1, .int .i64 3] 26), (5, .row [.int .i64 0, .str ([97]), .int .i64 0, .int .i64 1] 26), (3, .row [.int .i64 2, .str ([115]), .int .i64 0, .int .i64 3, .isl false (List.map cGDeriv ([r5, r7]))] 24), (1, .row [.int .i64 2, .str ([115]), .int .i64 0, .int .i64 3, .isl false (List.map cGDeriv ([r1, r3]))] 24)], 13⟩) (want1 rfl rfl rfl h13) (op_bsl Try.und38 Try.inf3 rfl rfl rfl rfl rfl rfl rfl) rfl rfl ?_
  refine RD.call (u := .bool r16) (args := [.isl false (List.map (cI .i64) r14), .sl 12 0 1 1]) (want1 rfl rfl rfl h13) (op_call rfl rfl Try.fn20 Try.hb20 rfl rfl) (EvU.view (ref45_SameNumbers_0 n r14 ([0]) r16 h17) BUL.h (by simp only [toV, toVL, okL, okC, cond_true] <;> rfl) (fun m => by simp [ren, renL]) (Gh.fz (tm' := [.isl false (List.map (cI .i64) r14), .isl false (List.map (cI .i64) ([0]))]) (h' := [(11, .row [.int .i64 0, .str ([97]), .int .i64 0, .int .i64 1, .int .i64 0, .str ([99]), .int .i64 0, .int .i64 2, .int .i64 0, .str ([98]), .int .i64 1, .int .i64 3, .int .i64 0, .str ([100]), .int .i64 2, .int .i64 3] 26), (10, .row [.int .i64 0, .str ([99]), .int .i64 0, .int .i64 2, .bool false, .int .i64 0, .str ([98]), .int .i64 1, .int .i64 3, .bool true, .int .i64 0, .str ([100]), .int .i64 2, .int .i64 3, .bool false] 44), (8, .row [.int .i64 0, .str ([100]), .int .i64 2, .int .i64 3] 26), (7, .row [.int .i64 0, .str ([99]), .int .i64 0, .int .i64 2] 26), (6, .row [.int .i64 0, .str ([98]), .int .i64 1, .int .i64 3] 26), (5, .row [.int .i64 0, .str ([97]), .int .i64 0, .int .i64 1] 26), (3, .row [.int .i64 2, .str ([115]), .int .i64 0, .int .i64 3, .isl false (List.map cGDeriv ([r5, r7]))] 24), (1, .row [.int .i64 2, .str ([115]), .int .i64 0, .int .i64 3, .isl false (List.map cGDeriv ([r1, r3]))] 24)]) 12 (.row [.int .i64 0] 3) 1 rfl (by simp) (by simp only [oneU, fzL_nil, fzL_cons, fz_int, fz_bool, fz_str, fz_nils, fz_nilp, fz_nilm, fz_nilf, fz_junk, fz_isl, fz_map, fz_agg, fz_tup, fz_fn, junkT, fz_sl, fz_p0, Nat.reduceLeDiff, Nat.reduceMul, List.length_cons, List.length_nil, Nat.reduceAdd] <;> simp only [chunks, List.take, List.drop, List.map, cI, cB, cS, cL]) (by simp only [fzH, fzB, ug, Nat.beq, cond_true, cond_false, oneU, fzL_nil, fzL_cons, fz_int, fz_bool, fz_str, fz_nils, fz_nilp, fz_nilm, fz_nilf, fz_junk, fz_isl, fz_map, fz_agg, fz_tup, fz_fn, junkT, fz_sl, fz_p0, Nat.reduceLeDiff, Nat.reduceMul, List.length_cons, List.length_nil, Nat.reduceAdd] <;> simp only [chunks, List.take, List.drop, List.map, cI, cB, cS, cL]))) rfl rfl ?_
  refine RD.look (u := .bool r16) rfl (op_pick1 rfl h13 rfl) rfl rfl ?_
  refine RD.mv rfl rfl rfl rfl ?_
  refine RD.look (want1 rfl rfl rfl h18) (op_move rfl) rfl rfl ?_
  refine RD.look (want1 rfl rfl rfl h18) (op_move rfl) rfl rfl ?_
  refine RD.free (u := .isl false (List.map cGDecision r19)) (args := [.isl false (List.map cGDeriv ([(GDeriv.mk 2 ([115]) 0 3 ([r1, r3])), (GDeriv.mk 2 ([115]) 0 3 ([r5, r7]))])), .isl false (List.map cGDecision ([(GDecision.mk (GProp.mk 0 ([97]) 0 1) true)]))]) (want1 rfl rfl rfl h18) (op_call rfl rfl Try.fn24 Try.hb24 rfl rfl) (fun s => disc_Implied_ok n ([(GDeriv.mk 2 ([115]) 0 3 ([r1, r3])), (GDeriv.mk 2 ([115]) 0 3 ([r5, r7]))]) ([(GDecision.mk (GProp.mk 0 ([97]) 0 1) true)]) r19 h20 s) rfl rfl ?_
  refine RD.look (want1 rfl rfl rfl h18) (op_move rfl) rfl rfl ?_
  refine RD.call (u := .bool r21) (args := [.isl false (List.map cGDecision r19), .sl 10 0 3 3]) (want1 rfl rfl rfl h18) (op_call rfl rfl Try.fn23 Try.hb23 rfl rfl) (EvU.view (ref45_SameDecisions_0 n r19 ([(GDecision.mk (GProp.mk 0 ([99]) 0 2) false), (GDecision.mk (GProp.mk 0 ([98]) 1 3) true), (GDecision.mk (GProp.mk 0 ([100]) 2 3) false)]) r21 h22) BUL.h (by simp only [toV, toVL, okL, okC, cond_true] <;> rfl) (fun m => by simp [ren, renL]) (Gh.fz (tm' := [.isl false (List.map cGDecision r19), .isl false (List.map cGDecision ([(GDecision.mk (GProp.mk 0 ([99]) 0 2) false), (GDecision.mk (GProp.mk 0 ([98]) 1 3) true), (GDecision.mk (GProp.mk 0 ([100]) 2 3) false)]))]) (h' := [(12, .row [.int .i64 0] 3), (11, .row [.int .i64 0, .str ([97]), .int .i64 0, .int .i64 1, .int .i64 0, .str ([99]), .int .i64 0, .int .i64 2, .int .i64 0, .str ([98]), .int .i64 1, .int .i64 3, .int .i64 0, .str ([100]), .int .i64 2, .int .i64 3] 26), (8, .row [.int .i64 0, .str ([100]), .int .i64 2, .int .i64 3] 26), (7, .row [.int .i64 0, .str ([99]), .int .i64 0, .int .i64 2] 26), (6, .row [.int .i64 0, .str ([98]), .int .i64 1, .int .i64 3] 26), (5, .row [.int .i64 0, .str ([97]), .int .i64 0, .int .i64 1] 26), (3, .row [.int .i64 2, .str ([115]), .int .i64 0, .int .i64 3, .isl false (List.map cGDeriv ([r5, r7]))] 24), (1, .row [.int .i64 2, .str ([115]), .int .i64 0, .int .i64 3, .isl false (List.map cGDeriv ([r1, r3]))] 24)]) 10 (.row [.int .i64 0, .str ([99]), .int .i64 0, .int .i64 2, .bool false, .int .i64 0, .str ([98]), .int .i64 1, .int .i64 3, .bool true, .int .i64 0, .str ([100]), .int .i64 2, .int .i64 3, .bool false] 44) 5 rfl (by simp) (by simp only [oneU, fzL_nil, fzL_cons, fz_int, fz_bool, fz_str, fz_nils, fz_nilp, fz_nilm, fz_nilf, fz_junk, fz_isl, fz_map, fz_agg, fz_tup, fz_fn, junkT, fz_sl, fz_p0, Nat.reduceLeDiff, Nat.reduceMul, List.length_cons, List.length_nil, Nat.reduceAdd] <;> simp only [chunks, List.take, List.drop, List.map, cGDecision]) (by simp only [fzH, fzB, ug, Nat.beq, cond_true, cond_false, oneU, fzL_nil, fzL_cons, fz_int, fz_bool, fz_str, fz_nils, fz_nilp, fz_nilm, fz_nilf, fz_junk, fz_isl, fz_map, fz_agg, fz_tup, fz_fn, junkT, fz_sl, fz_p0, Nat.reduceLeDiff, Nat.reduceMul, List.length_cons, List.length_nil, Nat.reduceAdd] <;> simp only [chunks, List.take, List.drop, List.map, cGDecision]))) rfl rfl ?_
  refine RD.look (u := .bool r21) rfl (op_pick1 rfl h18 rfl) rfl rfl ?_
  refine RD.mv rfl rfl rfl rfl ?_
  refine RD.look (u := .agg [.int .i64 2, .str ([115]), .int .i64 0, .int .i64 3, .isl false (List.map cGDeriv ([r1, r3]))]) (want1 rfl rfl rfl h23) (ld_agg Try.und24 rfl (sz_of Try.inf24) rfl rfl rfl) rfl rfl ?_
  refine RD.look (u := .agg [.int .i64 3, .str [], .int .i64 0, .int .i64 3]) (want1 rfl rfl rfl h23) (op_bld Try.bd26 rfl rfl rfl) rfl rfl ?_
  refine RD.free (u := .bool r24) (args := [.agg [.int .i64 2, .str ([115]), .int .i64 0, .int .i64 3, .isl false (List.map cGDeriv ([r1, r3]))], .agg [.int .i64 3, .str [], .int .i64 0, .int .i64 3]]) (want1 rfl rfl rfl h23) (op_call rfl rfl Try.fn15 Try.hb15 rfl rfl) (fun s => disc_Holds_ok n (GDeriv.mk 2 ([115]) 0 3 ([r1, r3])) (GProp.mk 3 [] 0 3) r24 h25 s) rfl rfl ?_
  refine RD.look (u := .bool r24) rfl (op_pick1 rfl h23 rfl) rfl rfl ?_
  refine RD.mv rfl rfl rfl rfl ?_
  refine RD.look (u := .agg [.int .i64 2, .str ([115]), .int .i64 0, .int .i64 3, .isl false (List.map cGDeriv ([r1, r3]))]) (want1 rfl rfl rfl h26) (ld_agg Try.und24 rfl (sz_of Try.inf24) rfl rfl rfl) rfl rfl ?_
  refine RD.look (u := .agg [.int .i64 0, .str ([99]), .int .i64 0, .int .i64 2]) (want1 rfl rfl rfl h26) (ld_agg Try.und26 rfl (sz_of Try.inf26) rfl rfl rfl) rfl rfl ?_
  refine RD.free (u := .bool r27) (args := [.agg [.int .i64 2, .str ([115]), .int .i64 0, .int .i64 3, .isl false (List.map cGDeriv ([r1, r3]))], .agg [.int .i64 0, .str ([99]), .int .i64 0, .int .i64 2]]) (want1 rfl rfl rfl h26) (op_call rfl rfl Try.fn15 Try.hb15 rfl rfl) (fun s => disc_Holds_ok n (GDeriv.mk 2 ([115]) 0 3 ([r1, r3])) (GProp.mk 0 ([99]) 0 2) r27 h28 s) rfl rfl ?_
  refine RD.look (u := .bool (!r27)) (want1 rfl rfl rfl h26) (op_un rfl rfl rfl rfl) rfl rfl ?_
  refine RD.look (u := .bool (!r27)) rfl (op_pick1 rfl h26 rfl) rfl rfl ?_
  refine RD.mv rfl rfl rfl rfl ?_
  refine RD.look (u := .agg [.int .i64 2, .str ([115]), .int .i64 0, .int .i64 3, .isl false (List.map cGDeriv ([r1, r3]))]) (want1 rfl rfl rfl h29) (ld_agg Try.und24 rfl (sz_of Try.inf24) rfl rfl rfl) rfl rfl ?_
  refine RD.free (u := .isl false (List.map cGProp r30)) (args := [.agg [.int .i64 2, .str ([115]), .int .i64 0, .int .i64 3, .isl false (List.map cGDeriv ([r1, r3]))]]) (want1 rfl rfl rfl h29) (op_call rfl rfl Try.fn13 Try.hb13 rfl rfl) (fun s => disc_Props_ok n (GDeriv.mk 2 ([115]) 0 3 ([r1, r3])) r30 h31 s) rfl rfl ?_
  refine RD.look (want1 rfl rfl rfl h29) (op_len rfl rfl rfl (len_isl cGProp Try.und30)) rfl rfl ?_
  refine RD.look (want1 rfl rfl rfl h29) (op_int rfl rfl (ix_eql _ _ _) rfl) rfl rfl ?_
  refine RD.look (u := .bool ((r30.length : Int) == 4)) rfl (op_pick1 rfl h29 rfl) rfl rfl ?_
  refine RD.mv rfl rfl rfl rfl ?_
  refine RD.look (want1 rfl rfl rfl h32) (op_move rfl) rfl rfl ?_
  refine RD.look (u := .isl false (List.map cGDeriv l33)) (want1 rfl rfl rfl h32) (op_slice rfl em_n (em_s rfl) em_n (sl_isl cGDeriv Try.und22 (sz_of Try.inf24) len_cGDeriv h35 h36)) rfl rfl ?_
  refine RD.free (u := .isl false (List.map cGProp r37)) (args := [.isl false (List.map cGDeriv l33)]) (want1 rfl rfl rfl h32) (op_call rfl rfl Try.fn18 Try.hb18 rfl rfl) (fun s => disc_Discriminants_ok n l33 r37 h38 s) rfl rfl ?_
  refine RD.look (want1 rfl rfl rfl h32) (op_len rfl rfl rfl (len_isl cGProp Try.und30)) rfl rfl ?_
  refine RD.look (want1 rfl rfl rfl h32) (op_int rfl rfl (ix_eql _ _ _) rfl) rfl rfl ?_
  refine RD.look (u := .bool ((r37.length : Int) == 0)) rfl (op_pick1 rfl h32 rfl) rfl rfl ?_
  refine RD.as rfl rfl rfl rfl ?_
  refine RD.done ⟨by kernel_rfl, ⟨op_move rfl, ⟨op_move rfl, ⟨op_move rfl, trivial⟩⟩⟩, ?_⟩
  repeat refine gq ?_
  exact ⟨_, _, ⟨rfl, rfl⟩, (Nat.zero_le _), Gh.toS (n1 := 12) ⟨rfl, trivial⟩ rfl (Nat.zero_le _) (by simp) (by simp only [BelS, BelL, Bel, true_and, and_true, and_assoc, Nat.reduceLT]) (by simp only [BelH, BelB, BelL, Bel, true_and, and_true, and_assoc, Nat.reduceLT]; exact ⟨belR_map _ (fun q => bel_cGDeriv _ q) _, belR_map _ (fun q => bel_cGDeriv _ q) _⟩)⟩
  replace h40 := cond_f h32 h40
  replace h40 := Option.some.inj h40
  subst h40
  refine WPU.drawE Try.tb_ok [(0, 6), (9, 12), (10, 12)] (by kernel_rfl) ?_
  refine RD.mv rfl rfl rfl rfl ?_
  refine RD.free (u := .isl false (List.map cGProp r9)) (args := [.isl false (List.map cGDeriv ([(GDeriv.mk 2 ([115]) 0 3 ([r1, r3])), (GDeriv.mk 2 ([115]) 0 3 ([r5, r7]))]))]) rfl (op_call rfl rfl Try.fn18 Try.hb18 rfl rfl) (fun s => disc_Discriminants_ok n ([(GDeriv.mk 2 ([115]) 0 3 ([r1, r3])), (GDeriv.mk 2 ([115]) 0 3 ([r5, r7]))]) r9 h10 s) rfl rfl ?_
  refine RD.look (u := .agg [.int .i64 0, .str ([97]), .int .i64 0, .int .i64 1]) rfl (ld_agg Try.und26 rfl (sz_of Try.inf26) rfl rfl rfl) rfl rfl ?_
  refine RD.look (u := .agg [.int .i64 0, .str ([99]), .int .i64 0, .int .i64 2]) rfl (ld_agg Try.und26 rfl (sz_of Try.inf26) rfl rfl rfl) rfl rfl ?_
  refine RD.look (u := .agg [.int .i64 0, .str ([98]), .int .i64 1, .int .i64 3]) rfl (ld_agg Try.und26 rfl (sz_of Try.inf26) rfl rfl rfl) rfl rfl ?_
  refine RD.look (u := .agg [.int .i64 0, .str ([100]), .int .i64 2, .int .i64 3]) rfl (ld_agg Try.und26 rfl (sz_of Try.inf26) rfl rfl rfl) rfl rfl ?_
  refine RD.act (u := .sl 11 0 4 4) (σ' := ⟨[(11, .row [.int .i64 0, .str ([97]), .int .i64 0, .int .i64 1, .int .i64 0, .str ([99]), .int .i64 0, .int .i64 2, .int .i64 0, .str ([98]), .int .i64 1, .int .i64 3, .int .i64 0, .str ([100]), .int .i64 2, .int .i64 3] 26), (10, .row [.int .i64 0, .str ([99]), .int .i64 0, .int .i64 2, .bool false, .int .i64 0, .str ([98]), .int .i64 1, .int .i64 3, .bool true, .int .i64 0, .str ([100]), .int .i64 2, .int .i64 3, .bool false] 44), (8, .row [.int .i64 0, .str ([100]), .int .i64 2, .int .i64 3] 26), (7, .row [.int .i64 0, .str ([99]), .int .i64 0, .int .i64 2] 26), (6, .row [.int .i64 0, .str ([98]), .int .i64 1, .int .i64 3] 26), (5, .row [.int .i64 0, .str ([97]), .int .i64 0, .int .i64 1] 26), (3, .row [.int .i64 2, .str ([115]), .int .i64 0, .int .i64 3, .isl false (List.map cGDeriv ([r5, r7]))] 24), (1, .row [.int .i64 2, .str ([115]), .int .i64 0, .int .i64 3, .isl false (List.map cGDeriv ([r1, r3]))] 24)], 12⟩) rfl (op_bsl Try.und30 Try.inf26 rfl rfl rfl rfl rfl rfl rfl) rfl rfl ?_
  refine RD.call (u := .bool r11) (args := [.isl false (List.map cGProp r9), .sl 11 0 4 4]) rfl (op_call rfl rfl Try.fn12 Try.hb12 rfl rfl) (EvU.view (ref45_SameProps_0 n r9 ([(GProp.mk 0 ([97]) 0 1), (GProp.mk 0 ([99]) 0 2), (GProp.mk 0 ([98]) 1 3), (GProp.mk 0 ([100]) 2 3)]) r11 h12) BUL.h (by simp only [toV, toVL, okL, okC, cond_true] <;> rfl) (fun m => by simp [ren, renL]) (Gh.fz (tm' := [.isl false (List.map cGProp r9), .isl false (List.map cGProp ([(GProp.mk 0 ([97]) 0 1), (GProp.mk 0 ([99]) 0 2), (GProp.mk 0 ([98]) 1 3), (GProp.mk 0 ([100]) 2 3)]))]) (h' := [(10, .row [.int .i64 0, .str ([99]), .int .i64 0, .int .i64 2, .bool false, .int .i64 0, .str ([98]), .int .i64 1, .int .i64 3, .bool true, .int .i64 0, .str ([100]), .int .i64 2, .int .i64 3, .bool false] 44), (8, .row [.int .i64 0, .str ([100]), .int .i64 2, .int .i64 3] 26), (7, .row [.int .i64 0, .str ([99]), .int .i64 0, .int .i64 2] 26), (6, .row [.int .i64 0, .str ([98]), .int .i64 1, .int .i64 3] 26), (5, .row [.int .i64 0, .str ([97]), .int .i64 0, .int .i64 1] 26), (3, .row [.int .i64 2, .str ([115]), .int .i64 0, .int .i64 3, .isl false (List.map cGDeriv ([r5, r7]))] 24), (1, .row [.int .i64 2, .str ([115]), .int .i64 0, .int .i64 3, .isl false (List.map cGDeriv ([r1, r3]))] 24)]) 11 (.row [.int .i64 0, .str ([97]), .int .i64 0, .int .i64 1, .int .i64 0, .str ([99]), .int .i64 0, .int .i64 2, .int .i64 0, .str ([98]), .int .i64 1, .int .i64 3, .int .i64 0, .str ([100]), .int .i64 2, .int .i64 3] 26) 4 rfl (by simp) (by simp only [oneU, fzL_nil, fzL_cons, fz_int, fz_bool, fz_str, fz_nils, fz_nilp, fz_nilm, fz_nilf, fz_junk, fz_isl, fz_map, fz_agg, fz_tup, fz_fn, junkT, fz_sl, fz_p0, Nat.reduceLeDiff, Nat.reduceMul, List.length_cons, List.length_nil, Nat.reduceAdd] <;> simp only [chunks, List.take, List.drop, List.map, cGProp]) (by simp only [fzH, fzB, ug, Nat.beq, cond_true, cond_false, oneU, fzL_nil, fzL_cons, fz_int, fz_bool, fz_str, fz_nils, fz_nilp, fz_nilm, fz_nilf, fz_junk, fz_isl, fz_map, fz_agg, fz_tup, fz_fn, junkT, fz_sl, fz_p0, Nat.reduceLeDiff, Nat.reduceMul, List.length_cons, List.length_nil, Nat.reduceAdd] <;> simp only [chunks, List.take, List.drop, List.map, cGProp]))) rfl rfl ?_
  refine RD.mv rfl rfl rfl rfl ?_
  refine RD.look (want1 rfl rfl rfl h13) (op_move rfl) rfl rfl ?_
  refine RD.look (want1 rfl rfl rfl h13) (op_move rfl) rfl rfl ?_
  refine RD.free (u := .isl false (List.map (cI .i64) r14)) (args := [.isl false (List.map cGDeriv ([(GDeriv.mk 2 ([115]) 0 3 ([r1, r3])), (GDeriv.mk 2 ([115]) 0 3 ([r5, r7]))])), .isl false (List.map cGDecision ([(GDecision.mk (GProp.mk 0 ([97]) 0 1) true)]))]) (want1 rfl rfl rfl h13) (op_call rfl rfl Try.fn21 Try.hb21 rfl rfl) (fun s => disc_Remaining_ok n ([(GDeriv.mk 2 ([115]) 0 3 ([r1, r3])), (GDeriv.mk 2 ([115]) 0 3 ([r5, r7]))]) ([(GDecision.mk (GProp.mk 0 ([97]) 0 1) true)]) r14 h15 s) rfl rfl ?_
  refine RD.act (u := .sl 12 0 1 1) (σ' := ⟨[(12, .row [.int .i64 0] 3), (11, .row [.int .i64 0, .str ([97]), .int .i64 0, .int .i64 1, .int .i64 0, .str ([99]), .int .i64 0, .int .i64 2, .int .i64 0, .str ([98]), .int .i64 1, .int .i64 3, .int .i64 0, .str ([100]), .int .i64 2, .int .i64 3] 26), (10, .row [.int .i64 0, .str ([99]), .int .i64 0, .int .i64 2, .bool false, .int .i64 0, .str ([98]), .int .i64 1, .int .i64 3, .bool true, .int .i64 0, .str ([100]), .int .i64 2, .int .i64 3, .bool false] 44), (8, .row [.int .i64 0, .str ([100]), .int .i64 2, .int .i64 3] 26), (7, .row [.int .i64 0, .str ([99]), .int .i64 0, .int .i64 2] 26), (6, .row [.int .i64 0, .str ([98]), .int .i64 1, .int .i64 3] 26), (5, .row [.int .i64 0, .str ([97]), .int .i64 0, .int .i64 1] 26), (3, .row [.int .i64 2, .str ([115]), .int .i64 0, .int .i64 3, .isl false (List.map cGDeriv ([r5, r7]))] 24), (1, .row [.int .i64 2, .str ([115]), .int .i64 0, .int .i64 3, .isl false (List.map cGDeriv ([r1, r3]))] 24)], 13⟩) (want1 rfl rfl rfl h13) (op_bsl Try.und38 Try.inf3 rfl rfl rfl rfl rfl rfl rfl) rfl rfl ?_
  refine RD.call (u := .bool r16) (args := [.isl false (List.map (cI .i64) r14), .sl 12 0 1 1]) (want1 rfl rfl rfl h13) (op_call rfl rfl Try.fn20 Try.hb20 rfl rfl) (EvU.view (ref45_SameNumbers_0 n r14 ([0]) r16 h17) BUL.h (by simp only [toV, toVL, okL, okC, cond_true] <;> rfl) (fun m => by simp [ren, renL]) (Gh.fz (tm' := [.isl false (List.map (cI .i64) r14), .isl false (List.map (cI .i64) ([0]))]) (h' := [(11, .row [.int .i64 0, .str ([97]), .int .i64 0, .int .i64 1, .int .i64 0, .str ([99]), .int .i64 0, .int .i64 2, .int .i64 0, .str ([98]), .int .i64 1, .int .i64 3, .int .i64 0, .str ([100]), .int .i64 2, .int .i64 3] 26), (10, .row [.int .i64 0, .str ([99]), .int .i64 0, .int .i64 2, .bool false, .int .i64 0, .str ([98]), .int .i64 1, .int .i64 3, .bool true, .int .i64 0, .str ([100]), .int .i64 2, .int .i64 3, .bool false] 44), (8, .row [.int .i64 0, .str ([100]), .int .i64 2, .int .i64 3] 26), (7, .row [.int .i64 0, .str ([99]), .int .i64 0, .int .i64 2] 26), (6, .row [.int .i64 0, .str ([98]), .int .i64 1, .int .i64 3] 26), (5, .row [.int .i64 0, .str ([97]), .int .i64 0, .int .i64 1] 26), (3, .row [.int .i64 2, .str ([115]), .int .i64 0, .int .i64 3, .isl false (List.map cGDeriv ([r5, r7]))] 24), (1, .row [.int .i64 2, .str ([115]), .int .i64 0, .int .i64 3, .isl false (List.map cGDeriv ([r1, r3]))] 24)]) 12 (.row [.int .i64 0] 3) 1 rfl (by simp) (by simp only [oneU, fzL_nil, fzL_cons, fz_int, fz_bool, fz_str, fz_nils, fz_nilp, fz_nilm, fz_nilf, fz_junk, fz_isl, fz_map, fz_agg, fz_tup, fz_fn, junkT, fz_sl, fz_p0, Nat.reduceLeDiff, Nat.reduceMul, List.length_cons, List.length_nil, Nat.reduceAdd] <;> simp only [chunks, List.take, List.drop, List.map, cI, cB, cS, cL]) (by simp only [fzH, fzB, ug, Nat.beq, cond_true, cond_false, oneU, fzL_nil, fzL_cons, fz_int, fz_bool, fz_str, fz_nils, fz_nilp, fz_nilm, fz_nilf, fz_junk, fz_isl, fz_map, fz_agg, fz_tup, fz_fn, junkT, fz_sl, fz_p0, Nat.reduceLeDiff, Nat.reduceMul, List.length_cons, List.length_nil, Nat.reduceAdd] <;> simp only [chunks, List.take, List.drop, List.map, cI, cB, cS, cL]))) rfl rfl ?_
  refine RD.look (u := .bool r16) rfl (op_pick1 rfl h13 rfl) rfl rfl ?_
  refine RD.mv rfl rfl rfl rfl ?_
  refine RD.look (want1 rfl rfl rfl h18) (op_move rfl) rfl rfl ?_
  refine RD.look (want1 rfl rfl rfl h18) (op_move rfl) rfl rfl ?_
  refine RD.free (u := .isl false (List.map cGDecision r19)) (args := [.isl false (List.map cGDeriv ([(GDeriv.mk 2 ([115]) 0 3 ([r1, r3])), (GDeriv.mk 2 ([115]) 0 3 ([r5, r7]))])), .isl false (List.map cGDecision ([(GDecision.mk (GProp.mk 0 ([97]) 0 1) true)]))]) (want1 rfl rfl rfl h18) (op_call rfl rfl Try.fn24 Try.hb24 rfl rfl) (fun s => disc_Implied_ok n ([(GDeriv.mk 2 ([115]) 0 3 ([r1, r3])), (GDeriv.mk 2 ([115]) 0 3 ([r5, r7]))]) ([(GDecision.mk (GProp.mk 0 ([97]) 0 1) true)]) r19 h20 s) rfl rfl ?_
  refine RD.look (want1 rfl rfl rfl h18) (op_move rfl) rfl rfl ?_
  refine RD.call (u := .bool r21) (args := [.isl false (List.map cGDecision r19), .sl 10 0 3 3]) (want1 rfl rfl rfl h18) (op_call rfl rfl Try.fn23 Try.hb23 rfl rfl) (EvU.view (ref45_SameDecisions_0 n r19 ([(GDecision.mk (GProp.mk 0 ([99]) 0 2) false), (GDecision.mk (GProp.mk 0 ([98]) 1 3) true), (GDecision.mk (GProp.mk 0 ([100]) 2 3) false)]) r21 h22) BUL.h (by simp only [toV, toVL, okL, okC, cond_true] <;> rfl) (fun m => by simp [ren, renL]) (Gh.fz (tm' := [.isl false (List.map cGDecision r19), .isl false (List.map cGDecision ([(GDecision.mk (GProp.mk 0 ([99]) 0 2) false), (GDecision.mk (GProp.mk 0 ([98]) 1 3) true), (GDecision.mk (GProp.mk 0 ([100]) 2 3) false)]))]) (h' := [(12, .row [.int .i64 0] 3), (11, .row [.int .i64 0, .str ([97]), .int .i64 0, .int .i64 1, .int .i64 0, .str ([99]), .int .i64 0, .int .i64 2, .int .i64 0, .str ([98]), .int .i64 1, .int .i64 3, .int .i64 0, .str ([100]), .int .i64 2, .int .i64 3] 26), (8, .row [.int .i64 0, .str ([100]), .int .i64 2, .int .i64 3] 26), (7, .row [.int .i64 0, .str ([99]), .int .i64 0, .int .i64 2] 26), (6, .row [.int .i64 0, .str ([98]), .int .i64 1, .int .i64 3] 26), (5, .row [.int .i64 0, .str ([97]), .int .i64 0, .int .i64 1] 26), (3, .row [.int .i64 2, .str ([115]), .int .i64 0, .int .i64 3, .isl false (List.map cGDeriv ([r5, r7]))] 24), (1, .row [.int .i64 2, .str ([115]), .int .i64 0, .int .i64 3, .isl false (List.map cGDeriv ([r1, r3]))] 24)]) 10 (.row [.int .i64 0, .str ([99]), .int .i64 0, .int .i64 2, .bool false, .int .i64 0, .str ([98]), .int .i64 1, .int .i64 3, .bool true, .int .i64 0, .str ([100]), .int .i64 2, .int .i64 3, .bool false] 44) 5 rfl (by simp) (by simp only [oneU, fzL_nil, fzL_cons, fz_int, fz_bool, fz_str, fz_nils, fz_nilp, fz_nilm, fz_nilf, fz_junk, fz_isl, fz_map, fz_agg, fz_tup, fz_fn, junkT, fz_sl, fz_p0, Nat.reduceLeDiff, Nat.reduceMul, List.length_cons, List.length_nil, Nat.reduceAdd] <;> simp only [chunks, List.take, List.drop, List.map, cGDecision]) (by simp only [fzH, fzB, ug, Nat.beq, cond_true, cond_false, oneU, fzL_nil, fzL_cons, fz_int, fz_bool, fz_str, fz_nils, fz_nilp, fz_nilm, fz_nilf, fz_junk, fz_isl, fz_map, fz_agg, fz_tup, fz_fn, junkT, fz_sl, fz_p0, Nat.reduceLeDiff, Nat.reduceMul, List.length_cons, List.length_nil, Nat.reduceAdd] <;> simp only [chunks, List.take, List.drop, List.map, cGDecision]))) rfl rfl ?_
  refine RD.look (u := .bool r21) rfl (op_pick1 rfl h18 rfl) rfl rfl ?_
  refine RD.mv rfl rfl rfl rfl ?_
  refine RD.look (u := .agg [.int .i64 2, .str ([115]), .int .i64 0, .int .i64 3, .isl false (List.map cGDeriv ([r1, r3]))]) (want1 rfl rfl rfl h23) (ld_agg Try.und24 rfl (sz_of Try.inf24) rfl rfl rfl) rfl rfl ?_
  refine RD.look (u := .agg [.int .i64 3, .str [], .int .i64 0, .int .i64 3]) (want1 rfl rfl rfl h23) (op_bld Try.bd26 rfl rfl rfl) rfl rfl ?_
  refine RD.free (u := .bool r24) (args := [.agg [.int .i64 2, .str ([115]), .int .i64 0, .int .i64 3, .isl false (List.map cGDeriv ([r1, r3]))], .agg [.int .i64 3, .str [], .int .i64 0, .int .i64 3]]) (want1 rfl rfl rfl h23) (op_call rfl rfl Try.fn15 Try.hb15 rfl rfl) (fun s => disc_Holds_ok n (GDeriv.mk 2 ([115]) 0 3 ([r1, r3])) (GProp.mk 3 [] 0 3) r24 h25 s) rfl rfl ?_
  refine RD.look (u := .bool r24) rfl (op_pick1 rfl h23 rfl) rfl rfl ?_
  refine RD.mv rfl rfl rfl rfl ?_
  refine RD.look (u := .agg [.int .i64 2, .str ([115]), .int .i64 0, .int .i64 3, .isl false (List.map cGDeriv ([r1, r3]))]) (want1 rfl rfl rfl h26) (ld_agg Try.und24 rfl (sz_of Try.inf24) rfl rfl rfl) rfl rfl ?_
  refine RD.look (u := .agg [.int .i64 0, .str ([99]), .int .i64 0, .int .i64 2]) (want1 rfl rfl rfl h26) (ld_agg Try.und26 rfl (sz_of Try.inf26) rfl rfl rfl) rfl rfl ?_
  refine RD.free (u := .bool r27) (args := [.agg [.int .i64 2, .str ([115]), .int .i64 0, .int .i64 3, .isl false (List.map cGDeriv ([r1, r3]))], .agg [.int .i64 0, .str ([99]), .int .i64 0, .int .i64 2]]) (want1 rfl rfl rfl h26) (op_call rfl rfl Try.fn15 Try.hb15 rfl rfl) (fun s => disc_Holds_ok n (GDeriv.mk 2 ([115]) 0 3 ([r1, r3])) (GProp.mk 0 ([99]) 0 2) r27 h28 s) rfl rfl ?_
  refine RD.look (u := .bool (!r27)) (want1 rfl rfl rfl h26) (op_un rfl rfl rfl rfl) rfl rfl ?_
  refine RD.look (u := .bool (!r27)) rfl (op_pick1 rfl h26 rfl) rfl rfl ?_
  refine RD.mv rfl rfl rfl rfl ?_
  refine RD.look (u := .agg [.int .i64 2, .str ([115]), .int .i64 0, .int .i64 3, .isl false (List.map cGDeriv ([r1, r3]))]) (want1 rfl rfl rfl h29) (ld_agg Try.und24 rfl (sz_of Try.inf24) rfl rfl rfl) rfl rfl ?_
  refine RD.free (u := .isl false (List.map cGProp r30)) (args := [.agg [.int .i64 2, .str ([115]), .int .i64 0, .int .i64 3, .isl false (List.map cGDeriv ([r1, r3]))]]) (want1 rfl rfl rfl h29) (op_call rfl rfl Try.fn13 Try.hb13 rfl rfl) (fun s => disc_Props_ok n (GDeriv.mk 2 ([115]) 0 3 ([r1, r3])) r30 h31 s) rfl rfl ?_
  refine RD.look (want1 rfl rfl rfl h29) (op_len rfl rfl rfl (len_isl cGProp Try.und30)) rfl rfl ?_
  refine RD.look (want1 rfl rfl rfl h29) (op_int rfl rfl (ix_eql _ _ _) rfl) rfl rfl ?_
  refine RD.look (u := .bool ((r30.length : Int) == 4)) rfl (op_pick1 rfl h29 rfl) rfl rfl ?_
  refine RD.mv rfl rfl rfl rfl ?_
  repeat refine RD.no (want0 rfl rfl rfl h32) rfl rfl ?_
  refine RD.look (u := .bool false) rfl (op_pick0 rfl h32 rfl) rfl rfl ?_
  refine RD.as rfl rfl rfl rfl ?_
  refine RD.done ⟨by kernel_rfl, ⟨op_move rfl, ⟨op_move rfl, ⟨op_move rfl, trivial⟩⟩⟩, ?_⟩
  repeat refine gq ?_
  exact ⟨_, _, ⟨rfl, rfl⟩, (Nat.zero_le _), Gh.toS (n1 := 12) ⟨rfl, trivial⟩ rfl (Nat.zero_le _) (by simp) (by simp only [BelS, BelL, Bel, true_and, and_true, and_assoc, Nat.reduceLT]) (by simp only [BelH, BelB, BelL, Bel, true_and, and_true, and_assoc, Nat.reduceLT]; exact ⟨belR_map _ (fun q => bel_cGDeriv _ q) _, belR_map _ (fun q => bel_cGDeriv _ q) _⟩)⟩
  replace h40 := cond_f h29 h40
  replace h40 := Option.some.inj h40
  subst h40
  refine WPU.drawE Try.tb_ok [(0, 6), (9, 12), (10, 12)] (by kernel_rfl) ?_
  refine RD.mv rfl rfl rfl rfl ?_
  refine RD.free (u := .isl false (List.map cGProp r9)) (args := [.isl false (List.map cGDeriv ([(GDeriv.mk 2 ([115]) 0 3 ([r1, r3])), (GDeriv.mk 2 ([115]) 0 3 ([r5, r7]))]))]) rfl (op_call rfl rfl Try.fn18 Try.hb18 rfl rfl) (fun s => disc_Discriminants_ok n ([(GDeriv.mk 2 ([115]) 0 3 ([r1, r3])), (GDeriv.mk 2 ([115]) 0 3 ([r5, r7]))]) r9 h10 s) rfl rfl ?_
  refine RD.look (u := .agg [.int .i64 0, .str ([97]), .int .i64 0, .int .i64 1]) rfl (ld_agg Try.und26 rfl (sz_of Try.inf26) rfl rfl rfl) rfl rfl ?_
  refine RD.look (u := .agg [.int .i64 0, .str ([99]), .int .i64 0, .int .i64 2]) rfl (ld_agg Try.und26 rfl (sz_of Try.inf26) rfl rfl rfl) rfl rfl ?_
  refine RD.look (u := .agg [.int .i64 0, .str ([98]), .int .i64 1, .int .i64 3]) rfl (ld_agg Try.und26 rfl (sz_of Try.inf26) rfl rfl rfl) rfl rfl ?_
  refine RD.look (u := .agg [.int .i64 0, .str ([100]), .int .i64 2, .int .i64 3]) rfl (ld_agg Try.und26 rfl (sz_of Try.inf26) rfl rfl rfl) rfl rfl ?_
  refine RD.act (u := .sl 11 0 4 4) (σ' := ⟨[(11, .row [.int .i64 0, .str ([97]), .int .i64 0, .int .i64 1, .int .i64 0, .str ([99]), .int .i64 0, .int .i64 2, .int .i64 0, .str ([98]), .int .i64 1, .int .i64 3, .int .i64 0, .str ([100]), .int .i64 2, .int .i64 3] 26), (10, .row [.int .i64 0, .str ([99]), .int .i64 0, .int .i64 2, .bool false, .int .i64 0, .str ([98]), .int .i64 1, .int .i64 3, .bool true, .int .i64 0, .str ([100]), .int .i64 2, .int .i64 3, .bool false] 44), (8, .row [.int .i64 0, .str ([100]), .int .i64 2, .int .i64 3] 26), (7, .row [.int .i64 0, .str ([99]), .int .i64 0, .int .i64 2] 26), (6, .row [.int .i64 0, .str ([98]), .int .i64 1, .int .i64 3] 26), (5, .row [.int .i64 0, .str ([97]), .int .i64 0, .int .i64 1] 26), (3, .row [.int .i64 2, .str ([115]), .int .i64 0, .int .i64 3, .isl false (List.map cGDeriv ([r5, r7]))] 24), (1, .row [.int .i64 2, .str ([115]), .int .i64 0, .int .i64 3, .isl false (List.map cGDeriv ([r1, r3]))] 24)], 12⟩) rfl (op_bsl Try.und30 Try.inf26 rfl rfl rfl rfl rfl rfl rfl) rfl rfl ?_
  refine RD.call (u := .bool r11) (args := [.isl false (List.map cGProp r9), .sl 11 0 4 4]) rfl (op_call rfl rfl Try.fn12 Try.hb12 rfl rfl) (EvU.view (ref45_SameProps_0 n r9 ([(GProp.mk 0 ([97]) 0 1), (GProp.mk 0 ([99]) 0 2), (GProp.mk 0 ([98]) 1 3), (GProp.mk 0 ([100]) 2 3)]) r11 h12) BUL.h (by simp only [toV, toVL, okL, okC, cond_true] <;> rfl) (fun m => by simp [ren, renL]) (Gh.fz (tm' := [.isl false (List.map cGProp r9), .isl false (List.map cGProp ([(GProp.mk 0 ([97]) 0 1), (GProp.mk 0 ([99]) 0 2), (GProp.mk 0 ([98]) 1 3), (GProp.mk 0 ([100]) 2 3)]))]) (h' := [(10, .row [.int .i64 0, .str ([99]), .int .i64 0, .int .i64 2, .bool false, .int .i64 0, .str ([98]), .int .i64 1, .int .i64 3, .bool true, .int .i64 0, .str ([100]), .int .i64 2, .int .i64 3, .bool false] 44), (8, .row [.int .i64 0, .str ([100]), .int .i64 2, .int .i64 3] 26), (7, .row [.int .i64 0, .str ([99]), .int .i64 0, .int .i64 2] 26), (6, .row [.int .i64 0, .str ([98]), .int .i64 1, .int .i64 3] 26), (5, .row [.int .i64 0, .str ([97]), .int .i64 0, .int .i64 1] 26), (3, .row [.int .i64 2, .str ([115]), .int .i64 0, .int .i64 3, .isl false (List.map cGDeriv ([r5, r7]))] 24), (1, .row [.int .i64 2, .str ([115]), .int .i64 0, .int .i64 3, .isl false (List.map cGDeriv ([r1, r3]))] 24)]) 11 (.row [.int .i64 0, .str ([97]), .int .i64 0, .int .i64 1, .int .i64 0, .str ([99]), .int .i64 0, .int .i64 2, .int .i64 0, .str ([98]), .int .i64 1, .int .i64 3, .int .i64 0, .str ([100]), .int .i64 2, .int .i64 3] 26) 4 rfl (by simp) (by simp only [oneU, fzL_nil, fzL_cons, fz_int, fz_bool, fz_str, fz_nils, fz_nilp, fz_nilm, fz_nilf, fz_junk, fz_isl, fz_map, fz_agg, fz_tup, fz_fn, junkT, fz_sl, fz_p0, Nat.reduceLeDiff, Nat.reduceMul, List.length_cons, List.length_nil, Nat.reduceAdd] <;> simp only [chunks, List.take, List.drop, List.map, cGProp]) (by simp only [fzH, fzB, ug, Nat.beq, cond_true, cond_false, oneU, fzL_nil, fzL_cons, fz_int, fz_bool, fz_str, fz_nils, fz_nilp, fz_nilm, fz_nilf, fz_junk, fz_isl, fz_map, fz_agg, fz_tup, fz_fn, junkT, fz_sl, fz_p0, Nat.reduceLeDiff, Nat.reduceMul, List.length_cons, List.length_nil, Nat.reduceAdd] <;> simp only [chunks, List.take, List.drop, List.map, cGProp]))) rfl rfl ?_
  refine RD.mv rfl rfl rfl rfl ?_
  refine RD.look (want1 rfl rfl rfl h13) (op_move rfl) rfl rfl ?_
  refine RD.look (want1 rfl rfl rfl h13) (op_move rfl) rfl rfl ?_
  refine RD.free (u := .isl false (List.map (cI .i64) r14)) (args := [.isl false (List.map cGDeriv ([(GDeriv.mk 2 ([115]) 0 3 ([r1, r3])), (GDeriv.mk 2 ([115]) 0 3 ([r5, r7]))])), .isl false (List.map cGDecision ([(GDecision.mk (GProp.mk 0 ([97]) 0 1) true)]))]) (want1 rfl rfl rfl h13) (op_call rfl rfl Try.fn21 Try.hb21 rfl rfl) (fun s => disc_Remaining_ok n ([(GDeriv.mk 2 ([115]) 0 3 ([r1, r3])), (GDeriv.mk 2 ([115]) 0 3 ([r5, r7]))]) ([(GDecision.mk (GProp.mk 0 ([97]) 0 1) true)]) r14 h15 s) rfl rfl ?_
  refine RD.act (u := .sl 12 0 1 1) (σ' := ⟨[(12, .row [.int .i64 0] 3), (11, .row [.int .i64 0, .str ([97]), .int .i64 0, .int .i64 1, .int .i64 0, .str ([99]), .int .i64 0, .int .i64 2, .int .i64 0, .str ([98]), .int .i64 1, .int .i64 3, .int .i64 0, .str ([100]), .int .i64 2, .int .i64 3] 26), (10, .row [.int .i64 0, .str ([99]), .int .i64 0, .int .i64 2, .bool false, .int .i64 0, .str ([98]), .int .i64 1, .int .i64 3, .bool true, .int .i64 0, .str ([100]), .int .i64 2, .int .i64 3, .bool false] 44), (8, .row [.int .i64 0, .str ([100]), .int .i64 2, .int .i64 3] 26), (7, .row [.int .i64 0, .str ([99]), .int .i64 0, .int .i64 2] 26), (6, .row [.int .i64 0, .str ([98]), .int .i64 1, .int .i64 3] 26), (5, .row [.int .i64 0, .str ([97]), .int .i64 0, .int .i64 1] 26), (3, .row [.int .i64 2, .str ([115]), .int .i64 0, .int .i64 3, .isl false (List.map cGDeriv ([r5, r7]))] 24), (1, .row [.int .i64 2, .str ([115]), .int .i64 0, .int .i64 3, .isl false (List.map cGDeriv ([r1, r3]))] 24)], 13⟩) (want1 rfl rfl rfl h13) (op_bsl Try.und38 Try.inf3 rfl rfl rfl rfl rfl rfl rfl) rfl rfl ?_
  refine RD.call (u := .bool r16) (args := [.isl false (List.map (cI .i64) r14), .sl 12 0 1 1]) (want1 rfl rfl rfl h13) (op_call rfl rfl Try.fn20 Try.hb20 rfl rfl) (EvU.view (ref45_SameNumbers_0 n r14 ([0]) r16 h17) BUL.h (by simp only [toV, toVL, okL, okC, cond_true] <;> rfl) (fun m => by simp [ren, renL]) (Gh.fz (tm' := [.isl false (List.map (cI .i64) r14), .isl false (List.map (cI .i64) ([0]))]) (h' := [(11, .row [.int .i64 0, .str ([97]), .int .i64 0, .int .i64 1, .int .i64 0, .str ([99]), .int .i64 0, .int .i64 2, .int .i64 0, .str ([98]), .int .i64 1, .int .i64 3, .int .i64 0, .str ([100]), .int .i64 2, .int .i64 3] 26), (10, .row [.int .i64 0, .str ([99]), .int .i64 0, .int .i64 2, .bool false, .int .i64 0, .str ([98]), .int .i64 1, .int .i64 3, .bool true, .int .i64 0, .str ([100]), .int .i64 2, .int .i64 3, .bool false] 44), (8, .row [.int .i64 0, .str ([100]), .int .i64 2, .int .i64 3] 26), (7, .row [.int .i64 0, .str ([99]), .int .i64 0, .int .i64 2] 26), (6, .row [.int .i64 0, .str ([98]), .int .i64 1, .int .i64 3] 26), (5, .row [.int .i64 0, .str ([97]), .int .i64 0, .int .i64 1] 26), (3, .row [.int .i64 2, .str ([115]), .int .i64 0, .int .i64 3, .isl false (List.map cGDeriv ([r5, r7]))] 24), (1, .row [.int .i64 2, .str ([115]), .int .i64 0, .int .i64 3, .isl false (List.map cGDeriv ([r1, r3]))] 24)]) 12 (.row [.int .i64 0] 3) 1 rfl (by simp) (by simp only [oneU, fzL_nil, fzL_cons, fz_int, fz_bool, fz_str, fz_nils, fz_nilp, fz_nilm, fz_nilf, fz_junk, fz_isl, fz_map, fz_agg, fz_tup, fz_fn, junkT, fz_sl, fz_p0, Nat.reduceLeDiff, Nat.reduceMul, List.length_cons, List.length_nil, Nat.reduceAdd] <;> simp only [chunks, List.take, List.drop, List.map, cI, cB, cS, cL]) (by simp only [fzH, fzB, ug, Nat.beq, cond_true, cond_false, oneU, fzL_nil, fzL_cons, fz_int, fz_bool, fz_str, fz_nils, fz_nilp, fz_nilm, fz_nilf, fz_junk, fz_isl, fz_map, fz_agg, fz_tup, fz_fn, junkT, fz_sl, fz_p0, Nat.reduceLeDiff, Nat.reduceMul, List.length_cons, List.length_nil, Nat.reduceAdd] <;> simp only [chunks, List.take, List.drop, List.map, cI, cB, cS, cL]))) rfl rfl ?_
  refine RD.look (u := .bool r16) rfl (op_pick1 rfl h13 rfl) rfl rfl ?_
  refine RD.mv rfl rfl rfl rfl ?_
  refine RD.look (want1 rfl rfl rfl h18) (op_move rfl) rfl rfl ?_
  refine RD.look (want1 rfl rfl rfl h18) (op_move rfl) rfl rfl ?_
  refine RD.free (u := .isl false (List.map cGDecision r19)) (args := [.isl false (List.map cGDeriv ([(GDeriv.mk 2 ([115]) 0 3 ([r1, r3])), (GDeriv.mk 2 ([115]) 0 3 ([r5, r7]))])), .isl false (List.map cGDecision ([(GDecision.mk (GProp.mk 0 ([97]) 0 1) true)]))]) (want1 rfl rfl rfl h18) (op_call rfl rfl Try.fn24 Try.hb24 rfl rfl) (fun s => disc_Implied_ok n ([(GDeriv.mk 2 ([115]) 0 3 ([r1, r3])), (GDeriv.mk 2 ([115]) 0 3 ([r5, r7]))]) ([(GDecision.mk (GProp.mk 0 ([97]) 0 1) true)]) r19 h20 s) rfl rfl ?_
  refine RD.look (want1 rfl rfl rfl h18) (op_move rfl) rfl rfl ?_
  refine RD.call (u := .bool r21) (args := [.isl false (List.map cGDecision r19), .sl 10 0 3 3]) (want1 rfl rfl rfl h18) (op_call rfl rfl Try.fn23 Try.hb23 rfl rfl) (EvU.view (ref45_SameDecisions_0 n r19 ([(GDecision.mk (GProp.mk 0 ([99]) 0 2) false), (GDecision.mk (GProp.mk 0 ([98]) 1 3) true), (GDecision.mk (GProp.mk 0 ([100]) 2 3) false)]) r21 h22) BUL.h (by simp only [toV, toVL, okL, okC, cond_true] <;> rfl) (fun m => by simp [ren, renL]) (Gh.fz (tm' := [.isl false (List.map cGDecision r19), .isl false (List.map cGDecision ([(GDecision.mk (GProp.mk 0 ([99]) 0 2) false), (GDecision.mk (GProp.mk 0 ([98]) 1 3) true), (GDecision.mk (GProp.mk 0 ([100]) 2 3) false)]))]) (h' := [(12, .row [.int .i64 0] 3), (11, .row [.int .i64 0, .str ([97]), .int .i64 0, .int .i64 1, .int .i64 0, .str ([99]), .int .i64 0, .int .i64 2, .int .i64 0, .str ([98]), .int .i64 1, .int .i64 3, .int .i64 0, .str ([100]), .int .i64 2, .int .i64 3] 26), (8, .row [.int .i64 0, .str ([100]), .int .i64 2, .int .i64 3] 26), (7, .row [.int .i64 0, .str ([99]), .int .i64 0, .int .i64 2] 26), (6, .row [.int .i64 0, .str ([98]), .int .i64 1, .int .i64 3] 26), (5, .row [.int .i64 0, .str ([97]), .int .i64 0, .int .i64 1] 26), (3, .row [.int .i64 2, .str ([115]), .int .i64 0, .int .i64 3, .isl false (List.map cGDeriv ([r5, r7]))] 24), (1, .row [.int .i64 2, .str ([115]), .int .i64 0, .int .i64 3, .isl false (List.map cGDeriv ([r1, r3]))] 24)]) 10 (.row [.int .i64 0, .str ([99]), .int .i64 0, .int .i64 2, .bool false, .int .i64 0, .str ([98]), .int .i64 1, .int .i64 3, .bool true, .int .i64 0, .str ([100]), .int .i64 2, .int .i64 3, .bool false] 44) 5 rfl (by simp) (by simp only [oneU, fzL_nil, fzL_cons, fz_int, fz_bool, fz_str, fz_nils, fz_nilp, fz_nilm, fz_nilf, fz_junk, fz_isl, fz_map, fz_agg, fz_tup, fz_fn, junkT, fz_sl, fz_p0, Nat.reduceLeDiff, Nat.reduceMul, List.length_cons, List.length_nil, Nat.reduceAdd] <;> simp only [chunks, List.take, List.drop, List.map, cGDecision]) (by simp only [fzH, fzB, ug, Nat.beq, cond_true, cond_false, oneU, fzL_nil, fzL_cons, fz_int, fz_bool, fz_str, fz_nils, fz_nilp, fz_nilm, fz_nilf, fz_junk, fz_isl, fz_map, fz_agg, fz_tup, fz_fn, junkT, fz_sl, fz_p0, Nat.reduceLeDiff, Nat.reduceMul, List.length_cons, List.length_nil, Nat.reduceAdd] <;> simp only [chunks, List.take, List.drop, List.map, cGDecision]))) rfl rfl ?_
  refine RD.look (u := .bool r21) rfl (op_pick1 rfl h18 rfl) rfl rfl ?_
  refine RD.mv rfl rfl rfl rfl ?_
  refine RD.look (u := .agg [.int .i64 2, .str ([115]), .int .i64 0, .int .i64 3, .isl false (List.map cGDeriv ([r1, r3]))]) (want1 rfl rfl rfl h23) (ld_agg Try.und24 rfl (sz_of Try.inf24) rfl rfl rfl) rfl rfl ?_
  refine RD.look (u := .agg [.int .i64 3, .str [], .int .i64 0, .int .i64 3]) (want1 rfl rfl rfl h23) (op_bld Try.bd26 rfl rfl rfl) rfl rfl ?_
  refine RD.free (u := .bool r24) (args := [.agg [.int .i64 2, .str ([115]), .int .i64 0, .int .i64 3, .isl false (List.map cGDeriv ([r1, r3]))], .agg [.int .i64 3, .str [], .int .i64 0, .int .i64 3]]) (want1 rfl rfl rfl h23) (op_call rfl rfl Try.fn15 Try.hb15 rfl rfl) (fun s => disc_Holds_ok n (GDeriv.mk 2 ([115]) 0 3 ([r1, r3])) (GProp.mk 3 [] 0 3) r24 h25 s) rfl rfl ?_
  refine RD.look (u := .bool r24) rfl (op_pick1 rfl h23 rfl) rfl rfl ?_
  refine RD.mv rfl rfl rfl rfl ?_
  refine RD.look (u := .agg [.int .i64 2, .str ([115]), .int .i64 0, .int .i64 3, .isl false (List.map cGDeriv ([r1, r3]))]) (want1 rfl rfl rfl h26) (ld_agg Try.und24 rfl (sz_of Try.inf24) rfl rfl rfl) rfl rfl ?_
  refine RD.look (u := .agg [.int .i64 0, .str ([99]), .int .i64 0, .int .i64 2]) (want1 rfl rfl rfl h26) (ld_agg Try.und26 rfl (sz_of Try.inf26) rfl rfl rfl) rfl rfl ?_
  refine RD.free (u := .bool r27) (args := [.agg [.int .i64 2, .str ([115]), .int .i64 0, .int .i64 3, .isl false (List.map cGDeriv ([r1, r3]))], .agg [.int .i64 0, .str ([99]), .int .i64 0, .int .i64 2]]) (want1 rfl rfl rfl h26) (op_call rfl rfl Try.fn15 Try.hb15 rfl rfl) (fun s => disc_Holds_ok n (GDeriv.mk 2 ([115]) 0 3 ([r1, r3])) (GProp.mk 0 ([99]) 0 2) r27 h28 s) rfl rfl ?_
  refine RD.look (u := .bool (!r27)) (want1 rfl rfl rfl h26) (op_un rfl rfl rfl rfl) rfl rfl ?_
  refine RD.look (u := .bool (!r27)) rfl (op_pick1 rfl h26 rfl) rfl rfl ?_
  refine RD.mv rfl rfl rfl rfl ?_
  repeat refine RD.no (want0 rfl rfl rfl h29) rfl rfl ?_
  refine RD.look (u := .bool false) rfl (op_pick0 rfl h29 rfl) rfl rfl ?_
  refine RD.mv rfl rfl rfl rfl ?_
  repeat refine RD.no (want0 rfl rfl rfl rfl) rfl rfl ?_
  refine RD.look (u := .bool false) rfl (op_pick0 rfl rfl rfl) rfl rfl ?_
  refine RD.as rfl rfl rfl rfl ?_
  refine RD.done ⟨by kernel_rfl, ⟨op_move rfl, ⟨op_move rfl, ⟨op_move rfl, trivial⟩⟩⟩, ?_⟩
  repeat refine gq ?_
  exact ⟨_, _, ⟨rfl, rfl⟩, (Nat.zero_le _), Gh.toS (n1 := 12) ⟨rfl, trivial⟩ rfl (Nat.zero_le _) (by simp) (by simp only [BelS, BelL, Bel, true_and, and_true, and_assoc, Nat.reduceLT]) (by simp only [BelH, BelB, BelL, Bel, true_and, and_true, and_assoc, Nat.reduceLT]; exact ⟨belR_map _ (fun q => bel_cGDeriv _ q) _, belR_map _ (fun q => bel_cGDeriv _ q) _⟩)⟩
  replace h40 := cond_f h26 h40
  replace h40 := Option.some.inj h40
  subst h40
  refine WPU.drawE Try.tb_ok [(0, 6), (9, 12), (10, 12)] (by kernel_rfl) ?_
  refine RD.mv rfl rfl rfl rfl ?_
  refine RD.free (u := .isl false (List.map cGProp r9)) (args := [.isl false (List.map cGDeriv ([(GDeriv.mk 2 ([115]) 0 3 ([r1, r3])), (GDeriv.mk 2 ([115]) 0 3 ([r5, r7]))]))]) rfl (op_call rfl rfl Try.fn18 Try.hb18 rfl rfl) (fun s => disc_Discriminants_ok n ([(GDeriv.mk 2 ([115]) 0 3 ([r1, r3])), (GDeriv.mk 2 ([115]) 0 3 ([r5, r7]))]) r9 h10 s) rfl rfl ?_
  refine RD.look (u := .agg [.int .i64 0, .str ([97]), .int .i64 0, .int .i64 1]) rfl (ld_agg Try.und26 rfl (sz_of Try.inf26) rfl rfl rfl) rfl rfl ?_
  refine RD.look (u := .agg [.int .i64 0, .str ([99]), .int .i64 0, .int .i64 2]) rfl (ld_agg Try.und26 rfl (sz_of Try.inf26) rfl rfl rfl) rfl rfl ?_
  refine RD.look (u := .agg [.int .i64 0, .str ([98]), .int .i64 1, .int .i64 3]) rfl (ld_agg Try.und26 rfl (sz_of Try.inf26) rfl rfl rfl) rfl rfl ?_
  refine RD.look (u := .agg [.int .i64 0, .str ([100]), .int .i64 2, .int .i64 3]) rfl (ld_agg Try.und26 rfl (sz_of Try.inf26) rfl rfl rfl) rfl rfl ?_
  refine RD.act (u := .sl 11 0 4 4) (σ' := ⟨[(11, .row [.int .i64 0, .str ([97]), .int .i64 0, .int .i64 1, .int .i64 0, .str ([99]), .int .i64 0, .int .i64 2, .int .i64 0, .str ([98]), .int .i64 1, .int .i64 3, .int .i64 0, .str ([100]), .int .i64 2, .int .i64 3] 26), (10, .row [.int .i64 0, .str ([99]), .int .i64 0, .int .i64 2, .bool false, .int .i64 0, .str ([98]), .int .i64 1, .int .i64 3, .bool true, .int .i64 0, .str ([100]), .int .i64 2, .int .i64 3, .bool false] 44), (8, .row [.int .i64 0, .str ([100]), .int .i64 2, .int .i64 3] 26), (7, .row [.int .i64 0, .str ([99]), .int .i64 0, .int .i64 2] 26), (6, .row [.int .i64 0, .str ([98]), .int .i64 1, .int .i64 3] 26), (5, .row [.int .i64 0, .str ([97]), .int .i64 0, .int .i64 1] 26), (3, .row [.int .i64 2, .str ([115]), .int .i64 0, .int .i64 3, .isl false (List.map cGDeriv ([r5, r7]))] 24), (1, .row [.int .i64 2, .str ([115]), .int .i64 0, .int .i64 3, .isl false (List.map cGDeriv ([r1, r3]))] 24)], 12⟩) rfl (op_bsl Try.und30 Try.inf26 rfl rfl rfl rfl rfl rfl rfl) rfl rfl ?_
  refine RD.call (u := .bool r11) (args := [.isl false (List.map cGProp r9), .sl 11 0 4 4]) rfl (op_call rfl rfl Try.fn12 Try.hb12 rfl rfl) (EvU.view (ref45_SameProps_0 n r9 ([(GProp.mk 0 ([97]) 0 1), (GProp.mk 0 ([99]) 0 2), (GProp.mk 0 ([98]) 1 3), (GProp.mk 0 ([100]) 2 3)]) r11 h12) BUL.h (by simp only [toV, toVL, okL, okC, cond_true] <;> rfl) (fun m => by simp [ren, renL]) (Gh.fz (tm' := [.isl false (List.map cGProp r9), .isl false (List.map cGProp ([(GProp.mk 0 ([97]) 0 1), (GProp.mk 0 ([99]) 0 2), (GProp.mk 0 ([98]) 1 3), (GProp.mk 0 ([100]) 2 3)]))]) (h' := [(10, .row [.int .i64 0, .str ([99]), .int .i64 0, .int .i64 2, .bool false, .int .i64 0, .str ([98]), .int .i64 1, .int .i64 3, .bool true, .int .i64 0, .str ([100]), .int .i64 2, .int .i64 3, .bool false] 44), (8, .row [.int .i64 0, .str ([100]), .int .i64 2, .int .i64 3] 26), (7, .row [.int .i64 0, .str ([99]), .int .i64 0, .int .i64 2] 26), (6, .row [.int .i64 0, .str ([98]), .int .i64 1, .int .i64 3] 26), (5, .row [.int .i64 0, .str ([97]), .int .i64 0, .int .i64 1] 26), (3, .row [.int .i64 2, .str ([115]), .int .i64 0, .int .i64 3, .isl false (List.map cGDeriv ([r5, r7]))] 24), (1, .row [.int .i64 2, .str ([115]), .int .i64 0, .int .i64 3, .isl false (List.map cGDeriv ([r1, r3]))] 24)]) 11 (.row [.int .i64 0, .str ([97]), .int .i64 0, .int .i64 1, .int .i64 0, .str ([99]), .int .i64 0, .int .i64 2, .int .i64 0, .str ([98]), .int .i64 1, .int .i64 3, .int .i64 0, .str ([100]), .int .i64 2, .int .i64 3] 26) 4 rfl (by simp) (by simp only [oneU, fzL_nil, fzL_cons, fz_int, fz_bool, fz_str, fz_nils, fz_nilp, fz_nilm, fz_nilf, fz_junk, fz_isl, fz_map, fz_agg, fz_tup, fz_fn, junkT, fz_sl, fz_p0, Nat.reduceLeDiff, Nat.reduceMul, List.length_cons, List.length_nil, Nat.reduceAdd] <;> simp only [chunks, List.take, List.drop, List.map, cGProp]) (by simp only [fzH, fzB, ug, Nat.beq, cond_true, cond_false, oneU, fzL_nil, fzL_cons, fz_int, fz_bool, fz_str, fz_nils, fz_nilp, fz_nilm, fz_nilf, fz_junk, fz_isl, fz_map, fz_agg, fz_tup, fz_fn, junkT, fz_sl, fz_p0, Nat.reduceLeDiff, Nat.reduceMul, List.length_cons, List.length_nil, Nat.reduceAdd] <;> simp only [chunks, List.take, List.drop, List.map, cGProp]))) rfl rfl ?_
  refine RD.mv rfl rfl rfl rfl ?_
  refine RD.look (want1 rfl rfl rfl h13) (op_move rfl) rfl rfl ?_
  refine RD.look (want1 rfl rfl rfl h13) (op_move rfl) rfl rfl ?_
  refine RD.free (u := .isl false (List.map (cI .i64) r14)) (args := [.isl false (List.map cGDeriv ([(GDeriv.mk 2 ([115]) 0 3 ([r1, r3])), (GDeriv.mk 2 ([115]) 0 3 ([r5, r7]))])), .isl false (List.map cGDecision ([(GDecision.mk (GProp.mk 0 ([97]) 0 1) true)]))]) (want1 rfl rfl rfl h13) (op_call rfl rfl Try.fn21 Try.hb21 rfl rfl) (fun s => disc_Remaining_ok n ([(GDeriv.mk 2 ([115]) 0 3 ([r1, r3])), (GDeriv.mk 2 ([115]) 0 3 ([r5, r7]))]) ([(GDecision.mk (GProp.mk 0 ([97]) 0 1) true)]) r14 h15 s) rfl rfl ?_
  refine RD.act (u := .sl 12 0 1 1) (σ' := ⟨[(12, .row [.int .i64 0] 3), (11, .row [.int .i64 0, .str ([97]), .int .i64 0, .int .i64 1, .int .i64 0, .str ([99]), .int .i64 0, .int .i64 2, .int .i64 0, .str ([98]), .int .i64 1, .int .i64 3, .int .i64 0, .str ([100]), .int .i64 2, .int .i64 3] 26), (10, .row [.int .i64 0, .str ([99]), .int .i64 0, .int .i64 2, .bool false, .int .i64 0, .str ([98]), .int .i64 1, .int .i64 3, .bool true, .int .i64 0, .str ([100]), .int .i64 2, .int .i64 3, .bool false] 44), (8, .row [.int .i64 0, .str ([100]), .int .i64 2, .int .i64 3] 26), (7, .row [.int .i64 0, .str ([99]), .int .i64 0, .int .i64 2] 26), (6, .row [.int .i64 0, .str ([98]), .int .i64 1, .int .i64 3] 26), (5, .row [.int .i64 0, .str ([97]), .int .i64 0, .int .i64 1] 26), (3, .row [.int .i64 2, .str ([115]), .int .i64 0, .int .i64 3, .isl false (List.map cGDeriv ([r5, r7]))] 24), (1, .row [.int .i64 2, .str ([115]), .int .i64 0, .int .i64 3, .isl false (List.map cGDeriv ([r1, r3]))] 24)], 13⟩) (want1 rfl rfl rfl h13) (op_bsl Try.und38 Try.inf3 rfl rfl rfl rfl rfl rfl rfl) rfl rfl ?_
  refine RD.call (u := .bool r16) (args := [.isl false (List.map (cI .i64) r14), .sl 12 0 1 1]) (want1 rfl rfl rfl h13) (op_call rfl rfl Try.fn20 Try.hb20 rfl rfl) (EvU.view (ref45_SameNumbers_0 n r14 ([0]) r16 h17) BUL.h (by simp only [toV, toVL, okL, okC, cond_true] <;> rfl) (fun m => by simp [ren, renL]) (Gh.fz (tm' := [.isl false (List.map (cI .i64) r14), .isl false (List.map (cI .i64) ([0]))]) (h' := [(11, .row [.int .i64 0, .str ([97]), .int .i64 0, .int .i64 1, .int .i64 0, .str ([99]), .int .i64 0, .int .i64 2, .int .i64 0, .str ([98]), .int .i64 1, .int .i64 3, .int .i64 0, .str ([100]), .int .i64 2, .int .i64 3] 26), (10, .row [.int .i64 0, .str ([99]), .int .i64 0, .int .i64 2, .bool false, .int .i64 0, .str ([98]), .int .i64 1, .int .i64 3, .bool true, .int .i64 0, .str ([100]), .int .i64 2, .int .i64 3, .bool false] 44), (8, .row [.int .i64 0, .str ([100]), .int .i64 2, .int .i64 3] 26), (7, .row [.int .i64 0, .str ([99]), .int .i64 0, .int .i64 2] 26), (6, .row [.int .i64 0, .str ([98]), .int .i64 1, .int .i64 3] 26), (5, .row [.int .i64 0, .str ([97]), .int .i64 0, .int .i64 1] 26), (3, .row [.int .i64 2, .str ([115]), .int .i64 0, .int .i64 3, .isl false (List.map cGDeriv ([r5, r7]))] 24), (1, .row [.int .i64 2, .str ([115]), .int .i64 0, .int .i64 3, .isl false (List.map cGDeriv ([r1, r3]))] 24)]) 12 (.row [.int .i64 0] 3) 1 rfl (by simp) (by simp only [oneU, fzL_nil, fzL_cons, fz_int, fz_bool, fz_str, fz_nils, fz_nilp, fz_nilm, fz_nilf, fz_junk, fz_isl, fz_map, fz_agg, fz_tup, fz_fn, junkT, fz_sl, fz_p0, Nat.reduceLeDiff, Nat.reduceMul, List.length_cons, List.length_nil, Nat.reduceAdd] <;> simp only [chunks, List.take, List.drop, List.map, cI, cB, cS, cL]) (by simp only [fzH, fzB, ug, Nat.beq, cond_true, cond_false, oneU, fzL_nil, fzL_cons, fz_int, fz_bool, fz_str, fz_nils, fz_nilp, fz_nilm, fz_nilf, fz_junk, fz_isl, fz_map, fz_agg, fz_tup, fz_fn, junkT, fz_sl, fz_p0, Nat.reduceLeDiff, Nat.reduceMul, List.length_cons, List.length_nil, Nat.reduceAdd] <;> simp only [chunks, List.take, List.drop, List.map, cI, cB, cS, cL]))) rfl rfl ?_
  refine RD.look (u := .bool r16) rfl (op_pick1 rfl h13 rfl) rfl rfl ?_
  refine RD.mv rfl rfl rfl rfl ?_
  refine RD.look (want1 rfl rfl rfl h18) (op_move rfl) rfl rfl ?_
  refine RD.look (want1 rfl rfl rfl h18) (op_move rfl) rfl rfl ?_
  refine RD.free (u := .isl false (List.map cGDecision r19)) (args := [.isl false (List.map cGDeriv ([(GDeriv.mk 2 ([115]) 0 3 ([r1, r3])), (GDeriv.mk 2 ([115]) 0 3 ([r5, r7]))])), .isl false (List.map cGDecision ([(GDecision.mk (GProp.mk 0 ([97]) 0 1) true)]))]) (want1 rfl rfl rfl h18) (op_call rfl rfl Try.fn24 Try.hb24 rfl rfl) (fun s => disc_Implied_ok n ([(GDeriv.mk 2 ([115]) 0 3 ([r1, r3])), (GDeriv.mk 2 ([115]) 0 3 ([r5, r7]))]) ([(GDecision.mk (GProp.mk 0 ([97]) 0 1) true)]) r19 h20 s) rfl rfl ?_
  refine RD.look (want1 rfl rfl rfl h18) (op_move rfl) rfl rfl ?_
  refine RD.call (u := .bool r21) (args := [.isl false (List.map cGDecision r19), .sl 10 0 3 3]) (want1 rfl rfl rfl h18) (op_call rfl rfl Try.fn23 Try.hb23 rfl rfl) (EvU.view (ref45_SameDecisions_0 n r19 ([(GDecision.mk (GProp.mk 0 ([99]) 0 2) false), (GDecision.mk (GProp.mk 0 ([98]) 1 3) true), (GDecision.mk (GProp.mk 0 ([100]) 2 3) false)]) r21 h22) BUL.h (by simp only [toV, toVL, okL, okC, cond_true] <;> rfl) (fun m => by simp [ren, renL]) (Gh.fz (tm' := [.isl false (List.map cGDecision r19), .isl false (List.map cGDecision ([(GDecision.mk (GProp.mk 0 ([99]) 0 2) false), (GDecision.mk (GProp.mk 0 ([98]) 1 3) true), (GDecision.mk (GProp.mk 0 ([100]) 2 3) false)]))]) (h' := [(12, .row [.int .i64 0] 3), (11, .row [.int .i64 0, .str ([97]), .int .i64 0, .int .i64 1, .int .i64 0, .str ([99]), .int .i64 0, .int .i64 2, .int .i64 0, .str ([98]), .int .i64 1, .int .i64 3, .int .i64 0, .str ([100]), .int .i64 2, .int .i64 3] 26), (8, .row [.int .i64 0, .str ([100]), .int .i64 2, .int .i64 3] 26), (7, .row [.int .i64 0, .str ([99]), .int .i64 0, .int .i64 2] 26), (6, .row [.int .i64 0, .str ([98]), .int .i64 1, .int .i64 3] 26), (5, .row [.int .i64 0, .str ([97]), .int .i64 0, .int .i64 1] 26), (3, .row [.int .i64 2, .str ([115]), .int .i64 0, .int .i64 3, .isl false (List.map cGDeriv ([r5, r7]))] 24), (1, .row [.int .i64 2, .str ([115]), .int .i64 0, .int .i64 3, .isl false (List.map cGDeriv ([r1, r3]))] 24)]) 10 (.row [.int .i64 0, .str ([99]), .int .i64 0, .int .i64 2, .bool false, .int .i64 0, .str ([98]), .int .i64 1, .int .i64 3, .bool true, .int .i64 0, .str ([100]), .int .i64 2, .int .i64 3, .bool false] 44) 5 rfl (by simp) (by simp only [oneU, fzL_nil, fzL_cons, fz_int, fz_bool, fz_str, fz_nils, fz_nilp, fz_nilm, fz_nilf, fz_junk, fz_isl, fz_map, fz_agg, fz_tup, fz_fn, junkT, fz_sl, fz_p0, Nat.reduceLeDiff, Nat.reduceMul, List.length_cons, List.length_nil, Nat.reduceAdd] <;> simp only [chunks, List.take, List.drop, List.map, cGDecision]) (by simp only [fzH, fzB, ug, Nat.beq, cond_true, cond_false, oneU, fzL_nil, fzL_cons, fz_int, fz_bool, fz_str, fz_nils, fz_nilp, fz_nilm, fz_nilf, fz_junk, fz_isl, fz_map, fz_agg, fz_tup, fz_fn, junkT, fz_sl, fz_p0, Nat.reduceLeDiff, Nat.reduceMul, List.length_cons, List.length_nil, Nat.reduceAdd] <;> simp only [chunks, List.take, List.drop, List.map, cGDecision]))) rfl rfl ?_
  refine RD.look (u := .bool r21) rfl (op_pick1 rfl h18 rfl) rfl rfl ?_
  refine RD.mv rfl rfl rfl rfl ?_
  refine RD.look (u := .agg [.int .i64 2, .str ([115]), .int .i64 0, .int .i64 3, .isl false (List.map cGDeriv ([r1, r3]))]) (want1 rfl rfl rfl h23) (ld_agg Try.und24 rfl (sz_of Try.inf24) rfl rfl rfl) rfl rfl ?_
  refine RD.look (u := .agg [.int .i64 3, .str [], .int .i64 0, .int .i64 3]) (want1 rfl rfl rfl h23) (op_bld Try.bd26 rfl rfl rfl) rfl rfl ?_
  refine RD.free (u := .bool r24) (args := [.agg [.int .i64 2, .str ([115]), .int .i64 0, .int .i64 3, .isl false (List.map cGDeriv ([r1, r3]))], .agg [.int .i64 3, .str [], .int .i64 0, .int .i64 3]]) (want1 rfl rfl rfl h23) (op_call rfl rfl Try.fn15 Try.hb15 rfl rfl) (fun s => disc_Holds_ok n (GDeriv.mk 2 ([115]) 0 3 ([r1, r3])) (GProp.mk 3 [] 0 3) r24 h25 s) rfl rfl ?_
  refine RD.look (u := .bool r24) rfl (op_pick1 rfl h23 rfl) rfl rfl ?_
  refine RD.mv rfl rfl rfl rfl ?_
  repeat refine RD.no (want0 rfl rfl rfl h26) rfl rfl ?_
  refine RD.look (u := .bool false) rfl (op_pick0 rfl h26 rfl) rfl rfl ?_
  refine RD.mv rfl rfl rfl rfl ?_
  repeat refine RD.no (want0 rfl rfl rfl rfl) rfl rfl ?_
  refine RD.look (u := .bool false) rfl (op_pick0 rfl rfl rfl) rfl rfl ?_
  refine RD.mv rfl rfl rfl rfl ?_
  repeat refine RD.no (want0 rfl rfl rfl rfl) rfl rfl ?_
  refine RD.look (u := .bool false) rfl (op_pick0 rfl rfl rfl) rfl rfl ?_
  refine RD.as rfl rfl rfl rfl ?_
  refine RD.done ⟨by kernel_rfl, ⟨op_move rfl, ⟨op_move rfl, ⟨op_move rfl, trivial⟩⟩⟩, ?_⟩
  repeat refine gq ?_
  exact ⟨_, _, ⟨rfl, rfl⟩, (Nat.zero_le _), Gh.toS (n1 := 12) ⟨rfl, trivial⟩ rfl (Nat.zero_le _) (by simp) (by simp only [BelS, BelL, Bel, true_and, and_true, and_assoc, Nat.reduceLT]) (by simp only [BelH, BelB, BelL, Bel, true_and, and_true, and_assoc, Nat.reduceLT]; exact ⟨belR_map _ (fun q => bel_cGDeriv _ q) _, belR_map _ (fun q => bel_cGDeriv _ q) _⟩)⟩
  replace h40 := cond_f h23 h40
  replace h40 := Option.some.inj h40
  subst h40
  refine WPU.drawE Try.tb_ok [(0, 6), (9, 12), (10, 12)] (by kernel_rfl) ?_
  refine RD.mv rfl rfl rfl rfl ?_
  refine RD.free (u := .isl false (List.map cGProp r9)) (args := [.isl false (List.map cGDeriv ([(GDeriv.mk 2 ([115]) 0 3 ([r1, r3])), (GDeriv.mk 2 ([115]) 0 3 ([r5, r7]))]))]) rfl (op_call rfl rfl Try.fn18 Try.hb18 rfl rfl) (fun s => disc_Discriminants_ok n ([(GDeriv.mk 2 ([115]) 0 3 ([r1, r3])), (GDeriv.mk 2 ([115]) 0 3 ([r5, r7]))]) r9 h10 s) rfl rfl ?_
  refine RD.look (u := .agg [.int .i64 0, .str ([97]), .int .i64 0, .int .i64 1]) rfl (ld_agg Try.und26 rfl (sz_of Try.inf26) rfl rfl rfl) rfl rfl ?_
  refine RD.look (u := .agg [.int .i64 0, .str ([99]), .int .i64 0, .int .i64 2]) rfl (ld_agg Try.und26 rfl (sz_of Try.inf26) rfl rfl rfl) rfl rfl ?_
  refine RD.look (u := .agg [.int .i64 0, .str ([98]), .int .i64 1, .int .i64 3]) rfl (ld_agg Try.und26 rfl (sz_of Try.inf26) rfl rfl rfl) rfl rfl ?_
  refine RD.look (u := .agg [.int .i64 0, .str ([100]), .int .i64 2, .int .i64 3]) rfl (ld_agg Try.und26 rfl (sz_of Try.inf26) rfl rfl rfl) rfl rfl ?_
  refine RD.act (u := .sl 11 0 4 4) (σ' := ⟨[(11, .row [.int .i64 0, .str ([97]), .int .i64 0, .int .i64 1, .int .i64 0, .str ([99]), .int .i64 0, .int .i64 2, .int .i64 0, .str ([98]), .int .i64 1, .int .i64 3, .int .i64 0, .str ([100]), .int .i64 2, .int .i64 3] 26), (10, .row [.int .i64 0, .str ([99]), .int .i64 0, .int .i64 2, .bool false, .int .i64 0, .str ([98]), .int .i64 1, .int .i64 3, .bool true, .int .i64 0, .str ([100]), .int .i64 2, .int .i64 3, .bool false] 44), (8, .row [.int .i64 0, .str ([100]), .int .i64 2, .int .i64 3] 26), (7, .row [.int .i64 0, .str ([99]), .int .i64 0, .int .i64 2] 26), (6, .row [.int .i64 0, .str ([98]), .int .i64 1, .int .i64 3] 26), (5, .row [.int .i64 0, .str ([97]), .int .i64 0, .int .i64 1] 26), (3, .row [.int .i64 2, .str ([115]), .int .i64 0, .int .i64 3, .isl false (List.map cGDeriv ([r5, r7]))] 24), (1, .row [.int .i64 2, .str ([115]), .int .i64 0, .int .i64 3, .isl false (List.map cGDeriv ([r1, r3]))] 24)], 12⟩) rfl (op_bsl Try.und30 Try.inf26 rfl rfl rfl rfl rfl rfl rfl) rfl rfl ?_
  refine RD.call (u := .bool r11) (args := [.isl false (List.map cGProp r9), .sl 11 0 4 4]) rfl (op_call rfl rfl Try.fn12 Try.hb12 rfl rfl) (EvU.view (ref45_SameProps_0 n r9 ([(GProp.mk 0 ([97]) 0 1), (GProp.mk 0 ([99]) 0 2), (GProp.mk 0 ([98]) 1 3), (GProp.mk 0 ([100]) 2 3)]) r11 h12) BUL.h (by simp only [toV, toVL, okL, okC, cond_true] <;> rfl) (fun m => by simp [ren, renL]) (Gh.fz (tm' := [.isl false (List.map cGProp r9), .isl false (List.map cGProp ([(GProp.mk 0 ([97]) 0 1), (GProp.mk 0 ([99]) 0 2), (GProp.mk 0 ([98]) 1 3), (GProp.mk 0 ([100]) 2 3)]))]) (h' := [(10, .row [.int .i64 0, .str ([99]), .int .i64 0, .int .i64 2, .bool false, .int .i64 0, .str ([98]), .int .i64 1, .int .i64 3, .bool true, .int .i64 0, .str ([100]), .int .i64 2, .int .i64 3, .bool false] 44), (8, .row [.int .i64 0, .str ([100]), .int .i64 2, .int .i64 3] 26), (7, .row [.int .i64 0, .str ([99]), .int .i64 0, .int .i64 2] 26), (6, .row [.int .i64 0, .str ([98]), .int .i64 1, .int .i64 3] 26), (5, .row [.int .i64 0, .str ([97]), .int .i64 0, .int .i64 1] 26), (3, .row [.int .i64 2, .str ([115]), .int .i64 0, .int .i64 3, .isl false (List.map cGDeriv ([r5, r7]))] 24), (1, .row [.int .i64 2, .str ([115]), .int .i64 0, .int .i64 3, .isl false (List.map cGDeriv ([r1, r3]))] 24)]) 11 (.row [.int .i64 0, .str ([97]), .int .i64 0, .int .i64 1, .int .i64 0, .str ([99]), .int .i64 0, .int .i64 2, .int .i64 0, .str ([98]), .int .i64 1, .int .i64 3, .int .i64 0, .str ([100]), .int .i64 2, .int .i64 3] 26) 4 rfl (by simp) (by simp only [oneU, fzL_nil, fzL_cons, fz_int, fz_bool, fz_str, fz_nils, fz_nilp, fz_nilm, fz_nilf, fz_junk, fz_isl, fz_map, fz_agg, fz_tup, fz_fn, junkT, fz_sl, fz_p0, Nat.reduceLeDiff, Nat.reduceMul, List.length_cons, List.length_nil, Nat.reduceAdd] <;> simp only [chunks, List.take, List.drop, List.map, cGProp]) (by simp only [fzH, fzB, ug, Nat.beq, cond_true, cond_false, oneU, fzL_nil, fzL_cons, fz_int, fz_bool, fz_str, fz_nils, fz_nilp, fz_nilm, fz_nilf, fz_junk, fz_isl, fz_map, fz_agg, fz_tup, fz_fn, junkT, fz_sl, fz_p0, Nat.reduceLeDiff, Nat.reduceMul, List.length_cons, List.length_nil, Nat.reduceAdd] <;> simp only [chunks, List.take, List.drop, List.map, cGProp]))) rfl rfl ?_
  refine RD.mv rfl rfl rfl rfl ?_
  refine RD.look (want1 rfl rfl rfl h13) (op_move rfl) rfl rfl ?_
  refine RD.look (want1 rfl rfl rfl h13) (op_move rfl) rfl rfl ?_
  refine RD.free (u := .isl false (List.map (cI .i64) r14)) (args := [.isl false (List.map cGDeriv ([(GDeriv.mk 2 ([115]) 0 3 ([r1, r3])), (GDeriv.mk 2 ([115]) 0 3 ([r5, r7]))])), .isl false (List.map cGDecision ([(GDecision.mk (GProp.mk 0 ([97]) 0 1) true)]))]) (want1 rfl rfl rfl h13) (op_call rfl rfl Try.fn21 Try.hb21 rfl rfl) (fun s => disc_Remaining_ok n ([(GDeriv.mk 2 ([115]) 0 3 ([r1, r3])), (GDeriv.mk 2 ([115]) 0 3 ([r5, r7]))]) ([(GDecision.mk (GProp.mk 0 ([97]) 0 1) true)]) r14 h15 s) rfl rfl ?_
  refine RD.act (u := .sl 12 0 1 1) (σ' := ⟨[(12, .row [.int .i64 0] 3), (11, .row [.int .i64 0, .str ([97]), .int .i64 0, .int .i64 1, .int .i64 0, .str ([99]), .int .i64 0, .int .i64 2, .int .i64 0, .str ([98]), .int .i64 1, .int .i64 3, .int .i64 0, .str ([100]), .int .i64 2, .int .i64 3] 26), (10, .row [.int .i64 0, .str ([99]), .int .i64 0, .int .i64 2, .bool false, .int .i64 0, .str ([98]), .int .i64 1, .int .i64 3, .bool true, .int .i64 0, .str ([100]), .int .i64 2, .int .i64 3, .bool false] 44), (8, .row [.int .i64 0, .str ([100]), .int .i64 2, .int .i64 3] 26), (7, .row [.int .i64 0, .str ([99]), .int .i64 0, .int .i64 2] 26), (6, .row [.int .i64 0, .str ([98]), .int .i64 1, .int .i64 3] 26), (5, .row [.int .i64 0, .str ([97]), .int .i64 0, .int .i64 1] 26), (3, .row [.int .i64 2, .str ([115]), .int .i64 0, .int .i64 3, .isl false (List.map cGDeriv ([r5, r7]))] 24), (1, .row [.int .i64 2, .str ([115]), .int .i64 0, .int .i64 3, .isl false (List.map cGDeriv ([r1, r3]))] 24)], 13⟩) (want1 rfl rfl rfl h13) (op_bsl Try.und38 Try.inf3 rfl rfl rfl rfl rfl rfl rfl) rfl rfl ?_
  refine RD.call (u := .bool r16) (args := [.isl false (List.map (cI .i64) r14), .sl 12 0 1 1]) (want1 rfl rfl rfl h13) (op_call rfl rfl Try.fn20 Try.hb20 rfl rfl) (EvU.view (ref45_SameNumbers_0 n r14 ([0]) r16 h17) BUL.h (by simp only [toV, toVL, okL, okC, cond_true] <;> rfl) (fun m => by simp [ren, renL]) (Gh.fz (tm' := [.isl false (List.map (cI .i64) r14), .isl false (List.map (cI .i64) ([0]))]) (h' := [(11, .row [.int .i64 0, .str ([97]), .int .i64 0, .int .i64 1, .int .i64 0, .str ([99]), .int .i64 0, .int .i64 2, .int .i64 0, .str ([98]), .int .i64 1, .int .i64 3, .int .i64 0, .str ([100]), .int .i64 2, .int .i64 3] 26), (10, .row [.int .i64 0, .str ([99]), .int .i64 0, .int .i64 2, .bool false, .int .i64 0, .str ([98]), .int .i64 1, .int .i64 3, .bool true, .int .i64 0, .str ([100]), .int .i64 2, .int .i64 3, .bool false] 44), (8, .row [.int .i64 0, .str ([100]), .int .i64 2, .int .i64 3] 26), (7, .row [.int .i64 0, .str ([99]), .int .i64 0, .int .i64 2] 26), (6, .row [.int .i64 0, .str ([98]), .int .i64 1, .int .i64 3] 26), (5, .row [.int .i64 0, .str ([97]), .int .i64 0, .int .i64 1] 26), (3, .row [.int .i64 2, .str ([115]), .int .i64 0, .int .i64 3, .isl false (List.map cGDeriv ([r5, r7]))] 24), (1, .row [.int .i64 2, .str ([115]), .int .i64 0, .int .i64 3, .isl false (List.map cGDeriv ([r1, r3]))] 24)]) 12 (.row [.int .i64 0] 3) 1 rfl (by simp) (by simp only [oneU, fzL_nil, fzL_cons, fz_int, fz_bool, fz_str, fz_nils, fz_nilp, fz_nilm, fz_nilf, fz_junk, fz_isl, fz_map, fz_agg, fz_tup, fz_fn, junkT, fz_sl, fz_p0, Nat.reduceLeDiff, Nat.reduceMul, List.length_cons, List.length_nil, Nat.reduceAdd] <;> simp only [chunks, List.take, List.drop, List.map, cI, cB, cS, cL]) (by simp only [fzH, fzB, ug, Nat.beq, cond_true, cond_false, oneU, fzL_nil, fzL_cons, fz_int, fz_bool, fz_str, fz_nils, fz_nilp, fz_nilm, fz_nilf, fz_junk, fz_isl, fz_map, fz_agg, fz_tup, fz_fn, junkT, fz_sl, fz_p0, Nat.reduceLeDiff, Nat.reduceMul, List.length_cons, List.length_nil, Nat.reduceAdd] <;> simp only [chunks, List.take, List.drop, List.map, cI, cB, cS, cL]))) rfl rfl ?_
  refine RD.look (u := .bool r16) rfl (op_pick1 rfl h13 rfl) rfl rfl ?_
  refine RD.mv rfl rfl rfl rfl ?_
  refine RD.look (want1 rfl rfl rfl h18) (op_move rfl) rfl rfl ?_
  refine RD.look (want1 rfl rfl rfl h18) (op_move rfl) rfl rfl ?_
  refine RD.free (u := .isl false (List.map cGDecision r19)) (args := [.isl false (List.map cGDeriv ([(GDeriv.mk 2 ([115]) 0 3 ([r1, r3])), (GDeriv.mk 2 ([115]) 0 3 ([r5, r7]))])), .isl false (List.map cGDecision ([(GDecision.mk (GProp.mk 0 ([97]) 0 1) true)]))]) (want1 rfl rfl rfl h18) (op_call rfl rfl Try.fn24 Try.hb24 rfl rfl) (fun s => disc_Implied_ok n ([(GDeriv.mk 2 ([115]) 0 3 ([r1, r3])), (GDeriv.mk 2 ([115]) 0 3 ([r5, r7]))]) ([(GDecision.mk (GProp.mk 0 ([97]) 0 1) true)]) r19 h20 s) rfl rfl ?_
  refine RD.look (want1 rfl rfl rfl h18) (op_move rfl) rfl rfl ?_
  refine RD.call (u := .bool r21) (args := [.isl false (List.map cGDecision r19), .sl 10 0 3 3]) (want1 rfl rfl rfl h18) (op_call rfl rfl Try.fn23 Try.hb23 rfl rfl) (EvU.view (ref45_SameDecisions_0 n r19 ([(GDecision.mk (GProp.mk 0 ([99]) 0 2) false), (GDecision.mk (GProp.mk 0 ([98]) 1 3) true), (GDecision.mk (GProp.mk 0 ([100]) 2 3) false)]) r21 h22) BUL.h (by simp only [toV, toVL, okL, okC, cond_true] <;> rfl) (fun m => by simp [ren, renL]) (Gh.fz (tm' := [.isl false (List.map cGDecision r19), .isl false (List.map cGDecision ([(GDecision.mk (GProp.mk 0 ([99]) 0 2) false), (GDecision.mk (GProp.mk 0 ([98]) 1 3) true), (GDecision.mk (GProp.mk 0 ([100]) 2 3) false)]))]) (h' := [(12, .row [.int .i64 0] 3), (11, .row [.int .i64 0, .str ([97]), .int .i64 0, .int .i64 1, .int .i64 0, .str ([99]), .int .i64 0, .int .i64 2, .int .i64 0, .str ([98]), .int .i64 1, .int .i64 3, .int .i64 0, .str ([100]), .int .i64 2, .int .i64 3] 26), (8, .row [.int .i64 0, .str ([100]), .int .i64 2, .int .i64 3] 26), (7, .row [.int .i64 0, .str ([99]), .int .i64 0, .int .i64 2] 26), (6, .row [.int .i64 0, .str ([98]), .int .i64 1, .int .i64 3] 26), (5, .row [.int .i64 0, .str ([97]), .int .i64 0, .int .i64 1] 26), (3, .row [.int .i64 2, .str ([115]), .int .i64 0, .int .i64 3, .isl false (List.map cGDeriv ([r5, r7]))] 24), (1, .row [.int .i64 2, .str ([115]), .int .i64 0, .int .i64 3, .isl false (List.map cGDeriv ([r1, r3]))] 24)]) 10 (.row [.int .i64 0, .str ([99]), .int .i64 0, .int .i64 2, .bool false, .int .i64 0, .str ([98]), .int .i64 1, .int .i64 3, .bool true, .int .i64 0, .str ([100]), .int .i64 2, .int .i64 3, .bool false] 44) 5 rfl (by simp) (by simp only [oneU, fzL_nil, fzL_cons, fz_int, fz_bool, fz_str, fz_nils, fz_nilp, fz_nilm, fz_nilf, fz_junk, fz_isl, fz_map, fz_agg, fz_tup, fz_fn, junkT, fz_sl, fz_p0, Nat.reduceLeDiff, Nat.reduceMul, List.length_cons, List.length_nil, Nat.reduceAdd] <;> simp only [chunks, List.take, List.drop, List.map, cGDecision]) (by simp only [fzH, fzB, ug, Nat.beq, cond_true, cond_false, oneU, fzL_nil, fzL_cons, fz_int, fz_bool, fz_str, fz_nils, fz_nilp, fz_nilm, fz_nilf, fz_junk, fz_isl, fz_map, fz_agg, fz_tup, fz_fn, junkT, fz_sl, fz_p0, Nat.reduceLeDiff, Nat.reduceMul, List.length_cons, List.length_nil, Nat.reduceAdd] <;> simp only [chunks, List.take, List.drop, List.map, cGDecision]))) rfl rfl ?_
  refine RD.look (u := .bool r21) rfl (op_pick1 rfl h18 rfl) rfl rfl ?_
  refine RD.mv rfl rfl rfl rfl ?_
  repeat refine RD.no (want0 rfl rfl rfl h23) rfl rfl ?_
  refine RD.look (u := .bool false) rfl (op_pick0 rfl h23 rfl) rfl rfl ?_
  refine RD.mv rfl rfl rfl rfl ?_
  repeat refine RD.no (want0 rfl rfl rfl rfl) rfl rfl ?_
  refine RD.look (u := .bool false) rfl (op_pick0 rfl rfl rfl) rfl rfl ?_
  refine RD.mv rfl rfl rfl rfl ?_
  repeat refine RD.no (want0 rfl rfl rfl rfl) rfl rfl ?_
  refine RD.look (u := .bool false) rfl (op_pick0 rfl rfl rfl) rfl rfl ?_
  refine RD.mv rfl rfl rfl rfl ?_
  repeat refine RD.no (want0 rfl rfl rfl rfl) rfl rfl ?_
  refine RD.look (u := .bool false) rfl (op_pick0 rfl rfl rfl) rfl rfl ?_
  refine RD.as rfl rfl rfl rfl ?_
  refine RD.done ⟨by kernel_rfl, ⟨op_move rfl, ⟨op_move rfl, ⟨op_move rfl, trivial⟩⟩⟩, ?_⟩
  repeat refine gq ?_
  exact ⟨_, _, ⟨rfl, rfl⟩, (Nat.zero_le _), Gh.toS (n1 := 12) ⟨rfl, trivial⟩ rfl (Nat.zero_le _) (by simp) (by simp only [BelS, BelL, Bel, true_and, and_true, and_assoc, Nat.reduceLT]) (by simp only [BelH, BelB, BelL, Bel, true_and, and_true, and_assoc, Nat.reduceLT]; exact ⟨belR_map _ (fun q => bel_cGDeriv _ q) _, belR_map _ (fun q => bel_cGDeriv _ q) _⟩)⟩
  replace h40 := cond_f h18 h40
  replace h40 := Option.some.inj h40
  subst h40
  refine WPU.drawE Try.tb_ok [(0, 6), (9, 12), (10, 12)] (by kernel_rfl) ?_
  refine RD.mv rfl rfl rfl rfl ?_
  refine RD.free (u := .isl false (List.map cGProp r9)) (args := [.isl false (List.map cGDeriv ([(GDeriv.mk 2 ([115]) 0 3 ([r1, r3])), (GDeriv.mk 2 ([115]) 0 3 ([r5, r7]))]))]) rfl (op_call rfl rfl Try.fn18 Try.hb18 rfl rfl) (fun s => disc_Discriminants_ok n ([(GDeriv.mk 2 ([115]) 0 3 ([r1, r3])), (GDeriv.mk 2 ([115]) 0 3 ([r5, r7]))]) r9 h10 s) rfl rfl ?_
  refine RD.look (u := .agg [.int .i64 0, .str ([97]), .int .i64 0, .int .i64 1]) rfl (ld_agg Try.und26 rfl (sz_of Try.inf26) rfl rfl rfl) rfl rfl ?_
  refine RD.look (u := .agg [.int .i64 0, .str ([99]), .int .i64 0, .int .i64 2]) rfl (ld_agg Try.und26 rfl (sz_of Try.inf26) rfl rfl rfl) rfl rfl ?_
  refine RD.look (u := .agg [.int .i64 0, .str ([98]), .int .i64 1, .int .i64 3]) rfl (ld_agg Try.und26 rfl (sz_of Try.inf26) rfl rfl rfl) rfl rfl ?_
  refine RD.look (u := .agg [.int .i64 0, .str ([100]), .int .i64 2, .int .i64 3]) rfl (ld_agg Try.und26 rfl (sz_of Try.inf26) rfl rfl rfl) rfl rfl ?_
  refine RD.act (u := .sl 11 0 4 4) (σ' := ⟨[(11, .row [.int .i64 0, .str ([97]), .int .i64 0, .int .i64 1, .int .i64 0, .str ([99]), .int .i64 0, .int .i64 2, .int .i64 0, .str ([98]), .int .i64 1, .int .i64 3, .int .i64 0, .str ([100]), .int .i64 2, .int .i64 3] 26), (10, .row [.int .i64 0, .str ([99]), .int .i64 0, .int .i64 2, .bool false, .int .i64 0, .str ([98]), .int .i64 1, .int .i64 3, .bool true, .int .i64 0, .str ([100]), .int .i64 2, .int .i64 3, .bool false] 44), (8, .row [.int .i64 0, .str ([100]), .int .i64 2, .int .i64 3] 26), (7, .row [.int .i64 0, .str ([99]), .int .i64 0, .int .i64 2] 26), (6, .row [.int .i64 0, .str ([98]), .int .i64 1, .int .i64 3] 26), (5, .row [.int .i64 0, .str ([97]), .int .i64 0, .int .i64 1] 26), (3, .row [.int .i64 2, .str ([115]), .int .i64 0, .int .i64 3, .isl false (List.map cGDeriv ([r5, r7]))] 24), (1, .row [.int .i64 2, .str ([115]), .int .i64 0, .int .i64 3, .isl false (List.map cGDeriv ([r1, r3]))] 24)], 12⟩) rfl (op_bsl Try.und30 Try.inf26 rfl rfl rfl rfl rfl rfl rfl) rfl rfl ?_
  refine RD.call (u := .bool r11) (args := [.isl false (List.map cGProp r9), .sl 11 0 4 4]) rfl (op_call rfl rfl Try.fn12 Try.hb12 rfl rfl) (EvU.view (ref45_SameProps_0 n r9 ([(GProp.mk 0 ([97]) 0 1), (GProp.mk 0 ([99]) 0 2), (GProp.mk 0 ([98]) 1 3), (GProp.mk 0 ([100]) 2 3)]) r11 h12) BUL.h (by simp only [toV, toVL, okL, okC, cond_true] <;> rfl) (fun m => by simp [ren, renL]) (Gh.fz (tm' := [.isl false (List.map cGProp r9), .isl false (List.map cGProp ([(GProp.mk 0 ([97]) 0 1), (GProp.mk 0 ([99]) 0 2), (GProp.mk 0 ([98]) 1 3), (GProp.mk 0 ([100]) 2 3)]))]) (h' := [(10, .row [.int .i64 0, .str ([99]), .int .i64 0, .int .i64 2, .bool false, .int .i64 0, .str ([98]), .int .i64 1, .int .i64 3, .bool true, .int .i64 0, .str ([100]), .int .i64 2, .int .i64 3, .bool false] 44), (8, .row [.int .i64 0, .str ([100]), .int .i64 2, .int .i64 3] 26), (7, .row [.int .i64 0, .str ([99]), .int .i64 0, .int .i64 2] 26), (6, .row [.int .i64 0, .str ([98]), .int .i64 1, .int .i64 3] 26), (5, .row [.int .i64 0, .str ([97]), .int .i64 0, .int .i64 1] 26), (3, .row [.int .i64 2, .str ([115]), .int .i64 0, .int .i64 3, .isl false (List.map cGDeriv ([r5, r7]))] 24), (1, .row [.int .i64 2, .str ([115]), .int .i64 0, .int .i64 3, .isl false (List.map cGDeriv ([r1, r3]))] 24)]) 11 (.row [.int .i64 0, .str ([97]), .int .i64 0, .int .i64 1, .int .i64 0, .str ([99]), .int .i64 0, .int .i64 2, .int .i64 0, .str ([98]), .int .i64 1, .int .i64 3, .int .i64 0, .str ([100]), .int .i64 2, .int .i64 3] 26) 4 rfl (by simp) (by simp only [oneU, fzL_nil, fzL_cons, fz_int, fz_bool, fz_str, fz_nils, fz_nilp, fz_nilm, fz_nilf, fz_junk, fz_isl, fz_map, fz_agg, fz_tup, fz_fn, junkT, fz_sl, fz_p0, Nat.reduceLeDiff, Nat.reduceMul, List.length_cons, List.length_nil, Nat.reduceAdd] <;> simp only [chunks, List.take, List.drop, List.map, cGProp]) (by simp only [fzH, fzB, ug, Nat.beq, cond_true, cond_false, oneU, fzL_nil, fzL_cons, fz_int, fz_bool, fz_str, fz_nils, fz_nilp, fz_nilm, fz_nilf, fz_junk, fz_isl, fz_map, fz_agg, fz_tup, fz_fn, junkT, fz_sl, fz_p0, Nat.reduceLeDiff, Nat.reduceMul, List.length_cons, List.length_nil, Nat.reduceAdd] <;> simp only [chunks, List.take, List.drop, List.map, cGProp]))) rfl rfl ?_
  refine RD.mv rfl rfl rfl rfl ?_
  refine RD.look (want1 rfl rfl rfl h13) (op_move rfl) rfl rfl ?_
  refine RD.look (want1 rfl rfl rfl h13) (op_move rfl) rfl rfl ?_
  refine RD.free (u := .isl false (List.map (cI .i64) r14)) (args := [.isl false (List.map cGDeriv ([(GDeriv.mk 2 ([115]) 0 3 ([r1, r3])), (GDeriv.mk 2 ([115]) 0 3 ([r5, r7]))])), .isl false (List.map cGDecision ([(GDecision.mk (GProp.mk 0 ([97]) 0 1) true)]))]) (want1 rfl rfl rfl h13) (op_call rfl rfl Try.fn21 Try.hb21 rfl rfl) (fun s => disc_Remaining_ok n ([(GDeriv.mk 2 ([115]) 0 3 ([r1, r3])), (GDeriv.mk 2 ([115]) 0 3 ([r5, r7]))]) ([(GDecision.mk (GProp.mk 0 ([97]) 0 1) true)]) r14 h15 s) rfl rfl ?_
  refine RD.act (u := .sl 12 0 1 1) (σ' := ⟨[(12, .row [.int .i64 0] 3), (11, .row [.int .i64 0, .str ([97]), .int .i64 0, .int .i64 1, .int .i64 0, .str ([99]), .int .i64 0, .int .i64 2, .int .i64 0, .str ([98]), .int .i64 1, .int .i64 3, .int .i64 0, .str ([100]), .int .i64 2, .int .i64 3] 26), (10, .row [.int .i64 0, .str ([99]), .int .i64 0, .int .i64 2, .bool false, .int .i64 0, .str ([98]), .int .i64 1, .int .i64 3, .bool true, .int .i64 0, .str ([100]), .int .i64 2, .int .i64 3, .bool false] 44), (8, .row [.int .i64 0, .str ([100]), .int .i64 2, .int .i64 3] 26), (7, .row [.int .i64 0, .str ([99]), .int .i64 0, .int .i64 2] 26), (6, .row [.int .i64 0, .str ([98]), .int .i64 1, .int .i64 3] 26), (5, .row [.int .i64 0, .str ([97]), .int .i64 0, .int .i64 1] 26), (3, .row [.int .i64 2, .str ([115]), .int .i64 0, .int .i64 3, .isl false (List.map cGDeriv ([r5, r7]))] 24), (1, .row [.int .i64 2, .str ([115]), .int .i64 0, .int .i64 3, .isl false (List.map cGDeriv ([r1, r3]))] 24)], 13⟩) (want1 rfl rfl rfl h13) (op_bsl Try.und38 Try.inf3 rfl rfl rfl rfl rfl rfl rfl) rfl rfl ?_
  refine RD.call (u := .bool r16) (args := [.isl false (List.map (cI .i64) r14), .sl 12 0 1 1]) (want1 rfl rfl rfl h13) (op_call rfl rfl Try.fn20 Try.hb20 rfl rfl) (EvU.view (ref45_SameNumbers_0 n r14 ([0]) r16 h17) BUL.h (by simp only [toV, toVL, okL, okC, cond_true] <;> rfl) (fun m => by simp [ren, renL]) (Gh.fz (tm' := [.isl false (List.map (cI .i64) r14), .isl false (List.map (cI .i64) ([0]))]) (h' := [(11, .row [.int .i64 0, .str ([97]), .int .i64 0, .int .i64 1, .int .i64 0, .str ([99]), .int .i64 0, .int .i64 2, .int .i64 0, .str ([98]), .int .i64 1, .int .i64 3, .int .i64 0, .str ([100]), .int .i64 2, .int .i64 3] 26), (10, .row [.int .i64 0, .str ([99]), .int .i64 0, .int .i64 2, .bool false, .int .i64 0, .str ([98]), .int .i64 1, .int .i64 3, .bool true, .int .i64 0, .str ([100]), .int .i64 2, .int .i64 3, .bool false] 44), (8, .row [.int .i64 0, .str ([100]), .int .i64 2, .int .i64 3] 26), (7, .row [.int .i64 0, .str ([99]), .int .i64 0, .int .i64 2] 26), (6, .row [.int .i64 0, .str ([98]), .int .i64 1, .int .i64 3] 26), (5, .row [.int .i64 0, .str ([97]), .int .i64 0, .int .i64 1] 26), (3, .row [.int .i64 2, .str ([115]), .int .i64 0, .int .i64 3, .isl false (List.map cGDeriv ([r5, r7]))] 24), (1, .row [.int .i64 2, .str ([115]), .int .i64 0, .int .i64 3, .isl false (List.map cGDeriv ([r1, r3]))] 24)]) 12 (.row [.int .i64 0] 3) 1 rfl (by simp) (by simp only [oneU, fzL_nil, fzL_cons, fz_int, fz_bool, fz_str, fz_nils, fz_nilp, fz_nilm, fz_nilf, fz_junk, fz_isl, fz_map, fz_agg, fz_tup, fz_fn, junkT, fz_sl, fz_p0, Nat.reduceLeDiff, Nat.reduceMul, List.length_cons, List.length_nil, Nat.reduceAdd] <;> simp only [chunks, List.take, List.drop, List.map, cI, cB, cS, cL]) (by simp only [fzH, fzB, ug, Nat.beq, cond_true, cond_false, oneU, fzL_nil, fzL_cons, fz_int, fz_bool, fz_str, fz_nils, fz_nilp, fz_nilm, fz_nilf, fz_junk, fz_isl, fz_map, fz_agg, fz_tup, fz_fn, junkT, fz_sl, fz_p0, Nat.reduceLeDiff, Nat.reduceMul, List.length_cons, List.length_nil, Nat.reduceAdd] <;> simp only [chunks, List.take, List.drop, List.map, cI, cB, cS, cL]))) rfl rfl ?_
  refine RD.look (u := .bool r16) rfl (op_pick1 rfl h13 rfl) rfl rfl ?_
  refine RD.mv rfl rfl rfl rfl ?_
  repeat refine RD.no (want0 rfl rfl rfl h18) rfl rfl ?_
  refine RD.look (u := .bool false) rfl (op_pick0 rfl h18 rfl) rfl rfl ?_
  refine RD.mv rfl rfl rfl rfl ?_
  repeat refine RD.no (want0 rfl rfl rfl rfl) rfl rfl ?_
  refine RD.look (u := .bool false) rfl (op_pick0 rfl rfl rfl) rfl rfl ?_
  refine RD.mv rfl rfl rfl rfl ?_
  repeat refine RD.no (want0 rfl rfl rfl rfl) rfl rfl ?_
  refine RD.look (u := .bool false) rfl (op_pick0 rfl rfl rfl) rfl rfl ?_
  refine RD.mv rfl rfl rfl rfl ?_
  repeat refine RD.no (want0 rfl rfl rfl rfl) rfl rfl ?_
  refine RD.look (u := .bool false) rfl (op_pick0 rfl rfl rfl) rfl rfl ?_
  refine RD.mv rfl rfl rfl rfl ?_
  repeat refine RD.no (want0 rfl rfl rfl rfl) rfl rfl ?_
  refine RD.look (u := .bool false) rfl (op_pick0 rfl rfl rfl) rfl rfl ?_
  refine RD.as rfl rfl rfl rfl ?_
  refine RD.done ⟨by kernel_rfl, ⟨op_move rfl, ⟨op_move rfl, ⟨op_move rfl, trivial⟩⟩⟩, ?_⟩
  repeat refine gq ?_
  exact ⟨_, _, ⟨rfl, rfl⟩, (Nat.zero_le _), Gh.toS (n1 := 12) ⟨rfl, trivial⟩ rfl (Nat.zero_le _) (by simp) (by simp only [BelS, BelL, Bel, true_and, and_true, and_assoc, Nat.reduceLT]) (by simp only [BelH, BelB, BelL, Bel, true_and, and_true, and_assoc, Nat.reduceLT]; exact ⟨belR_map _ (fun q => bel_cGDeriv _ q) _, belR_map _ (fun q => bel_cGDeriv _ q) _⟩)⟩
  replace h40 := cond_f h13 h40
  replace h40 := Option.some.inj h40
  subst h40
  refine WPU.drawE Try.tb_ok [(0, 6)] (by kernel_rfl) ?_
  refine RD.mv rfl rfl rfl rfl ?_
  refine RD.free (u := .isl false (List.map cGProp r9)) (args := [.isl false (List.map cGDeriv ([(GDeriv.mk 2 ([115]) 0 3 ([r1, r3])), (GDeriv.mk 2 ([115]) 0 3 ([r5, r7]))]))]) rfl (op_call rfl rfl Try.fn18 Try.hb18 rfl rfl) (fun s => disc_Discriminants_ok n ([(GDeriv.mk 2 ([115]) 0 3 ([r1, r3])), (GDeriv.mk 2 ([115]) 0 3 ([r5, r7]))]) r9 h10 s) rfl rfl ?_
  refine RD.look (u := .agg [.int .i64 0, .str ([97]), .int .i64 0, .int .i64 1]) rfl (ld_agg Try.und26 rfl (sz_of Try.inf26) rfl rfl rfl) rfl rfl ?_
  refine RD.look (u := .agg [.int .i64 0, .str ([99]), .int .i64 0, .int .i64 2]) rfl (ld_agg Try.und26 rfl (sz_of Try.inf26) rfl rfl rfl) rfl rfl ?_
  refine RD.look (u := .agg [.int .i64 0, .str ([98]), .int .i64 1, .int .i64 3]) rfl (ld_agg Try.und26 rfl (sz_of Try.inf26) rfl rfl rfl) rfl rfl ?_
  refine RD.look (u := .agg [.int .i64 0, .str ([100]), .int .i64 2, .int .i64 3]) rfl (ld_agg Try.und26 rfl (sz_of Try.inf26) rfl rfl rfl) rfl rfl ?_
  refine RD.act (u := .sl 11 0 4 4) (σ' := ⟨[(11, .row [.int .i64 0, .str ([97]), .int .i64 0, .int .i64 1, .int .i64 0, .str ([99]), .int .i64 0, .int .i64 2, .int .i64 0, .str ([98]), .int .i64 1, .int .i64 3, .int .i64 0, .str ([100]), .int .i64 2, .int .i64 3] 26), (10, .row [.int .i64 0, .str ([99]), .int .i64 0, .int .i64 2, .bool false, .int .i64 0, .str ([98]), .int .i64 1, .int .i64 3, .bool true, .int .i64 0, .str ([100]), .int .i64 2, .int .i64 3, .bool false] 44), (8, .row [.int .i64 0, .str ([100]), .int .i64 2, .int .i64 3] 26), (7, .row [.int .i64 0, .str ([99]), .int .i64 0, .int .i64 2] 26), (6, .row [.int .i64 0, .str ([98]), .int .i64 1, .int .i64 3] 26), (5, .row [.int .i64 0, .str ([97]), .int .i64 0, .int .i64 1] 26), (3, .row [.int .i64 2, .str ([115]), .int .i64 0, .int .i64 3, .isl false (List.map cGDeriv ([r5, r7]))] 24), (1, .row [.int .i64 2, .str ([115]), .int .i64 0, .int .i64 3, .isl false (List.map cGDeriv ([r1, r3]))] 24)], 12⟩) rfl (op_bsl Try.und30 Try.inf26 rfl rfl rfl rfl rfl rfl rfl) rfl rfl ?_
  refine RD.call (u := .bool r11) (args := [.isl false (List.map cGProp r9), .sl 11 0 4 4]) rfl (op_call rfl rfl Try.fn12 Try.hb12 rfl rfl) (EvU.view (ref45_SameProps_0 n r9 ([(GProp.mk 0 ([97]) 0 1), (GProp.mk 0 ([99]) 0 2), (GProp.mk 0 ([98]) 1 3), (GProp.mk 0 ([100]) 2 3)]) r11 h12) BUL.h (by simp only [toV, toVL, okL, okC, cond_true] <;> rfl) (fun m => by simp [ren, renL]) (Gh.fz (tm' := [.isl false (List.map cGProp r9), .isl false (List.map cGProp ([(GProp.mk 0 ([97]) 0 1), (GProp.mk 0 ([99]) 0 2), (GProp.mk 0 ([98]) 1 3), (GProp.mk 0 ([100]) 2 3)]))]) (h' := [(10, .row [.int .i64 0, .str ([99]), .int .i64 0, .int .i64 2, .bool false, .int .i64 0, .str ([98]), .int .i64 1, .int .i64 3, .bool true, .int .i64 0, .str ([100]), .int .i64 2, .int .i64 3, .bool false] 44), (8, .row [.int .i64 0, .str ([100]), .int .i64 2, .int .i64 3] 26), (7, .row [.int .i64 0, .str ([99]), .int .i64 0, .int .i64 2] 26), (6, .row [.int .i64 0, .str ([98]), .int .i64 1, .int .i64 3] 26), (5, .row [.int .i64 0, .str ([97]), .int .i64 0, .int .i64 1] 26), (3, .row [.int .i64 2, .str ([115]), .int .i64 0, .int .i64 3, .isl false (List.map cGDeriv ([r5, r7]))] 24), (1, .row [.int .i64 2, .str ([115]), .int .i64 0, .int .i64 3, .isl false (List.map cGDeriv ([r1, r3]))] 24)]) 11 (.row [.int .i64 0, .str ([97]), .int .i64 0, .int .i64 1, .int .i64 0, .str ([99]), .int .i64 0, .int .i64 2, .int .i64 0, .str ([98]), .int .i64 1, .int .i64 3, .int .i64 0, .str ([100]), .int .i64 2, .int .i64 3] 26) 4 rfl (by simp) (by simp only [oneU, fzL_nil, fzL_cons, fz_int, fz_bool, fz_str, fz_nils, fz_nilp, fz_nilm, fz_nilf, fz_junk, fz_isl, fz_map, fz_agg, fz_tup, fz_fn, junkT, fz_sl, fz_p0, Nat.reduceLeDiff, Nat.reduceMul, List.length_cons, List.length_nil, Nat.reduceAdd] <;> simp only [chunks, List.take, List.drop, List.map, cGProp]) (by simp only [fzH, fzB, ug, Nat.beq, cond_true, cond_false, oneU, fzL_nil, fzL_cons, fz_int, fz_bool, fz_str, fz_nils, fz_nilp, fz_nilm, fz_nilf, fz_junk, fz_isl, fz_map, fz_agg, fz_tup, fz_fn, junkT, fz_sl, fz_p0, Nat.reduceLeDiff, Nat.reduceMul, List.length_cons, List.length_nil, Nat.reduceAdd] <;> simp only [chunks, List.take, List.drop, List.map, cGProp]))) rfl rfl ?_
  refine RD.mv rfl rfl rfl rfl ?_
  repeat refine RD.no (want0 rfl rfl rfl h13) rfl rfl ?_
  refine RD.look (u := .bool false) rfl (op_pick0 rfl h13 rfl) rfl rfl ?_
  refine RD.mv rfl rfl rfl rfl ?_
  repeat refine RD.no (want0 rfl rfl rfl rfl) rfl rfl ?_
  refine RD.look (u := .bool false) rfl (op_pick0 rfl rfl rfl) rfl rfl ?_
  refine RD.mv rfl rfl rfl rfl ?_
  repeat refine RD.no (want0 rfl rfl rfl rfl) rfl rfl ?_
  refine RD.look (u := .bool false) rfl (op_pick0 rfl rfl rfl) rfl rfl ?_
  refine RD.mv rfl rfl rfl rfl ?_
  repeat refine RD.no (want0 rfl rfl rfl rfl) rfl rfl ?_
  refine RD.look (u := .bool false) rfl (op_pick0 rfl rfl rfl) rfl rfl ?_
  refine RD.mv rfl rfl rfl rfl ?_
  repeat refine RD.no (want0 rfl rfl rfl rfl) rfl rfl ?_
  refine RD.look (u := .bool false) rfl (op_pick0 rfl rfl rfl) rfl rfl ?_
  refine RD.mv rfl rfl rfl rfl ?_
  repeat refine RD.no (want0 rfl rfl rfl rfl) rfl rfl ?_
  refine RD.look (u := .bool false) rfl (op_pick0 rfl rfl rfl) rfl rfl ?_
  refine RD.as rfl rfl rfl rfl ?_
  refine RD.done ⟨by kernel_rfl, ⟨op_move rfl, trivial⟩, ?_⟩
  repeat refine gq ?_
  exact ⟨_, _, ⟨rfl, rfl⟩, (Nat.zero_le _), Gh.toS (n1 := 12) ⟨rfl, trivial⟩ rfl (Nat.zero_le _) (by simp) (by simp only [BelS, BelL, Bel, true_and, and_true, and_assoc, Nat.reduceLT]) (by simp only [BelH, BelB, BelL, Bel, true_and, and_true, and_assoc, Nat.reduceLT]; exact ⟨belR_map _ (fun q => bel_cGDeriv _ q) _, belR_map _ (fun q => bel_cGDeriv _ q) _⟩)⟩
theorem law45_exampleHolds_ok (n : Nat)  (r : Bool) (hF : law45_exampleHolds n  = some r) (σ : Sg) : EvU Try.prog 11 [] σ (fun u σ' => u = .bool r ∧ σ' = σ) :=
  EvU.pure1C (law45_exampleHolds_0 n  r hF) σ
end Go.Proofs
end
