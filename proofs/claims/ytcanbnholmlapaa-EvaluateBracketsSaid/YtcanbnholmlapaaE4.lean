import Derived.Test.YtcanbnholmlapaaE4a
namespace Go.Proofs
open Go Go.Rx Go.Vx
set_option maxRecDepth 10000
set_option linter.unusedSimpArgs false
set_option linter.unusedVariables false

-- 13 grammarlab/evaluate.Brackets
def evaluate_Brackets (n : Nat) (p1 : GDeriv) : Option ((List GBracket)) :=
  bindO (evaluate_gather n ([] : List GBracket) p1) fun r2 =>
  needO (r2.length < 4611686018427387904) (
  some (srtB r2))
theorem evaluate_Brackets_0 (n : Nat) (p1 : GDeriv) (r : (List GBracket)) (hF : evaluate_Brackets n p1 = some r) : EvU Try.prog 13 [.agg [.int .i64 p1.Kind, .str p1.Name, .int .i64 p1.From, .int .i64 p1.To, .isl false (List.map cGDeriv p1.Kids)]] ⟨[], 0⟩ (fun u _ => u = .isl false (List.map cGBracket r) ∧ Bel 0 u) := by
  unfold evaluate_Brackets at hF
  refine EvU.of_body Try.tb_ok Try.fn13 rfl ?_
  refine WPU.ghost (tm' := fr 9 [(0, .agg [.int .i64 p1.Kind, .str p1.Name, .int .i64 p1.From, .int .i64 p1.To, .isl false (List.map cGDeriv p1.Kids)])]) (Gh.start (Nat.le_of_ble_eq_true rfl)) (Nat.zero_le _) ?_
  repeat refine WPU.seq ?_
  refine WPU.region Try.tb_ok ?_
  refine RS.op (u := .ptr 0 0 0) (σ' := ⟨[(0, .row [.int .i64 p1.Kind, .str p1.Name, .int .i64 p1.From, .int .i64 p1.To, .isl false (List.map cGDeriv p1.Kids)] 24)], 1⟩) rfl (op_box rfl rfl rfl) rfl rfl ?_
  refine RS.op (u := .nils) rfl (op_assign rfl) rfl rfl ?_
  refine RS.done ?_
  repeat (first | refine q1 ?_ | refine q2 ?_ | refine q3 ?_ | refine q4 ?_ | refine q5 ?_ | refine q6 ?_ | refine q7 (by decide) ?_ | refine q8 ?_ | refine q9 ?_ | refine q0 ?_)
  repeat refine WPU.seq ?_
  obtain ⟨r2, h3, hF⟩ := bindO_some hF
  refine WPU.region Try.tb_ok ?_
  refine RS.op (u := .agg [.int .i64 p1.Kind, .str p1.Name, .int .i64 p1.From, .int .i64 p1.To, .isl false (List.map cGDeriv p1.Kids)]) rfl (ld_agg Try.und24 rfl (sz_of Try.inf24) rfl rfl rfl) rfl rfl ?_
  refine RS.callx (args := [.nils, .agg [.int .i64 p1.Kind, .str p1.Name, .int .i64 p1.From, .int .i64 p1.To, .isl false (List.map cGDeriv p1.Kids)]]) rfl (op_call rfl rfl Try.fn29 Try.hb29 rfl rfl) (EvU.nil1 53 3 (by decide) (evaluate_gather_ok n ([] : List GBracket) p1 r2 h3 _ rfl rfl)) rfl rfl ?_
  rintro _ _ ⟨t4, rfl, rfl⟩
  refine RS.op (u := .vl 1 t4 0 r2.length) rfl (op_assign rfl) rfl rfl ?_
  refine RS.done ?_
  repeat (first | refine q1 ?_ | refine q2 ?_ | refine q3 ?_ | refine q4 ?_ | refine q5 ?_ | refine q6 ?_ | refine q7 (by decide) ?_ | refine q8 ?_ | refine q9 ?_ | refine q0 ?_)
  repeat refine WPU.seq ?_
  obtain ⟨h5, hF⟩ := needO_some hF
  refine WPU.joinK (fun tm σ => tm = fr 9 [(3, .vl 1 t4 0 ((srtB r2).length))] ∧ σ = ⟨[(1, .vec (List.map cGBracket (srtB r2)).flatten 53 3 t4), (0, .row [.int .i64 p1.Kind, .str p1.Name, .int .i64 p1.From, .int .i64 p1.To, .isl false (List.map cGDeriv p1.Kids)] 24)], 2⟩) ?_ ?_
  · skip
    rintro _ _ ⟨rfl, rfl⟩
    repeat (first | refine q1 ?_ | refine q2 ?_ | refine q3 ?_ | refine q4 ?_ | refine q5 ?_ | refine q6 ?_ | refine q7 (by decide) ?_ | refine q8 ?_ | refine q9 ?_ | refine q0 ?_)
    repeat refine WPU.seq ?_
    refine WPU.region Try.tb_ok ?_
    refine RS.op (u := .vl 1 t4 0 ((srtB r2).length)) rfl (op_move rfl) rfl rfl ?_
    refine RS.op (u := .vl 1 t4 0 ((srtB r2).length)) rfl (op_assign rfl) rfl rfl ?_
    refine RS.done ?_
    repeat (first | refine q1 ?_ | refine q2 ?_ | refine q3 ?_ | refine q4 ?_ | refine q5 ?_ | refine q6 ?_ | refine q7 (by decide) ?_ | refine q8 ?_ | refine q9 ?_ | refine q0 ?_)
    repeat refine WPU.seq ?_
    refine WPU.ret ?_
    repeat (first | refine q1 ?_ | refine q2 ?_ | refine q3 ?_ | refine q4 ?_ | refine q5 ?_ | refine q6 ?_ | refine q7 (by decide) ?_ | refine q8 ?_ | refine q9 ?_ | refine q0 ?_)
    have hr := Option.some.inj hF
    subst hr
    exact ⟨.inr rfl, [.vl 1 t4 0 ((srtB r2).length)], res_t rfl (res_n), .isl false (List.map cGBracket (srtB r2)), ⟨[], 0⟩, Nat.le_refl _, Gh.trans (Gh.fz (tm' := [.isl false (List.map cGBracket (srtB r2))]) (h' := [(0, .row [.int .i64 p1.Kind, .str p1.Name, .int .i64 p1.From, .int .i64 p1.To, .isl false (List.map cGDeriv p1.Kids)] 24)]) 1 (.vec (List.map cGBracket (srtB r2)).flatten 53 3 t4) 3 rfl (by simp) (by simp only [oneU, fzL_nil, fzL_cons, fz_int, fz_bool, fz_str, fz_nils, fz_nilp, fz_nilm, fz_nilf, fz_junk, fz_isl, fz_map, fz_agg, fz_tup, fz_fn, junkT, fz_vl len_cGBracket]) (by simp only [fzH, fzB, Nat.beq, cond_true, cond_false, oneU, fzL_nil, fzL_cons, fz_int, fz_bool, fz_str, fz_nils, fz_nilp, fz_nilm, fz_nilf, fz_junk, fz_isl, fz_map, fz_agg, fz_tup, fz_fn, junkT, fz_vl len_cGBracket])) (Gh.to (n1 := 0) [] rfl rfl (Nat.le_refl _) (Nat.zero_le _) (by simp only [oneU, BelL, Bel, true_and, and_true, and_assoc]; exact belR_map _ (fun q => bel_cGBracket _ q) _) (by simp [BelH, cut])), rfl, by simp only [BelL, Bel, true_and, and_true, and_assoc]; exact belR_map _ (fun q => bel_cGBracket _ q) _⟩
  · skip
    refine WPU.region Try.tb_ok ?_
    refine RS.op (u := .vl 1 t4 0 r2.length) rfl (op_move rfl) rfl rfl ?_
    refine RS.callx (args := [.vl 1 t4 0 r2.length, .fn (.func 31) [] []]) rfl (op_call rfl rfl Try.fn30 Try.hb30 rfl rfl) (srtB_ok r2 h5 _ rfl rfl) rfl rfl ?_
    rintro _ _ ⟨rfl, rfl⟩
    refine RS.done ?_
    repeat (first | refine q1 ?_ | refine q2 ?_ | refine q3 ?_ | refine q4 ?_ | refine q5 ?_ | refine q6 ?_ | refine q7 (by decide) ?_ | refine q8 ?_ | refine q9 ?_ | refine q0 ?_)
    exact ⟨fr 9 [(3, .vl 1 t4 0 ((srtB r2).length))], ⟨[(1, .vec (List.map cGBracket (srtB r2)).flatten 53 3 t4), (0, .row [.int .i64 p1.Kind, .str p1.Name, .int .i64 p1.From, .int .i64 p1.To, .isl false (List.map cGDeriv p1.Kids)] 24)], 2⟩, ⟨rfl, rfl⟩, (Nat.zero_le _), Gh.eqS ⟨(by rw [srtB_len r2]; rfl), trivial⟩ rfl⟩
theorem evaluate_Brackets_ok (n : Nat) (p1 : GDeriv) (r : (List GBracket)) (hF : evaluate_Brackets n p1 = some r) (σ : Sg) : EvU Try.prog 13 [.agg [.int .i64 p1.Kind, .str p1.Name, .int .i64 p1.From, .int .i64 p1.To, .isl false (List.map cGDeriv p1.Kids)]] σ (fun u σ' => u = .isl false (List.map cGBracket r) ∧ σ' = σ) :=
  EvU.pure1 (evaluate_Brackets_0 n p1 r hF) (by simp only [BelL, Bel, true_and, and_true, and_assoc]; exact belR_map _ (fun q => bel_cGDeriv _ q) _) σ
-- 3 grammarlab/grammarlablaw50.EvaluateBrackets
def law50_EvaluateBrackets (n : Nat) (p1 : GDeriv) : Option (Bool) :=
  bindO (law50_valid n ([p1])) fun r2 =>
  cond (!r2)
    (bindO (law50_exampleHolds n) fun r5 =>
    some r5)
    (bindO (bindO (evaluate_Brackets n p1) fun r7 =>
    bindO (ref50_Brackets n p1) fun r9 =>
    bindO (law50_sameBrackets n r7 r9) fun r11 =>
    cond r11
      (bindO (law50_exampleHolds n) fun r14 =>
      some r14)
      (some false)) fun b16 =>
    some b16)
theorem law50_EvaluateBrackets_0 (n : Nat) (p1 : GDeriv) (r : Bool) (hF : law50_EvaluateBrackets n p1 = some r) : EvU Try.prog 3 [.agg [.int .i64 p1.Kind, .str p1.Name, .int .i64 p1.From, .int .i64 p1.To, .isl false (List.map cGDeriv p1.Kids)]] ⟨[], 0⟩ (fun u _ => u = .bool r ∧ Bel 0 u) := by
  unfold law50_EvaluateBrackets at hF
  refine EvU.of_body Try.tb_ok Try.fn3 rfl ?_
  refine WPU.ghost (tm' := fr 16 [(0, .agg [.int .i64 p1.Kind, .str p1.Name, .int .i64 p1.From, .int .i64 p1.To, .isl false (List.map cGDeriv p1.Kids)])]) (Gh.start (Nat.le_of_ble_eq_true rfl)) (Nat.zero_le _) ?_
  repeat refine WPU.seq ?_
  refine WPU.region Try.tb_ok ?_
  refine RS.op (u := .ptr 0 0 0) (σ' := ⟨[(0, .row [.int .i64 p1.Kind, .str p1.Name, .int .i64 p1.From, .int .i64 p1.To, .isl false (List.map cGDeriv p1.Kids)] 24)], 1⟩) rfl (op_box rfl rfl rfl) rfl rfl ?_
  refine RS.op (u := .bool false) rfl (op_assign rfl) rfl rfl ?_
  refine RS.done ?_
  repeat (first | refine q1 ?_ | refine q2 ?_ | refine q3 ?_ | refine q4 ?_ | refine q5 ?_ | refine q6 ?_ | refine q7 (by decide) ?_ | refine q8 ?_ | refine q9 ?_ | refine q0 ?_)
  repeat refine WPU.seq ?_
  obtain ⟨r2, h3, hF⟩ := bindO_some hF
  refine WPU.region Try.tb_ok ?_
  refine RS.op (u := .agg [.int .i64 p1.Kind, .str p1.Name, .int .i64 p1.From, .int .i64 p1.To, .isl false (List.map cGDeriv p1.Kids)]) rfl (ld_agg Try.und24 rfl (sz_of Try.inf24) rfl rfl rfl) rfl rfl ?_
  refine RS.op (u := .sl 1 0 1 1) (σ' := ⟨[(1, .row [.int .i64 p1.Kind, .str p1.Name, .int .i64 p1.From, .int .i64 p1.To, .isl false (List.map cGDeriv p1.Kids)] 24), (0, .row [.int .i64 p1.Kind, .str p1.Name, .int .i64 p1.From, .int .i64 p1.To, .isl false (List.map cGDeriv p1.Kids)] 24)], 2⟩) rfl (op_bs rfl (by simp only [stepsU, wantedU, dstOf, opU, pureU, readU, effU, evalU, evalUL, evalUP, evalUM, nth, putW, List.set, g1, g2, toV, toVL, ofV, ofVL, cellsO, List.toList_toArray, Value.cells, okL, okC, cond_true, cond_false, newU, lenU, live, cellsOf, rowOf, vecOf, putOf, gt, ug, B.st, Nat.beq, segU, putU, loadU, partU, fieldAtU, fieldU, indexAtU, indexU, extractU, storeU, isAggD, sizeX, fieldPl, sizesX, fillU, buildU, binU, binX, intX, unX, convX, List.drop, List.take, List.length, List.append, List.cons_append, List.nil_append, beq_self_eq_true, Bool.not_true, Bool.not_false, ite_true, ite_false, if_true, if_false, Nat.reduceAdd, Nat.reduceMul, Nat.reduceLeDiff, Nat.zero_add, Nat.add_zero, reduceIte, reduceCtorEq, ne_eq, not_true_eq_false, not_false_eq_true, if_pos, foldX, max2X, min2X, Nat.beq_refl, Nat.le_refl, true_and, and_true, true_or, or_true, appendU, srcU, makeListU, zerosU, List.replicate, List.flatten, Nat.ble, Nat.lt_irrefl, Nat.zero_lt_one, Nat.mul_one, Nat.one_mul, tf_, ft_, cI, cB, cS, cL, List.length_map, List.length_cons, List.length_nil, Option.isSome, Try.und3, Try.inf3, Try.und9, Try.inf9, Try.und22, Try.inf22, Try.und24, Try.inf24] <;> rfl)) rfl rfl ?_
  refine RS.call (u := .bool r2) (args := [.sl 1 0 1 1]) rfl (op_call rfl rfl Try.fn10 Try.hb10 rfl rfl) (EvU.view (law50_valid_0 n ([p1]) r2 h3) (by simp only [BelL, Bel, true_and, and_true, and_assoc]; exact belR_map _ (fun q => bel_cGDeriv _ q) _) (by simp only [toV, toVL, okL, okC, cond_true] <;> rfl) (fun m => by simp [ren, renL]) (Gh.trans (Gh.fz (tm' := [.isl true (List.map cGDeriv ([p1]))]) (h' := [(0, .row [.int .i64 p1.Kind, .str p1.Name, .int .i64 p1.From, .int .i64 p1.To, .isl false (List.map cGDeriv p1.Kids)] 24)]) 1 (.row [.int .i64 p1.Kind, .str p1.Name, .int .i64 p1.From, .int .i64 p1.To, .isl false (List.map cGDeriv p1.Kids)] 24) 5 rfl (by simp) (by simp only [oneU, fzL_nil, fzL_cons, fz_int, fz_bool, fz_str, fz_nils, fz_nilp, fz_nilm, fz_nilf, fz_junk, fz_isl, fz_map, fz_agg, fz_tup, fz_fn, junkT, fz_sl, fz_p0, Nat.reduceLeDiff, Nat.reduceMul, List.length_cons, List.length_nil, Nat.reduceAdd] <;> simp only [chunks, List.take, List.drop, List.map, cGDeriv_eq, xGDeriv]) (by simp only [fzH, fzB, Nat.beq, cond_true, cond_false, oneU, fzL_nil, fzL_cons, fz_int, fz_bool, fz_str, fz_nils, fz_nilp, fz_nilm, fz_nilf, fz_junk, fz_isl, fz_map, fz_agg, fz_tup, fz_fn, junkT, fz_sl, fz_p0, Nat.reduceLeDiff, Nat.reduceMul, List.length_cons, List.length_nil, Nat.reduceAdd])) (Gh.wk (tm' := [.isl false (List.map cGDeriv ([p1]))]) (.cons (.full _) .nil)))) rfl rfl ?_
  refine RS.op (u := .bool (!r2)) rfl (op_un rfl rfl rfl rfl) rfl rfl ?_
  refine RS.done ?_
  repeat (first | refine q1 ?_ | refine q2 ?_ | refine q3 ?_ | refine q4 ?_ | refine q5 ?_ | refine q6 ?_ | refine q7 (by decide) ?_ | refine q8 ?_ | refine q9 ?_ | refine q0 ?_)
  repeat refine WPU.seq ?_
  refine WPU.condS (t := (!r2)) rfl (fun h4 => ?_) (fun h4 => ?_)
  · skip
    replace hF := cond_t h4 hF
    repeat refine WPU.seq ?_
    obtain ⟨r5, h6, hF⟩ := bindO_some hF
    refine WPU.region Try.tb_ok ?_
    refine RS.call (u := .bool r5) (args := []) rfl (op_call rfl rfl Try.fn11 Try.hb11 rfl rfl) (law50_exampleHolds_ok n  r5 h6 _) rfl rfl ?_
    refine RS.op (u := .bool r5) rfl (op_assign rfl) rfl rfl ?_
    refine RS.done ?_
    repeat (first | refine q1 ?_ | refine q2 ?_ | refine q3 ?_ | refine q4 ?_ | refine q5 ?_ | refine q6 ?_ | refine q7 (by decide) ?_ | refine q8 ?_ | refine q9 ?_ | refine q0 ?_)
    repeat refine WPU.seq ?_
    refine WPU.ret ?_
    repeat (first | refine q1 ?_ | refine q2 ?_ | refine q3 ?_ | refine q4 ?_ | refine q5 ?_ | refine q6 ?_ | refine q7 (by decide) ?_ | refine q8 ?_ | refine q9 ?_ | refine q0 ?_)
    have hr := Option.some.inj hF
    subst hr
    exact ⟨.inr rfl, [.bool r5], res_t rfl (res_n), .bool r5, ⟨[], 0⟩, Nat.le_refl _, Gh.to (n1 := 0) [] rfl rfl (Nat.le_refl _) (Nat.zero_le _) (by simp only [oneU, BelL, Bel, true_and, and_true, and_assoc]) (by simp [BelH, cut]), rfl, by simp only [BelL, Bel, true_and, and_true, and_assoc]⟩
  · skip
    replace hF := cond_f h4 hF
    repeat refine WPU.seq ?_
    refine WPU.skip ?_
    repeat (first | refine q1 ?_ | refine q2 ?_ | refine q3 ?_ | refine q4 ?_ | refine q5 ?_ | refine q6 ?_ | refine q7 (by decide) ?_ | refine q8 ?_ | refine q9 ?_ | refine q0 ?_)
    repeat refine WPU.seq ?_
    obtain ⟨b16, h17, hF⟩ := bindO_some hF
    refine WPU.joinK (fun tm σ => tm = fr 16 [(2, .bool b16)] ∧ σ = ⟨[(1, .row [.int .i64 p1.Kind, .str p1.Name, .int .i64 p1.From, .int .i64 p1.To, .isl false (List.map cGDeriv p1.Kids)] 24), (0, .row [.int .i64 p1.Kind, .str p1.Name, .int .i64 p1.From, .int .i64 p1.To, .isl false (List.map cGDeriv p1.Kids)] 24)], 2⟩) ?_ ?_
    · skip
      rintro _ _ ⟨rfl, rfl⟩
      repeat (first | refine q1 ?_ | refine q2 ?_ | refine q3 ?_ | refine q4 ?_ | refine q5 ?_ | refine q6 ?_ | refine q7 (by decide) ?_ | refine q8 ?_ | refine q9 ?_ | refine q0 ?_)
      repeat refine WPU.seq ?_
      refine WPU.ret ?_
      repeat (first | refine q1 ?_ | refine q2 ?_ | refine q3 ?_ | refine q4 ?_ | refine q5 ?_ | refine q6 ?_ | refine q7 (by decide) ?_ | refine q8 ?_ | refine q9 ?_ | refine q0 ?_)
      have hr := Option.some.inj hF
      subst hr
      exact ⟨.inr rfl, [.bool b16], res_t rfl (res_n), .bool b16, ⟨[], 0⟩, Nat.le_refl _, Gh.to (n1 := 0) [] rfl rfl (Nat.le_refl _) (Nat.zero_le _) (by simp only [oneU, BelL, Bel, true_and, and_true, and_assoc]) (by simp [BelH, cut]), rfl, by simp only [BelL, Bel, true_and, and_true, and_assoc]⟩
    · skip
      obtain ⟨r7, h8, h17⟩ := bindO_some h17
      obtain ⟨r9, h10, h17⟩ := bindO_some h17
      obtain ⟨r11, h12, h17⟩ := bindO_some h17
      rcases bool_tf r11 with h13 | h13
      · skip
        replace h17 := cond_t h13 h17
        obtain ⟨r14, h15, h17⟩ := bindO_some h17
        replace h17 := Option.some.inj h17
        subst h17
        refine WPU.drawE Try.tb_ok [] (by kernel_rfl) ?_
        refine RD.look (u := .agg [.int .i64 p1.Kind, .str p1.Name, .int .i64 p1.From, .int .i64 p1.To, .isl false (List.map cGDeriv p1.Kids)]) rfl (ld_agg Try.und24 rfl (sz_of Try.inf24) rfl rfl rfl) rfl rfl ?_
        refine RD.free (u := .isl false (List.map cGBracket r7)) (args := [.agg [.int .i64 p1.Kind, .str p1.Name, .int .i64 p1.From, .int .i64 p1.To, .isl false (List.map cGDeriv p1.Kids)]]) rfl (op_call rfl rfl Try.fn13 Try.hb13 rfl rfl) (fun s => evaluate_Brackets_ok n p1 r7 h8 s) rfl rfl ?_
        refine RD.look (u := .agg [.int .i64 p1.Kind, .str p1.Name, .int .i64 p1.From, .int .i64 p1.To, .isl false (List.map cGDeriv p1.Kids)]) rfl (ld_agg Try.und24 rfl (sz_of Try.inf24) rfl rfl rfl) rfl rfl ?_
        refine RD.free (u := .isl false (List.map cGBracket r9)) (args := [.agg [.int .i64 p1.Kind, .str p1.Name, .int .i64 p1.From, .int .i64 p1.To, .isl false (List.map cGDeriv p1.Kids)]]) rfl (op_call rfl rfl Try.fn14 Try.hb14 rfl rfl) (fun s => ref50_Brackets_ok n p1 r9 h10 s) rfl rfl ?_
        refine RD.free (u := .bool r11) (args := [.isl false (List.map cGBracket r7), .isl false (List.map cGBracket r9)]) rfl (op_call rfl rfl Try.fn12 Try.hb12 rfl rfl) (fun s => law50_sameBrackets_ok n r7 r9 r11 h12 s) rfl rfl ?_
        refine RD.look (u := .bool r11) rfl (op_move rfl) rfl rfl ?_
        refine RD.free (u := .bool r14) (args := []) (want1 rfl rfl rfl h13) (op_call rfl rfl Try.fn11 Try.hb11 rfl rfl) (fun s => law50_exampleHolds_ok n  r14 h15 s) rfl rfl ?_
        refine RD.look (u := .bool r14) rfl (op_pick1 rfl h13 rfl) rfl rfl ?_
        refine RD.look (u := .bool r14) rfl (op_assign rfl) rfl rfl ?_
        refine RD.done ⟨by kernel_rfl, trivial, ?_⟩
        repeat (first | refine q1 ?_ | refine q2 ?_ | refine q3 ?_ | refine q4 ?_ | refine q5 ?_ | refine q6 ?_ | refine q7 (by decide) ?_ | refine q8 ?_ | refine q9 ?_ | refine q0 ?_)
        exact ⟨fr 16 [(2, .bool r14)], ⟨[(1, .row [.int .i64 p1.Kind, .str p1.Name, .int .i64 p1.From, .int .i64 p1.To, .isl false (List.map cGDeriv p1.Kids)] 24), (0, .row [.int .i64 p1.Kind, .str p1.Name, .int .i64 p1.From, .int .i64 p1.To, .isl false (List.map cGDeriv p1.Kids)] 24)], 2⟩, ⟨rfl, rfl⟩, (Nat.zero_le _), Gh.toS (n1 := 2) ⟨rfl, trivial⟩ rfl (Nat.zero_le _) (by simp) (by simp only [BelS, BelL, Bel, true_and, and_true, and_assoc, Nat.reduceLT]) (by simp only [BelH, BelB, BelL, Bel, true_and, and_true, and_assoc, Nat.reduceLT]; exact ⟨belR_map _ (fun q => bel_cGDeriv _ q) _, belR_map _ (fun q => bel_cGDeriv _ q) _⟩)⟩
      · skip
        replace h17 := cond_f h13 h17
        replace h17 := Option.some.inj h17
        subst h17
        refine WPU.drawE Try.tb_ok [] (by kernel_rfl) ?_
        refine RD.look (u := .agg [.int .i64 p1.Kind, .str p1.Name, .int .i64 p1.From, .int .i64 p1.To, .isl false (List.map cGDeriv p1.Kids)]) rfl (ld_agg Try.und24 rfl (sz_of Try.inf24) rfl rfl rfl) rfl rfl ?_
        refine RD.free (u := .isl false (List.map cGBracket r7)) (args := [.agg [.int .i64 p1.Kind, .str p1.Name, .int .i64 p1.From, .int .i64 p1.To, .isl false (List.map cGDeriv p1.Kids)]]) rfl (op_call rfl rfl Try.fn13 Try.hb13 rfl rfl) (fun s => evaluate_Brackets_ok n p1 r7 h8 s) rfl rfl ?_
        refine RD.look (u := .agg [.int .i64 p1.Kind, .str p1.Name, .int .i64 p1.From, .int .i64 p1.To, .isl false (List.map cGDeriv p1.Kids)]) rfl (ld_agg Try.und24 rfl (sz_of Try.inf24) rfl rfl rfl) rfl rfl ?_
        refine RD.free (u := .isl false (List.map cGBracket r9)) (args := [.agg [.int .i64 p1.Kind, .str p1.Name, .int .i64 p1.From, .int .i64 p1.To, .isl false (List.map cGDeriv p1.Kids)]]) rfl (op_call rfl rfl Try.fn14 Try.hb14 rfl rfl) (fun s => ref50_Brackets_ok n p1 r9 h10 s) rfl rfl ?_
        refine RD.free (u := .bool r11) (args := [.isl false (List.map cGBracket r7), .isl false (List.map cGBracket r9)]) rfl (op_call rfl rfl Try.fn12 Try.hb12 rfl rfl) (fun s => law50_sameBrackets_ok n r7 r9 r11 h12 s) rfl rfl ?_
        refine RD.look (u := .bool r11) rfl (op_move rfl) rfl rfl ?_
        refine RD.no (want0 rfl rfl rfl h13) rfl rfl ?_
        refine RD.look (u := .bool false) rfl (op_pick0 rfl h13 rfl) rfl rfl ?_
        refine RD.look (u := .bool false) rfl (op_assign rfl) rfl rfl ?_
        refine RD.done ⟨by kernel_rfl, trivial, ?_⟩
        repeat (first | refine q1 ?_ | refine q2 ?_ | refine q3 ?_ | refine q4 ?_ | refine q5 ?_ | refine q6 ?_ | refine q7 (by decide) ?_ | refine q8 ?_ | refine q9 ?_ | refine q0 ?_)
        exact ⟨fr 16 [(2, .bool false)], ⟨[(1, .row [.int .i64 p1.Kind, .str p1.Name, .int .i64 p1.From, .int .i64 p1.To, .isl false (List.map cGDeriv p1.Kids)] 24), (0, .row [.int .i64 p1.Kind, .str p1.Name, .int .i64 p1.From, .int .i64 p1.To, .isl false (List.map cGDeriv p1.Kids)] 24)], 2⟩, ⟨rfl, rfl⟩, (Nat.zero_le _), Gh.toS (n1 := 2) ⟨rfl, trivial⟩ rfl (Nat.zero_le _) (by simp) (by simp only [BelS, BelL, Bel, true_and, and_true, and_assoc, Nat.reduceLT]) (by simp only [BelH, BelB, BelL, Bel, true_and, and_true, and_assoc, Nat.reduceLT]; exact ⟨belR_map _ (fun q => bel_cGDeriv _ q) _, belR_map _ (fun q => bel_cGDeriv _ q) _⟩)⟩
theorem law50_EvaluateBrackets_ok (n : Nat) (p1 : GDeriv) (r : Bool) (hF : law50_EvaluateBrackets n p1 = some r) (σ : Sg) : EvU Try.prog 3 [.agg [.int .i64 p1.Kind, .str p1.Name, .int .i64 p1.From, .int .i64 p1.To, .isl false (List.map cGDeriv p1.Kids)]] σ (fun u σ' => u = .bool r ∧ σ' = σ) :=
  EvU.pure1 (law50_EvaluateBrackets_0 n p1 r hF) (by simp only [BelL, Bel, true_and, and_true, and_assoc]; exact belR_map _ (fun q => bel_cGDeriv _ q) _) σ
end Go.Proofs
