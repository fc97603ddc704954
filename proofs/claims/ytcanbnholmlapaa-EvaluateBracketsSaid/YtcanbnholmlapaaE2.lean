import Derived.Test.YtcanbnholmlapaaE1
import Derived.Test.YtcanbnholmlapaaE0
namespace Go.Proofs
open Go Go.Rx Go.Vx
set_option maxRecDepth 10000
set_option linter.unusedSimpArgs false
set_option linter.unusedVariables false

-- 52 slices.insertionSortCmpFunc[grammarlab/api.Bracket]
def slices_insertionSortCmpFunc_Bracket_compare_K1   : Option (Unit) :=
  some ()
def slices_insertionSortCmpFunc_Bracket_compare_L1  : Nat → Option (Unit)
  | 0 => none
  | m1 + 1 =>
    slices_insertionSortCmpFunc_Bracket_compare_K1
def slices_insertionSortCmpFunc_Bracket_compare (f3 : GBracket → GBracket → Option (Int)) (n : Nat)  : Option (Unit) :=
  slices_insertionSortCmpFunc_Bracket_compare_L1 n
theorem slices_insertionSortCmpFunc_Bracket_compare_0 (f3 : GBracket → GBracket → Option (Int)) (hf3 : ∀ (a0 : GBracket) (a1 : GBracket) (r : Int), f3 a0 a1 = some r → EvU Try.prog 31 [.agg [.str a0.Name, .int .i64 a0.From, .int .i64 a0.To], .agg [.str a1.Name, .int .i64 a1.From, .int .i64 a1.To]] ⟨[], 0⟩ (fun u _ => u = .int .i64 r ∧ Bel 0 u)) (n : Nat)  (r : Unit) (hF : slices_insertionSortCmpFunc_Bracket_compare f3 n  = some r) : EvU Try.prog 52 [.isl false (List.map cGBracket ([] : List GBracket)), .int .i64 0, .int .i64 0, .fn (.func 31) [] []] ⟨[], 0⟩ (fun u _ => u = .tup [] ∧ Bel 0 u) := by
  unfold slices_insertionSortCmpFunc_Bracket_compare at hF
  have hf3S : ∀ (a0 : GBracket) (a1 : GBracket) (r : Int), f3 a0 a1 = some r → ∀ σ, EvU Try.prog 31 [.agg [.str a0.Name, .int .i64 a0.From, .int .i64 a0.To], .agg [.str a1.Name, .int .i64 a1.From, .int .i64 a1.To]] σ (fun u σ' => u = .int .i64 r ∧ σ' = σ) := fun a0 a1 r h σ => EvU.pure1 (hf3 a0 a1 r h) (by simp only [BelL, Bel, true_and, and_true, and_assoc]) σ
  refine EvU.of_body Try.tb_ok Try.fn52 rfl ?_
  refine WPU.ghost (tm' := fr 53 [(0, .isl false (List.map cGBracket ([] : List GBracket))), (1, .int .i64 0), (2, .int .i64 0), (3, .fn (.func 31) [] [])]) (Gh.start (Nat.le_of_ble_eq_true rfl)) (Nat.zero_le _) ?_
  repeat refine WPU.seq ?_
  refine WPU.region Try.tb_ok ?_
  refine RS.op (u := .int .i64 0) rfl (op_move rfl) rfl rfl ?_
  refine RS.op (u := .int .i64 1) rfl (op_int rfl rfl (ix_add _ _ _) rfl) rfl rfl ?_
  refine RS.op (u := .int .i64 1) rfl (op_assign rfl) rfl rfl ?_
  refine RS.done ?_
  repeat (first | refine q1 ?_ | refine q2 ?_ | refine q3 ?_ | refine q4 ?_ | refine q5 ?_ | refine q6 ?_ | refine q7 (by decide) ?_ | refine q8 ?_ | refine q9 ?_ | refine q0 ?_)
  repeat refine WPU.seq ?_
  refine WPU.ghost (tm' := fr 53 [(0, .isl false (List.map cGBracket ([] : List GBracket))), (1, .int .i64 0), (2, .int .i64 0), (3, .fn (.func 31) [] []), (8, .int .i64 1)]) (Gh.sub ⟨rfl, rfl, rfl, rfl, rfl, trivial⟩) (Nat.zero_le _) ?_
  refine WPU.loopK (fun m tm σ => slices_insertionSortCmpFunc_Bracket_compare_L1 m = some r ∧ tm = fr 53 [(0, .isl false (List.map cGBracket ([] : List GBracket))), (1, .int .i64 0), (2, .int .i64 0), (3, .fn (.func 31) [] []), (8, .int .i64 1)] ∧ σ = ⟨[], 0⟩) (fun tm σ => slices_insertionSortCmpFunc_Bracket_compare_K1 = some r ∧ tm = fr 53 [] ∧ σ = ⟨[], 0⟩) n ⟨hF, rfl, rfl⟩ ?_ ?_
  · skip
    rintro _ _ ⟨hF, rfl, rfl⟩
    unfold slices_insertionSortCmpFunc_Bracket_compare_K1 at hF
    repeat (first | refine q1 ?_ | refine q2 ?_ | refine q3 ?_ | refine q4 ?_ | refine q5 ?_ | refine q6 ?_ | refine q7 (by decide) ?_ | refine q8 ?_ | refine q9 ?_ | refine q0 ?_)
    have hr := Option.some.inj hF
    subst hr
    exact ⟨.inl rfl, [], res_n, .tup [], ⟨[], 0⟩, Nat.le_refl _, Gh.to (n1 := 0) [] rfl rfl (Nat.le_refl _) (Nat.zero_le _) (by simp only [oneU, BelL, Bel, true_and, and_true, and_assoc]) (by simp [BelH, cut]), rfl, by simp only [BelL, Bel, true_and, and_true, and_assoc]⟩
  · skip
    rintro m1 _ _ ⟨hF, rfl, rfl⟩
    cases m1 with
    | zero => cases hF
    | succ m1 =>
      unfold slices_insertionSortCmpFunc_Bracket_compare_L1 at hF
      repeat refine WPU.seq ?_
      refine WPU.region Try.tb_ok ?_
      refine RS.op (u := .int .i64 1) rfl (op_move rfl) rfl rfl ?_
      refine RS.op (u := .int .i64 0) rfl (op_move rfl) rfl rfl ?_
      refine RS.op (u := .bool false) rfl (op_int rfl rfl (ix_lss _ _ _) rfl) rfl rfl ?_
      refine RS.done ?_
      repeat (first | refine q1 ?_ | refine q2 ?_ | refine q3 ?_ | refine q4 ?_ | refine q5 ?_ | refine q6 ?_ | refine q7 (by decide) ?_ | refine q8 ?_ | refine q9 ?_ | refine q0 ?_)
      repeat refine WPU.seq ?_
      refine WPU.condS (t := false) rfl (fun hc => by cases hc) (fun _ => ?_)
      repeat refine WPU.seq ?_
      refine WPU.exit ?_
      repeat (first | refine q1 ?_ | refine q2 ?_ | refine q3 ?_ | refine q4 ?_ | refine q5 ?_ | refine q6 ?_ | refine q7 (by decide) ?_ | refine q8 ?_ | refine q9 ?_ | refine q0 ?_)
      exact ⟨fr 53 [], ⟨[], 0⟩, ⟨hF, rfl, rfl⟩, (Nat.zero_le _), Gh.toS (n1 := 0) trivial rfl (Nat.zero_le _) (by simp) (by simp only [BelS, BelL, Bel, true_and, and_true, and_assoc, Nat.reduceLT]) (by simp only [BelH, BelB, BelL, Bel, true_and, and_true, and_assoc, Nat.reduceLT])⟩
theorem slices_insertionSortCmpFunc_Bracket_compare_ok (f3 : GBracket → GBracket → Option (Int)) (hf3 : ∀ (a0 : GBracket) (a1 : GBracket) (r : Int), f3 a0 a1 = some r → EvU Try.prog 31 [.agg [.str a0.Name, .int .i64 a0.From, .int .i64 a0.To], .agg [.str a1.Name, .int .i64 a1.From, .int .i64 a1.To]] ⟨[], 0⟩ (fun u _ => u = .int .i64 r ∧ Bel 0 u)) (n : Nat)  (r : Unit) (hF : slices_insertionSortCmpFunc_Bracket_compare f3 n  = some r) (σ : Sg) : EvU Try.prog 52 [.isl false (List.map cGBracket ([] : List GBracket)), .int .i64 0, .int .i64 0, .fn (.func 31) [] []] σ (fun u σ' => u = .tup [] ∧ σ' = σ) :=
  EvU.pure1 (slices_insertionSortCmpFunc_Bracket_compare_0 f3 hf3 n  r hF) (by simp only [BelL, Bel, true_and, and_true, and_assoc]; exact belR_map _ (fun q => bel_cGBracket _ q) _) σ
-- 44 slices.pdqsortCmpFunc[grammarlab/api.Bracket]
def slices_pdqsortCmpFunc_Bracket_compare_L1 (f4 : GBracket → GBracket → Option (Int)) (n : Nat) : Nat → Option (Unit)
  | 0 => none
  | m1 + 1 =>
    bindO (slices_insertionSortCmpFunc_Bracket_compare f4 n) fun r2 =>
    some ()
def slices_pdqsortCmpFunc_Bracket_compare (f4 : GBracket → GBracket → Option (Int)) (n : Nat) (p1 : Int) : Option (Unit) :=
  slices_pdqsortCmpFunc_Bracket_compare_L1 f4 n n
theorem slices_pdqsortCmpFunc_Bracket_compare_0 (f4 : GBracket → GBracket → Option (Int)) (hf4 : ∀ (a0 : GBracket) (a1 : GBracket) (r : Int), f4 a0 a1 = some r → EvU Try.prog 31 [.agg [.str a0.Name, .int .i64 a0.From, .int .i64 a0.To], .agg [.str a1.Name, .int .i64 a1.From, .int .i64 a1.To]] ⟨[], 0⟩ (fun u _ => u = .int .i64 r ∧ Bel 0 u)) (n : Nat) (p1 : Int) (r : Unit) (hF : slices_pdqsortCmpFunc_Bracket_compare f4 n p1 = some r) : EvU Try.prog 44 [.isl false (List.map cGBracket ([] : List GBracket)), .int .i64 0, .int .i64 0, .int .i64 p1, .fn (.func 31) [] []] ⟨[], 0⟩ (fun u _ => u = .tup [] ∧ Bel 0 u) := by
  unfold slices_pdqsortCmpFunc_Bracket_compare at hF
  have hf4S : ∀ (a0 : GBracket) (a1 : GBracket) (r : Int), f4 a0 a1 = some r → ∀ σ, EvU Try.prog 31 [.agg [.str a0.Name, .int .i64 a0.From, .int .i64 a0.To], .agg [.str a1.Name, .int .i64 a1.From, .int .i64 a1.To]] σ (fun u σ' => u = .int .i64 r ∧ σ' = σ) := fun a0 a1 r h σ => EvU.pure1 (hf4 a0 a1 r h) (by simp only [BelL, Bel, true_and, and_true, and_assoc]) σ
  refine EvU.of_body Try.tb_ok Try.fn44 rfl ?_
  refine WPU.ghost (tm' := fr 148 [(0, .isl false (List.map cGBracket ([] : List GBracket))), (1, .int .i64 0), (2, .int .i64 0), (3, .int .i64 p1), (4, .fn (.func 31) [] [])]) (Gh.start (Nat.le_of_ble_eq_true rfl)) (Nat.zero_le _) ?_
  repeat refine WPU.seq ?_
  refine WPU.region Try.tb_ok ?_
  refine RS.op (u := .bool true) rfl (op_assign rfl) rfl rfl ?_
  refine RS.done ?_
  repeat (first | refine q1 ?_ | refine q2 ?_ | refine q3 ?_ | refine q4 ?_ | refine q5 ?_ | refine q6 ?_ | refine q7 (by decide) ?_ | refine q8 ?_ | refine q9 ?_ | refine q0 ?_)
  repeat refine WPU.seq ?_
  refine WPU.region Try.tb_ok ?_
  refine RS.op (u := .bool true) rfl (op_assign rfl) rfl rfl ?_
  refine RS.done ?_
  repeat (first | refine q1 ?_ | refine q2 ?_ | refine q3 ?_ | refine q4 ?_ | refine q5 ?_ | refine q6 ?_ | refine q7 (by decide) ?_ | refine q8 ?_ | refine q9 ?_ | refine q0 ?_)
  repeat refine WPU.seq ?_
  refine WPU.ghost (tm' := fr 148 [(0, .isl false (List.map cGBracket ([] : List GBracket))), (1, .int .i64 0), (2, .int .i64 0), (3, .int .i64 p1), (4, .fn (.func 31) [] []), (10, .bool true), (11, .bool true)]) (Gh.sub ⟨rfl, rfl, rfl, rfl, rfl, rfl, rfl, trivial⟩) (Nat.zero_le _) ?_
  refine WPU.loopK (fun m tm σ => slices_pdqsortCmpFunc_Bracket_compare_L1 f4 n m = some r ∧ tm = fr 148 [(0, .isl false (List.map cGBracket ([] : List GBracket))), (1, .int .i64 0), (2, .int .i64 0), (3, .int .i64 p1), (4, .fn (.func 31) [] []), (10, .bool true), (11, .bool true)] ∧ σ = ⟨[], 0⟩) (fun _ _ => False) n ⟨hF, rfl, rfl⟩ ?_ ?_
  · skip
    rintro _ _ h; exact h.elim
  · skip
    rintro m1 _ _ ⟨hF, rfl, rfl⟩
    cases m1 with
    | zero => cases hF
    | succ m1 =>
      unfold slices_pdqsortCmpFunc_Bracket_compare_L1 at hF
      repeat refine WPU.seq ?_
      refine WPU.block ?_
      repeat refine WPU.seq ?_
      refine WPU.region Try.tb_ok ?_
      refine RS.op (u := .int .i64 0) rfl (op_move rfl) rfl rfl ?_
      refine RS.op (u := .int .i64 0) rfl (op_move rfl) rfl rfl ?_
      refine RS.op (u := .int .i64 0) rfl (op_int rfl rfl (ix_sub _ _ _) rfl) rfl rfl ?_
      refine RS.op (u := .int .i64 0) rfl (op_assign rfl) rfl rfl ?_
      refine RS.done ?_
      repeat (first | refine q1 ?_ | refine q2 ?_ | refine q3 ?_ | refine q4 ?_ | refine q5 ?_ | refine q6 ?_ | refine q7 (by decide) ?_ | refine q8 ?_ | refine q9 ?_ | refine q0 ?_)
      repeat refine WPU.seq ?_
      refine WPU.region Try.tb_ok ?_
      refine RS.op (u := .int .i64 0) rfl (op_move rfl) rfl rfl ?_
      refine RS.op (u := .bool true) rfl (op_int rfl rfl (ix_leq _ _ _) rfl) rfl rfl ?_
      refine RS.done ?_
      repeat (first | refine q1 ?_ | refine q2 ?_ | refine q3 ?_ | refine q4 ?_ | refine q5 ?_ | refine q6 ?_ | refine q7 (by decide) ?_ | refine q8 ?_ | refine q9 ?_ | refine q0 ?_)
      repeat refine WPU.seq ?_
      refine WPU.condS (t := true) rfl (fun _ => ?_) (fun hc => by cases hc)
      repeat refine WPU.seq ?_
      obtain ⟨r2, h3, hF⟩ := bindO_some hF
      refine WPU.region Try.tb_ok ?_
      refine RS.op (u := .isl false (List.map cGBracket ([] : List GBracket))) rfl (op_move rfl) rfl rfl ?_
      refine RS.op (u := .int .i64 0) rfl (op_move rfl) rfl rfl ?_
      refine RS.op (u := .int .i64 0) rfl (op_move rfl) rfl rfl ?_
      refine RS.op (u := .fn (.func 31) [] []) rfl (op_move rfl) rfl rfl ?_
      refine RS.call (u := .tup []) (args := [.isl false (List.map cGBracket ([] : List GBracket)), .int .i64 0, .int .i64 0, .fn (.func 31) [] []]) rfl (op_call rfl rfl Try.fn52 Try.hb52 rfl rfl) (slices_insertionSortCmpFunc_Bracket_compare_ok f4 hf4 n  r2 h3 _) rfl rfl ?_
      refine RS.done ?_
      repeat (first | refine q1 ?_ | refine q2 ?_ | refine q3 ?_ | refine q4 ?_ | refine q5 ?_ | refine q6 ?_ | refine q7 (by decide) ?_ | refine q8 ?_ | refine q9 ?_ | refine q0 ?_)
      repeat refine WPU.seq ?_
      refine WPU.ret ?_
      repeat (first | refine q1 ?_ | refine q2 ?_ | refine q3 ?_ | refine q4 ?_ | refine q5 ?_ | refine q6 ?_ | refine q7 (by decide) ?_ | refine q8 ?_ | refine q9 ?_ | refine q0 ?_)
      have hr := Option.some.inj hF
      subst hr
      exact ⟨.inr rfl, [], res_n, .tup [], ⟨[], 0⟩, Nat.le_refl _, Gh.to (n1 := 0) [] rfl rfl (Nat.le_refl _) (Nat.zero_le _) (by simp only [oneU, BelL, Bel, true_and, and_true, and_assoc]) (by simp [BelH, cut]), rfl, by simp only [BelL, Bel, true_and, and_true, and_assoc]⟩
theorem slices_pdqsortCmpFunc_Bracket_compare_ok (f4 : GBracket → GBracket → Option (Int)) (hf4 : ∀ (a0 : GBracket) (a1 : GBracket) (r : Int), f4 a0 a1 = some r → EvU Try.prog 31 [.agg [.str a0.Name, .int .i64 a0.From, .int .i64 a0.To], .agg [.str a1.Name, .int .i64 a1.From, .int .i64 a1.To]] ⟨[], 0⟩ (fun u _ => u = .int .i64 r ∧ Bel 0 u)) (n : Nat) (p1 : Int) (r : Unit) (hF : slices_pdqsortCmpFunc_Bracket_compare f4 n p1 = some r) (σ : Sg) : EvU Try.prog 44 [.isl false (List.map cGBracket ([] : List GBracket)), .int .i64 0, .int .i64 0, .int .i64 p1, .fn (.func 31) [] []] σ (fun u σ' => u = .tup [] ∧ σ' = σ) :=
  EvU.pure1 (slices_pdqsortCmpFunc_Bracket_compare_0 f4 hf4 n p1 r hF) (by simp only [BelL, Bel, true_and, and_true, and_assoc]; exact belR_map _ (fun q => bel_cGBracket _ q) _) σ
-- 30 slices.SortFunc[[]grammarlab/api.Bracket,grammarlab/api.Bracket]
def slices_SortFunc_Bracket_compare (f1 : GBracket → GBracket → Option (Int)) (n : Nat)  : Option (Unit) :=
  bindO (math_bits_Len n 0) fun r1 =>
  bindO (slices_pdqsortCmpFunc_Bracket_compare f1 n r1) fun r3 =>
  some ()
theorem slices_SortFunc_Bracket_compare_0 (f1 : GBracket → GBracket → Option (Int)) (hf1 : ∀ (a0 : GBracket) (a1 : GBracket) (r : Int), f1 a0 a1 = some r → EvU Try.prog 31 [.agg [.str a0.Name, .int .i64 a0.From, .int .i64 a0.To], .agg [.str a1.Name, .int .i64 a1.From, .int .i64 a1.To]] ⟨[], 0⟩ (fun u _ => u = .int .i64 r ∧ Bel 0 u)) (n : Nat)  (r : Unit) (hF : slices_SortFunc_Bracket_compare f1 n  = some r) : EvU Try.prog 30 [.isl false (List.map cGBracket ([] : List GBracket)), .fn (.func 31) [] []] ⟨[], 0⟩ (fun u _ => u = .tup [] ∧ Bel 0 u) := by
  unfold slices_SortFunc_Bracket_compare at hF
  have hf1S : ∀ (a0 : GBracket) (a1 : GBracket) (r : Int), f1 a0 a1 = some r → ∀ σ, EvU Try.prog 31 [.agg [.str a0.Name, .int .i64 a0.From, .int .i64 a0.To], .agg [.str a1.Name, .int .i64 a1.From, .int .i64 a1.To]] σ (fun u σ' => u = .int .i64 r ∧ σ' = σ) := fun a0 a1 r h σ => EvU.pure1 (hf1 a0 a1 r h) (by simp only [BelL, Bel, true_and, and_true, and_assoc]) σ
  refine EvU.of_body Try.tb_ok Try.fn30 rfl ?_
  refine WPU.ghost (tm' := fr 14 [(0, .isl false (List.map cGBracket ([] : List GBracket))), (1, .fn (.func 31) [] [])]) (Gh.start (Nat.le_of_ble_eq_true rfl)) (Nat.zero_le _) ?_
  repeat refine WPU.seq ?_
  refine WPU.region Try.tb_ok ?_
  refine RS.op (u := .isl false (List.map cGBracket ([] : List GBracket))) rfl (op_move rfl) rfl rfl ?_
  refine RS.op (u := .int .i64 0) rfl (op_len rfl rfl rfl (len_isl cGBracket Try.und28)) rfl rfl ?_
  refine RS.op (u := .int .i64 0) rfl (op_assign rfl) rfl rfl ?_
  refine RS.done ?_
  repeat (first | refine q1 ?_ | refine q2 ?_ | refine q3 ?_ | refine q4 ?_ | refine q5 ?_ | refine q6 ?_ | refine q7 (by decide) ?_ | refine q8 ?_ | refine q9 ?_ | refine q0 ?_)
  repeat refine WPU.seq ?_
  obtain ⟨r1, h2, hF⟩ := bindO_some hF
  obtain ⟨r3, h4, hF⟩ := bindO_some hF
  refine WPU.region Try.tb_ok ?_
  refine RS.op (u := .isl false (List.map cGBracket ([] : List GBracket))) rfl (op_move rfl) rfl rfl ?_
  refine RS.op (u := .int .i64 0) rfl (op_move rfl) rfl rfl ?_
  refine RS.op (u := .int .i64 0) rfl (op_move rfl) rfl rfl ?_
  refine RS.op (u := .int .u64 0) rfl (op_conv rfl rfl (by simp only [convX, Try.und3, Try.und69] <;> rfl) rfl) rfl rfl ?_
  refine RS.call (u := .int .i64 r1) (args := [.int .u64 0]) rfl (op_call rfl rfl Try.fn45 Try.hb45 rfl rfl) (math_bits_Len_ok n 0 r1 h2 _) rfl rfl ?_
  refine RS.op (u := .fn (.func 31) [] []) rfl (op_move rfl) rfl rfl ?_
  refine RS.call (u := .tup []) (args := [.isl false (List.map cGBracket ([] : List GBracket)), .int .i64 0, .int .i64 0, .int .i64 r1, .fn (.func 31) [] []]) rfl (op_call rfl rfl Try.fn44 Try.hb44 rfl rfl) (slices_pdqsortCmpFunc_Bracket_compare_ok f1 hf1 n r1 r3 h4 _) rfl rfl ?_
  refine RS.done ?_
  repeat (first | refine q1 ?_ | refine q2 ?_ | refine q3 ?_ | refine q4 ?_ | refine q5 ?_ | refine q6 ?_ | refine q7 (by decide) ?_ | refine q8 ?_ | refine q9 ?_ | refine q0 ?_)
  have hr := Option.some.inj hF
  subst hr
  exact ⟨.inl rfl, [], res_n, .tup [], ⟨[], 0⟩, Nat.le_refl _, Gh.to (n1 := 0) [] rfl rfl (Nat.le_refl _) (Nat.zero_le _) (by simp only [oneU, BelL, Bel, true_and, and_true, and_assoc]) (by simp [BelH, cut]), rfl, by simp only [BelL, Bel, true_and, and_true, and_assoc]⟩
theorem slices_SortFunc_Bracket_compare_ok (f1 : GBracket → GBracket → Option (Int)) (hf1 : ∀ (a0 : GBracket) (a1 : GBracket) (r : Int), f1 a0 a1 = some r → EvU Try.prog 31 [.agg [.str a0.Name, .int .i64 a0.From, .int .i64 a0.To], .agg [.str a1.Name, .int .i64 a1.From, .int .i64 a1.To]] ⟨[], 0⟩ (fun u _ => u = .int .i64 r ∧ Bel 0 u)) (n : Nat)  (r : Unit) (hF : slices_SortFunc_Bracket_compare f1 n  = some r) (σ : Sg) : EvU Try.prog 30 [.isl false (List.map cGBracket ([] : List GBracket)), .fn (.func 31) [] []] σ (fun u σ' => u = .tup [] ∧ σ' = σ) :=
  EvU.pure1 (slices_SortFunc_Bracket_compare_0 f1 hf1 n  r hF) (by simp only [BelL, Bel, true_and, and_true, and_assoc]; exact belR_map _ (fun q => bel_cGBracket _ q) _) σ
end Go.Proofs
