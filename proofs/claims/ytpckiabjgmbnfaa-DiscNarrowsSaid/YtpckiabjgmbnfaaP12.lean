/-
  Texts of the walk: D1.
-/
import Derived.Test.YtpckiabjgmbnfaaP11
section
namespace Go.Proofs
open Go Go.Rx Go.Vx
set_option maxRecDepth 10000
set_option linter.unusedSimpArgs false
set_option linter.unusedVariables false
structure GProp where
  Kind : Int
  Name : List UInt8
  From : Int
  To : Int
instance : Inhabited GProp := ⟨.mk default default default default⟩
def cGProp (x : GProp) : List U := [.int .i64 x.Kind, .str x.Name, .int .i64 x.From, .int .i64 x.To]
theorem bel_cGProp (n : Nat) (x : GProp) : BelL n (cGProp x) := by
  simp only [cGProp, BelL, Bel, true_and, and_true]
theorem len_cGProp (x : GProp) : (cGProp x).length = 4 := rfl
instance : BF cGProp := ⟨bel_cGProp⟩
instance (n : Nat) (x : GProp) : BUL n (cGProp x) := ⟨bel_cGProp n x⟩
theorem fz_cGProp (K : Nat) (b : B) (sz : Nat) (x : GProp) : fzL K b sz (cGProp x) = cGProp x := fzL_bel _ _ _ (bel_cGProp K x)
def eqGProp (x y : GProp) : Bool := ((x.Kind == y.Kind) && (bytesEq x.Name y.Name && ((x.From == y.From) && (x.To == y.To))))
inductive GDeriv where
  | mk (Kind : Int) (Name : List UInt8) (From : Int) (To : Int) (Kids : List GDeriv)
instance : Inhabited GDeriv := ⟨.mk default default default default []⟩
def GDeriv.Kind : GDeriv → Int
  | .mk a0 _ _ _ _ => a0
def GDeriv.Name : GDeriv → List UInt8
  | .mk _ a1 _ _ _ => a1
def GDeriv.From : GDeriv → Int
  | .mk _ _ a2 _ _ => a2
def GDeriv.To : GDeriv → Int
  | .mk _ _ _ a3 _ => a3
def GDeriv.Kids : GDeriv → List GDeriv
  | .mk _ _ _ _ a4 => a4
mutual
def cGDeriv : GDeriv → List U
  | .mk a0 a1 a2 a3 a4 => [.int .i64 a0, .str a1, .int .i64 a2, .int .i64 a3, .isl false (cGDeriv_l a4)]
def cGDeriv_l : List GDeriv → List (List U)
  | [] => []
  | x :: l => cGDeriv x :: cGDeriv_l l
end
theorem cGDeriv_l_eq : ∀ l, cGDeriv_l l = l.map cGDeriv
  | [] => by simp [cGDeriv_l]
  | x :: l => by simp [cGDeriv_l, cGDeriv_l_eq l]
def xGDeriv (x : GDeriv) : List U := [.int .i64 x.Kind, .str x.Name, .int .i64 x.From, .int .i64 x.To, .isl false (List.map cGDeriv x.Kids)]
theorem cGDeriv_eq (x : GDeriv) : cGDeriv x = xGDeriv x := by
  cases x; simp only [cGDeriv, cGDeriv_l_eq]; rfl
mutual
theorem bel_cGDeriv (n : Nat) : ∀ x, BelL n (cGDeriv x)
  | .mk a0 a1 a2 a3 a4 => by simp only [cGDeriv, BelL, Bel, true_and, and_true]; exact bel_cGDeriv_l n a4
theorem bel_cGDeriv_l (n : Nat) : ∀ l, BelR n (cGDeriv_l l)
  | [] => by simp [cGDeriv_l, BelR]
  | x :: l => by simp only [cGDeriv_l, BelR]; exact ⟨bel_cGDeriv n x, bel_cGDeriv_l n l⟩
end
theorem len_cGDeriv (x : GDeriv) : (cGDeriv x).length = 5 := by rw [cGDeriv_eq]; rfl
theorem bel_xGDeriv (n : Nat) (x : GDeriv) : BelL n (xGDeriv x) := by rw [← cGDeriv_eq]; exact bel_cGDeriv n x
instance : BF cGDeriv := ⟨bel_cGDeriv⟩
instance (n : Nat) (x : GDeriv) : BUL n (xGDeriv x) := ⟨bel_xGDeriv n x⟩
theorem fz_xGDeriv (K : Nat) (b : B) (sz : Nat) (x : GDeriv) : fzL K b sz (xGDeriv x) = xGDeriv x := fzL_bel _ _ _ (bel_xGDeriv K x)
structure GDecision where
  Propx : GProp
  Yes : Bool
instance : Inhabited GDecision := ⟨.mk default default⟩
def cGDecision (x : GDecision) : List U := [.int .i64 x.Propx.Kind, .str x.Propx.Name, .int .i64 x.Propx.From, .int .i64 x.Propx.To, .bool x.Yes]
theorem bel_cGDecision (n : Nat) (x : GDecision) : BelL n (cGDecision x) := by
  simp only [cGDecision, BelL, Bel, true_and, and_true]
theorem len_cGDecision (x : GDecision) : (cGDecision x).length = 5 := rfl
instance : BF cGDecision := ⟨bel_cGDecision⟩
instance (n : Nat) (x : GDecision) : BUL n (cGDecision x) := ⟨bel_cGDecision n x⟩
theorem fz_cGDecision (K : Nat) (b : B) (sz : Nat) (x : GDecision) : fzL K b sz (cGDecision x) = cGDecision x := fzL_bel _ _ _ (bel_cGDecision K x)
def eqGDecision (x y : GDecision) : Bool := (((x.Propx.Kind == y.Propx.Kind) && (bytesEq x.Propx.Name y.Propx.Name && ((x.Propx.From == y.Propx.From) && (x.Propx.To == y.Propx.To)))) && (x.Yes == y.Yes))
theorem Try.eqs26 : Try.tb.eqs 26 = true := by kernel_rfl
theorem eqv26 (x y : GProp) : eqv Try.tb 50 26 (.agg ⟨[.int .i64 x.Kind, .string ⟨⟨x.Name⟩⟩, .int .i64 x.From, .int .i64 x.To]⟩) (.agg ⟨[.int .i64 y.Kind, .string ⟨⟨y.Name⟩⟩, .int .i64 y.From, .int .i64 y.To]⟩) = some (eqGProp x y) := by
  simp only [eqv, cond_true, cond_false, eqFs, partX, isAggD, nth, sizeX, List.drop, List.take, List.toList_toArray, eqGProp, ne_eq, String.reduceEq, not_false_eq_true, if_true, Try.und3, Try.und9, Try.und26, Try.eqs26, Try.inf26]
  cases (x.Kind == y.Kind) <;> cases bytesEq x.Name y.Name <;> cases (x.From == y.From) <;> cases (x.To == y.To) <;> rfl
theorem eqq26_eql (x y : GProp) : g2 (binX Try.tb .eql 26) (.agg [.int .i64 x.Kind, .str x.Name, .int .i64 x.From, .int .i64 x.To]) (.agg [.int .i64 y.Kind, .str y.Name, .int .i64 y.From, .int .i64 y.To]) = some (.bool (eqGProp x y)) := by
  simp only [g2, toV, toVL, okL, okC, cond_true, binX, guardX, Try.eqs26, eqv26, ofV]
theorem eqq26_neq (x y : GProp) : g2 (binX Try.tb .neq 26) (.agg [.int .i64 x.Kind, .str x.Name, .int .i64 x.From, .int .i64 x.To]) (.agg [.int .i64 y.Kind, .str y.Name, .int .i64 y.From, .int .i64 y.To]) = some (.bool (!eqGProp x y)) := by
  simp only [g2, toV, toVL, okL, okC, cond_true, binX, guardX, Try.eqs26, eqv26, ofV]
theorem Try.eqs44 : Try.tb.eqs 44 = true := by kernel_rfl
theorem eqv44 (x y : GDecision) : eqv Try.tb 50 44 (.agg ⟨[.int .i64 x.Propx.Kind, .string ⟨⟨x.Propx.Name⟩⟩, .int .i64 x.Propx.From, .int .i64 x.Propx.To, .bool x.Yes]⟩) (.agg ⟨[.int .i64 y.Propx.Kind, .string ⟨⟨y.Propx.Name⟩⟩, .int .i64 y.Propx.From, .int .i64 y.Propx.To, .bool y.Yes]⟩) = some (eqGDecision x y) := by
  simp only [eqv, cond_true, cond_false, eqFs, partX, isAggD, nth, sizeX, List.drop, List.take, List.toList_toArray, eqGDecision, ne_eq, String.reduceEq, not_false_eq_true, if_true, Try.und3, Try.und4, Try.und9, Try.und26, Try.und44, Try.eqs26, Try.eqs44, Try.inf26, Try.inf44]
  cases (x.Propx.Kind == y.Propx.Kind) <;> cases bytesEq x.Propx.Name y.Propx.Name <;> cases (x.Propx.From == y.Propx.From) <;> cases (x.Propx.To == y.Propx.To) <;> cases (x.Yes == y.Yes) <;> rfl
theorem eqq44_neq (x y : GDecision) : g2 (binX Try.tb .neq 44) (.agg [.int .i64 x.Propx.Kind, .str x.Propx.Name, .int .i64 x.Propx.From, .int .i64 x.Propx.To, .bool x.Yes]) (.agg [.int .i64 y.Propx.Kind, .str y.Propx.Name, .int .i64 y.Propx.From, .int .i64 y.Propx.To, .bool y.Yes]) = some (.bool (!eqGDecision x y)) := by
  simp only [g2, toV, toVL, okL, okC, cond_true, binX, guardX, Try.eqs44, eqv44, ofV]
theorem Try.bd24 : BdT Try.tb 24 [.int .i64 0, .str [], .int .i64 0, .int .i64 0, .nils] [(0, 1), (1, 1), (2, 1), (3, 1), (4, 1)] := bdT Try.und24 Try.inf24 rfl (by kernel_rfl)
theorem Try.bd26 : BdT Try.tb 26 [.int .i64 0, .str [], .int .i64 0, .int .i64 0] [(0, 1), (1, 1), (2, 1), (3, 1)] := bdT Try.und26 Try.inf26 rfl (by kernel_rfl)
theorem Try.bd44 : BdT Try.tb 44 [.int .i64 0, .str [], .int .i64 0, .int .i64 0, .bool false] [(0, 4), (4, 1)] := bdT Try.und44 Try.inf44 rfl (by kernel_rfl)
def cmp_Or_int_K1   : Option (Int) :=
  some 0
def cmp_Or_int_L1 (p1 : List Int) : Nat → Int → Option (Int)
  | 0, _ => none
  | m1 + 1, z6 =>
    cond (decide (z6 < (p1.length : Int)))
      (bindO (idxO p1 z6) fun x8 =>
      cond (x8 != 0)
        (some x8)
        ((cmp_Or_int_L1 p1 m1) (IntKind.i64.wrap (z6 + 1))))
      (cmp_Or_int_K1)
def cmp_Or_int (n : Nat) (p1 : List Int) : Option (Int) :=
  cmp_Or_int_L1 p1 n 0
theorem cmp_Or_int_0 (n : Nat) (p1 : List Int) (r : Int) (hF : cmp_Or_int n p1 = some r) : EvU Try.prog 44 [.isl false (List.map (cI .i64) p1)] ⟨[], 0⟩ (fun u _ => u = .int .i64 r ∧ Bel 0 u) := by
  unfold cmp_Or_int at hF
  refine EvU.of_body Try.tb_ok Try.fn44 rfl ?_
  refine WPU.ghost (tm' := fr 18 [(0, .isl false (List.map (cI .i64) p1))]) (Gh.start (Nat.le_of_ble_eq_true rfl)) (Nat.zero_le _) ?_
  repeat refine sq ?_
  refine WPU.region Try.tb_ok ?_
  refine RS.as rfl rfl rfl rfl ?_
  refine RS.done ?_
  repeat refine gq ?_
  repeat refine sq ?_
  refine WPU.region Try.tb_ok ?_
  refine RS.as rfl rfl rfl rfl ?_
  refine RS.done ?_
  repeat refine gq ?_
  repeat refine sq ?_
  refine WPU.region Try.tb_ok ?_
  refine RS.mv rfl rfl rfl rfl ?_
  refine RS.op rfl (op_len rfl rfl rfl (len_isl (cI .i64) Try.und38)) rfl rfl ?_
  refine RS.mv rfl rfl rfl rfl ?_
  refine RS.done ?_
  repeat refine gq ?_
  repeat refine sq ?_
  refine WPU.ghost (tm' := fr 18 [(3, .int .i64 0), (6, .isl false (List.map (cI .i64) p1)), (7, .int .i64 (p1.length : Int)), (8, .int .i64 0)]) (Gh.sub ⟨rfl, rfl, rfl, rfl, trivial⟩) (Nat.zero_le _) ?_
  refine WPU.loopK (fun m tm σ => ∃ z6 : Int, cmp_Or_int_L1 p1 m z6 = some r ∧ tm = fr 18 [(3, .int .i64 0), (6, .isl false (List.map (cI .i64) p1)), (7, .int .i64 (p1.length : Int)), (8, .int .i64 z6)] ∧ σ = ⟨[], 0⟩) (fun tm σ => cmp_Or_int_K1 = some r ∧ tm = fr 18 [(3, .int .i64 0)] ∧ σ = ⟨[], 0⟩) n ⟨0, hF, rfl, rfl⟩ ?_ ?_
  rintro _ _ ⟨hF, rfl, rfl⟩
  unfold cmp_Or_int_K1 at hF
  repeat refine gq ?_
  repeat refine sq ?_
  refine WPU.region Try.tb_ok ?_
  refine RS.mv rfl rfl rfl rfl ?_
  refine RS.as rfl rfl rfl rfl ?_
  refine RS.done ?_
  repeat refine gq ?_
  repeat refine sq ?_
  refine WPU.ret ?_
  repeat refine gq ?_
  have hr := Option.some.inj hF
  subst hr
  exact ⟨.inr rfl, [.int .i64 0], res_t rfl (res_n), .int .i64 0, ⟨[], 0⟩, Nat.le_refl _, Gh.toR (.int .i64 0) rfl, rfl, BU.h⟩
  rintro m1 _ _ ⟨z6, hF, rfl, rfl⟩
  rcases m1 with _ | m1
  cases hF
  unfold cmp_Or_int_L1 at hF
  repeat refine sq ?_
  refine WPU.region Try.tb_ok ?_
  refine RS.op rfl (op_int rfl rfl (ix_lss _ _ _) rfl) rfl rfl ?_
  refine RS.done ?_
  repeat refine gq ?_
  repeat refine sq ?_
  refine WPU.condS (t := (decide (z6 < (p1.length : Int)))) rfl (fun h7 => ?_) (fun h7 => ?_)
  replace hF := cond_t h7 hF
  repeat refine sq ?_
  refine WPU.skip ?_
  repeat refine gq ?_
  repeat refine sq ?_
  refine WPU.block ?_
  repeat refine sq ?_
  obtain ⟨x8, h9, hF⟩ := bindO_some hF
  refine WPU.region Try.tb_ok ?_
  refine RS.op (u := .iptr [.int .i64 x8]) rfl (op_ia rfl rfl (ia_isl (cI .i64) Try.und38 (sz_of Try.inf3) (len_cI .i64) h9 rfl)) rfl rfl ?_
  refine RS.op (u := .int .i64 x8) rfl (li_one Try.und3 rfl rfl rfl) rfl rfl ?_
  refine RS.as rfl rfl rfl rfl ?_
  refine RS.done ?_
  repeat refine gq ?_
  repeat refine sq ?_
  refine WPU.region Try.tb_ok ?_
  repeat refine RS.mv rfl rfl rfl rfl ?_
  refine RS.op rfl (op_int rfl rfl (ix_neq _ _ _) rfl) rfl rfl ?_
  refine RS.done ?_
  repeat refine gq ?_
  repeat refine sq ?_
  refine WPU.condS (t := (x8 != 0)) rfl (fun h10 => ?_) (fun h10 => ?_)
  replace hF := cond_t h10 hF
  repeat refine sq ?_
  refine WPU.region Try.tb_ok ?_
  refine RS.mv rfl rfl rfl rfl ?_
  refine RS.as rfl rfl rfl rfl ?_
  refine RS.done ?_
  repeat refine gq ?_
  repeat refine sq ?_
  refine WPU.ret ?_
  repeat refine gq ?_
  have hr := Option.some.inj hF
  subst hr
  exact ⟨.inr rfl, [.int .i64 x8], res_t rfl (res_n), .int .i64 x8, ⟨[], 0⟩, Nat.le_refl _, Gh.toR (.int .i64 x8) rfl, rfl, BU.h⟩
  replace hF := cond_f h10 hF
  repeat refine sq ?_
  refine WPU.skip ?_
  repeat refine gq ?_
  repeat refine sq ?_
  refine WPU.region Try.tb_ok ?_
  refine RS.op rfl (op_int rfl rfl (ix_add _ _ _) rfl) rfl rfl ?_
  refine RS.mv rfl rfl rfl rfl ?_
  refine RS.done ?_
  repeat refine gq ?_
  exact ⟨m1, _, _, Nat.lt_succ_self _, ⟨(IntKind.i64.wrap (z6 + 1)), hF, rfl, rfl⟩, (Nat.zero_le _), Gh.toC (n1 := 0) ⟨rfl, rfl, rfl, rfl, trivial⟩ rfl (Nat.zero_le _) (by simp)⟩
  replace hF := cond_f h7 hF
  repeat refine sq ?_
  refine WPU.exit ?_
  repeat refine gq ?_
  exact ⟨_, _, ⟨hF, rfl, rfl⟩, (Nat.zero_le _), Gh.toC (n1 := 0) ⟨rfl, trivial⟩ rfl (Nat.zero_le _) (by simp)⟩
def cmp_isNaN_int (n : Nat) (p1 : Int) : Option (Bool) :=
  some (p1 != p1)
theorem cmp_isNaN_int_0 (n : Nat) (p1 : Int) (r : Bool) (hF : cmp_isNaN_int n p1 = some r) : EvU Try.prog 62 [.int .i64 p1] ⟨[], 0⟩ (fun u _ => u = .bool r ∧ Bel 0 u) := by
  unfold cmp_isNaN_int at hF
  refine EvU.of_body Try.tb_ok Try.fn62 rfl ?_
  refine WPU.ghost (tm' := fr 6 [(0, .int .i64 p1)]) (Gh.start (Nat.le_of_ble_eq_true rfl)) (Nat.zero_le _) ?_
  repeat refine sq ?_
  refine WPU.region Try.tb_ok ?_
  refine RS.as rfl rfl rfl rfl ?_
  refine RS.done ?_
  repeat refine gq ?_
  repeat refine sq ?_
  refine WPU.region Try.tb_ok ?_
  repeat refine RS.mv rfl rfl rfl rfl ?_
  refine RS.op rfl (op_int rfl rfl (ix_neq _ _ _) rfl) rfl rfl ?_
  refine RS.as rfl rfl rfl rfl ?_
  refine RS.done ?_
  repeat refine gq ?_
  repeat refine sq ?_
  refine WPU.ret ?_
  repeat refine gq ?_
  have hr := Option.some.inj hF
  subst hr
  exact ⟨.inr rfl, [.bool (p1 != p1)], res_t rfl (res_n), .bool (p1 != p1), ⟨[], 0⟩, Nat.le_refl _, Gh.toR (.bool (p1 != p1)) rfl, rfl, BU.h⟩
theorem cmp_isNaN_int_ok (n : Nat) (p1 : Int) (r : Bool) (hF : cmp_isNaN_int n p1 = some r) (σ : Sg) : EvU Try.prog 62 [.int .i64 p1] σ (fun u σ' => u = .bool r ∧ σ' = σ) :=
  EvU.pure1C (cmp_isNaN_int_0 n p1 r hF) σ
def cmp_Compare_int (n : Nat) (p1 : Int) (p2 : Int) : Option (Int) :=
  bindO (cmp_isNaN_int n p1) fun r3 =>
  bindO (cmp_isNaN_int n p2) fun r5 =>
  cond r3
    (cond r5
      (some 0)
      (some (-1)))
    (cond r5
      (some 1)
      (cond (decide (p1 < p2))
        (some (-1))
        (cond (decide (p1 > p2))
          (some 1)
          (some 0))))
theorem cmp_Compare_int_0 (n : Nat) (p1 : Int) (p2 : Int) (r : Int) (hF : cmp_Compare_int n p1 p2 = some r) : EvU Try.prog 45 [.int .i64 p1, .int .i64 p2] ⟨[], 0⟩ (fun u _ => u = .int .i64 r ∧ Bel 0 u) := by
  unfold cmp_Compare_int at hF
  refine EvU.of_body Try.tb_ok Try.fn45 rfl ?_
  refine WPU.ghost (tm' := fr 20 [(0, .int .i64 p1), (1, .int .i64 p2)]) (Gh.start (Nat.le_of_ble_eq_true rfl)) (Nat.zero_le _) ?_
  repeat refine sq ?_
  refine WPU.region Try.tb_ok ?_
  refine RS.as rfl rfl rfl rfl ?_
  refine RS.done ?_
  repeat refine gq ?_
  repeat refine sq ?_
  obtain ⟨r3, h4, hF⟩ := bindO_some hF
  refine WPU.region Try.tb_ok ?_
  refine RS.mv rfl rfl rfl rfl ?_
  refine RS.call (u := .bool r3) (args := [.int .i64 p1]) rfl (op_call rfl rfl Try.fn62 Try.hb62 rfl rfl) (cmp_isNaN_int_ok n p1 r3 h4 _) rfl rfl ?_
  refine RS.as rfl rfl rfl rfl ?_
  refine RS.done ?_
  repeat refine gq ?_
  repeat refine sq ?_
  obtain ⟨r5, h6, hF⟩ := bindO_some hF
  refine WPU.region Try.tb_ok ?_
  refine RS.mv rfl rfl rfl rfl ?_
  refine RS.call (u := .bool r5) (args := [.int .i64 p2]) rfl (op_call rfl rfl Try.fn62 Try.hb62 rfl rfl) (cmp_isNaN_int_ok n p2 r5 h6 _) rfl rfl ?_
  refine RS.as rfl rfl rfl rfl ?_
  refine RS.done ?_
  repeat refine gq ?_
  repeat refine sq ?_
  refine WPU.region Try.tb_ok ?_
  refine RS.mv rfl rfl rfl rfl ?_
  refine RS.done ?_
  repeat refine gq ?_
  repeat refine sq ?_
  refine WPU.condS (t := r3) rfl (fun h7 => ?_) (fun h7 => ?_)
  replace hF := cond_t h7 hF
  repeat refine sq ?_
  refine WPU.region Try.tb_ok ?_
  refine RS.mv rfl rfl rfl rfl ?_
  refine RS.done ?_
  repeat refine gq ?_
  repeat refine sq ?_
  refine WPU.condS (t := r5) rfl (fun h8 => ?_) (fun h8 => ?_)
  replace hF := cond_t h8 hF
  repeat refine sq ?_
  refine WPU.region Try.tb_ok ?_
  refine RS.as rfl rfl rfl rfl ?_
  refine RS.done ?_
  repeat refine gq ?_
  repeat refine sq ?_
  refine WPU.ret ?_
  repeat refine gq ?_
  have hr := Option.some.inj hF
  subst hr
  exact ⟨.inr rfl, [.int .i64 0], res_t rfl (res_n), .int .i64 0, ⟨[], 0⟩, Nat.le_refl _, Gh.toR (.int .i64 0) rfl, rfl, BU.h⟩
  replace hF := cond_f h8 hF
  repeat refine sq ?_
  refine WPU.skip ?_
  repeat refine gq ?_
  repeat refine sq ?_
  refine WPU.region Try.tb_ok ?_
  refine RS.as rfl rfl rfl rfl ?_
  refine RS.done ?_
  repeat refine gq ?_
  repeat refine sq ?_
  refine WPU.ret ?_
  repeat refine gq ?_
  have hr := Option.some.inj hF
  subst hr
  exact ⟨.inr rfl, [.int .i64 (-1)], res_t rfl (res_n), .int .i64 (-1), ⟨[], 0⟩, Nat.le_refl _, Gh.toR (.int .i64 (-1)) rfl, rfl, BU.h⟩
  replace hF := cond_f h7 hF
  repeat refine sq ?_
  refine WPU.skip ?_
  repeat refine gq ?_
  repeat refine sq ?_
  refine WPU.region Try.tb_ok ?_
  refine RS.mv rfl rfl rfl rfl ?_
  refine RS.done ?_
  repeat refine gq ?_
  repeat refine sq ?_
  refine WPU.condS (t := r5) rfl (fun h9 => ?_) (fun h9 => ?_)
  replace hF := cond_t h9 hF
  repeat refine sq ?_
  refine WPU.region Try.tb_ok ?_
  refine RS.as rfl rfl rfl rfl ?_
  refine RS.done ?_
  repeat refine gq ?_
  repeat refine sq ?_
  refine WPU.ret ?_
  repeat refine gq ?_
  have hr := Option.some.inj hF
  subst hr
  exact ⟨.inr rfl, [.int .i64 1], res_t rfl (res_n), .int .i64 1, ⟨[], 0⟩, Nat.le_refl _, Gh.toR (.int .i64 1) rfl, rfl, BU.h⟩
  replace hF := cond_f h9 hF
  repeat refine sq ?_
  refine WPU.skip ?_
  repeat refine gq ?_
  repeat refine sq ?_
  refine WPU.region Try.tb_ok ?_
  repeat refine RS.mv rfl rfl rfl rfl ?_
  refine RS.op rfl (op_int rfl rfl (ix_lss _ _ _) rfl) rfl rfl ?_
  refine RS.done ?_
  repeat refine gq ?_
  repeat refine sq ?_
  refine WPU.condS (t := (decide (p1 < p2))) rfl (fun h10 => ?_) (fun h10 => ?_)
  replace hF := cond_t h10 hF
  repeat refine sq ?_
  refine WPU.region Try.tb_ok ?_
  refine RS.as rfl rfl rfl rfl ?_
  refine RS.done ?_
  repeat refine gq ?_
  repeat refine sq ?_
  refine WPU.ret ?_
  repeat refine gq ?_
  have hr := Option.some.inj hF
  subst hr
  exact ⟨.inr rfl, [.int .i64 (-1)], res_t rfl (res_n), .int .i64 (-1), ⟨[], 0⟩, Nat.le_refl _, Gh.toR (.int .i64 (-1)) rfl, rfl, BU.h⟩
  replace hF := cond_f h10 hF
  repeat refine sq ?_
  refine WPU.skip ?_
  repeat refine gq ?_
  repeat refine sq ?_
  refine WPU.region Try.tb_ok ?_
  repeat refine RS.mv rfl rfl rfl rfl ?_
  refine RS.op rfl (op_int rfl rfl (ix_gtr _ _ _) rfl) rfl rfl ?_
  refine RS.done ?_
  repeat refine gq ?_
  repeat refine sq ?_
  refine WPU.condS (t := (decide (p1 > p2))) rfl (fun h11 => ?_) (fun h11 => ?_)
  replace hF := cond_t h11 hF
  repeat refine sq ?_
  refine WPU.region Try.tb_ok ?_
  refine RS.as rfl rfl rfl rfl ?_
  refine RS.done ?_
  repeat refine gq ?_
  repeat refine sq ?_
  refine WPU.ret ?_
  repeat refine gq ?_
  have hr := Option.some.inj hF
  subst hr
  exact ⟨.inr rfl, [.int .i64 1], res_t rfl (res_n), .int .i64 1, ⟨[], 0⟩, Nat.le_refl _, Gh.toR (.int .i64 1) rfl, rfl, BU.h⟩
  replace hF := cond_f h11 hF
  repeat refine sq ?_
  refine WPU.skip ?_
  repeat refine gq ?_
  repeat refine sq ?_
  refine WPU.region Try.tb_ok ?_
  refine RS.as rfl rfl rfl rfl ?_
  refine RS.done ?_
  repeat refine gq ?_
  repeat refine sq ?_
  refine WPU.ret ?_
  repeat refine gq ?_
  have hr := Option.some.inj hF
  subst hr
  exact ⟨.inr rfl, [.int .i64 0], res_t rfl (res_n), .int .i64 0, ⟨[], 0⟩, Nat.le_refl _, Gh.toR (.int .i64 0) rfl, rfl, BU.h⟩
theorem cmp_Compare_int_ok (n : Nat) (p1 : Int) (p2 : Int) (r : Int) (hF : cmp_Compare_int n p1 p2 = some r) (σ : Sg) : EvU Try.prog 45 [.int .i64 p1, .int .i64 p2] σ (fun u σ' => u = .int .i64 r ∧ σ' = σ) :=
  EvU.pure1C (cmp_Compare_int_0 n p1 p2 r hF) σ
def cmp_isNaN_string (n : Nat) (p1 : List UInt8) : Option (Bool) :=
  some (!bytesEq p1 p1)
theorem cmp_isNaN_string_0 (n : Nat) (p1 : List UInt8) (r : Bool) (hF : cmp_isNaN_string n p1 = some r) : EvU Try.prog 63 [.str p1] ⟨[], 0⟩ (fun u _ => u = .bool r ∧ Bel 0 u) := by
  unfold cmp_isNaN_string at hF
  refine EvU.of_body Try.tb_ok Try.fn63 rfl ?_
  refine WPU.ghost (tm' := fr 6 [(0, .str p1)]) (Gh.start (Nat.le_of_ble_eq_true rfl)) (Nat.zero_le _) ?_
  repeat refine sq ?_
  refine WPU.region Try.tb_ok ?_
  refine RS.as rfl rfl rfl rfl ?_
  refine RS.done ?_
  repeat refine gq ?_
  repeat refine sq ?_
  refine WPU.region Try.tb_ok ?_
  repeat refine RS.mv rfl rfl rfl rfl ?_
  refine RS.op (u := .bool (!bytesEq p1 p1)) rfl (op_str rfl rfl rfl rfl) rfl rfl ?_
  refine RS.as rfl rfl rfl rfl ?_
  refine RS.done ?_
  repeat refine gq ?_
  repeat refine sq ?_
  refine WPU.ret ?_
  repeat refine gq ?_
  have hr := Option.some.inj hF
  subst hr
  exact ⟨.inr rfl, [.bool (!bytesEq p1 p1)], res_t rfl (res_n), .bool (!bytesEq p1 p1), ⟨[], 0⟩, Nat.le_refl _, Gh.toR (.bool (!bytesEq p1 p1)) rfl, rfl, BU.h⟩
theorem cmp_isNaN_string_ok (n : Nat) (p1 : List UInt8) (r : Bool) (hF : cmp_isNaN_string n p1 = some r) (σ : Sg) : EvU Try.prog 63 [.str p1] σ (fun u σ' => u = .bool r ∧ σ' = σ) :=
  EvU.pure1C (cmp_isNaN_string_0 n p1 r hF) σ
def cmp_Compare_string (n : Nat) (p1 : List UInt8) (p2 : List UInt8) : Option (Int) :=
  bindO (cmp_isNaN_string n p1) fun r3 =>
  bindO (cmp_isNaN_string n p2) fun r5 =>
  cond r3
    (cond r5
      (some 0)
      (some (-1)))
    (cond r5
      (some 1)
      (cond (bytesLt p1 p2)
        (some (-1))
        (cond (!(bytesLt p1 p2 || bytesEq p1 p2))
          (some 1)
          (some 0))))
theorem cmp_Compare_string_0 (n : Nat) (p1 : List UInt8) (p2 : List UInt8) (r : Int) (hF : cmp_Compare_string n p1 p2 = some r) : EvU Try.prog 46 [.str p1, .str p2] ⟨[], 0⟩ (fun u _ => u = .int .i64 r ∧ Bel 0 u) := by
  unfold cmp_Compare_string at hF
  refine EvU.of_body Try.tb_ok Try.fn46 rfl ?_
  refine WPU.ghost (tm' := fr 20 [(0, .str p1), (1, .str p2)]) (Gh.start (Nat.le_of_ble_eq_true rfl)) (Nat.zero_le _) ?_
  repeat refine sq ?_
  refine WPU.region Try.tb_ok ?_
  refine RS.as rfl rfl rfl rfl ?_
  refine RS.done ?_
  repeat refine gq ?_
  repeat refine sq ?_
  obtain ⟨r3, h4, hF⟩ := bindO_some hF
  refine WPU.region Try.tb_ok ?_
  refine RS.mv rfl rfl rfl rfl ?_
  refine RS.call (u := .bool r3) (args := [.str p1]) rfl (op_call rfl rfl Try.fn63 Try.hb63 rfl rfl) (cmp_isNaN_string_ok n p1 r3 h4 _) rfl rfl ?_
  refine RS.as rfl rfl rfl rfl ?_
  refine RS.done ?_
  repeat refine gq ?_
  repeat refine sq ?_
  obtain ⟨r5, h6, hF⟩ := bindO_some hF
  refine WPU.region Try.tb_ok ?_
  refine RS.mv rfl rfl rfl rfl ?_
  refine RS.call (u := .bool r5) (args := [.str p2]) rfl (op_call rfl rfl Try.fn63 Try.hb63 rfl rfl) (cmp_isNaN_string_ok n p2 r5 h6 _) rfl rfl ?_
  refine RS.as rfl rfl rfl rfl ?_
  refine RS.done ?_
  repeat refine gq ?_
  repeat refine sq ?_
  refine WPU.region Try.tb_ok ?_
  refine RS.mv rfl rfl rfl rfl ?_
  refine RS.done ?_
  repeat refine gq ?_
  repeat refine sq ?_
  refine WPU.condS (t := r3) rfl (fun h7 => ?_) (fun h7 => ?_)
  replace hF := cond_t h7 hF
  repeat refine sq ?_
  refine WPU.region Try.tb_ok ?_
  refine RS.mv rfl rfl rfl rfl ?_
  refine RS.done ?_
  repeat refine gq ?_
  repeat refine sq ?_
  refine WPU.condS (t := r5) rfl (fun h8 => ?_) (fun h8 => ?_)
  replace hF := cond_t h8 hF
  repeat refine sq ?_
  refine WPU.region Try.tb_ok ?_
  refine RS.as rfl rfl rfl rfl ?_
  refine RS.done ?_
  repeat refine gq ?_
  repeat refine sq ?_
  refine WPU.ret ?_
  repeat refine gq ?_
  have hr := Option.some.inj hF
  subst hr
  exact ⟨.inr rfl, [.int .i64 0], res_t rfl (res_n), .int .i64 0, ⟨[], 0⟩, Nat.le_refl _, Gh.toR (.int .i64 0) rfl, rfl, BU.h⟩
  replace hF := cond_f h8 hF
  repeat refine sq ?_
  refine WPU.skip ?_
  repeat refine gq ?_
  repeat refine sq ?_
  refine WPU.region Try.tb_ok ?_
  refine RS.as rfl rfl rfl rfl ?_
  refine RS.done ?_
  repeat refine gq ?_
  repeat refine sq ?_
  refine WPU.ret ?_
  repeat refine gq ?_
  have hr := Option.some.inj hF
  subst hr
  exact ⟨.inr rfl, [.int .i64 (-1)], res_t rfl (res_n), .int .i64 (-1), ⟨[], 0⟩, Nat.le_refl _, Gh.toR (.int .i64 (-1)) rfl, rfl, BU.h⟩
  replace hF := cond_f h7 hF
  repeat refine sq ?_
  refine WPU.skip ?_
  repeat refine gq ?_
  repeat refine sq ?_
  refine WPU.region Try.tb_ok ?_
  refine RS.mv rfl rfl rfl rfl ?_
  refine RS.done ?_
  repeat refine gq ?_
  repeat refine sq ?_
  refine WPU.condS (t := r5) rfl (fun h9 => ?_) (fun h9 => ?_)
  replace hF := cond_t h9 hF
  repeat refine sq ?_
  refine WPU.region Try.tb_ok ?_
  refine RS.as rfl rfl rfl rfl ?_
  refine RS.done ?_
  repeat refine gq ?_
  repeat refine sq ?_
  refine WPU.ret ?_
  repeat refine gq ?_
  have hr := Option.some.inj hF
  subst hr
  exact ⟨.inr rfl, [.int .i64 1], res_t rfl (res_n), .int .i64 1, ⟨[], 0⟩, Nat.le_refl _, Gh.toR (.int .i64 1) rfl, rfl, BU.h⟩
  replace hF := cond_f h9 hF
  repeat refine sq ?_
  refine WPU.skip ?_
  repeat refine gq ?_
  repeat refine sq ?_
  refine WPU.region Try.tb_ok ?_
  repeat refine RS.mv rfl rfl rfl rfl ?_
  refine RS.op (u := .bool (bytesLt p1 p2)) rfl (op_str rfl rfl rfl rfl) rfl rfl ?_
  refine RS.done ?_
  repeat refine gq ?_
  repeat refine sq ?_
  refine WPU.condS (t := (bytesLt p1 p2)) rfl (fun h10 => ?_) (fun h10 => ?_)
  replace hF := cond_t h10 hF
  repeat refine sq ?_
  refine WPU.region Try.tb_ok ?_
  refine RS.as rfl rfl rfl rfl ?_
  refine RS.done ?_
  repeat refine gq ?_
  repeat refine sq ?_
  refine WPU.ret ?_
  repeat refine gq ?_
  have hr := Option.some.inj hF
  subst hr
  exact ⟨.inr rfl, [.int .i64 (-1)], res_t rfl (res_n), .int .i64 (-1), ⟨[], 0⟩, Nat.le_refl _, Gh.toR (.int .i64 (-1)) rfl, rfl, BU.h⟩
  replace hF := cond_f h10 hF
  repeat refine sq ?_
  refine WPU.skip ?_
  repeat refine gq ?_
  repeat refine sq ?_
  refine WPU.region Try.tb_ok ?_
  repeat refine RS.mv rfl rfl rfl rfl ?_
  refine RS.op (u := .bool (!(bytesLt p1 p2 || bytesEq p1 p2))) rfl (op_str rfl rfl rfl rfl) rfl rfl ?_
  refine RS.done ?_
  repeat refine gq ?_
  repeat refine sq ?_
  refine WPU.condS (t := (!(bytesLt p1 p2 || bytesEq p1 p2))) rfl (fun h11 => ?_) (fun h11 => ?_)
  replace hF := cond_t h11 hF
  repeat refine sq ?_
  refine WPU.region Try.tb_ok ?_
  refine RS.as rfl rfl rfl rfl ?_
  refine RS.done ?_
  repeat refine gq ?_
  repeat refine sq ?_
  refine WPU.ret ?_
  repeat refine gq ?_
  have hr := Option.some.inj hF
  subst hr
  exact ⟨.inr rfl, [.int .i64 1], res_t rfl (res_n), .int .i64 1, ⟨[], 0⟩, Nat.le_refl _, Gh.toR (.int .i64 1) rfl, rfl, BU.h⟩
  replace hF := cond_f h11 hF
  repeat refine sq ?_
  refine WPU.skip ?_
  repeat refine gq ?_
  repeat refine sq ?_
  refine WPU.region Try.tb_ok ?_
  refine RS.as rfl rfl rfl rfl ?_
  refine RS.done ?_
  repeat refine gq ?_
  repeat refine sq ?_
  refine WPU.ret ?_
  repeat refine gq ?_
  have hr := Option.some.inj hF
  subst hr
  exact ⟨.inr rfl, [.int .i64 0], res_t rfl (res_n), .int .i64 0, ⟨[], 0⟩, Nat.le_refl _, Gh.toR (.int .i64 0) rfl, rfl, BU.h⟩
theorem cmp_Compare_string_ok (n : Nat) (p1 : List UInt8) (p2 : List UInt8) (r : Int) (hF : cmp_Compare_string n p1 p2 = some r) (σ : Sg) : EvU Try.prog 46 [.str p1, .str p2] σ (fun u σ' => u = .int .i64 r ∧ σ' = σ) :=
  EvU.pure1C (cmp_Compare_string_0 n p1 p2 r hF) σ
def disc_order (n : Nat) (p1 : GProp) (p2 : GProp) : Option (Int) :=
  bindO (cmp_Compare_int n p1.From p2.From) fun r3 =>
  bindO (cmp_Compare_int n p1.To p2.To) fun r5 =>
  bindO (cmp_Compare_int n p1.Kind p2.Kind) fun r7 =>
  bindO (cmp_Compare_string n p1.Name p2.Name) fun r9 =>
  bindO (cmp_Or_int n ([r3, r5, r7, r9])) fun r11 =>
  some r11
theorem disc_order_0 (n : Nat) (p1 : GProp) (p2 : GProp) (r : Int) (hF : disc_order n p1 p2 = some r) : EvU Try.prog 30 [.agg (cGProp p1), .agg (cGProp p2)] ⟨[], 0⟩ (fun u _ => u = .int .i64 r ∧ Bel 0 u) := by
  unfold disc_order at hF
  refine EvU.of_body Try.tb_ok Try.fn30 rfl ?_
  refine WPU.ghost (tm' := fr 27 [(0, .agg (cGProp p1)), (1, .agg (cGProp p2))]) (Gh.start (Nat.le_of_ble_eq_true rfl)) (Nat.zero_le _) ?_
  repeat refine sq ?_
  refine WPU.region Try.tb_ok ?_
  refine RS.op (u := .ptr 0 0 0) (σ' := ⟨[(0, .row (cGProp p1) 26)], 1⟩) rfl (op_box rfl rfl rfl) rfl rfl ?_
  refine RS.op (u := .ptr 1 0 0) (σ' := ⟨[(1, .row (cGProp p2) 26), (0, .row (cGProp p1) 26)], 2⟩) rfl (op_box rfl rfl rfl) rfl rfl ?_
  refine RS.as rfl rfl rfl rfl ?_
  refine RS.done ?_
  repeat refine gq ?_
  repeat refine sq ?_
  obtain ⟨r3, h4, hF⟩ := bindO_some hF
  obtain ⟨r5, h6, hF⟩ := bindO_some hF
  obtain ⟨r7, h8, hF⟩ := bindO_some hF
  obtain ⟨r9, h10, hF⟩ := bindO_some hF
  obtain ⟨r11, h12, hF⟩ := bindO_some hF
  refine WPU.drawE Try.tb_ok [] (by kernel_rfl) ?_
  refine RD.look (u := .ptr 0 0 2) rfl (op_fa Try.und26 rfl (sz_of Try.inf3) rfl rfl rfl) rfl rfl ?_
  refine RD.look (u := .int .i64 p1.From) rfl (ld_one Try.und3 rfl rfl rfl rfl) rfl rfl ?_
  refine RD.look (u := .ptr 1 0 2) rfl (op_fa Try.und26 rfl (sz_of Try.inf3) rfl rfl rfl) rfl rfl ?_
  refine RD.look (u := .int .i64 p2.From) rfl (ld_one Try.und3 rfl rfl rfl rfl) rfl rfl ?_
  refine RD.free (u := .int .i64 r3) (args := [.int .i64 p1.From, .int .i64 p2.From]) rfl (op_call rfl rfl Try.fn45 Try.hb45 rfl rfl) (fun s => cmp_Compare_int_ok n p1.From p2.From r3 h4 s) rfl rfl ?_
  refine RD.look (u := .ptr 0 0 3) rfl (op_fa Try.und26 rfl (sz_of Try.inf3) rfl rfl rfl) rfl rfl ?_
  refine RD.look (u := .int .i64 p1.To) rfl (ld_one Try.und3 rfl rfl rfl rfl) rfl rfl ?_
  refine RD.look (u := .ptr 1 0 3) rfl (op_fa Try.und26 rfl (sz_of Try.inf3) rfl rfl rfl) rfl rfl ?_
  refine RD.look (u := .int .i64 p2.To) rfl (ld_one Try.und3 rfl rfl rfl rfl) rfl rfl ?_
  refine RD.free (u := .int .i64 r5) (args := [.int .i64 p1.To, .int .i64 p2.To]) rfl (op_call rfl rfl Try.fn45 Try.hb45 rfl rfl) (fun s => cmp_Compare_int_ok n p1.To p2.To r5 h6 s) rfl rfl ?_
  refine RD.look (u := .ptr 0 0 0) rfl (op_fa Try.und26 rfl (sz_of Try.inf3) rfl rfl rfl) rfl rfl ?_
  refine RD.look (u := .int .i64 p1.Kind) rfl (ld_one Try.und3 rfl rfl rfl rfl) rfl rfl ?_
  refine RD.look (u := .ptr 1 0 0) rfl (op_fa Try.und26 rfl (sz_of Try.inf3) rfl rfl rfl) rfl rfl ?_
  refine RD.look (u := .int .i64 p2.Kind) rfl (ld_one Try.und3 rfl rfl rfl rfl) rfl rfl ?_
  refine RD.free (u := .int .i64 r7) (args := [.int .i64 p1.Kind, .int .i64 p2.Kind]) rfl (op_call rfl rfl Try.fn45 Try.hb45 rfl rfl) (fun s => cmp_Compare_int_ok n p1.Kind p2.Kind r7 h8 s) rfl rfl ?_
  refine RD.look (u := .ptr 0 0 1) rfl (op_fa Try.und26 rfl (sz_of Try.inf9) rfl rfl rfl) rfl rfl ?_
  refine RD.look (u := .str p1.Name) rfl (ld_one Try.und9 rfl rfl rfl rfl) rfl rfl ?_
  refine RD.look (u := .ptr 1 0 1) rfl (op_fa Try.und26 rfl (sz_of Try.inf9) rfl rfl rfl) rfl rfl ?_
  refine RD.look (u := .str p2.Name) rfl (ld_one Try.und9 rfl rfl rfl rfl) rfl rfl ?_
  refine RD.free (u := .int .i64 r9) (args := [.str p1.Name, .str p2.Name]) rfl (op_call rfl rfl Try.fn46 Try.hb46 rfl rfl) (fun s => cmp_Compare_string_ok n p1.Name p2.Name r9 h10 s) rfl rfl ?_
  refine RD.act (u := .sl 2 0 4 4) (σ' := ⟨[(2, .row [.int .i64 r3, .int .i64 r5, .int .i64 r7, .int .i64 r9] 3), (1, .row (cGProp p2) 26), (0, .row (cGProp p1) 26)], 3⟩) rfl (op_bsl Try.und38 Try.inf3 rfl rfl rfl rfl rfl rfl rfl) rfl rfl ?_
  refine RD.call (u := .int .i64 r11) (args := [.sl 2 0 4 4]) rfl (op_call rfl rfl Try.fn44 Try.hb44 rfl rfl) (EvU.view (cmp_Or_int_0 n ([r3, r5, r7, r9]) r11 h12) BUL.h (by simp only [toV, toVL, okL, okC, cond_true] <;> rfl) (fun m => by simp [ren, renL]) (Gh.fz (tm' := [.isl false (List.map (cI .i64) ([r3, r5, r7, r9]))]) (h' := [(1, .row (cGProp p2) 26), (0, .row (cGProp p1) 26)]) 2 (.row [.int .i64 r3, .int .i64 r5, .int .i64 r7, .int .i64 r9] 3) 1 rfl (by simp) (by simp only [oneU, fzL_nil, fzL_cons, fz_int, fz_bool, fz_str, fz_nils, fz_nilp, fz_nilm, fz_nilf, fz_junk, fz_isl, fz_map, fz_agg, fz_tup, fz_fn, junkT, fz_sl, fz_p0, fz_cGProp, Nat.reduceLeDiff, Nat.reduceMul, List.length_cons, List.length_nil, Nat.reduceAdd] <;> simp only [chunks, List.take, List.drop, List.map, cI, cB, cS, cL]) (by simp only [fzH, fzB, ug, Nat.beq, cond_true, cond_false, oneU, fzL_nil, fzL_cons, fz_int, fz_bool, fz_str, fz_nils, fz_nilp, fz_nilm, fz_nilf, fz_junk, fz_isl, fz_map, fz_agg, fz_tup, fz_fn, junkT, fz_sl, fz_p0, fz_cGProp, Nat.reduceLeDiff, Nat.reduceMul, List.length_cons, List.length_nil, Nat.reduceAdd] <;> simp only [chunks, List.take, List.drop, List.map, cI, cB, cS, cL]))) rfl rfl ?_
  refine RD.as rfl rfl rfl rfl ?_
  refine RD.done ⟨by kernel_rfl, trivial, ?_⟩
  repeat refine gq ?_
  repeat refine sq ?_
  refine WPU.ret ?_
  repeat refine gq ?_
  have hr := Option.some.inj hF
  subst hr
  exact ⟨.inr rfl, [.int .i64 r11], res_t rfl (res_n), .int .i64 r11, ⟨[], 0⟩, Nat.le_refl _, Gh.toR (.int .i64 r11) rfl, rfl, BU.h⟩
def disc_collect_K2  (l24 : List GProp) : Option ((List GProp)) :=
  some l24
def disc_collect_L2 (p2 : GDeriv) (self : (List GProp) → GDeriv → Option ((List GProp))) : Nat → Int → (List GProp) → Option ((List GProp))
  | 0, _, _ => none
  | m2 + 1, z21, l22 =>
    cond (decide (z21 < (p2.Kids.length : Int)))
      (bindO (idxO p2.Kids z21) fun x27 =>
      bindO (self l22 x27) fun r29 =>
      (disc_collect_L2 p2 self m2) (IntKind.i64.wrap (z21 + 1)) r29)
      (disc_collect_K2 l22)
def disc_collect_J1 (p2 : GDeriv) (n : Nat) (self : (List GProp) → GDeriv → Option ((List GProp))) (z4 : Int) (l5 : List GProp) : Option ((List GProp)) :=
  disc_collect_L2 p2 self n 0 l5
def disc_collect_J3 (p2 : GDeriv) (n : Nat) (self : (List GProp) → GDeriv → Option ((List GProp))) (z34 : Int) (l35 : List GProp) : Option ((List GProp)) :=
  disc_collect_J1 p2 n self z34 l35
def disc_collect_J4 (p2 : GDeriv) (n : Nat) (self : (List GProp) → GDeriv → Option ((List GProp))) (z39 : Int) (l40 : List GProp) : Option ((List GProp)) :=
  disc_collect_J3 p2 n self z39 l40
def disc_collect_b (n : Nat) (self : (List GProp) → GDeriv → Option ((List GProp))) (p1 : List GProp) (p2 : GDeriv) : Option ((List GProp)) :=
  cond (p2.Kind == 0)
    (needO ((p1.length + 1) * 40 ≤ 140737488355328 ∧ p1.length + 1 ≤ 140737488355328) (
    disc_collect_J1 p2 n self 0 (p1 ++ [(GProp.mk 0 p2.Name p2.From p2.To)])))
    (cond (p2.Kind == 1)
      (needO ((p1.length + 1) * 40 ≤ 140737488355328 ∧ p1.length + 1 ≤ 140737488355328) (
      disc_collect_J3 p2 n self 1 (p1 ++ [(GProp.mk 1 p2.Name p2.From p2.To)])))
      (cond (p2.Kind == 2)
        (needO ((p1.length + 2) * 40 ≤ 140737488355328 ∧ p1.length + 2 ≤ 140737488355328) (
        disc_collect_J4 p2 n self 2 (p1 ++ [(GProp.mk 2 p2.Name p2.From p2.To), (GProp.mk 3 [] p2.From p2.To)])))
        (disc_collect_J4 p2 n self 0 p1)))
def disc_collect : Nat → (List GProp) → GDeriv → Option ((List GProp))
  | 0, _, _ => none
  | n + 1, p1, p2 => disc_collect_b n (disc_collect n) p1 p2
theorem disc_collect_0 : ∀ (n : Nat) (p1 : List GProp) (p2 : GDeriv) (r : (List GProp)), disc_collect n p1 p2 = some r → ∀ t0, EvU Try.prog 28 [.vl 0 t0 0 p1.length, .agg (xGDeriv p2)] ⟨[(0, .vec (List.map cGProp p1).flatten 26 4 t0)], 1⟩ (fun u σ' => ∃ t, u = .vl 0 t 0 r.length ∧ σ' = ⟨[(0, .vec (List.map cGProp r).flatten 26 4 t)], 1⟩)
  | 0, p1, p2, r, hF => by cases hF
  | n + 1, p1, p2, r, hF => by
    have ih := disc_collect_0 n
    have ihS : ∀ (p1 : List GProp) (p2 : GDeriv) (r : (List GProp)), disc_collect n p1 p2 = some r → ∀ (σ : Sg) {K t0 : Nat}, Nat.blt K σ.nx = true → gt σ.h K = some (.vec (List.map cGProp p1).flatten 26 4 t0) → EvU Try.prog 28 [.vl K t0 0 p1.length, .agg (xGDeriv p2)] σ (fun u σ' => ∃ t, u = .vl K t 0 r.length ∧ σ' = ⟨ug σ.h K (.vec (List.map cGProp r).flatten 26 4 t), σ.nx⟩) := fun p1 p2 r h σ K t0 hK hg => EvU.acc1 cGProp (BF.h 0) (BUL.h) (ih p1 p2 r h) σ hK hg
    unfold disc_collect disc_collect_b at hF
    intro t0
    refine EvU.of_body Try.tb_ok Try.fn28 rfl ?_
    refine WPU.ghost (tm' := fr 55 [(0, .vl 0 t0 0 p1.length), (1, .agg (xGDeriv p2))]) (Gh.start (Nat.le_of_ble_eq_true rfl)) (Nat.le_refl _) ?_
    repeat refine sq ?_
    refine WPU.region Try.tb_ok ?_
    refine RS.op (u := .ptr 1 0 0) (σ' := ⟨[(1, .row (xGDeriv p2) 24), (0, .vec (List.map cGProp p1).flatten 26 4 t0)], 2⟩) rfl (op_box rfl rfl rfl) rfl rfl ?_
    refine RS.as rfl rfl rfl rfl ?_
    refine RS.done ?_
    repeat refine gq ?_
    repeat refine sq ?_
    refine WPU.region Try.tb_ok ?_
    refine RS.op (u := .ptr 1 0 1) rfl (op_fa Try.und24 rfl (sz_of Try.inf9) rfl rfl rfl) rfl rfl ?_
    refine RS.op (u := .str p2.Name) rfl (ld_one Try.und9 rfl rfl rfl rfl) rfl rfl ?_
    refine RS.op (u := .ptr 1 0 2) rfl (op_fa Try.und24 rfl (sz_of Try.inf3) rfl rfl rfl) rfl rfl ?_
    refine RS.op (u := .int .i64 p2.From) rfl (ld_one Try.und3 rfl rfl rfl rfl) rfl rfl ?_
    refine RS.op (u := .ptr 1 0 3) rfl (op_fa Try.und24 rfl (sz_of Try.inf3) rfl rfl rfl) rfl rfl ?_
    refine RS.op (u := .int .i64 p2.To) rfl (ld_one Try.und3 rfl rfl rfl rfl) rfl rfl ?_
    refine RS.op (u := .agg [.int .i64 0, .str p2.Name, .int .i64 p2.From, .int .i64 p2.To]) rfl (op_bld Try.bd26 rfl rfl rfl) rfl rfl ?_
    refine RS.op (u := .ptr 2 0 0) (σ' := ⟨[(2, .row [.int .i64 0, .str [], .int .i64 0, .int .i64 0] 26), (1, .row (xGDeriv p2) 24), (0, .vec (List.map cGProp p1).flatten 26 4 t0)], 3⟩) rfl (op_alloc Try.inf26 rfl rfl) rfl rfl ?_
    refine RS.opn (u := .junk) (σ' := ⟨[(2, .row [.int .i64 0, .str p2.Name, .int .i64 p2.From, .int .i64 p2.To] 26), (1, .row (xGDeriv p2) 24), (0, .vec (List.map cGProp p1).flatten 26 4 t0)], 3⟩) rfl (op_store (sz_of Try.inf26) rfl rfl rfl rfl rfl rfl rfl rfl) rfl ?_
    refine RS.done ?_
    repeat refine gq ?_
    repeat refine sq ?_
    refine WPU.region Try.tb_ok ?_
    refine RS.op (u := .ptr 1 0 0) rfl (op_fa Try.und24 rfl (sz_of Try.inf3) rfl rfl rfl) rfl rfl ?_
    refine RS.op (u := .int .i64 p2.Kind) rfl (ld_one Try.und3 rfl rfl rfl rfl) rfl rfl ?_
    refine RS.done ?_
    repeat refine gq ?_
    repeat refine sq ?_
    refine WPU.block ?_
    repeat refine sq ?_
    refine WPU.region Try.tb_ok ?_
    refine RS.op rfl (op_int rfl rfl (ix_eql _ _ _) rfl) rfl rfl ?_
    refine RS.as rfl rfl rfl rfl ?_
    refine RS.done ?_
    repeat refine gq ?_
    repeat refine sq ?_
    refine WPU.joinK (fun tm σ => ∃ z4 : Int, ∃ l5 : List GProp, ∃ t6 : Nat, disc_collect_J1 p2 n (disc_collect n) z4 l5 = some r ∧ tm = fr 55 [(0, .vl 0 t6 0 l5.length), (3, .ptr 1 0 0)] ∧ σ = ⟨[(2, .row [.int .i64 z4, .str p2.Name, .int .i64 p2.From, .int .i64 p2.To] 26), (1, .row (xGDeriv p2) 24), (0, .vec (List.map cGProp l5).flatten 26 4 t6)], 3⟩) ?_ ?_
    rintro _ _ ⟨z4, l5, t6, hF, rfl, rfl⟩
    unfold disc_collect_J1 at hF
    repeat refine gq ?_
    repeat refine sq ?_
    refine WPU.region Try.tb_ok ?_
    refine RS.op (u := .ptr 1 0 4) rfl (op_fa Try.und24 rfl (sz_of Try.inf22) rfl rfl rfl) rfl rfl ?_
    refine RS.op (u := .isl false (List.map cGDeriv p2.Kids)) rfl (ld_one Try.und22 rfl rfl rfl rfl) rfl rfl ?_
    refine RS.op rfl (op_len rfl rfl rfl (len_isl cGDeriv Try.und22)) rfl rfl ?_
    refine RS.mv rfl rfl rfl rfl ?_
    refine RS.done ?_
    repeat refine gq ?_
    repeat refine sq ?_
    refine WPU.ghost (tm' := fr 55 [(0, .vl 0 t6 0 l5.length), (44, .isl false (List.map cGDeriv p2.Kids)), (45, .int .i64 (p2.Kids.length : Int)), (46, .int .i64 0)]) (Gh.sub ⟨rfl, rfl, rfl, rfl, trivial⟩) (Nat.le_of_ble_eq_true rfl) ?_
    refine WPU.loopK (fun m tm σ => ∃ z21 : Int, ∃ l22 : List GProp, ∃ t23 : Nat, disc_collect_L2 p2 (disc_collect n) m z21 l22 = some r ∧ tm = fr 55 [(0, .vl 0 t23 0 l22.length), (44, .isl false (List.map cGDeriv p2.Kids)), (45, .int .i64 (p2.Kids.length : Int)), (46, .int .i64 z21)] ∧ σ = ⟨[(2, .row [.int .i64 z4, .str p2.Name, .int .i64 p2.From, .int .i64 p2.To] 26), (1, .row (xGDeriv p2) 24), (0, .vec (List.map cGProp l22).flatten 26 4 t23)], 3⟩) (fun tm σ => ∃ l24 : List GProp, ∃ t25 : Nat, disc_collect_K2 l24 = some r ∧ tm = fr 55 [(0, .vl 0 t25 0 l24.length)] ∧ σ = ⟨[(2, .row [.int .i64 z4, .str p2.Name, .int .i64 p2.From, .int .i64 p2.To] 26), (1, .row (xGDeriv p2) 24), (0, .vec (List.map cGProp l24).flatten 26 4 t25)], 3⟩) n ⟨0, l5, t6, hF, rfl, rfl⟩ ?_ ?_
    rintro _ _ ⟨l24, t25, hF, rfl, rfl⟩
    unfold disc_collect_K2 at hF
    repeat refine gq ?_
    repeat refine sq ?_
    refine WPU.region Try.tb_ok ?_
    refine RS.mv rfl rfl rfl rfl ?_
    refine RS.as rfl rfl rfl rfl ?_
    refine RS.done ?_
    repeat refine gq ?_
    repeat refine sq ?_
    refine WPU.ret ?_
    repeat refine gq ?_
    have hr := Option.some.inj hF
    subst hr
    exact ⟨.inr rfl, [.vl 0 t25 0 l24.length], res_t rfl res_n, .vl 0 t25 0 l24.length, ⟨[(0, .vec (List.map cGProp l24).flatten 26 4 t25)], 1⟩, Nat.le_refl _, Gh.to (n1 := 1) [] rfl rfl (Nat.le_refl _) (Nat.le_of_ble_eq_true rfl) BUL.h BH.h, t25, rfl, rfl⟩
    rintro m2 _ _ ⟨z21, l22, t23, hF, rfl, rfl⟩
    rcases m2 with _ | m2
    cases hF
    unfold disc_collect_L2 at hF
    repeat refine sq ?_
    refine WPU.region Try.tb_ok ?_
    refine RS.op rfl (op_int rfl rfl (ix_lss _ _ _) rfl) rfl rfl ?_
    refine RS.done ?_
    repeat refine gq ?_
    repeat refine sq ?_
    refine WPU.condS (t := (decide (z21 < (p2.Kids.length : Int)))) rfl (fun h26 => ?_) (fun h26 => ?_)
    replace hF := cond_t h26 hF
    repeat refine sq ?_
    refine WPU.skip ?_
    repeat refine gq ?_
    repeat refine sq ?_
    refine WPU.block ?_
    repeat refine sq ?_
    obtain ⟨x27, h28, hF⟩ := bindO_some hF
    refine WPU.region Try.tb_ok ?_
    refine RS.op (u := .iptr (xGDeriv x27)) rfl (op_ia rfl rfl (ia_isl cGDeriv Try.und22 (sz_of Try.inf24) len_cGDeriv h28 (cGDeriv_eq x27))) rfl rfl ?_
    refine RS.op (u := .agg (xGDeriv x27)) rfl (li_agg Try.und24 rfl (sz_of Try.inf24) rfl rfl) rfl rfl ?_
    refine RS.op (u := .ptr 3 0 0) (σ' := ⟨[(3, .row [.int .i64 0, .str [], .int .i64 0, .int .i64 0, .nils] 24), (2, .row [.int .i64 z4, .str p2.Name, .int .i64 p2.From, .int .i64 p2.To] 26), (1, .row (xGDeriv p2) 24), (0, .vec (List.map cGProp l22).flatten 26 4 t23)], 4⟩) rfl (op_alloc Try.inf24 rfl rfl) rfl rfl ?_
    refine RS.opn (u := .junk) (σ' := ⟨[(3, .row (xGDeriv x27) 24), (2, .row [.int .i64 z4, .str p2.Name, .int .i64 p2.From, .int .i64 p2.To] 26), (1, .row (xGDeriv p2) 24), (0, .vec (List.map cGProp l22).flatten 26 4 t23)], 4⟩) rfl (op_store (sz_of Try.inf24) rfl rfl rfl rfl rfl rfl rfl rfl) rfl ?_
    refine RS.done ?_
    repeat refine gq ?_
    repeat refine sq ?_
    obtain ⟨r29, h30, hF⟩ := bindO_some hF
    refine WPU.region Try.tb_ok ?_
    refine RS.mv rfl rfl rfl rfl ?_
    refine RS.op (u := .agg (xGDeriv x27)) rfl (ld_agg Try.und24 rfl (sz_of Try.inf24) rfl rfl rfl) rfl rfl ?_
    refine RS.callx (args := [.vl 0 t23 0 l22.length, .agg (xGDeriv x27)]) rfl (op_call rfl rfl Try.fn28 Try.hb28 rfl rfl) (ihS l22 x27 r29 h30 _ rfl rfl) rfl rfl ?_
    rintro _ _ ⟨t31, rfl, rfl⟩
    refine RS.as rfl rfl rfl rfl ?_
    refine RS.done ?_
    repeat refine gq ?_
    repeat refine sq ?_
    refine WPU.region Try.tb_ok ?_
    refine RS.op rfl (op_int rfl rfl (ix_add _ _ _) rfl) rfl rfl ?_
    refine RS.mv rfl rfl rfl rfl ?_
    refine RS.done ?_
    repeat refine gq ?_
    exact ⟨m2, _, _, Nat.lt_succ_self _, ⟨(IntKind.i64.wrap (z21 + 1)), r29, t31, hF, rfl, rfl⟩, (Nat.le_of_ble_eq_true rfl), Gh.toC (n1 := 3) ⟨rfl, rfl, rfl, rfl, trivial⟩ rfl (Nat.le_of_ble_eq_true rfl) (by simp)⟩
    replace hF := cond_f h26 hF
    repeat refine sq ?_
    refine WPU.exit ?_
    repeat refine gq ?_
    exact ⟨_, _, ⟨l22, t23, hF, rfl, rfl⟩, (Nat.le_of_ble_eq_true rfl), Gh.toC (n1 := 3) ⟨rfl, trivial⟩ rfl (Nat.le_of_ble_eq_true rfl) (by simp)⟩
    refine WPU.condS (t := (p2.Kind == 0)) rfl (fun h3 => ?_) (fun h3 => ?_)
    replace hF := cond_t h3 hF
    repeat refine sq ?_
    refine WPU.region Try.tb_ok ?_
    refine RS.op (u := .ptr 2 0 0) rfl (op_fa Try.und26 rfl (sz_of Try.inf3) rfl rfl rfl) rfl rfl ?_
    refine RS.opn (u := .junk) (σ' := ⟨[(2, .row [.int .i64 0, .str p2.Name, .int .i64 p2.From, .int .i64 p2.To] 26), (1, .row (xGDeriv p2) 24), (0, .vec (List.map cGProp p1).flatten 26 4 t0)], 3⟩) rfl (op_store (sz_of Try.inf3) rfl rfl rfl rfl rfl rfl rfl rfl) rfl ?_
    refine RS.done ?_
    repeat refine gq ?_
    repeat refine sq ?_
    obtain ⟨h32, hF⟩ := needO_some hF
    refine WPU.region Try.tb_ok ?_
    refine RS.mv rfl rfl rfl rfl ?_
    refine RS.op (u := .agg [.int .i64 0, .str p2.Name, .int .i64 p2.From, .int .i64 p2.To]) rfl (ld_agg Try.und26 rfl (sz_of Try.inf26) rfl rfl rfl) rfl rfl ?_
    refine RS.op (u := .sl 3 0 1 1) (σ' := ⟨[(3, .row [.int .i64 0, .str p2.Name, .int .i64 p2.From, .int .i64 p2.To] 26), (2, .row [.int .i64 0, .str p2.Name, .int .i64 p2.From, .int .i64 p2.To] 26), (1, .row (xGDeriv p2) 24), (0, .vec (List.map cGProp p1).flatten 26 4 t0)], 4⟩) rfl (op_bsl Try.und30 Try.inf26 rfl rfl rfl rfl rfl rfl rfl) rfl rfl ?_
    refine RS.op (u := .vl 0 (t0 + 1) 0 ((p1 ++ [(GProp.mk 0 p2.Name p2.From p2.To)]).length)) (σ' := ⟨[(3, .row [.int .i64 0, .str p2.Name, .int .i64 p2.From, .int .i64 p2.To] 26), (2, .row [.int .i64 0, .str p2.Name, .int .i64 p2.From, .int .i64 p2.To] 26), (1, .row (xGDeriv p2) 24), (0, .vec (List.map cGProp (p1 ++ [(GProp.mk 0 p2.Name p2.From p2.To)])).flatten 26 4 (t0 + 1))], 4⟩) rfl (op_app rfl rfl rfl rfl (app_vl cGProp ([(GProp.mk 0 p2.Name p2.From p2.To)]) Try.und30 Try.und30 Try.inf26 rfl len_cGProp rfl (src_row cGProp [(GProp.mk 0 p2.Name p2.From p2.To)] rfl rfl rfl rfl) h32)) rfl rfl ?_
    refine RS.as rfl rfl rfl rfl ?_
    refine RS.done ?_
    repeat refine gq ?_
    exact ⟨_, _, ⟨0, (p1 ++ [(GProp.mk 0 p2.Name p2.From p2.To)]), (t0 + 1), hF, rfl, rfl⟩, (Nat.le_of_ble_eq_true rfl), Gh.toC (n1 := 3) ⟨rfl, rfl, trivial⟩ rfl (Nat.le_of_ble_eq_true rfl) (by simp)⟩
    replace hF := cond_f h3 hF
    repeat refine sq ?_
    refine WPU.region Try.tb_ok ?_
    refine RS.op rfl (op_int rfl rfl (ix_eql _ _ _) rfl) rfl rfl ?_
    refine RS.as rfl rfl rfl rfl ?_
    refine RS.done ?_
    repeat refine gq ?_
    repeat refine sq ?_
    refine WPU.joinK (fun tm σ => ∃ z34 : Int, ∃ l35 : List GProp, ∃ t36 : Nat, disc_collect_J3 p2 n (disc_collect n) z34 l35 = some r ∧ tm = fr 55 [(0, .vl 0 t36 0 l35.length), (3, .ptr 1 0 0)] ∧ σ = ⟨[(2, .row [.int .i64 z34, .str p2.Name, .int .i64 p2.From, .int .i64 p2.To] 26), (1, .row (xGDeriv p2) 24), (0, .vec (List.map cGProp l35).flatten 26 4 t36)], 3⟩) ?_ ?_
    rintro _ _ ⟨z34, l35, t36, hF, rfl, rfl⟩
    unfold disc_collect_J3 at hF
    repeat refine gq ?_
    exact ⟨_, _, ⟨z34, l35, t36, hF, rfl, rfl⟩, (Nat.le_of_ble_eq_true rfl), Gh.toC (n1 := 3) ⟨rfl, rfl, trivial⟩ rfl (Nat.le_of_ble_eq_true rfl) (by simp)⟩
    refine WPU.condS (t := (p2.Kind == 1)) rfl (fun h33 => ?_) (fun h33 => ?_)
    replace hF := cond_t h33 hF
    repeat refine sq ?_
    refine WPU.region Try.tb_ok ?_
    refine RS.op (u := .ptr 2 0 0) rfl (op_fa Try.und26 rfl (sz_of Try.inf3) rfl rfl rfl) rfl rfl ?_
    refine RS.opn (u := .junk) (σ' := ⟨[(2, .row [.int .i64 1, .str p2.Name, .int .i64 p2.From, .int .i64 p2.To] 26), (1, .row (xGDeriv p2) 24), (0, .vec (List.map cGProp p1).flatten 26 4 t0)], 3⟩) rfl (op_store (sz_of Try.inf3) rfl rfl rfl rfl rfl rfl rfl rfl) rfl ?_
    refine RS.done ?_
    repeat refine gq ?_
    repeat refine sq ?_
    obtain ⟨h37, hF⟩ := needO_some hF
    refine WPU.region Try.tb_ok ?_
    refine RS.mv rfl rfl rfl rfl ?_
    refine RS.op (u := .agg [.int .i64 1, .str p2.Name, .int .i64 p2.From, .int .i64 p2.To]) rfl (ld_agg Try.und26 rfl (sz_of Try.inf26) rfl rfl rfl) rfl rfl ?_
    refine RS.op (u := .sl 3 0 1 1) (σ' := ⟨[(3, .row [.int .i64 1, .str p2.Name, .int .i64 p2.From, .int .i64 p2.To] 26), (2, .row [.int .i64 1, .str p2.Name, .int .i64 p2.From, .int .i64 p2.To] 26), (1, .row (xGDeriv p2) 24), (0, .vec (List.map cGProp p1).flatten 26 4 t0)], 4⟩) rfl (op_bsl Try.und30 Try.inf26 rfl rfl rfl rfl rfl rfl rfl) rfl rfl ?_
    refine RS.op (u := .vl 0 (t0 + 1) 0 ((p1 ++ [(GProp.mk 1 p2.Name p2.From p2.To)]).length)) (σ' := ⟨[(3, .row [.int .i64 1, .str p2.Name, .int .i64 p2.From, .int .i64 p2.To] 26), (2, .row [.int .i64 1, .str p2.Name, .int .i64 p2.From, .int .i64 p2.To] 26), (1, .row (xGDeriv p2) 24), (0, .vec (List.map cGProp (p1 ++ [(GProp.mk 1 p2.Name p2.From p2.To)])).flatten 26 4 (t0 + 1))], 4⟩) rfl (op_app rfl rfl rfl rfl (app_vl cGProp ([(GProp.mk 1 p2.Name p2.From p2.To)]) Try.und30 Try.und30 Try.inf26 rfl len_cGProp rfl (src_row cGProp [(GProp.mk 1 p2.Name p2.From p2.To)] rfl rfl rfl rfl) h37)) rfl rfl ?_
    refine RS.as rfl rfl rfl rfl ?_
    refine RS.done ?_
    repeat refine gq ?_
    exact ⟨_, _, ⟨1, (p1 ++ [(GProp.mk 1 p2.Name p2.From p2.To)]), (t0 + 1), hF, rfl, rfl⟩, (Nat.le_of_ble_eq_true rfl), Gh.toC (n1 := 3) ⟨rfl, rfl, trivial⟩ rfl (Nat.le_of_ble_eq_true rfl) (by simp)⟩
    replace hF := cond_f h33 hF
    repeat refine sq ?_
    refine WPU.region Try.tb_ok ?_
    refine RS.op rfl (op_int rfl rfl (ix_eql _ _ _) rfl) rfl rfl ?_
    refine RS.as rfl rfl rfl rfl ?_
    refine RS.done ?_
    repeat refine gq ?_
    repeat refine sq ?_
    refine WPU.joinK (fun tm σ => ∃ z39 : Int, ∃ l40 : List GProp, ∃ t41 : Nat, disc_collect_J4 p2 n (disc_collect n) z39 l40 = some r ∧ tm = fr 55 [(0, .vl 0 t41 0 l40.length), (3, .ptr 1 0 0)] ∧ σ = ⟨[(2, .row [.int .i64 z39, .str p2.Name, .int .i64 p2.From, .int .i64 p2.To] 26), (1, .row (xGDeriv p2) 24), (0, .vec (List.map cGProp l40).flatten 26 4 t41)], 3⟩) ?_ ?_
    rintro _ _ ⟨z39, l40, t41, hF, rfl, rfl⟩
    unfold disc_collect_J4 at hF
    repeat refine gq ?_
    exact ⟨_, _, ⟨z39, l40, t41, hF, rfl, rfl⟩, (Nat.le_of_ble_eq_true rfl), Gh.toC (n1 := 3) ⟨rfl, rfl, trivial⟩ rfl (Nat.le_of_ble_eq_true rfl) (by simp)⟩
    refine WPU.condS (t := (p2.Kind == 2)) rfl (fun h38 => ?_) (fun h38 => ?_)
    replace hF := cond_t h38 hF
    repeat refine sq ?_
    refine WPU.region Try.tb_ok ?_
    refine RS.op (u := .ptr 2 0 0) rfl (op_fa Try.und26 rfl (sz_of Try.inf3) rfl rfl rfl) rfl rfl ?_
    refine RS.opn (u := .junk) (σ' := ⟨[(2, .row [.int .i64 2, .str p2.Name, .int .i64 p2.From, .int .i64 p2.To] 26), (1, .row (xGDeriv p2) 24), (0, .vec (List.map cGProp p1).flatten 26 4 t0)], 3⟩) rfl (op_store (sz_of Try.inf3) rfl rfl rfl rfl rfl rfl rfl rfl) rfl ?_
    refine RS.done ?_
    repeat refine gq ?_
    repeat refine sq ?_
    obtain ⟨h42, hF⟩ := needO_some hF
    refine WPU.region Try.tb_ok ?_
    refine RS.mv rfl rfl rfl rfl ?_
    refine RS.op (u := .agg [.int .i64 2, .str p2.Name, .int .i64 p2.From, .int .i64 p2.To]) rfl (ld_agg Try.und26 rfl (sz_of Try.inf26) rfl rfl rfl) rfl rfl ?_
    refine RS.op (u := .ptr 1 0 2) rfl (op_fa Try.und24 rfl (sz_of Try.inf3) rfl rfl rfl) rfl rfl ?_
    refine RS.op (u := .int .i64 p2.From) rfl (ld_one Try.und3 rfl rfl rfl rfl) rfl rfl ?_
    refine RS.op (u := .ptr 1 0 3) rfl (op_fa Try.und24 rfl (sz_of Try.inf3) rfl rfl rfl) rfl rfl ?_
    refine RS.op (u := .int .i64 p2.To) rfl (ld_one Try.und3 rfl rfl rfl rfl) rfl rfl ?_
    refine RS.op (u := .agg [.int .i64 3, .str [], .int .i64 p2.From, .int .i64 p2.To]) rfl (op_bld Try.bd26 rfl rfl rfl) rfl rfl ?_
    refine RS.op (u := .sl 3 0 2 2) (σ' := ⟨[(3, .row [.int .i64 2, .str p2.Name, .int .i64 p2.From, .int .i64 p2.To, .int .i64 3, .str [], .int .i64 p2.From, .int .i64 p2.To] 26), (2, .row [.int .i64 2, .str p2.Name, .int .i64 p2.From, .int .i64 p2.To] 26), (1, .row (xGDeriv p2) 24), (0, .vec (List.map cGProp p1).flatten 26 4 t0)], 4⟩) rfl (op_bsl Try.und30 Try.inf26 rfl rfl rfl rfl rfl rfl rfl) rfl rfl ?_
    refine RS.op (u := .vl 0 (t0 + 1) 0 ((p1 ++ [(GProp.mk 2 p2.Name p2.From p2.To), (GProp.mk 3 [] p2.From p2.To)]).length)) (σ' := ⟨[(3, .row [.int .i64 2, .str p2.Name, .int .i64 p2.From, .int .i64 p2.To, .int .i64 3, .str [], .int .i64 p2.From, .int .i64 p2.To] 26), (2, .row [.int .i64 2, .str p2.Name, .int .i64 p2.From, .int .i64 p2.To] 26), (1, .row (xGDeriv p2) 24), (0, .vec (List.map cGProp (p1 ++ [(GProp.mk 2 p2.Name p2.From p2.To), (GProp.mk 3 [] p2.From p2.To)])).flatten 26 4 (t0 + 1))], 4⟩) rfl (op_app rfl rfl rfl rfl (app_vl cGProp ([(GProp.mk 2 p2.Name p2.From p2.To), (GProp.mk 3 [] p2.From p2.To)]) Try.und30 Try.und30 Try.inf26 rfl len_cGProp rfl (src_row cGProp [(GProp.mk 2 p2.Name p2.From p2.To), (GProp.mk 3 [] p2.From p2.To)] rfl rfl rfl rfl) h42)) rfl rfl ?_
    refine RS.as rfl rfl rfl rfl ?_
    refine RS.done ?_
    repeat refine gq ?_
    exact ⟨_, _, ⟨2, (p1 ++ [(GProp.mk 2 p2.Name p2.From p2.To), (GProp.mk 3 [] p2.From p2.To)]), (t0 + 1), hF, rfl, rfl⟩, (Nat.le_of_ble_eq_true rfl), Gh.toC (n1 := 3) ⟨rfl, rfl, trivial⟩ rfl (Nat.le_of_ble_eq_true rfl) (by simp)⟩
    replace hF := cond_f h38 hF
    repeat refine sq ?_
    refine WPU.skip ?_
    repeat refine gq ?_
    exact ⟨_, _, ⟨0, p1, t0, hF, rfl, rfl⟩, (Nat.le_of_ble_eq_true rfl), Gh.toC (n1 := 3) ⟨rfl, rfl, trivial⟩ rfl (Nat.le_of_ble_eq_true rfl) (by simp)⟩
theorem disc_collect_ok (n : Nat) (p1 : List GProp) (p2 : GDeriv) (r : (List GProp)) (hF : disc_collect n p1 p2 = some r) : ∀ (σ : Sg) {K t0 : Nat}, Nat.blt K σ.nx = true → gt σ.h K = some (.vec (List.map cGProp p1).flatten 26 4 t0) → EvU Try.prog 28 [.vl K t0 0 p1.length, .agg (xGDeriv p2)] σ (fun u σ' => ∃ t, u = .vl K t 0 r.length ∧ σ' = ⟨ug σ.h K (.vec (List.map cGProp r).flatten 26 4 t), σ.nx⟩) := fun σ K t0 hK hg =>
  EvU.acc1 cGProp (BF.h 0) (BUL.h) (disc_collect_0 n p1 p2 r hF) σ hK hg
def slices_Compact_Prop_J3 (z21 : Int) (rc2 : Int → Int → (List GProp) → Option ((List GProp))) (z35 : Int) (l36 : List GProp) : Option ((List GProp)) :=
  rc2 z35 (IntKind.i64.wrap (z21 + 1)) l36
def slices_Compact_Prop_K2  (z23 : Int) (l24 : List GProp) : Option ((List GProp)) :=
  needO ((0 : Int) ≤ z23 ∧ z23 ≤ ((l24.length : Nat) : Int)) (
  needO ((0 + z23.toNat) + (l24.length - z23.toNat) ≤ l24.length) (
  needO ((0 : Int) ≤ z23 ∧ z23 ≤ (((clrV l24 (0 + z23.toNat) (l24.length - z23.toNat) (GProp.mk 0 [] 0 0)).length : Nat) : Int)) (
  needO (z23.toNat ≤ (clrV l24 (0 + z23.toNat) (l24.length - z23.toNat) (GProp.mk 0 [] 0 0)).length) (
    some ((clrV l24 (0 + z23.toNat) (l24.length - z23.toNat) (GProp.mk 0 [] 0 0)).take z23.toNat)))))
def slices_Compact_Prop_L2 (p1 : List GProp) (z6 : Int) : Nat → Int → Int → (List GProp) → Option ((List GProp))
  | 0, _, _, _ => none
  | m2 + 1, z20, z21, l22 =>
    cond (decide (z21 < (((p1.length - z6.toNat) : Nat) : Int)))
      (bindO (idxV l22 (0 + z6.toNat) (p1.length - z6.toNat) z21) fun x30 =>
      bindO (idxV l22 (0 + z6.toNat) (p1.length - z6.toNat) (IntKind.i64.wrap (z21 - 1))) fun x32 =>
      cond (!(eqGProp x30 x32))
        (bindO (idxV l22 (0 + z6.toNat) (p1.length - z6.toNat) z21) fun x37 =>
        bindO (idxO l22 z20) fun x39 =>
        slices_Compact_Prop_J3 z21 (slices_Compact_Prop_L2 p1 z6 m2) (IntKind.i64.wrap (z20 + 1)) (l22.set (0 + z20.toNat) x37))
        (slices_Compact_Prop_J3 z21 (slices_Compact_Prop_L2 p1 z6 m2) z20 l22))
      (slices_Compact_Prop_K2 z20 l22)
def slices_Compact_Prop_K1 (p1 : List GProp)  : Option ((List GProp)) :=
  some p1
def slices_Compact_Prop_L1 (p1 : List GProp) (n : Nat) : Nat → Int → Option ((List GProp))
  | 0, _ => none
  | m1 + 1, z6 =>
    cond (decide (z6 < (p1.length : Int)))
      (bindO (idxO p1 z6) fun x8 =>
      bindO (idxO p1 (IntKind.i64.wrap (z6 - 1))) fun x10 =>
      cond (eqGProp x8 x10)
        (needO ((0 : Int) ≤ z6 ∧ z6 ≤ ((p1.length : Nat) : Int)) (
        slices_Compact_Prop_L2 p1 z6 n z6 1 p1))
        ((slices_Compact_Prop_L1 p1 n m1) (IntKind.i64.wrap (z6 + 1))))
      (slices_Compact_Prop_K1 p1)
def slices_Compact_Prop (n : Nat) (p1 : List GProp) : Option ((List GProp)) :=
  cond (decide ((p1.length : Int) < 2))
    (some p1)
    (slices_Compact_Prop_L1 p1 n n 1)
theorem slices_Compact_Prop_0 (n : Nat) (p1 : List GProp) (r : (List GProp)) (hF : slices_Compact_Prop n p1 = some r) : ∀ t0, EvU Try.prog 31 [.vl 0 t0 0 p1.length] ⟨[(0, .vec (List.map cGProp p1).flatten 26 4 t0)], 1⟩ (fun u σ' => ∃ t, u = .vl 0 t 0 r.length ∧ σ' = ⟨[(0, .vec (List.map cGProp r).flatten 26 4 t)], 1⟩) := by
  unfold slices_Compact_Prop at hF
  intro t0
  refine EvU.of_body Try.tb_ok Try.fn31 rfl ?_
  refine WPU.ghost (tm' := fr 61 [(0, .vl 0 t0 0 p1.length)]) (Gh.start (Nat.le_of_ble_eq_true rfl)) (Nat.le_refl _) ?_
  repeat refine sq ?_
  refine WPU.region Try.tb_ok ?_
  refine RS.as rfl rfl rfl rfl ?_
  refine RS.done ?_
  repeat refine gq ?_
  repeat refine sq ?_
  refine WPU.region Try.tb_ok ?_
  refine RS.mv rfl rfl rfl rfl ?_
  refine RS.op rfl (op_len rfl rfl rfl (len_vl Try.und30 rfl)) rfl rfl ?_
  refine RS.op rfl (op_int rfl rfl (ix_lss _ _ _) rfl) rfl rfl ?_
  refine RS.done ?_
  repeat refine gq ?_
  repeat refine sq ?_
  refine WPU.condS (t := (decide ((p1.length : Int) < 2))) rfl (fun h2 => ?_) (fun h2 => ?_)
  replace hF := cond_t h2 hF
  repeat refine sq ?_
  refine WPU.region Try.tb_ok ?_
  refine RS.mv rfl rfl rfl rfl ?_
  refine RS.as rfl rfl rfl rfl ?_
  refine RS.done ?_
  repeat refine gq ?_
  repeat refine sq ?_
  refine WPU.ret ?_
  repeat refine gq ?_
  have hr := Option.some.inj hF
  subst hr
  exact ⟨.inr rfl, [.vl 0 t0 0 p1.length], res_t rfl res_n, .vl 0 t0 0 p1.length, ⟨[(0, .vec (List.map cGProp p1).flatten 26 4 t0)], 1⟩, Nat.le_refl _, Gh.to (n1 := 1) [] rfl rfl (Nat.le_refl _) (Nat.le_of_ble_eq_true rfl) BUL.h BH.h, t0, rfl, rfl⟩
  replace hF := cond_f h2 hF
  repeat refine sq ?_
  refine WPU.skip ?_
  repeat refine gq ?_
  repeat refine sq ?_
  refine WPU.region Try.tb_ok ?_
  refine RS.as rfl rfl rfl rfl ?_
  refine RS.done ?_
  repeat refine gq ?_
  repeat refine sq ?_
  refine WPU.ghost (tm' := fr 61 [(0, .vl 0 t0 0 p1.length), (3, .int .i64 1)]) (Gh.sub ⟨rfl, rfl, trivial⟩) (Nat.le_of_ble_eq_true rfl) ?_
  refine WPU.loopK (fun m tm σ => ∃ z6 : Int, slices_Compact_Prop_L1 p1 n m z6 = some r ∧ tm = fr 61 [(0, .vl 0 t0 0 p1.length), (3, .int .i64 z6)] ∧ σ = ⟨[(0, .vec (List.map cGProp p1).flatten 26 4 t0)], 1⟩) (fun tm σ => slices_Compact_Prop_K1 p1 = some r ∧ tm = fr 61 [(0, .vl 0 t0 0 p1.length)] ∧ σ = ⟨[(0, .vec (List.map cGProp p1).flatten 26 4 t0)], 1⟩) n ⟨1, hF, rfl, rfl⟩ ?_ ?_
  rintro _ _ ⟨hF, rfl, rfl⟩
  unfold slices_Compact_Prop_K1 at hF
  repeat refine gq ?_
  repeat refine sq ?_
  refine WPU.region Try.tb_ok ?_
  refine RS.mv rfl rfl rfl rfl ?_
  refine RS.as rfl rfl rfl rfl ?_
  refine RS.done ?_
  repeat refine gq ?_
  repeat refine sq ?_
  refine WPU.ret ?_
  repeat refine gq ?_
  have hr := Option.some.inj hF
  subst hr
  exact ⟨.inr rfl, [.vl 0 t0 0 p1.length], res_t rfl res_n, .vl 0 t0 0 p1.length, ⟨[(0, .vec (List.map cGProp p1).flatten 26 4 t0)], 1⟩, Nat.le_refl _, Gh.to (n1 := 1) [] rfl rfl (Nat.le_refl _) (Nat.le_of_ble_eq_true rfl) BUL.h BH.h, t0, rfl, rfl⟩
  rintro m1 _ _ ⟨z6, hF, rfl, rfl⟩
  rcases m1 with _ | m1
  cases hF
  unfold slices_Compact_Prop_L1 at hF
  repeat refine sq ?_
  refine WPU.region Try.tb_ok ?_
  repeat refine RS.mv rfl rfl rfl rfl ?_
  refine RS.op rfl (op_len rfl rfl rfl (len_vl Try.und30 rfl)) rfl rfl ?_
  refine RS.op rfl (op_int rfl rfl (ix_lss _ _ _) rfl) rfl rfl ?_
  refine RS.done ?_
  repeat refine gq ?_
  repeat refine sq ?_
  refine WPU.condS (t := (decide (z6 < (p1.length : Int)))) rfl (fun h7 => ?_) (fun h7 => ?_)
  replace hF := cond_t h7 hF
  repeat refine sq ?_
  refine WPU.skip ?_
  repeat refine gq ?_
  repeat refine sq ?_
  refine WPU.block ?_
  repeat refine sq ?_
  obtain ⟨x8, h9, hF⟩ := bindO_some hF
  obtain ⟨x10, h11, hF⟩ := bindO_some hF
  refine WPU.drawE Try.tb_ok [] (by kernel_rfl) ?_
  repeat refine RD.mv rfl rfl rfl rfl ?_
  refine RD.look (u := .ptr 0 t0 (0 * 4 + z6.toNat * 4)) rfl (op_ia rfl rfl (ia_vl cGProp Try.und30 (sz_of Try.inf26) (by decide) len_cGProp (vo rfl) h9)) rfl rfl ?_
  refine RD.look (u := .agg (cGProp x8)) rfl (ld_vec cGProp Try.und26 rfl (sz_of Try.inf26) len_cGProp rfl rfl h9 rfl) rfl rfl ?_
  repeat refine RD.mv rfl rfl rfl rfl ?_
  refine RD.look rfl (op_int rfl rfl (ix_sub _ _ _) rfl) rfl rfl ?_
  refine RD.look (u := .ptr 0 t0 (0 * 4 + (IntKind.i64.wrap (z6 - 1)).toNat * 4)) rfl (op_ia rfl rfl (ia_vl cGProp Try.und30 (sz_of Try.inf26) (by decide) len_cGProp (vo rfl) h11)) rfl rfl ?_
  refine RD.look (u := .agg (cGProp x10)) rfl (ld_vec cGProp Try.und26 rfl (sz_of Try.inf26) len_cGProp rfl rfl h11 rfl) rfl rfl ?_
  refine RD.look (u := .bool (eqGProp x8 x10)) rfl (op_bin rfl rfl (eqq26_eql x8 x10)) rfl rfl ?_
  refine RD.done ⟨by kernel_rfl, trivial, ?_⟩
  repeat refine gq ?_
  repeat refine sq ?_
  refine WPU.condS (t := (eqGProp x8 x10)) rfl (fun h12 => ?_) (fun h12 => ?_)
  replace hF := cond_t h12 hF
  repeat refine sq ?_
  obtain ⟨h13, hF⟩ := needO_some hF
  refine WPU.region Try.tb_ok ?_
  repeat refine RS.mv rfl rfl rfl rfl ?_
  refine RS.op (u := .vl 0 t0 (0 + z6.toNat) (p1.length - z6.toNat)) rfl (op_slice rfl (em_s rfl) em_n em_n (sl_vp cGProp Try.und30 (sz_of Try.inf26) len_cGProp (vo rfl) (Nat.le_of_eq (Nat.zero_add _)) (bnd_lo h13.1 h13.2))) rfl rfl ?_
  refine RS.as rfl rfl rfl rfl ?_
  refine RS.done ?_
  repeat refine gq ?_
  repeat refine sq ?_
  refine WPU.region Try.tb_ok ?_
  refine RS.as rfl rfl rfl rfl ?_
  refine RS.done ?_
  repeat refine gq ?_
  repeat refine sq ?_
  refine WPU.ghost (tm' := fr 61 [(0, .vl 0 t0 0 p1.length), (3, .int .i64 z6), (4, .vl 0 t0 (0 + z6.toNat) (p1.length - z6.toNat)), (5, .int .i64 1)]) (Gh.sub ⟨rfl, rfl, rfl, rfl, trivial⟩) (Nat.le_of_ble_eq_true rfl) ?_
  refine WPU.loopK (fun m tm σ => ∃ z20 : Int, ∃ z21 : Int, ∃ l22 : List GProp, slices_Compact_Prop_L2 p1 z6 m z20 z21 l22 = some r ∧ tm = fr 61 [(0, .vl 0 t0 0 l22.length), (3, .int .i64 z20), (4, .vl 0 t0 (0 + z6.toNat) (p1.length - z6.toNat)), (5, .int .i64 z21)] ∧ σ = ⟨[(0, .vec (List.map cGProp l22).flatten 26 4 t0)], 1⟩) (fun tm σ => ∃ z23 : Int, ∃ l24 : List GProp, slices_Compact_Prop_K2 z23 l24 = some r ∧ tm = fr 61 [(0, .vl 0 t0 0 l24.length), (3, .int .i64 z23)] ∧ σ = ⟨[(0, .vec (List.map cGProp l24).flatten 26 4 t0)], 1⟩) n ⟨z6, 1, p1, hF, rfl, rfl⟩ ?_ ?_
  rintro _ _ ⟨z23, l24, hF, rfl, rfl⟩
  unfold slices_Compact_Prop_K2 at hF
  repeat refine gq ?_
  repeat refine sq ?_
  obtain ⟨h25, hF⟩ := needO_some hF
  obtain ⟨h26, hF⟩ := needO_some hF
  refine WPU.joinK (fun tm σ => tm = fr 61 [(0, .vl 0 t0 0 ((clrV l24 (0 + z23.toNat) (l24.length - z23.toNat) (GProp.mk 0 [] 0 0)).length)), (3, .int .i64 z23)] ∧ σ = ⟨[(0, .vec (List.map cGProp (clrV l24 (0 + z23.toNat) (l24.length - z23.toNat) (GProp.mk 0 [] 0 0))).flatten 26 4 t0)], 1⟩) ?_ ?_
  rintro _ _ ⟨rfl, rfl⟩
  repeat refine gq ?_
  repeat refine sq ?_
  obtain ⟨h27, hF⟩ := needO_some hF
  refine WPU.region Try.tb_ok ?_
  repeat refine RS.mv rfl rfl rfl rfl ?_
  refine RS.op (u := .vl 0 t0 0 z23.toNat) rfl (op_slice rfl em_n (em_s rfl) em_n (sl_vp cGProp Try.und30 (sz_of Try.inf26) len_cGProp (vo rfl) (Nat.le_of_eq (Nat.zero_add _)) (bnd_hi h27.1 h27.2))) rfl rfl ?_
  refine RS.as rfl rfl rfl rfl ?_
  refine RS.done ?_
  repeat refine gq ?_
  repeat refine sq ?_
  refine WPU.ret ?_
  repeat refine gq ?_
  obtain ⟨h28, hF⟩ := needO_some hF
  have hr := Option.some.inj hF
  subst hr
  exact ⟨.inr rfl, [.vl 0 t0 0 z23.toNat], res_t rfl res_n, .vl 0 t0 0 z23.toNat, ⟨[(0, .vec (List.map cGProp ((clrV l24 (0 + z23.toNat) (l24.length - z23.toNat) (GProp.mk 0 [] 0 0)).take z23.toNat)).flatten 26 4 t0)], 1⟩, Nat.le_refl _, Gh.trans (Gh.truncL (K := 0) cGProp len_cGProp rfl z23.toNat) (Gh.to (n1 := 1) [] rfl rfl (Nat.le_refl _) (Nat.le_of_ble_eq_true rfl) BUL.h BH.h), t0, by rw [List.length_take_of_le h28], rfl⟩
  refine WPU.region Try.tb_ok ?_
  repeat refine RS.mv rfl rfl rfl rfl ?_
  refine RS.op (u := .vl 0 t0 (0 + z23.toNat) (l24.length - z23.toNat)) rfl (op_slice rfl (em_s rfl) em_n em_n (sl_vp cGProp Try.und30 (sz_of Try.inf26) len_cGProp (vo rfl) (Nat.le_of_eq (Nat.zero_add _)) (bnd_lo h25.1 h25.2))) rfl rfl ?_
  refine RS.opn (u := .junk) (σ' := ⟨[(0, .vec (List.map cGProp (clrV l24 (0 + z23.toNat) (l24.length - z23.toNat) (GProp.mk 0 [] 0 0))).flatten 26 4 t0)], 1⟩) rfl (op_clr cGProp rfl rfl rfl Try.und30 Try.inf26 rfl rfl rfl rfl len_cGProp rfl h26 rfl) rfl ?_
  refine RS.done ?_
  repeat refine gq ?_
  exact ⟨_, _, ⟨rfl, rfl⟩, (Nat.le_of_ble_eq_true rfl), Gh.eqS ⟨(by simp only [clrV_len h26]; rfl), rfl, trivial⟩ rfl⟩
  rintro m2 _ _ ⟨z20, z21, l22, hF, rfl, rfl⟩
  rcases m2 with _ | m2
  cases hF
  unfold slices_Compact_Prop_L2 at hF
  repeat refine sq ?_
  refine WPU.region Try.tb_ok ?_
  repeat refine RS.mv rfl rfl rfl rfl ?_
  refine RS.op rfl (op_len rfl rfl rfl (len_vp Try.und30 rfl)) rfl rfl ?_
  refine RS.op rfl (op_int rfl rfl (ix_lss _ _ _) rfl) rfl rfl ?_
  refine RS.done ?_
  repeat refine gq ?_
  repeat refine sq ?_
  refine WPU.condS (t := (decide (z21 < (((p1.length - z6.toNat) : Nat) : Int)))) rfl (fun h29 => ?_) (fun h29 => ?_)
  replace hF := cond_t h29 hF
  repeat refine sq ?_
  refine WPU.skip ?_
  repeat refine gq ?_
  repeat refine sq ?_
  refine WPU.block ?_
  repeat refine sq ?_
  obtain ⟨x30, h31, hF⟩ := bindO_some hF
  obtain ⟨x32, h33, hF⟩ := bindO_some hF
  refine WPU.drawE Try.tb_ok [] (by kernel_rfl) ?_
  repeat refine RD.mv rfl rfl rfl rfl ?_
  refine RD.look (u := .ptr 0 t0 ((0 + z6.toNat) * 4 + z21.toNat * 4)) rfl (op_ia rfl rfl (ia_vp cGProp Try.und30 (sz_of Try.inf26) (by decide) len_cGProp (vo rfl) h31)) rfl rfl ?_
  refine RD.look (u := .agg (cGProp x30)) rfl (ld_vp cGProp Try.und26 rfl (sz_of Try.inf26) len_cGProp rfl rfl h31 rfl) rfl rfl ?_
  repeat refine RD.mv rfl rfl rfl rfl ?_
  refine RD.look rfl (op_int rfl rfl (ix_sub _ _ _) rfl) rfl rfl ?_
  refine RD.look (u := .ptr 0 t0 ((0 + z6.toNat) * 4 + (IntKind.i64.wrap (z21 - 1)).toNat * 4)) rfl (op_ia rfl rfl (ia_vp cGProp Try.und30 (sz_of Try.inf26) (by decide) len_cGProp (vo rfl) h33)) rfl rfl ?_
  refine RD.look (u := .agg (cGProp x32)) rfl (ld_vp cGProp Try.und26 rfl (sz_of Try.inf26) len_cGProp rfl rfl h33 rfl) rfl rfl ?_
  refine RD.look (u := .bool (!(eqGProp x30 x32))) rfl (op_bin rfl rfl (eqq26_neq x30 x32)) rfl rfl ?_
  refine RD.done ⟨by kernel_rfl, trivial, ?_⟩
  repeat refine gq ?_
  repeat refine sq ?_
  refine WPU.joinK (fun tm σ => ∃ z35 : Int, ∃ l36 : List GProp, slices_Compact_Prop_J3 z21 (slices_Compact_Prop_L2 p1 z6 m2) z35 l36 = some r ∧ tm = fr 61 [(0, .vl 0 t0 0 l36.length), (3, .int .i64 z35), (4, .vl 0 t0 (0 + z6.toNat) (p1.length - z6.toNat)), (5, .int .i64 z21)] ∧ σ = ⟨[(0, .vec (List.map cGProp l36).flatten 26 4 t0)], 1⟩) ?_ ?_
  rintro _ _ ⟨z35, l36, hF, rfl, rfl⟩
  unfold slices_Compact_Prop_J3 at hF
  repeat refine gq ?_
  repeat refine sq ?_
  refine WPU.region Try.tb_ok ?_
  refine RS.mv rfl rfl rfl rfl ?_
  refine RS.op rfl (op_int rfl rfl (ix_add _ _ _) rfl) rfl rfl ?_
  refine RS.as rfl rfl rfl rfl ?_
  refine RS.done ?_
  repeat refine gq ?_
  exact ⟨m2, _, _, Nat.lt_succ_self _, ⟨z35, (IntKind.i64.wrap (z21 + 1)), l36, hF, rfl, rfl⟩, (Nat.le_of_ble_eq_true rfl), Gh.toC (n1 := 1) ⟨rfl, rfl, rfl, rfl, trivial⟩ rfl (Nat.le_of_ble_eq_true rfl) (by simp)⟩
  refine WPU.condS (t := (!(eqGProp x30 x32))) rfl (fun h34 => ?_) (fun h34 => ?_)
  replace hF := cond_t h34 hF
  repeat refine sq ?_
  obtain ⟨x37, h38, hF⟩ := bindO_some hF
  obtain ⟨x39, h40, hF⟩ := bindO_some hF
  refine WPU.joinK (fun tm σ => tm = fr 61 [(0, .vl 0 t0 0 ((l22.set (0 + z20.toNat) x37).length)), (3, .int .i64 z20), (4, .vl 0 t0 (0 + z6.toNat) (p1.length - z6.toNat)), (5, .int .i64 z21)] ∧ σ = ⟨[(0, .vec (List.map cGProp (l22.set (0 + z20.toNat) x37)).flatten 26 4 t0)], 1⟩) ?_ ?_
  rintro _ _ ⟨rfl, rfl⟩
  repeat refine gq ?_
  repeat refine sq ?_
  refine WPU.region Try.tb_ok ?_
  refine RS.mv rfl rfl rfl rfl ?_
  refine RS.op rfl (op_int rfl rfl (ix_add _ _ _) rfl) rfl rfl ?_
  refine RS.as rfl rfl rfl rfl ?_
  refine RS.done ?_
  repeat refine gq ?_
  exact ⟨_, _, ⟨(IntKind.i64.wrap (z20 + 1)), (l22.set (0 + z20.toNat) x37), hF, rfl, rfl⟩, (Nat.le_of_ble_eq_true rfl), Gh.toC (n1 := 1) ⟨rfl, rfl, rfl, rfl, trivial⟩ rfl (Nat.le_of_ble_eq_true rfl) (by simp)⟩
  refine WPU.region Try.tb_ok ?_
  repeat refine RS.mv rfl rfl rfl rfl ?_
  refine RS.op (u := .ptr 0 t0 ((0 + z6.toNat) * 4 + z21.toNat * 4)) rfl (op_ia rfl rfl (ia_vp cGProp Try.und30 (sz_of Try.inf26) (by decide) len_cGProp (vo rfl) h38)) rfl rfl ?_
  refine RS.op (u := .agg (cGProp x37)) rfl (ld_vp cGProp Try.und26 rfl (sz_of Try.inf26) len_cGProp rfl rfl h38 rfl) rfl rfl ?_
  refine RS.op (u := .ptr 0 t0 (0 * 4 + z20.toNat * 4)) rfl (op_ia rfl rfl (ia_vl cGProp Try.und30 (sz_of Try.inf26) (by decide) len_cGProp (vo rfl) h40)) rfl rfl ?_
  refine RS.opn (u := .junk) (σ' := ⟨[(0, .vec (List.map cGProp (l22.set (0 + z20.toNat) x37)).flatten 26 4 t0)], 1⟩) rfl (st_vp cGProp (sz_of Try.inf26) len_cGProp rfl rfl rfl rfl rfl rfl rfl (idxO_V h40) rfl) rfl ?_
  refine RS.done ?_
  repeat refine gq ?_
  exact ⟨_, _, ⟨rfl, rfl⟩, (Nat.le_of_ble_eq_true rfl), Gh.eqS ⟨(by simp only [List.length_set]; rfl), rfl, rfl, rfl, trivial⟩ rfl⟩
  replace hF := cond_f h34 hF
  repeat refine sq ?_
  refine WPU.skip ?_
  repeat refine gq ?_
  exact ⟨_, _, ⟨z20, l22, hF, rfl, rfl⟩, (Nat.le_of_ble_eq_true rfl), Gh.toC (n1 := 1) ⟨rfl, rfl, rfl, rfl, trivial⟩ rfl (Nat.le_of_ble_eq_true rfl) (by simp)⟩
  replace hF := cond_f h29 hF
  repeat refine sq ?_
  refine WPU.exit ?_
  repeat refine gq ?_
  exact ⟨_, _, ⟨z20, l22, hF, rfl, rfl⟩, (Nat.le_of_ble_eq_true rfl), Gh.toC (n1 := 1) ⟨rfl, rfl, trivial⟩ rfl (Nat.le_of_ble_eq_true rfl) (by simp)⟩
  replace hF := cond_f h12 hF
  repeat refine sq ?_
  refine WPU.skip ?_
  repeat refine gq ?_
  repeat refine sq ?_
  refine WPU.region Try.tb_ok ?_
  refine RS.mv rfl rfl rfl rfl ?_
  refine RS.op rfl (op_int rfl rfl (ix_add _ _ _) rfl) rfl rfl ?_
  refine RS.as rfl rfl rfl rfl ?_
  refine RS.done ?_
  repeat refine gq ?_
  exact ⟨m1, _, _, Nat.lt_succ_self _, ⟨(IntKind.i64.wrap (z6 + 1)), hF, rfl, rfl⟩, (Nat.le_of_ble_eq_true rfl), Gh.toC (n1 := 1) ⟨rfl, rfl, trivial⟩ rfl (Nat.le_of_ble_eq_true rfl) (by simp)⟩
  replace hF := cond_f h7 hF
  repeat refine sq ?_
  refine WPU.exit ?_
  repeat refine gq ?_
  exact ⟨_, _, ⟨hF, rfl, rfl⟩, (Nat.le_of_ble_eq_true rfl), Gh.toC (n1 := 1) ⟨rfl, trivial⟩ rfl (Nat.le_of_ble_eq_true rfl) (by simp)⟩
theorem slices_Compact_Prop_ok (n : Nat) (p1 : List GProp) (r : (List GProp)) (hF : slices_Compact_Prop n p1 = some r) : ∀ (σ : Sg) {K t0 : Nat}, Nat.blt K σ.nx = true → gt σ.h K = some (.vec (List.map cGProp p1).flatten 26 4 t0) → EvU Try.prog 31 [.vl K t0 0 p1.length] σ (fun u σ' => ∃ t, u = .vl K t 0 r.length ∧ σ' = ⟨ug σ.h K (.vec (List.map cGProp r).flatten 26 4 t), σ.nx⟩) := fun σ K t0 hK hg =>
  EvU.acc1 cGProp (BF.h 0) (BUL.h) (slices_Compact_Prop_0 n p1 r hF) σ hK hg
def slices_Grow_Prop (n : Nat) (p1 : Int) : Option ((List GProp)) :=
  cond (decide (p1 < 0))
    (none)
    (cond (decide ((IntKind.i64.wrap (p1 - 0)) > 0))
      (needO (0 < (IntKind.i64.wrap (p1 - 0)) ∧ (IntKind.i64.wrap (p1 - 0)).toNat * 40 ≤ 140737488355328 ∧ (IntKind.i64.wrap (p1 - 0)).toNat ≤ 140737488355328) (
      needO (0 + (IntKind.i64.wrap (p1 - 0)).toNat ≤ (List.replicate (IntKind.i64.wrap (p1 - 0)).toNat (GProp.mk 0 [] 0 0)).length) (
      needO ((0 : Int) ≤ 0 ∧ 0 ≤ (((IntKind.i64.wrap (p1 - 0)).toNat : Nat) : Int)) (
      needO (0 ≤ (List.replicate (IntKind.i64.wrap (p1 - 0)).toNat (GProp.mk 0 [] 0 0)).length) (
        some ((List.replicate (IntKind.i64.wrap (p1 - 0)).toNat (GProp.mk 0 [] 0 0)).take 0))))))
      (some ([] : List GProp)))
theorem slices_Grow_Prop_0 (n : Nat) (p1 : Int) (r : (List GProp)) (hF : slices_Grow_Prop n p1 = some r) : EvU Try.prog 65 [.nils, .int .i64 p1] ⟨[], 0⟩ (fun u σ' => ∃ t, u = .vl 0 t 0 r.length ∧ σ' = ⟨[(0, .vec (List.map cGProp r).flatten 26 4 t)], 0 + 1⟩) := by
  unfold slices_Grow_Prop at hF
  refine EvU.of_body Try.tb_ok Try.fn65 rfl ?_
  refine WPU.ghost (tm' := fr 27 [(0, .nils), (1, .int .i64 p1)]) (Gh.start (Nat.le_of_ble_eq_true rfl)) (Nat.zero_le _) ?_
  repeat refine sq ?_
  refine WPU.region Try.tb_ok ?_
  refine RS.as rfl rfl rfl rfl ?_
  refine RS.done ?_
  repeat refine gq ?_
  repeat refine sq ?_
  refine WPU.region Try.tb_ok ?_
  refine RS.mv rfl rfl rfl rfl ?_
  refine RS.op rfl (op_int rfl rfl (ix_lss _ _ _) rfl) rfl rfl ?_
  refine RS.done ?_
  repeat refine gq ?_
  repeat refine sq ?_
  refine WPU.condS (t := (decide (p1 < 0))) rfl (fun h2 => ?_) (fun h2 => ?_)
  replace hF := cond_t h2 hF
  cases hF
  replace hF := cond_f h2 hF
  repeat refine sq ?_
  refine WPU.skip ?_
  repeat refine gq ?_
  repeat refine sq ?_
  refine WPU.region Try.tb_ok ?_
  repeat refine RS.mv rfl rfl rfl rfl ?_
  refine RS.op (u := .int .i64 0) rfl (op_cap0 rfl rfl rfl Try.und30) rfl rfl ?_
  refine RS.mv rfl rfl rfl rfl ?_
  refine RS.op (u := .int .i64 0) rfl (op_len rfl rfl rfl (by simp only [lenU, Try.und30])) rfl rfl ?_
  refine RS.op rfl (op_int rfl rfl (ix_sub _ _ _) rfl) rfl rfl ?_
  refine RS.op rfl (op_int rfl rfl (ix_sub _ _ _) rfl) rfl rfl ?_
  refine RS.as rfl rfl rfl rfl ?_
  refine RS.done ?_
  repeat refine gq ?_
  repeat refine sq ?_
  refine WPU.region Try.tb_ok ?_
  refine RS.mv rfl rfl rfl rfl ?_
  refine RS.op rfl (op_int rfl rfl (ix_gtr _ _ _) rfl) rfl rfl ?_
  refine RS.done ?_
  repeat refine gq ?_
  repeat refine sq ?_
  refine WPU.condS (t := (decide ((IntKind.i64.wrap (p1 - 0)) > 0))) rfl (fun h3 => ?_) (fun h3 => ?_)
  replace hF := cond_t h3 hF
  repeat refine sq ?_
  obtain ⟨h4, hF⟩ := needO_some hF
  obtain ⟨h5, hF⟩ := needO_some hF
  obtain ⟨h6, hF⟩ := needO_some hF
  refine WPU.region Try.tb_ok ?_
  repeat refine RS.mv rfl rfl rfl rfl ?_
  refine RS.op (u := .int .i64 0) rfl (op_cap0 rfl rfl rfl Try.und30) rfl rfl ?_
  refine RS.op (u := .nils) rfl (op_slice rfl em_n (em_s rfl) em_n (by simp only [sliceU, Try.und30, sizeX, Try.inf26]; rfl)) rfl rfl ?_
  refine RS.mv rfl rfl rfl rfl ?_
  refine RS.op (u := .vl 0 0 0 ((IntKind.i64.wrap (p1 - 0)).toNat)) (σ' := ⟨[(0, .vec (List.map cGProp (List.replicate (IntKind.i64.wrap (p1 - 0)).toNat (GProp.mk 0 [] 0 0))).flatten 26 4 0)], 1⟩) rfl (op_appm cGProp (GProp.mk 0 [] 0 0) rfl rfl rfl rfl Try.und30 Try.und3 Try.inf26 rfl rfl rfl rfl h4) rfl rfl ?_
  refine RS.mv rfl rfl rfl rfl ?_
  refine RS.op (u := .int .i64 0) rfl (op_len rfl rfl rfl (by simp only [lenU, Try.und30])) rfl rfl ?_
  refine RS.op (u := .vl 0 0 0 0) rfl (op_slice rfl em_n (em_s rfl) em_n (sl_vp cGProp Try.und30 (sz_of Try.inf26) len_cGProp (vo rfl) h5 (bnd_hi h6.1 h6.2))) rfl rfl ?_
  refine RS.as rfl rfl rfl rfl ?_
  refine RS.done ?_
  repeat refine gq ?_
  repeat refine sq ?_
  refine WPU.region Try.tb_ok ?_
  refine RS.mv rfl rfl rfl rfl ?_
  refine RS.as rfl rfl rfl rfl ?_
  refine RS.done ?_
  repeat refine gq ?_
  repeat refine sq ?_
  refine WPU.ret ?_
  repeat refine gq ?_
  obtain ⟨h7, hF⟩ := needO_some hF
  have hr := Option.some.inj hF
  subst hr
  exact ⟨.inr rfl, [.vl 0 0 0 0], res_t rfl res_n, .vl 0 0 0 0, ⟨[(0, .vec (List.map cGProp ((List.replicate (IntKind.i64.wrap (p1 - 0)).toNat (GProp.mk 0 [] 0 0)).take 0)).flatten 26 4 0)], 1⟩, (Nat.zero_le _), Gh.trans (Gh.truncL (K := 0) cGProp len_cGProp rfl 0) (Gh.trans (Gh.only (fun k => Nat.beq k 0)) (Gh.to (n1 := 1) [] rfl rfl (Nat.zero_le _) (Nat.le_of_ble_eq_true rfl) BUL.h BH.h)), 0, (by rw [List.length_take_of_le h7]), rfl⟩
  replace hF := cond_f h3 hF
  repeat refine sq ?_
  refine WPU.skip ?_
  repeat refine gq ?_
  repeat refine sq ?_
  refine WPU.region Try.tb_ok ?_
  refine RS.mv rfl rfl rfl rfl ?_
  refine RS.as rfl rfl rfl rfl ?_
  refine RS.done ?_
  repeat refine gq ?_
  repeat refine sq ?_
  refine WPU.ret ?_
  repeat refine gq ?_
  have hr := Option.some.inj hF
  subst hr
  exact ⟨.inr rfl, [.nils], res_t rfl res_n, .vl 0 0 0 0, ⟨[(0, .vec (List.map cGProp ([] : List GProp)).flatten 26 4 0)], 1⟩, (Nat.zero_le _), Gh.trans (Gh.nilvec (tm := [.nils]) 0 26 4 (by decide) (Nat.zero_le _) rfl) (Gh.trans (Gh.only (fun k => Nat.beq k 0)) (Gh.to (n1 := 1) [] rfl rfl (Nat.zero_le _) (Nat.le_of_ble_eq_true rfl) BUL.h BH.h)), 0, rfl, rfl⟩
def slices_Concat_Prop_K2  (l21 : List GProp) : Option ((List GProp)) :=
  some l21
def slices_Concat_Prop_L2 (p1 : List (List GProp)) : Nat → Int → (List GProp) → Option ((List GProp))
  | 0, _, _ => none
  | m2 + 1, z18, l19 =>
    cond (decide (z18 < (p1.length : Int)))
      (bindO (idxO p1 z18) fun x24 =>
      needO ((l19.length + x24.length) * 40 ≤ 140737488355328 ∧ l19.length + x24.length ≤ 140737488355328) (
      (slices_Concat_Prop_L2 p1 m2) (IntKind.i64.wrap (z18 + 1)) (l19 ++ x24)))
      (slices_Concat_Prop_K2 l19)
def slices_Concat_Prop_K1 (p1 : List (List GProp)) (n : Nat) (z9 : Int) : Option ((List GProp)) :=
  bindO (slices_Grow_Prop n z9) fun r10 =>
  slices_Concat_Prop_L2 p1 n 0 r10
def slices_Concat_Prop_L1 (p1 : List (List GProp)) (n : Nat) : Nat → Int → Int → Option ((List GProp))
  | 0, _, _ => none
  | m1 + 1, z7, z8 =>
    cond (decide (z8 < (p1.length : Int)))
      (bindO (idxO p1 z8) fun x28 =>
      cond (decide ((IntKind.i64.wrap (z7 + (x28.length : Int))) < 0))
        (none)
        ((slices_Concat_Prop_L1 p1 n m1) (IntKind.i64.wrap (z7 + (x28.length : Int))) (IntKind.i64.wrap (z8 + 1))))
      (slices_Concat_Prop_K1 p1 n z7)
def slices_Concat_Prop (n : Nat) (p1 : List (List GProp)) : Option ((List GProp)) :=
  slices_Concat_Prop_L1 p1 n n 0 0
theorem slices_Concat_Prop_0 (n : Nat) (p1 : List (List GProp)) (r : (List GProp)) (hF : slices_Concat_Prop n p1 = some r) : EvU Try.prog 49 [.isl false (List.map (cL cGProp) p1)] ⟨[], 0⟩ (fun u σ' => ∃ t, u = .vl 0 t 0 r.length ∧ σ' = ⟨[(0, .vec (List.map cGProp r).flatten 26 4 t)], 0 + 1⟩) := by
  unfold slices_Concat_Prop at hF
  refine EvU.of_body Try.tb_ok Try.fn49 rfl ?_
  refine WPU.ghost (tm' := fr 36 [(0, .isl false (List.map (cL cGProp) p1))]) (Gh.start (Nat.le_of_ble_eq_true rfl)) (Nat.zero_le _) ?_
  repeat refine sq ?_
  refine WPU.region Try.tb_ok ?_
  refine RS.as rfl rfl rfl rfl ?_
  refine RS.done ?_
  repeat refine gq ?_
  repeat refine sq ?_
  refine WPU.region Try.tb_ok ?_
  refine RS.as rfl rfl rfl rfl ?_
  refine RS.done ?_
  repeat refine gq ?_
  repeat refine sq ?_
  refine WPU.region Try.tb_ok ?_
  refine RS.mv rfl rfl rfl rfl ?_
  refine RS.op rfl (op_len rfl rfl rfl (len_isl (cL cGProp) Try.und55)) rfl rfl ?_
  refine RS.mv rfl rfl rfl rfl ?_
  refine RS.done ?_
  repeat refine gq ?_
  repeat refine sq ?_
  refine WPU.ghost (tm' := fr 36 [(0, .isl false (List.map (cL cGProp) p1)), (3, .int .i64 0), (9, .isl false (List.map (cL cGProp) p1)), (10, .int .i64 (p1.length : Int)), (11, .int .i64 0)]) (Gh.sub ⟨rfl, rfl, rfl, rfl, rfl, trivial⟩) (Nat.zero_le _) ?_
  refine WPU.loopK (fun m tm σ => ∃ z7 : Int, ∃ z8 : Int, slices_Concat_Prop_L1 p1 n m z7 z8 = some r ∧ tm = fr 36 [(0, .isl false (List.map (cL cGProp) p1)), (3, .int .i64 z7), (9, .isl false (List.map (cL cGProp) p1)), (10, .int .i64 (p1.length : Int)), (11, .int .i64 z8)] ∧ σ = ⟨[], 0⟩) (fun tm σ => ∃ z9 : Int, slices_Concat_Prop_K1 p1 n z9 = some r ∧ tm = fr 36 [(0, .isl false (List.map (cL cGProp) p1)), (3, .int .i64 z9)] ∧ σ = ⟨[], 0⟩) n ⟨0, 0, hF, rfl, rfl⟩ ?_ ?_
  rintro _ _ ⟨z9, hF, rfl, rfl⟩
  unfold slices_Concat_Prop_K1 at hF
  repeat refine gq ?_
  repeat refine sq ?_
  obtain ⟨r10, h11, hF⟩ := bindO_some hF
  refine WPU.region Try.tb_ok ?_
  refine RS.mv rfl rfl rfl rfl ?_
  refine RS.callx (R := fun u σ' => ∃ t12, u = .vl 0 t12 0 r10.length ∧ σ' = ⟨[(0, .vec (List.map cGProp r10).flatten 26 4 t12)], 1⟩) (args := [.nils, .int .i64 z9]) rfl (op_call rfl rfl Try.fn65 Try.hb65 rfl rfl) (EvU.own1 cGProp (slices_Grow_Prop_0 n z9 r10 h11) _ 0 rfl) rfl rfl ?_
  rintro _ _ ⟨t12, rfl, rfl⟩
  refine RS.as rfl rfl rfl rfl ?_
  refine RS.done ?_
  repeat refine gq ?_
  repeat refine sq ?_
  refine WPU.region Try.tb_ok ?_
  refine RS.mv rfl rfl rfl rfl ?_
  refine RS.op rfl (op_len rfl rfl rfl (len_isl (cL cGProp) Try.und55)) rfl rfl ?_
  refine RS.mv rfl rfl rfl rfl ?_
  refine RS.done ?_
  repeat refine gq ?_
  repeat refine sq ?_
  refine WPU.ghost (tm' := fr 36 [(6, .vl 0 t12 0 r10.length), (25, .isl false (List.map (cL cGProp) p1)), (26, .int .i64 (p1.length : Int)), (27, .int .i64 0)]) (Gh.sub ⟨rfl, rfl, rfl, rfl, trivial⟩) (Nat.zero_le _) ?_
  refine WPU.loopK (fun m tm σ => ∃ z18 : Int, ∃ l19 : List GProp, ∃ t20 : Nat, slices_Concat_Prop_L2 p1 m z18 l19 = some r ∧ tm = fr 36 [(6, .vl 0 t20 0 l19.length), (25, .isl false (List.map (cL cGProp) p1)), (26, .int .i64 (p1.length : Int)), (27, .int .i64 z18)] ∧ σ = ⟨[(0, .vec (List.map cGProp l19).flatten 26 4 t20)], 1⟩) (fun tm σ => ∃ l21 : List GProp, ∃ t22 : Nat, slices_Concat_Prop_K2 l21 = some r ∧ tm = fr 36 [(6, .vl 0 t22 0 l21.length)] ∧ σ = ⟨[(0, .vec (List.map cGProp l21).flatten 26 4 t22)], 1⟩) n ⟨0, r10, t12, hF, rfl, rfl⟩ ?_ ?_
  rintro _ _ ⟨l21, t22, hF, rfl, rfl⟩
  unfold slices_Concat_Prop_K2 at hF
  repeat refine gq ?_
  repeat refine sq ?_
  refine WPU.region Try.tb_ok ?_
  refine RS.mv rfl rfl rfl rfl ?_
  refine RS.as rfl rfl rfl rfl ?_
  refine RS.done ?_
  repeat refine gq ?_
  repeat refine sq ?_
  refine WPU.ret ?_
  repeat refine gq ?_
  have hr := Option.some.inj hF
  subst hr
  exact ⟨.inr rfl, [.vl 0 t22 0 l21.length], res_t rfl res_n, .vl 0 t22 0 l21.length, ⟨[(0, .vec (List.map cGProp l21).flatten 26 4 t22)], 1⟩, (Nat.zero_le _), Gh.trans (Gh.only (fun k => Nat.beq k 0)) (Gh.to (n1 := 1) [] rfl rfl (Nat.zero_le _) (Nat.le_of_ble_eq_true rfl) BUL.h BH.h), t22, rfl, rfl⟩
  rintro m2 _ _ ⟨z18, l19, t20, hF, rfl, rfl⟩
  rcases m2 with _ | m2
  cases hF
  unfold slices_Concat_Prop_L2 at hF
  repeat refine sq ?_
  refine WPU.region Try.tb_ok ?_
  refine RS.op rfl (op_int rfl rfl (ix_lss _ _ _) rfl) rfl rfl ?_
  refine RS.done ?_
  repeat refine gq ?_
  repeat refine sq ?_
  refine WPU.condS (t := (decide (z18 < (p1.length : Int)))) rfl (fun h23 => ?_) (fun h23 => ?_)
  replace hF := cond_t h23 hF
  repeat refine sq ?_
  refine WPU.skip ?_
  repeat refine gq ?_
  repeat refine sq ?_
  refine WPU.block ?_
  repeat refine sq ?_
  obtain ⟨x24, h25, hF⟩ := bindO_some hF
  refine WPU.region Try.tb_ok ?_
  refine RS.op (u := .iptr [.isl false (List.map cGProp x24)]) rfl (op_ia rfl rfl (ia_isl (cL cGProp) Try.und55 (sz_of Try.inf30) (len_cL cGProp) h25 rfl)) rfl rfl ?_
  refine RS.op (u := .isl false (List.map cGProp x24)) rfl (li_one Try.und30 rfl rfl rfl) rfl rfl ?_
  refine RS.as rfl rfl rfl rfl ?_
  refine RS.done ?_
  repeat refine gq ?_
  repeat refine sq ?_
  obtain ⟨h26, hF⟩ := needO_some hF
  refine WPU.region Try.tb_ok ?_
  repeat refine RS.mv rfl rfl rfl rfl ?_
  refine RS.op (u := .vl 0 (t20 + 1) 0 ((l19 ++ x24).length)) (σ' := ⟨[(0, .vec (List.map cGProp (l19 ++ x24)).flatten 26 4 (t20 + 1))], 1⟩) rfl (op_app rfl rfl rfl rfl (app_vl cGProp x24 Try.und30 Try.und30 Try.inf26 rfl len_cGProp rfl (src_isl cGProp len_cGProp) h26)) rfl rfl ?_
  refine RS.as rfl rfl rfl rfl ?_
  refine RS.done ?_
  repeat refine gq ?_
  repeat refine sq ?_
  refine WPU.region Try.tb_ok ?_
  refine RS.op rfl (op_int rfl rfl (ix_add _ _ _) rfl) rfl rfl ?_
  refine RS.mv rfl rfl rfl rfl ?_
  refine RS.done ?_
  repeat refine gq ?_
  exact ⟨m2, _, _, Nat.lt_succ_self _, ⟨(IntKind.i64.wrap (z18 + 1)), (l19 ++ x24), (t20 + 1), hF, rfl, rfl⟩, (Nat.zero_le _), Gh.toC (n1 := 1) ⟨rfl, rfl, rfl, rfl, trivial⟩ rfl (Nat.zero_le _) (by simp)⟩
  replace hF := cond_f h23 hF
  repeat refine sq ?_
  refine WPU.exit ?_
  repeat refine gq ?_
  exact ⟨_, _, ⟨l19, t20, hF, rfl, rfl⟩, (Nat.zero_le _), Gh.toC (n1 := 1) ⟨rfl, trivial⟩ rfl (Nat.zero_le _) (by simp)⟩
  rintro m1 _ _ ⟨z7, z8, hF, rfl, rfl⟩
  rcases m1 with _ | m1
  cases hF
  unfold slices_Concat_Prop_L1 at hF
  repeat refine sq ?_
  refine WPU.region Try.tb_ok ?_
  refine RS.op rfl (op_int rfl rfl (ix_lss _ _ _) rfl) rfl rfl ?_
  refine RS.done ?_
  repeat refine gq ?_
  repeat refine sq ?_
  refine WPU.condS (t := (decide (z8 < (p1.length : Int)))) rfl (fun h27 => ?_) (fun h27 => ?_)
  replace hF := cond_t h27 hF
  repeat refine sq ?_
  refine WPU.skip ?_
  repeat refine gq ?_
  repeat refine sq ?_
  refine WPU.block ?_
  repeat refine sq ?_
  obtain ⟨x28, h29, hF⟩ := bindO_some hF
  refine WPU.region Try.tb_ok ?_
  refine RS.op (u := .iptr [.isl false (List.map cGProp x28)]) rfl (op_ia rfl rfl (ia_isl (cL cGProp) Try.und55 (sz_of Try.inf30) (len_cL cGProp) h29 rfl)) rfl rfl ?_
  refine RS.op (u := .isl false (List.map cGProp x28)) rfl (li_one Try.und30 rfl rfl rfl) rfl rfl ?_
  refine RS.as rfl rfl rfl rfl ?_
  refine RS.done ?_
  repeat refine gq ?_
  repeat refine sq ?_
  refine WPU.region Try.tb_ok ?_
  repeat refine RS.mv rfl rfl rfl rfl ?_
  refine RS.op rfl (op_len rfl rfl rfl (len_isl cGProp Try.und30)) rfl rfl ?_
  refine RS.op rfl (op_int rfl rfl (ix_add _ _ _) rfl) rfl rfl ?_
  refine RS.as rfl rfl rfl rfl ?_
  refine RS.done ?_
  repeat refine gq ?_
  repeat refine sq ?_
  refine WPU.region Try.tb_ok ?_
  refine RS.mv rfl rfl rfl rfl ?_
  refine RS.op rfl (op_int rfl rfl (ix_lss _ _ _) rfl) rfl rfl ?_
  refine RS.done ?_
  repeat refine gq ?_
  repeat refine sq ?_
  refine WPU.condS (t := (decide ((IntKind.i64.wrap (z7 + (x28.length : Int))) < 0))) rfl (fun h30 => ?_) (fun h30 => ?_)
  replace hF := cond_t h30 hF
  cases hF
  replace hF := cond_f h30 hF
  repeat refine sq ?_
  refine WPU.skip ?_
  repeat refine gq ?_
  repeat refine sq ?_
  refine WPU.region Try.tb_ok ?_
  refine RS.op rfl (op_int rfl rfl (ix_add _ _ _) rfl) rfl rfl ?_
  refine RS.mv rfl rfl rfl rfl ?_
  refine RS.done ?_
  repeat refine gq ?_
  exact ⟨m1, _, _, Nat.lt_succ_self _, ⟨(IntKind.i64.wrap (z7 + (x28.length : Int))), (IntKind.i64.wrap (z8 + 1)), hF, rfl, rfl⟩, (Nat.zero_le _), Gh.toC (n1 := 0) ⟨rfl, rfl, rfl, rfl, rfl, trivial⟩ rfl (Nat.zero_le _) (by simp)⟩
  replace hF := cond_f h27 hF
  repeat refine sq ?_
  refine WPU.exit ?_
  repeat refine gq ?_
  exact ⟨_, _, ⟨z7, hF, rfl, rfl⟩, (Nat.zero_le _), Gh.toC (n1 := 0) ⟨rfl, rfl, trivial⟩ rfl (Nat.zero_le _) (by simp)⟩
def slices_BinarySearchFunc_Prop_order_J2 (rc1 : Int → Int → Option (Int × Bool)) (z28 : Int) (z29 : Int) : Option (Int × Bool) :=
  rc1 z28 z29
def slices_BinarySearchFunc_Prop_order_K1 (p1 : List GProp) (p2 : GProp) (f2 : GProp → GProp → Option (Int)) (z13 : Int) : Option (Int × Bool) :=
  bindO (cond (decide (z13 < (p1.length : Int)))
    (bindO (idxO p1 z13) fun x15 =>
    bindO (f2 x15 p2) fun r17 =>
    some (r17 == 0))
    (some false)) fun b19 =>
  some (z13, b19)
def slices_BinarySearchFunc_Prop_order_L1 (p1 : List GProp) (p2 : GProp) (f2 : GProp → GProp → Option (Int)) : Nat → Int → Int → Option (Int × Bool)
  | 0, _, _ => none
  | m1 + 1, z11, z12 =>
    cond (decide (z11 < z12))
      (bindO (idxO p1 (IntKind.i64.wrap ((IntKind.u64.wrap (IntKind.i64.wrap (z11 + z12))).fdiv (2 ^ (min (1 : Int).toNat IntKind.u64.bits))))) fun x23 =>
      bindO (f2 x23 p2) fun r25 =>
      cond (decide (r25 < 0))
        (slices_BinarySearchFunc_Prop_order_J2 (slices_BinarySearchFunc_Prop_order_L1 p1 p2 f2 m1) (IntKind.i64.wrap ((IntKind.i64.wrap ((IntKind.u64.wrap (IntKind.i64.wrap (z11 + z12))).fdiv (2 ^ (min (1 : Int).toNat IntKind.u64.bits)))) + 1)) z12)
        (slices_BinarySearchFunc_Prop_order_J2 (slices_BinarySearchFunc_Prop_order_L1 p1 p2 f2 m1) z11 (IntKind.i64.wrap ((IntKind.u64.wrap (IntKind.i64.wrap (z11 + z12))).fdiv (2 ^ (min (1 : Int).toNat IntKind.u64.bits))))))
      (slices_BinarySearchFunc_Prop_order_K1 p1 p2 f2 z11)
def slices_BinarySearchFunc_Prop_order (f2 : GProp → GProp → Option (Int)) (n : Nat) (p1 : List GProp) (p2 : GProp) : Option (Int × Bool) :=
  slices_BinarySearchFunc_Prop_order_L1 p1 p2 f2 n 0 (p1.length : Int)
theorem slices_BinarySearchFunc_Prop_order_0 (f2 : GProp → GProp → Option (Int)) (hf2 : ∀ (a0 : GProp) (a1 : GProp) (r : Int), f2 a0 a1 = some r → EvU Try.prog 30 [.agg (cGProp a0), .agg (cGProp a1)] ⟨[], 0⟩ (fun u _ => u = .int .i64 r ∧ Bel 0 u)) (n : Nat) (p1 : List GProp) (p2 : GProp) (r : Int × Bool) (hF : slices_BinarySearchFunc_Prop_order f2 n p1 p2 = some r) : EvU Try.prog 48 [.isl false (List.map cGProp p1), .agg (cGProp p2), .fn (.func 30) [] []] ⟨[], 0⟩ (fun u _ => u = .tup [.int .i64 r.1, .bool r.2] ∧ Bel 0 u) := by
  unfold slices_BinarySearchFunc_Prop_order at hF
  have hf2S : ∀ (a0 : GProp) (a1 : GProp) (r : Int), f2 a0 a1 = some r → ∀ σ, EvU Try.prog 30 [.agg (cGProp a0), .agg (cGProp a1)] σ (fun u σ' => u = .int .i64 r ∧ σ' = σ) := fun a0 a1 r h σ => EvU.pure1C (hf2 a0 a1 r h) σ
  refine EvU.of_body Try.tb_ok Try.fn48 rfl ?_
  refine WPU.ghost (tm' := fr 49 [(0, .isl false (List.map cGProp p1)), (1, .agg (cGProp p2)), (2, .fn (.func 30) [] [])]) (Gh.start (Nat.le_of_ble_eq_true rfl)) (Nat.zero_le _) ?_
  repeat refine sq ?_
  refine WPU.region Try.tb_ok ?_
  refine RS.op (u := .ptr 0 0 0) (σ' := ⟨[(0, .row (cGProp p2) 26)], 1⟩) rfl (op_box rfl rfl rfl) rfl rfl ?_
  repeat refine RS.as rfl rfl rfl rfl ?_
  refine RS.done ?_
  repeat refine gq ?_
  repeat refine sq ?_
  refine WPU.region Try.tb_ok ?_
  refine RS.mv rfl rfl rfl rfl ?_
  refine RS.op rfl (op_len rfl rfl rfl (len_isl cGProp Try.und30)) rfl rfl ?_
  refine RS.as rfl rfl rfl rfl ?_
  refine RS.done ?_
  repeat refine gq ?_
  repeat refine sq ?_
  refine WPU.region Try.tb_ok ?_
  refine RS.mv rfl rfl rfl rfl ?_
  repeat refine RS.as rfl rfl rfl rfl ?_
  refine RS.done ?_
  repeat refine gq ?_
  repeat refine sq ?_
  refine WPU.ghost (tm' := fr 49 [(0, .isl false (List.map cGProp p1)), (2, .fn (.func 30) [] []), (4, .ptr 0 0 0), (8, .int .i64 (p1.length : Int)), (9, .int .i64 0), (10, .int .i64 (p1.length : Int))]) (Gh.sub ⟨rfl, rfl, rfl, rfl, rfl, rfl, trivial⟩) (Nat.zero_le _) ?_
  refine WPU.loopK (fun m tm σ => ∃ z11 : Int, ∃ z12 : Int, slices_BinarySearchFunc_Prop_order_L1 p1 p2 f2 m z11 z12 = some r ∧ tm = fr 49 [(0, .isl false (List.map cGProp p1)), (2, .fn (.func 30) [] []), (4, .ptr 0 0 0), (8, .int .i64 (p1.length : Int)), (9, .int .i64 z11), (10, .int .i64 z12)] ∧ σ = ⟨[(0, .row (cGProp p2) 26)], 1⟩) (fun tm σ => ∃ z13 : Int, slices_BinarySearchFunc_Prop_order_K1 p1 p2 f2 z13 = some r ∧ tm = fr 49 [(0, .isl false (List.map cGProp p1)), (2, .fn (.func 30) [] []), (4, .ptr 0 0 0), (8, .int .i64 (p1.length : Int)), (9, .int .i64 z13)] ∧ σ = ⟨[(0, .row (cGProp p2) 26)], 1⟩) n ⟨0, (p1.length : Int), hF, rfl, rfl⟩ ?_ ?_
  rintro _ _ ⟨z13, hF, rfl, rfl⟩
  unfold slices_BinarySearchFunc_Prop_order_K1 at hF
  repeat refine gq ?_
  repeat refine sq ?_
  obtain ⟨b19, h20, hF⟩ := bindO_some hF
  refine WPU.joinK (fun tm σ => tm = fr 49 [(6, .int .i64 z13), (7, .bool b19)] ∧ σ = ⟨[(0, .row (cGProp p2) 26)], 1⟩) ?_ ?_
  rintro _ _ ⟨rfl, rfl⟩
  repeat refine gq ?_
  repeat refine sq ?_
  refine WPU.ret ?_
  repeat refine gq ?_
  have hr := Option.some.inj hF
  subst hr
  exact ⟨.inr rfl, [.int .i64 z13, .bool b19], res_t rfl (res_t rfl (res_n)), .tup [.int .i64 z13, .bool b19], ⟨[], 0⟩, Nat.le_refl _, Gh.toR (.tup [.int .i64 z13, .bool b19]) rfl, rfl, BU.h⟩
  rcases bool_tf (decide (z13 < (p1.length : Int))) with h14 | h14
  replace h20 := cond_t h14 h20
  obtain ⟨x15, h16, h20⟩ := bindO_some h20
  obtain ⟨r17, h18, h20⟩ := bindO_some h20
  replace h20 := Option.some.inj h20
  subst h20
  refine WPU.drawE Try.tb_ok [] (by kernel_rfl) ?_
  repeat refine RD.mv rfl rfl rfl rfl ?_
  refine RD.look rfl (op_int rfl rfl (ix_lss _ _ _) rfl) rfl rfl ?_
  refine RD.mv rfl rfl rfl rfl ?_
  refine RD.look (want1 rfl rfl rfl h14) (op_move rfl) rfl rfl ?_
  refine RD.look (want1 rfl rfl rfl h14) (op_move rfl) rfl rfl ?_
  refine RD.look (want1 rfl rfl rfl h14) (op_move rfl) rfl rfl ?_
  refine RD.look (u := .iptr (cGProp x15)) (want1 rfl rfl rfl h14) (op_ia rfl rfl (ia_isl cGProp Try.und30 (sz_of Try.inf26) len_cGProp h16 rfl)) rfl rfl ?_
  refine RD.look (u := .agg (cGProp x15)) (want1 rfl rfl rfl h14) (li_agg Try.und26 rfl (sz_of Try.inf26) rfl rfl) rfl rfl ?_
  refine RD.look (u := .agg (cGProp p2)) (want1 rfl rfl rfl h14) (ld_agg Try.und26 rfl (sz_of Try.inf26) rfl rfl rfl) rfl rfl ?_
  refine RD.free (u := .int .i64 r17) (args := [.agg (cGProp x15), .agg (cGProp p2)]) (want1 rfl rfl rfl h14) (op_call rfl rfl Try.fn30 Try.hb30 rfl rfl) (fun s => hf2S x15 p2 r17 h18 s) rfl rfl ?_
  refine RD.look (want1 rfl rfl rfl h14) (op_int rfl rfl (ix_eql _ _ _) rfl) rfl rfl ?_
  refine RD.look (u := .bool (r17 == 0)) rfl (op_pick1 rfl h14 rfl) rfl rfl ?_
  repeat refine RD.as rfl rfl rfl rfl ?_
  refine RD.done ⟨by kernel_rfl, trivial, ?_⟩
  repeat refine gq ?_
  exact ⟨_, _, ⟨rfl, rfl⟩, (Nat.zero_le _), Gh.toC (n1 := 1) ⟨rfl, rfl, trivial⟩ rfl (Nat.zero_le _) (by simp)⟩
  replace h20 := cond_f h14 h20
  replace h20 := Option.some.inj h20
  subst h20
  refine WPU.drawE Try.tb_ok [] (by kernel_rfl) ?_
  repeat refine RD.mv rfl rfl rfl rfl ?_
  refine RD.look rfl (op_int rfl rfl (ix_lss _ _ _) rfl) rfl rfl ?_
  refine RD.mv rfl rfl rfl rfl ?_
  repeat refine RD.no (want0 rfl rfl rfl h14) rfl rfl ?_
  refine RD.look (u := .bool false) rfl (op_pick0 rfl h14 rfl) rfl rfl ?_
  repeat refine RD.as rfl rfl rfl rfl ?_
  refine RD.done ⟨by kernel_rfl, trivial, ?_⟩
  repeat refine gq ?_
  exact ⟨_, _, ⟨rfl, rfl⟩, (Nat.zero_le _), Gh.toC (n1 := 1) ⟨rfl, rfl, trivial⟩ rfl (Nat.zero_le _) (by simp)⟩
  rintro m1 _ _ ⟨z11, z12, hF, rfl, rfl⟩
  rcases m1 with _ | m1
  cases hF
  unfold slices_BinarySearchFunc_Prop_order_L1 at hF
  repeat refine sq ?_
  refine WPU.region Try.tb_ok ?_
  repeat refine RS.mv rfl rfl rfl rfl ?_
  refine RS.op rfl (op_int rfl rfl (ix_lss _ _ _) rfl) rfl rfl ?_
  refine RS.done ?_
  repeat refine gq ?_
  repeat refine sq ?_
  refine WPU.condS (t := (decide (z11 < z12))) rfl (fun h21 => ?_) (fun h21 => ?_)
  replace hF := cond_t h21 hF
  repeat refine sq ?_
  refine WPU.skip ?_
  repeat refine gq ?_
  repeat refine sq ?_
  refine WPU.block ?_
  repeat refine sq ?_
  refine WPU.region Try.tb_ok ?_
  repeat refine RS.mv rfl rfl rfl rfl ?_
  refine RS.op rfl (op_int rfl rfl (ix_add _ _ _) rfl) rfl rfl ?_
  refine RS.op (u := .int .u64 (IntKind.u64.wrap (IntKind.i64.wrap (z11 + z12)))) rfl (op_conv rfl rfl (by simp only [convX, Try.und3, Try.und63] <;> rfl) rfl) rfl rfl ?_
  refine RS.op rfl (op_int rfl rfl (ix_shr _ (by decide)) rfl) rfl rfl ?_
  refine RS.op (u := .int .i64 (IntKind.i64.wrap ((IntKind.u64.wrap (IntKind.i64.wrap (z11 + z12))).fdiv (2 ^ (min (1 : Int).toNat IntKind.u64.bits))))) rfl (op_conv rfl rfl (by simp only [convX, Try.und63, Try.und3] <;> rfl) rfl) rfl rfl ?_
  refine RS.as rfl rfl rfl rfl ?_
  refine RS.done ?_
  repeat refine gq ?_
  repeat refine sq ?_
  obtain ⟨x23, h24, hF⟩ := bindO_some hF
  obtain ⟨r25, h26, hF⟩ := bindO_some hF
  refine WPU.drawE Try.tb_ok [] (by kernel_rfl) ?_
  repeat refine RD.mv rfl rfl rfl rfl ?_
  refine RD.look (u := .iptr (cGProp x23)) rfl (op_ia rfl rfl (ia_isl cGProp Try.und30 (sz_of Try.inf26) len_cGProp h24 rfl)) rfl rfl ?_
  refine RD.look (u := .agg (cGProp x23)) rfl (li_agg Try.und26 rfl (sz_of Try.inf26) rfl rfl) rfl rfl ?_
  refine RD.look (u := .agg (cGProp p2)) rfl (ld_agg Try.und26 rfl (sz_of Try.inf26) rfl rfl rfl) rfl rfl ?_
  refine RD.free (u := .int .i64 r25) (args := [.agg (cGProp x23), .agg (cGProp p2)]) rfl (op_call rfl rfl Try.fn30 Try.hb30 rfl rfl) (fun s => hf2S x23 p2 r25 h26 s) rfl rfl ?_
  refine RD.look rfl (op_int rfl rfl (ix_lss _ _ _) rfl) rfl rfl ?_
  refine RD.done ⟨by kernel_rfl, trivial, ?_⟩
  repeat refine gq ?_
  repeat refine sq ?_
  refine WPU.joinK (fun tm σ => ∃ z28 : Int, ∃ z29 : Int, slices_BinarySearchFunc_Prop_order_J2 (slices_BinarySearchFunc_Prop_order_L1 p1 p2 f2 m1) z28 z29 = some r ∧ tm = fr 49 [(0, .isl false (List.map cGProp p1)), (2, .fn (.func 30) [] []), (4, .ptr 0 0 0), (8, .int .i64 (p1.length : Int)), (9, .int .i64 z28), (10, .int .i64 z29)] ∧ σ = ⟨[(0, .row (cGProp p2) 26)], 1⟩) ?_ ?_
  rintro _ _ ⟨z28, z29, hF, rfl, rfl⟩
  unfold slices_BinarySearchFunc_Prop_order_J2 at hF
  repeat refine gq ?_
  exact ⟨m1, _, _, Nat.lt_succ_self _, ⟨z28, z29, hF, rfl, rfl⟩, (Nat.zero_le _), Gh.toC (n1 := 1) ⟨rfl, rfl, rfl, rfl, rfl, rfl, trivial⟩ rfl (Nat.zero_le _) (by simp)⟩
  refine WPU.condS (t := (decide (r25 < 0))) rfl (fun h27 => ?_) (fun h27 => ?_)
  replace hF := cond_t h27 hF
  repeat refine sq ?_
  refine WPU.region Try.tb_ok ?_
  refine RS.mv rfl rfl rfl rfl ?_
  refine RS.op rfl (op_int rfl rfl (ix_add _ _ _) rfl) rfl rfl ?_
  refine RS.as rfl rfl rfl rfl ?_
  refine RS.done ?_
  repeat refine gq ?_
  exact ⟨_, _, ⟨(IntKind.i64.wrap ((IntKind.i64.wrap ((IntKind.u64.wrap (IntKind.i64.wrap (z11 + z12))).fdiv (2 ^ (min (1 : Int).toNat IntKind.u64.bits)))) + 1)), z12, hF, rfl, rfl⟩, (Nat.zero_le _), Gh.toC (n1 := 1) ⟨rfl, rfl, rfl, rfl, rfl, rfl, trivial⟩ rfl (Nat.zero_le _) (by simp)⟩
  replace hF := cond_f h27 hF
  repeat refine sq ?_
  refine WPU.region Try.tb_ok ?_
  refine RS.mv rfl rfl rfl rfl ?_
  refine RS.as rfl rfl rfl rfl ?_
  refine RS.done ?_
  repeat refine gq ?_
  exact ⟨_, _, ⟨z11, (IntKind.i64.wrap ((IntKind.u64.wrap (IntKind.i64.wrap (z11 + z12))).fdiv (2 ^ (min (1 : Int).toNat IntKind.u64.bits)))), hF, rfl, rfl⟩, (Nat.zero_le _), Gh.toC (n1 := 1) ⟨rfl, rfl, rfl, rfl, rfl, rfl, trivial⟩ rfl (Nat.zero_le _) (by simp)⟩
  replace hF := cond_f h21 hF
  repeat refine sq ?_
  refine WPU.exit ?_
  repeat refine gq ?_
  exact ⟨_, _, ⟨z11, hF, rfl, rfl⟩, (Nat.zero_le _), Gh.toC (n1 := 1) ⟨rfl, rfl, rfl, rfl, rfl, trivial⟩ rfl (Nat.zero_le _) (by simp)⟩
theorem slices_BinarySearchFunc_Prop_order_ok (f2 : GProp → GProp → Option (Int)) (hf2 : ∀ (a0 : GProp) (a1 : GProp) (r : Int), f2 a0 a1 = some r → EvU Try.prog 30 [.agg (cGProp a0), .agg (cGProp a1)] ⟨[], 0⟩ (fun u _ => u = .int .i64 r ∧ Bel 0 u)) (n : Nat) (p1 : List GProp) (p2 : GProp) (r : Int × Bool) (hF : slices_BinarySearchFunc_Prop_order f2 n p1 p2 = some r) (σ : Sg) : EvU Try.prog 48 [.isl false (List.map cGProp p1), .agg (cGProp p2), .fn (.func 30) [] []] σ (fun u σ' => u = .tup [.int .i64 r.1, .bool r.2] ∧ σ' = σ) :=
  EvU.pure1C (slices_BinarySearchFunc_Prop_order_0 f2 hf2 n p1 p2 r hF) σ
def disc_has (n : Nat) (p1 : List GProp) (p2 : GProp) : Option (Bool) :=
  bindO (slices_BinarySearchFunc_Prop_order (disc_order n) n p1 p2) fun r3 =>
  some r3.2
theorem disc_has_0 (n : Nat) (p1 : List GProp) (p2 : GProp) (r : Bool) (hF : disc_has n p1 p2 = some r) : EvU Try.prog 33 [.isl false (List.map cGProp p1), .agg (cGProp p2)] ⟨[], 0⟩ (fun u _ => u = .bool r ∧ Bel 0 u) := by
  unfold disc_has at hF
  refine EvU.of_body Try.tb_ok Try.fn33 rfl ?_
  refine WPU.ghost (tm' := fr 14 [(0, .isl false (List.map cGProp p1)), (1, .agg (cGProp p2))]) (Gh.start (Nat.le_of_ble_eq_true rfl)) (Nat.zero_le _) ?_
  repeat refine sq ?_
  refine WPU.region Try.tb_ok ?_
  refine RS.op (u := .ptr 0 0 0) (σ' := ⟨[(0, .row (cGProp p2) 26)], 1⟩) rfl (op_box rfl rfl rfl) rfl rfl ?_
  refine RS.as rfl rfl rfl rfl ?_
  refine RS.done ?_
  repeat refine gq ?_
  repeat refine sq ?_
  obtain ⟨r3, h4, hF⟩ := bindO_some hF
  refine WPU.region Try.tb_ok ?_
  refine RS.mv rfl rfl rfl rfl ?_
  refine RS.op (u := .agg (cGProp p2)) rfl (ld_agg Try.und26 rfl (sz_of Try.inf26) rfl rfl rfl) rfl rfl ?_
  refine RS.call (u := .tup [.int .i64 r3.1, .bool r3.2]) (args := [.isl false (List.map cGProp p1), .agg (cGProp p2), .fn (.func 30) [] []]) rfl (op_call rfl rfl Try.fn48 Try.hb48 rfl rfl) (slices_BinarySearchFunc_Prop_order_ok (disc_order n) (disc_order_0 n) n p1 p2 r3 h4 _) rfl rfl ?_
  refine RS.mv rfl rfl rfl rfl ?_
  refine RS.op rfl (op_ext rfl rfl) rfl rfl ?_
  refine RS.op rfl (op_ext rfl rfl) rfl rfl ?_
  repeat refine RS.as rfl rfl rfl rfl ?_
  refine RS.done ?_
  repeat refine gq ?_
  repeat refine sq ?_
  refine WPU.region Try.tb_ok ?_
  refine RS.mv rfl rfl rfl rfl ?_
  refine RS.as rfl rfl rfl rfl ?_
  refine RS.done ?_
  repeat refine gq ?_
  repeat refine sq ?_
  refine WPU.ret ?_
  repeat refine gq ?_
  have hr := Option.some.inj hF
  subst hr
  exact ⟨.inr rfl, [.bool r3.2], res_t rfl (res_n), .bool r3.2, ⟨[], 0⟩, Nat.le_refl _, Gh.toR (.bool r3.2) rfl, rfl, BU.h⟩
theorem disc_has_ok (n : Nat) (p1 : List GProp) (p2 : GProp) (r : Bool) (hF : disc_has n p1 p2 = some r) (σ : Sg) : EvU Try.prog 33 [.isl false (List.map cGProp p1), .agg (cGProp p2)] σ (fun u σ' => u = .bool r ∧ σ' = σ) :=
  EvU.pure1C (disc_has_0 n p1 p2 r hF) σ
def ref45_SameProps_K1   : Option (Bool) :=
  some true
def ref45_SameProps_L1 (p1 : List GProp) (p2 : List GProp) : Nat → Int → Option (Bool)
  | 0, _ => none
  | m1 + 1, z7 =>
    cond (decide (z7 < (p1.length : Int)))
      (bindO (idxO p1 z7) fun x9 =>
      bindO (idxO p2 z7) fun x11 =>
      cond (!(eqGProp x9 x11))
        (some false)
        ((ref45_SameProps_L1 p1 p2 m1) (IntKind.i64.wrap (z7 + 1))))
      (ref45_SameProps_K1)
def ref45_SameProps (n : Nat) (p1 : List GProp) (p2 : List GProp) : Option (Bool) :=
  cond ((p1.length : Int) != (p2.length : Int))
    (some false)
    (ref45_SameProps_L1 p1 p2 n 0)
theorem ref45_SameProps_0 (n : Nat) (p1 : List GProp) (p2 : List GProp) (r : Bool) (hF : ref45_SameProps n p1 p2 = some r) : EvU Try.prog 12 [.isl false (List.map cGProp p1), .isl false (List.map cGProp p2)] ⟨[], 0⟩ (fun u _ => u = .bool r ∧ Bel 0 u) := by
  unfold ref45_SameProps at hF
  refine EvU.of_body Try.tb_ok Try.fn12 rfl ?_
  refine WPU.ghost (tm' := fr 26 [(0, .isl false (List.map cGProp p1)), (1, .isl false (List.map cGProp p2))]) (Gh.start (Nat.le_of_ble_eq_true rfl)) (Nat.zero_le _) ?_
  repeat refine sq ?_
  refine WPU.region Try.tb_ok ?_
  refine RS.as rfl rfl rfl rfl ?_
  refine RS.done ?_
  repeat refine gq ?_
  repeat refine sq ?_
  refine WPU.region Try.tb_ok ?_
  refine RS.mv rfl rfl rfl rfl ?_
  refine RS.op rfl (op_len rfl rfl rfl (len_isl cGProp Try.und30)) rfl rfl ?_
  refine RS.mv rfl rfl rfl rfl ?_
  refine RS.op rfl (op_len rfl rfl rfl (len_isl cGProp Try.und30)) rfl rfl ?_
  refine RS.op rfl (op_int rfl rfl (ix_neq _ _ _) rfl) rfl rfl ?_
  refine RS.done ?_
  repeat refine gq ?_
  repeat refine sq ?_
  refine WPU.condS (t := ((p1.length : Int) != (p2.length : Int))) rfl (fun h3 => ?_) (fun h3 => ?_)
  replace hF := cond_t h3 hF
  repeat refine sq ?_
  refine WPU.region Try.tb_ok ?_
  refine RS.as rfl rfl rfl rfl ?_
  refine RS.done ?_
  repeat refine gq ?_
  repeat refine sq ?_
  refine WPU.ret ?_
  repeat refine gq ?_
  have hr := Option.some.inj hF
  subst hr
  exact ⟨.inr rfl, [.bool false], res_t rfl (res_n), .bool false, ⟨[], 0⟩, Nat.le_refl _, Gh.toR (.bool false) rfl, rfl, BU.h⟩
  replace hF := cond_f h3 hF
  repeat refine sq ?_
  refine WPU.skip ?_
  repeat refine gq ?_
  repeat refine sq ?_
  refine WPU.region Try.tb_ok ?_
  refine RS.as rfl rfl rfl rfl ?_
  refine RS.done ?_
  repeat refine gq ?_
  repeat refine sq ?_
  refine WPU.ghost (tm' := fr 26 [(0, .isl false (List.map cGProp p1)), (1, .isl false (List.map cGProp p2)), (5, .int .i64 0)]) (Gh.sub ⟨rfl, rfl, rfl, trivial⟩) (Nat.zero_le _) ?_
  refine WPU.loopK (fun m tm σ => ∃ z7 : Int, ref45_SameProps_L1 p1 p2 m z7 = some r ∧ tm = fr 26 [(0, .isl false (List.map cGProp p1)), (1, .isl false (List.map cGProp p2)), (5, .int .i64 z7)] ∧ σ = ⟨[], 0⟩) (fun tm σ => ref45_SameProps_K1 = some r ∧ tm = fr 26 [] ∧ σ = ⟨[], 0⟩) n ⟨0, hF, rfl, rfl⟩ ?_ ?_
  rintro _ _ ⟨hF, rfl, rfl⟩
  unfold ref45_SameProps_K1 at hF
  repeat refine gq ?_
  repeat refine sq ?_
  refine WPU.region Try.tb_ok ?_
  refine RS.as rfl rfl rfl rfl ?_
  refine RS.done ?_
  repeat refine gq ?_
  repeat refine sq ?_
  refine WPU.ret ?_
  repeat refine gq ?_
  have hr := Option.some.inj hF
  subst hr
  exact ⟨.inr rfl, [.bool true], res_t rfl (res_n), .bool true, ⟨[], 0⟩, Nat.le_refl _, Gh.toR (.bool true) rfl, rfl, BU.h⟩
  rintro m1 _ _ ⟨z7, hF, rfl, rfl⟩
  rcases m1 with _ | m1
  cases hF
  unfold ref45_SameProps_L1 at hF
  repeat refine sq ?_
  refine WPU.region Try.tb_ok ?_
  repeat refine RS.mv rfl rfl rfl rfl ?_
  refine RS.op rfl (op_len rfl rfl rfl (len_isl cGProp Try.und30)) rfl rfl ?_
  refine RS.op rfl (op_int rfl rfl (ix_lss _ _ _) rfl) rfl rfl ?_
  refine RS.done ?_
  repeat refine gq ?_
  repeat refine sq ?_
  refine WPU.condS (t := (decide (z7 < (p1.length : Int)))) rfl (fun h8 => ?_) (fun h8 => ?_)
  replace hF := cond_t h8 hF
  repeat refine sq ?_
  refine WPU.skip ?_
  repeat refine gq ?_
  repeat refine sq ?_
  refine WPU.block ?_
  repeat refine sq ?_
  obtain ⟨x9, h10, hF⟩ := bindO_some hF
  obtain ⟨x11, h12, hF⟩ := bindO_some hF
  refine WPU.drawE Try.tb_ok [] (by kernel_rfl) ?_
  repeat refine RD.mv rfl rfl rfl rfl ?_
  refine RD.look (u := .iptr (cGProp x9)) rfl (op_ia rfl rfl (ia_isl cGProp Try.und30 (sz_of Try.inf26) len_cGProp h10 rfl)) rfl rfl ?_
  refine RD.look (u := .agg (cGProp x9)) rfl (li_agg Try.und26 rfl (sz_of Try.inf26) rfl rfl) rfl rfl ?_
  repeat refine RD.mv rfl rfl rfl rfl ?_
  refine RD.look (u := .iptr (cGProp x11)) rfl (op_ia rfl rfl (ia_isl cGProp Try.und30 (sz_of Try.inf26) len_cGProp h12 rfl)) rfl rfl ?_
  refine RD.look (u := .agg (cGProp x11)) rfl (li_agg Try.und26 rfl (sz_of Try.inf26) rfl rfl) rfl rfl ?_
  refine RD.look (u := .bool (!(eqGProp x9 x11))) rfl (op_bin rfl rfl (eqq26_neq x9 x11)) rfl rfl ?_
  refine RD.done ⟨by kernel_rfl, trivial, ?_⟩
  repeat refine gq ?_
  repeat refine sq ?_
  refine WPU.condS (t := (!(eqGProp x9 x11))) rfl (fun h13 => ?_) (fun h13 => ?_)
  replace hF := cond_t h13 hF
  repeat refine sq ?_
  refine WPU.region Try.tb_ok ?_
  refine RS.as rfl rfl rfl rfl ?_
  refine RS.done ?_
  repeat refine gq ?_
  repeat refine sq ?_
  refine WPU.ret ?_
  repeat refine gq ?_
  have hr := Option.some.inj hF
  subst hr
  exact ⟨.inr rfl, [.bool false], res_t rfl (res_n), .bool false, ⟨[], 0⟩, Nat.le_refl _, Gh.toR (.bool false) rfl, rfl, BU.h⟩
  replace hF := cond_f h13 hF
  repeat refine sq ?_
  refine WPU.skip ?_
  repeat refine gq ?_
  repeat refine sq ?_
  refine WPU.region Try.tb_ok ?_
  refine RS.mv rfl rfl rfl rfl ?_
  refine RS.op rfl (op_int rfl rfl (ix_add _ _ _) rfl) rfl rfl ?_
  refine RS.as rfl rfl rfl rfl ?_
  refine RS.done ?_
  repeat refine gq ?_
  exact ⟨m1, _, _, Nat.lt_succ_self _, ⟨(IntKind.i64.wrap (z7 + 1)), hF, rfl, rfl⟩, (Nat.zero_le _), Gh.toC (n1 := 0) ⟨rfl, rfl, rfl, trivial⟩ rfl (Nat.zero_le _) (by simp)⟩
  replace hF := cond_f h8 hF
  repeat refine sq ?_
  refine WPU.exit ?_
  repeat refine gq ?_
  exact ⟨_, _, ⟨hF, rfl, rfl⟩, (Nat.zero_le _), Gh.toC (n1 := 0) trivial rfl (Nat.zero_le _) (by simp)⟩
def ref45_SameNumbers_K1   : Option (Bool) :=
  some true
def ref45_SameNumbers_L1 (p1 : List Int) (p2 : List Int) : Nat → Int → Option (Bool)
  | 0, _ => none
  | m1 + 1, z7 =>
    cond (decide (z7 < (p1.length : Int)))
      (bindO (idxO p1 z7) fun x9 =>
      bindO (idxO p2 z7) fun x11 =>
      cond (x9 != x11)
        (some false)
        ((ref45_SameNumbers_L1 p1 p2 m1) (IntKind.i64.wrap (z7 + 1))))
      (ref45_SameNumbers_K1)
def ref45_SameNumbers (n : Nat) (p1 : List Int) (p2 : List Int) : Option (Bool) :=
  cond ((p1.length : Int) != (p2.length : Int))
    (some false)
    (ref45_SameNumbers_L1 p1 p2 n 0)
theorem ref45_SameNumbers_0 (n : Nat) (p1 : List Int) (p2 : List Int) (r : Bool) (hF : ref45_SameNumbers n p1 p2 = some r) : EvU Try.prog 20 [.isl false (List.map (cI .i64) p1), .isl false (List.map (cI .i64) p2)] ⟨[], 0⟩ (fun u _ => u = .bool r ∧ Bel 0 u) := by
  unfold ref45_SameNumbers at hF
  refine EvU.of_body Try.tb_ok Try.fn20 rfl ?_
  refine WPU.ghost (tm' := fr 26 [(0, .isl false (List.map (cI .i64) p1)), (1, .isl false (List.map (cI .i64) p2))]) (Gh.start (Nat.le_of_ble_eq_true rfl)) (Nat.zero_le _) ?_
  repeat refine sq ?_
  refine WPU.region Try.tb_ok ?_
  refine RS.as rfl rfl rfl rfl ?_
  refine RS.done ?_
  repeat refine gq ?_
  repeat refine sq ?_
  refine WPU.region Try.tb_ok ?_
  refine RS.mv rfl rfl rfl rfl ?_
  refine RS.op rfl (op_len rfl rfl rfl (len_isl (cI .i64) Try.und38)) rfl rfl ?_
  refine RS.mv rfl rfl rfl rfl ?_
  refine RS.op rfl (op_len rfl rfl rfl (len_isl (cI .i64) Try.und38)) rfl rfl ?_
  refine RS.op rfl (op_int rfl rfl (ix_neq _ _ _) rfl) rfl rfl ?_
  refine RS.done ?_
  repeat refine gq ?_
  repeat refine sq ?_
  refine WPU.condS (t := ((p1.length : Int) != (p2.length : Int))) rfl (fun h3 => ?_) (fun h3 => ?_)
  replace hF := cond_t h3 hF
  repeat refine sq ?_
  refine WPU.region Try.tb_ok ?_
  refine RS.as rfl rfl rfl rfl ?_
  refine RS.done ?_
  repeat refine gq ?_
  repeat refine sq ?_
  refine WPU.ret ?_
  repeat refine gq ?_
  have hr := Option.some.inj hF
  subst hr
  exact ⟨.inr rfl, [.bool false], res_t rfl (res_n), .bool false, ⟨[], 0⟩, Nat.le_refl _, Gh.toR (.bool false) rfl, rfl, BU.h⟩
  replace hF := cond_f h3 hF
  repeat refine sq ?_
  refine WPU.skip ?_
  repeat refine gq ?_
  repeat refine sq ?_
  refine WPU.region Try.tb_ok ?_
  refine RS.as rfl rfl rfl rfl ?_
  refine RS.done ?_
  repeat refine gq ?_
  repeat refine sq ?_
  refine WPU.ghost (tm' := fr 26 [(0, .isl false (List.map (cI .i64) p1)), (1, .isl false (List.map (cI .i64) p2)), (5, .int .i64 0)]) (Gh.sub ⟨rfl, rfl, rfl, trivial⟩) (Nat.zero_le _) ?_
  refine WPU.loopK (fun m tm σ => ∃ z7 : Int, ref45_SameNumbers_L1 p1 p2 m z7 = some r ∧ tm = fr 26 [(0, .isl false (List.map (cI .i64) p1)), (1, .isl false (List.map (cI .i64) p2)), (5, .int .i64 z7)] ∧ σ = ⟨[], 0⟩) (fun tm σ => ref45_SameNumbers_K1 = some r ∧ tm = fr 26 [] ∧ σ = ⟨[], 0⟩) n ⟨0, hF, rfl, rfl⟩ ?_ ?_
  rintro _ _ ⟨hF, rfl, rfl⟩
  unfold ref45_SameNumbers_K1 at hF
  repeat refine gq ?_
  repeat refine sq ?_
  refine WPU.region Try.tb_ok ?_
  refine RS.as rfl rfl rfl rfl ?_
  refine RS.done ?_
  repeat refine gq ?_
  repeat refine sq ?_
  refine WPU.ret ?_
  repeat refine gq ?_
  have hr := Option.some.inj hF
  subst hr
  exact ⟨.inr rfl, [.bool true], res_t rfl (res_n), .bool true, ⟨[], 0⟩, Nat.le_refl _, Gh.toR (.bool true) rfl, rfl, BU.h⟩
  rintro m1 _ _ ⟨z7, hF, rfl, rfl⟩
  rcases m1 with _ | m1
  cases hF
  unfold ref45_SameNumbers_L1 at hF
  repeat refine sq ?_
  refine WPU.region Try.tb_ok ?_
  repeat refine RS.mv rfl rfl rfl rfl ?_
  refine RS.op rfl (op_len rfl rfl rfl (len_isl (cI .i64) Try.und38)) rfl rfl ?_
  refine RS.op rfl (op_int rfl rfl (ix_lss _ _ _) rfl) rfl rfl ?_
  refine RS.done ?_
  repeat refine gq ?_
  repeat refine sq ?_
  refine WPU.condS (t := (decide (z7 < (p1.length : Int)))) rfl (fun h8 => ?_) (fun h8 => ?_)
  replace hF := cond_t h8 hF
  repeat refine sq ?_
  refine WPU.skip ?_
  repeat refine gq ?_
  repeat refine sq ?_
  refine WPU.block ?_
  repeat refine sq ?_
  obtain ⟨x9, h10, hF⟩ := bindO_some hF
  obtain ⟨x11, h12, hF⟩ := bindO_some hF
  refine WPU.drawE Try.tb_ok [] (by kernel_rfl) ?_
  repeat refine RD.mv rfl rfl rfl rfl ?_
  refine RD.look (u := .iptr [.int .i64 x9]) rfl (op_ia rfl rfl (ia_isl (cI .i64) Try.und38 (sz_of Try.inf3) (len_cI .i64) h10 rfl)) rfl rfl ?_
  refine RD.look (u := .int .i64 x9) rfl (li_one Try.und3 rfl rfl rfl) rfl rfl ?_
  repeat refine RD.mv rfl rfl rfl rfl ?_
  refine RD.look (u := .iptr [.int .i64 x11]) rfl (op_ia rfl rfl (ia_isl (cI .i64) Try.und38 (sz_of Try.inf3) (len_cI .i64) h12 rfl)) rfl rfl ?_
  refine RD.look (u := .int .i64 x11) rfl (li_one Try.und3 rfl rfl rfl) rfl rfl ?_
  refine RD.look rfl (op_int rfl rfl (ix_neq _ _ _) rfl) rfl rfl ?_
  refine RD.done ⟨by kernel_rfl, trivial, ?_⟩
  repeat refine gq ?_
  repeat refine sq ?_
  refine WPU.condS (t := (x9 != x11)) rfl (fun h13 => ?_) (fun h13 => ?_)
  replace hF := cond_t h13 hF
  repeat refine sq ?_
  refine WPU.region Try.tb_ok ?_
  refine RS.as rfl rfl rfl rfl ?_
  refine RS.done ?_
  repeat refine gq ?_
  repeat refine sq ?_
  refine WPU.ret ?_
  repeat refine gq ?_
  have hr := Option.some.inj hF
  subst hr
  exact ⟨.inr rfl, [.bool false], res_t rfl (res_n), .bool false, ⟨[], 0⟩, Nat.le_refl _, Gh.toR (.bool false) rfl, rfl, BU.h⟩
  replace hF := cond_f h13 hF
  repeat refine sq ?_
  refine WPU.skip ?_
  repeat refine gq ?_
  repeat refine sq ?_
  refine WPU.region Try.tb_ok ?_
  refine RS.mv rfl rfl rfl rfl ?_
  refine RS.op rfl (op_int rfl rfl (ix_add _ _ _) rfl) rfl rfl ?_
  refine RS.as rfl rfl rfl rfl ?_
  refine RS.done ?_
  repeat refine gq ?_
  exact ⟨m1, _, _, Nat.lt_succ_self _, ⟨(IntKind.i64.wrap (z7 + 1)), hF, rfl, rfl⟩, (Nat.zero_le _), Gh.toC (n1 := 0) ⟨rfl, rfl, rfl, trivial⟩ rfl (Nat.zero_le _) (by simp)⟩
  replace hF := cond_f h8 hF
  repeat refine sq ?_
  refine WPU.exit ?_
  repeat refine gq ?_
  exact ⟨_, _, ⟨hF, rfl, rfl⟩, (Nat.zero_le _), Gh.toC (n1 := 0) trivial rfl (Nat.zero_le _) (by simp)⟩
theorem ref45_SameNumbers_ok (n : Nat) (p1 : List Int) (p2 : List Int) (r : Bool) (hF : ref45_SameNumbers n p1 p2 = some r) (σ : Sg) : EvU Try.prog 20 [.isl false (List.map (cI .i64) p1), .isl false (List.map (cI .i64) p2)] σ (fun u σ' => u = .bool r ∧ σ' = σ) :=
  EvU.pure1C (ref45_SameNumbers_0 n p1 p2 r hF) σ
def ref45_SameDecisions_K1   : Option (Bool) :=
  some true
def ref45_SameDecisions_L1 (p1 : List GDecision) (p2 : List GDecision) : Nat → Int → Option (Bool)
  | 0, _ => none
  | m1 + 1, z7 =>
    cond (decide (z7 < (p1.length : Int)))
      (bindO (idxO p1 z7) fun x9 =>
      bindO (idxO p2 z7) fun x11 =>
      cond (!(eqGDecision x9 x11))
        (some false)
        ((ref45_SameDecisions_L1 p1 p2 m1) (IntKind.i64.wrap (z7 + 1))))
      (ref45_SameDecisions_K1)
def ref45_SameDecisions (n : Nat) (p1 : List GDecision) (p2 : List GDecision) : Option (Bool) :=
  cond ((p1.length : Int) != (p2.length : Int))
    (some false)
    (ref45_SameDecisions_L1 p1 p2 n 0)
theorem ref45_SameDecisions_0 (n : Nat) (p1 : List GDecision) (p2 : List GDecision) (r : Bool) (hF : ref45_SameDecisions n p1 p2 = some r) : EvU Try.prog 23 [.isl false (List.map cGDecision p1), .isl false (List.map cGDecision p2)] ⟨[], 0⟩ (fun u _ => u = .bool r ∧ Bel 0 u) := by
  unfold ref45_SameDecisions at hF
  refine EvU.of_body Try.tb_ok Try.fn23 rfl ?_
  refine WPU.ghost (tm' := fr 26 [(0, .isl false (List.map cGDecision p1)), (1, .isl false (List.map cGDecision p2))]) (Gh.start (Nat.le_of_ble_eq_true rfl)) (Nat.zero_le _) ?_
  repeat refine sq ?_
  refine WPU.region Try.tb_ok ?_
  refine RS.as rfl rfl rfl rfl ?_
  refine RS.done ?_
  repeat refine gq ?_
  repeat refine sq ?_
  refine WPU.region Try.tb_ok ?_
  refine RS.mv rfl rfl rfl rfl ?_
  refine RS.op rfl (op_len rfl rfl rfl (len_isl cGDecision Try.und36)) rfl rfl ?_
  refine RS.mv rfl rfl rfl rfl ?_
  refine RS.op rfl (op_len rfl rfl rfl (len_isl cGDecision Try.und36)) rfl rfl ?_
  refine RS.op rfl (op_int rfl rfl (ix_neq _ _ _) rfl) rfl rfl ?_
  refine RS.done ?_
  repeat refine gq ?_
  repeat refine sq ?_
  refine WPU.condS (t := ((p1.length : Int) != (p2.length : Int))) rfl (fun h3 => ?_) (fun h3 => ?_)
  replace hF := cond_t h3 hF
  repeat refine sq ?_
  refine WPU.region Try.tb_ok ?_
  refine RS.as rfl rfl rfl rfl ?_
  refine RS.done ?_
  repeat refine gq ?_
  repeat refine sq ?_
  refine WPU.ret ?_
  repeat refine gq ?_
  have hr := Option.some.inj hF
  subst hr
  exact ⟨.inr rfl, [.bool false], res_t rfl (res_n), .bool false, ⟨[], 0⟩, Nat.le_refl _, Gh.toR (.bool false) rfl, rfl, BU.h⟩
  replace hF := cond_f h3 hF
  repeat refine sq ?_
  refine WPU.skip ?_
  repeat refine gq ?_
  repeat refine sq ?_
  refine WPU.region Try.tb_ok ?_
  refine RS.as rfl rfl rfl rfl ?_
  refine RS.done ?_
  repeat refine gq ?_
  repeat refine sq ?_
  refine WPU.ghost (tm' := fr 26 [(0, .isl false (List.map cGDecision p1)), (1, .isl false (List.map cGDecision p2)), (5, .int .i64 0)]) (Gh.sub ⟨rfl, rfl, rfl, trivial⟩) (Nat.zero_le _) ?_
  refine WPU.loopK (fun m tm σ => ∃ z7 : Int, ref45_SameDecisions_L1 p1 p2 m z7 = some r ∧ tm = fr 26 [(0, .isl false (List.map cGDecision p1)), (1, .isl false (List.map cGDecision p2)), (5, .int .i64 z7)] ∧ σ = ⟨[], 0⟩) (fun tm σ => ref45_SameDecisions_K1 = some r ∧ tm = fr 26 [] ∧ σ = ⟨[], 0⟩) n ⟨0, hF, rfl, rfl⟩ ?_ ?_
  rintro _ _ ⟨hF, rfl, rfl⟩
  unfold ref45_SameDecisions_K1 at hF
  repeat refine gq ?_
  repeat refine sq ?_
  refine WPU.region Try.tb_ok ?_
  refine RS.as rfl rfl rfl rfl ?_
  refine RS.done ?_
  repeat refine gq ?_
  repeat refine sq ?_
  refine WPU.ret ?_
  repeat refine gq ?_
  have hr := Option.some.inj hF
  subst hr
  exact ⟨.inr rfl, [.bool true], res_t rfl (res_n), .bool true, ⟨[], 0⟩, Nat.le_refl _, Gh.toR (.bool true) rfl, rfl, BU.h⟩
  rintro m1 _ _ ⟨z7, hF, rfl, rfl⟩
  rcases m1 with _ | m1
  cases hF
  unfold ref45_SameDecisions_L1 at hF
  repeat refine sq ?_
  refine WPU.region Try.tb_ok ?_
  repeat refine RS.mv rfl rfl rfl rfl ?_
  refine RS.op rfl (op_len rfl rfl rfl (len_isl cGDecision Try.und36)) rfl rfl ?_
  refine RS.op rfl (op_int rfl rfl (ix_lss _ _ _) rfl) rfl rfl ?_
  refine RS.done ?_
  repeat refine gq ?_
  repeat refine sq ?_
  refine WPU.condS (t := (decide (z7 < (p1.length : Int)))) rfl (fun h8 => ?_) (fun h8 => ?_)
  replace hF := cond_t h8 hF
  repeat refine sq ?_
  refine WPU.skip ?_
  repeat refine gq ?_
  repeat refine sq ?_
  refine WPU.block ?_
  repeat refine sq ?_
  obtain ⟨x9, h10, hF⟩ := bindO_some hF
  obtain ⟨x11, h12, hF⟩ := bindO_some hF
  refine WPU.drawE Try.tb_ok [] (by kernel_rfl) ?_
  repeat refine RD.mv rfl rfl rfl rfl ?_
  refine RD.look (u := .iptr (cGDecision x9)) rfl (op_ia rfl rfl (ia_isl cGDecision Try.und36 (sz_of Try.inf44) len_cGDecision h10 rfl)) rfl rfl ?_
  refine RD.look (u := .agg (cGDecision x9)) rfl (li_agg Try.und44 rfl (sz_of Try.inf44) rfl rfl) rfl rfl ?_
  repeat refine RD.mv rfl rfl rfl rfl ?_
  refine RD.look (u := .iptr (cGDecision x11)) rfl (op_ia rfl rfl (ia_isl cGDecision Try.und36 (sz_of Try.inf44) len_cGDecision h12 rfl)) rfl rfl ?_
  refine RD.look (u := .agg (cGDecision x11)) rfl (li_agg Try.und44 rfl (sz_of Try.inf44) rfl rfl) rfl rfl ?_
  refine RD.look (u := .bool (!(eqGDecision x9 x11))) rfl (op_bin rfl rfl (eqq44_neq x9 x11)) rfl rfl ?_
  refine RD.done ⟨by kernel_rfl, trivial, ?_⟩
  repeat refine gq ?_
  repeat refine sq ?_
  refine WPU.condS (t := (!(eqGDecision x9 x11))) rfl (fun h13 => ?_) (fun h13 => ?_)
  replace hF := cond_t h13 hF
  repeat refine sq ?_
  refine WPU.region Try.tb_ok ?_
  refine RS.as rfl rfl rfl rfl ?_
  refine RS.done ?_
  repeat refine gq ?_
  repeat refine sq ?_
  refine WPU.ret ?_
  repeat refine gq ?_
  have hr := Option.some.inj hF
  subst hr
  exact ⟨.inr rfl, [.bool false], res_t rfl (res_n), .bool false, ⟨[], 0⟩, Nat.le_refl _, Gh.toR (.bool false) rfl, rfl, BU.h⟩
  replace hF := cond_f h13 hF
  repeat refine sq ?_
  refine WPU.skip ?_
  repeat refine gq ?_
  repeat refine sq ?_
  refine WPU.region Try.tb_ok ?_
  refine RS.mv rfl rfl rfl rfl ?_
  refine RS.op rfl (op_int rfl rfl (ix_add _ _ _) rfl) rfl rfl ?_
  refine RS.as rfl rfl rfl rfl ?_
  refine RS.done ?_
  repeat refine gq ?_
  exact ⟨m1, _, _, Nat.lt_succ_self _, ⟨(IntKind.i64.wrap (z7 + 1)), hF, rfl, rfl⟩, (Nat.zero_le _), Gh.toC (n1 := 0) ⟨rfl, rfl, rfl, trivial⟩ rfl (Nat.zero_le _) (by simp)⟩
  replace hF := cond_f h8 hF
  repeat refine sq ?_
  refine WPU.exit ?_
  repeat refine gq ?_
  exact ⟨_, _, ⟨hF, rfl, rfl⟩, (Nat.zero_le _), Gh.toC (n1 := 0) trivial rfl (Nat.zero_le _) (by simp)⟩
def ref45_less (n : Nat) (p1 : Bool) : Option (Int) :=
  cond p1
    (some (-1))
    (some 1)
def ref45_Compare (n : Nat) (p1 : GProp) (p2 : GProp) : Option (Int) :=
  cond (p1.From != p2.From)
    (bindO (ref45_less n (decide (p1.From < p2.From))) fun r4 =>
    some r4)
    (cond (p1.To != p2.To)
      (bindO (ref45_less n (decide (p1.To < p2.To))) fun r7 =>
      some r7)
      (cond (p1.Kind != p2.Kind)
        (bindO (ref45_less n (decide (p1.Kind < p2.Kind))) fun r10 =>
        some r10)
        (cond (!bytesEq p1.Name p2.Name)
          (bindO (ref45_less n (bytesLt p1.Name p2.Name)) fun r13 =>
          some r13)
          (some 0))))
def ref45_insert_J2  (l20 : List GProp) : Option ((List GProp)) :=
  some l20
def ref45_insert_J3 (p1 : List GProp) (z13 : Int) (rc1 : Bool → Int → (List GProp) → Option ((List GProp))) (b32 : Bool) (l33 : List GProp) : Option ((List GProp)) :=
  bindO (idxO p1 z13) fun x35 =>
  needO ((l33.length + 1) * 40 ≤ 140737488355328 ∧ l33.length + 1 ≤ 140737488355328) (
  rc1 b32 (IntKind.i64.wrap (z13 + 1)) (l33 ++ [x35]))
def ref45_insert_J4 (p1 : List GProp) (z13 : Int) (rc1 : Bool → Int → (List GProp) → Option ((List GProp))) (l39 : List GProp) : Option ((List GProp)) :=
  ref45_insert_J3 p1 z13 rc1 true l39
def ref45_insert_K1 (p2 : GProp) (b16 : Bool) (l17 : List GProp) : Option ((List GProp)) :=
  cond (!b16)
    (needO ((l17.length + 1) * 40 ≤ 140737488355328 ∧ l17.length + 1 ≤ 140737488355328) (
    ref45_insert_J2 (l17 ++ [p2])))
    (ref45_insert_J2 l17)
def ref45_insert_L1 (p1 : List GProp) (p2 : GProp) (n : Nat) : Nat → Bool → Int → (List GProp) → Option ((List GProp))
  | 0, _, _, _ => none
  | m1 + 1, b12, z13, l14 =>
    cond (decide (z13 < (p1.length : Int)))
      (bindO (idxO p1 z13) fun x24 =>
      bindO (ref45_Compare n p2 x24) fun r26 =>
      bindO (cond (!b12)
        (some (decide (r26 ≤ 0)))
        (some false)) fun b29 =>
      cond b29
        (cond (decide (r26 < 0))
          (needO ((l14.length + 1) * 40 ≤ 140737488355328 ∧ l14.length + 1 ≤ 140737488355328) (
          ref45_insert_J4 p1 z13 (ref45_insert_L1 p1 p2 n m1) (l14 ++ [p2])))
          (ref45_insert_J4 p1 z13 (ref45_insert_L1 p1 p2 n m1) l14))
        (ref45_insert_J3 p1 z13 (ref45_insert_L1 p1 p2 n m1) b12 l14))
      (ref45_insert_K1 p2 b12 l14)
def ref45_insert (n : Nat) (p1 : List GProp) (p2 : GProp) : Option ((List GProp)) :=
  ref45_insert_L1 p1 p2 n n false 0 ([] : List GProp)
def ref45_add_K2  (l14 : List GProp) : Option ((List GProp)) :=
  some l14
def ref45_add_L2 (p2 : GDeriv) (self : (List GProp) → GDeriv → Option ((List GProp))) : Nat → (List GProp) → Int → Option ((List GProp))
  | 0, _, _ => none
  | m2 + 1, l12, z13 =>
    cond (decide (z13 < (p2.Kids.length : Int)))
      (bindO (idxO p2.Kids z13) fun x16 =>
      bindO (self l12 x16) fun r18 =>
      (ref45_add_L2 p2 self m2) r18 (IntKind.i64.wrap (z13 + 1)))
      (ref45_add_K2 l12)
def ref45_add_J1 (p2 : GDeriv) (n : Nat) (self : (List GProp) → GDeriv → Option ((List GProp))) (l4 : List GProp) : Option ((List GProp)) :=
  ref45_add_L2 p2 self n l4 0
def ref45_add_J3 (p2 : GDeriv) (n : Nat) (self : (List GProp) → GDeriv → Option ((List GProp))) (l23 : List GProp) : Option ((List GProp)) :=
  ref45_add_J1 p2 n self l23
def ref45_add_J4 (p2 : GDeriv) (n : Nat) (self : (List GProp) → GDeriv → Option ((List GProp))) (l27 : List GProp) : Option ((List GProp)) :=
  ref45_add_J3 p2 n self l27
def ref45_add_b (n : Nat) (self : (List GProp) → GDeriv → Option ((List GProp))) (p1 : List GProp) (p2 : GDeriv) : Option ((List GProp)) :=
  cond (p2.Kind == 0)
    (bindO (ref45_insert n p1 (GProp.mk 0 p2.Name p2.From p2.To)) fun r20 =>
    ref45_add_J1 p2 n self r20)
    (cond (p2.Kind == 1)
      (bindO (ref45_insert n p1 (GProp.mk 1 p2.Name p2.From p2.To)) fun r24 =>
      ref45_add_J3 p2 n self r24)
      (cond (p2.Kind == 2)
        (bindO (ref45_insert n p1 (GProp.mk 2 p2.Name p2.From p2.To)) fun r28 =>
        bindO (ref45_insert n r28 (GProp.mk 3 [] p2.From p2.To)) fun r30 =>
        ref45_add_J4 p2 n self r30)
        (ref45_add_J4 p2 n self p1)))
def ref45_add : Nat → (List GProp) → GDeriv → Option ((List GProp))
  | 0, _, _ => none
  | n + 1, p1, p2 => ref45_add_b n (ref45_add n) p1 p2
def ref45_Props (n : Nat) (p1 : GDeriv) : Option ((List GProp)) :=
  bindO (ref45_add n [] p1) fun r2 =>
  some r2
def ref45_Has_K1   : Option (Bool) :=
  some false
def ref45_Has_L1 (p1 : List GProp) (p2 : GProp) : Nat → Int → Option (Bool)
  | 0, _ => none
  | m1 + 1, z9 =>
    cond (decide (z9 < (p1.length : Int)))
      (bindO (idxO p1 z9) fun x11 =>
      cond (eqGProp x11 p2)
        (some true)
        ((ref45_Has_L1 p1 p2 m1) (IntKind.i64.wrap (z9 + 1))))
      (ref45_Has_K1)
def ref45_Has (n : Nat) (p1 : List GProp) (p2 : GProp) : Option (Bool) :=
  ref45_Has_L1 p1 p2 n 0
def ref45_Holds (n : Nat) (p1 : GDeriv) (p2 : GProp) : Option (Bool) :=
  bindO (ref45_Props n p1) fun r3 =>
  bindO (ref45_Has n r3 p2) fun r5 =>
  some r5
def ref37_Nodes_K1  (z13 : Int) : Option (Int) :=
  some z13
def ref37_Nodes_L1 (p1 : GDeriv) (p2 : Int) (self : GDeriv → Int → Option (Int)) : Nat → Int → Int → Option (Int)
  | 0, _, _ => none
  | m1 + 1, z11, z12 =>
    bindO (cond (decide (z12 < (p1.Kids.length : Int)))
      (some (decide (z11 < p2)))
      (some false)) fun b15 =>
    cond b15
      (bindO (idxO p1.Kids z12) fun x18 =>
      bindO (self x18 (IntKind.i64.wrap (p2 - z11))) fun r20 =>
      (ref37_Nodes_L1 p1 p2 self m1) (IntKind.i64.wrap (z11 + r20)) (IntKind.i64.wrap (z12 + 1)))
      (ref37_Nodes_K1 z11)
def ref37_Nodes_b (n : Nat) (self : GDeriv → Int → Option (Int)) (p1 : GDeriv) (p2 : Int) : Option (Int) :=
  ref37_Nodes_L1 p1 p2 self n 1 0
def ref37_Nodes : Nat → GDeriv → Int → Option (Int)
  | 0, _, _ => none
  | n + 1, p1, p2 => ref37_Nodes_b n (ref37_Nodes n) p1 p2
theorem ref37_Nodes_0 : ∀ (n : Nat) (p1 : GDeriv) (p2 : Int) (r : Int), ref37_Nodes n p1 p2 = some r → EvU Try.prog 10 [.agg (xGDeriv p1), .int .i64 p2] ⟨[], 0⟩ (fun u _ => u = .int .i64 r ∧ Bel 0 u)
  | 0, p1, p2, r, hF => by cases hF
  | n + 1, p1, p2, r, hF => by
    have ih := ref37_Nodes_0 n
    have ihS : ∀ (p1 : GDeriv) (p2 : Int) (r : Int), ref37_Nodes n p1 p2 = some r → ∀ σ, EvU Try.prog 10 [.agg (xGDeriv p1), .int .i64 p2] σ (fun u σ' => u = .int .i64 r ∧ σ' = σ) := fun p1 p2 r h σ => EvU.pure1C (ih p1 p2 r h) σ
    unfold ref37_Nodes ref37_Nodes_b at hF
    refine EvU.of_body Try.tb_ok Try.fn10 rfl ?_
    refine WPU.ghost (tm' := fr 31 [(0, .agg (xGDeriv p1)), (1, .int .i64 p2)]) (Gh.start (Nat.le_of_ble_eq_true rfl)) (Nat.zero_le _) ?_
    repeat refine sq ?_
    refine WPU.region Try.tb_ok ?_
    refine RS.op (u := .ptr 0 0 0) (σ' := ⟨[(0, .row (xGDeriv p1) 24)], 1⟩) rfl (op_box rfl rfl rfl) rfl rfl ?_
    refine RS.as rfl rfl rfl rfl ?_
    refine RS.done ?_
    repeat refine gq ?_
    repeat refine sq ?_
    refine WPU.region Try.tb_ok ?_
    refine RS.as rfl rfl rfl rfl ?_
    refine RS.done ?_
    repeat refine gq ?_
    repeat refine sq ?_
    refine WPU.region Try.tb_ok ?_
    refine RS.as rfl rfl rfl rfl ?_
    refine RS.done ?_
    repeat refine gq ?_
    repeat refine sq ?_
    refine WPU.ghost (tm' := fr 31 [(1, .int .i64 p2), (2, .ptr 0 0 0), (5, .int .i64 1), (6, .int .i64 0)]) (Gh.sub ⟨rfl, rfl, rfl, rfl, trivial⟩) (Nat.zero_le _) ?_
    refine WPU.loopK (fun m tm σ => ∃ z11 : Int, ∃ z12 : Int, ref37_Nodes_L1 p1 p2 (ref37_Nodes n) m z11 z12 = some r ∧ tm = fr 31 [(1, .int .i64 p2), (2, .ptr 0 0 0), (5, .int .i64 z11), (6, .int .i64 z12)] ∧ σ = ⟨[(0, .row (xGDeriv p1) 24)], 1⟩) (fun tm σ => ∃ z13 : Int, ref37_Nodes_K1 z13 = some r ∧ tm = fr 31 [(5, .int .i64 z13)] ∧ σ = ⟨[(0, .row (xGDeriv p1) 24)], 1⟩) n ⟨1, 0, hF, rfl, rfl⟩ ?_ ?_
    rintro _ _ ⟨z13, hF, rfl, rfl⟩
    unfold ref37_Nodes_K1 at hF
    repeat refine gq ?_
    repeat refine sq ?_
    refine WPU.region Try.tb_ok ?_
    refine RS.mv rfl rfl rfl rfl ?_
    refine RS.as rfl rfl rfl rfl ?_
    refine RS.done ?_
    repeat refine gq ?_
    repeat refine sq ?_
    refine WPU.ret ?_
    repeat refine gq ?_
    have hr := Option.some.inj hF
    subst hr
    exact ⟨.inr rfl, [.int .i64 z13], res_t rfl (res_n), .int .i64 z13, ⟨[], 0⟩, Nat.le_refl _, Gh.toR (.int .i64 z13) rfl, rfl, BU.h⟩
    rintro m1 _ _ ⟨z11, z12, hF, rfl, rfl⟩
    rcases m1 with _ | m1
    cases hF
    unfold ref37_Nodes_L1 at hF
    repeat refine sq ?_
    obtain ⟨b15, h16, hF⟩ := bindO_some hF
    refine WPU.joinK (fun tm σ => tm = fr 31 [(1, .int .i64 p2), (2, .ptr 0 0 0), (5, .int .i64 z11), (6, .int .i64 z12), (16, .bool b15)] ∧ σ = ⟨[(0, .row (xGDeriv p1) 24)], 1⟩) ?_ ?_
    rintro _ _ ⟨rfl, rfl⟩
    repeat refine gq ?_
    repeat refine sq ?_
    refine WPU.condS (t := b15) rfl (fun h17 => ?_) (fun h17 => ?_)
    replace hF := cond_t h17 hF
    repeat refine sq ?_
    refine WPU.skip ?_
    repeat refine gq ?_
    repeat refine sq ?_
    refine WPU.block ?_
    repeat refine sq ?_
    obtain ⟨x18, h19, hF⟩ := bindO_some hF
    obtain ⟨r20, h21, hF⟩ := bindO_some hF
    refine WPU.region Try.tb_ok ?_
    refine RS.mv rfl rfl rfl rfl ?_
    refine RS.op (u := .ptr 0 0 4) rfl (op_fa Try.und24 rfl (sz_of Try.inf22) rfl rfl rfl) rfl rfl ?_
    refine RS.op (u := .isl false (List.map cGDeriv p1.Kids)) rfl (ld_one Try.und22 rfl rfl rfl rfl) rfl rfl ?_
    refine RS.mv rfl rfl rfl rfl ?_
    refine RS.op (u := .iptr (xGDeriv x18)) rfl (op_ia rfl rfl (ia_isl cGDeriv Try.und22 (sz_of Try.inf24) len_cGDeriv h19 (cGDeriv_eq x18))) rfl rfl ?_
    refine RS.op (u := .agg (xGDeriv x18)) rfl (li_agg Try.und24 rfl (sz_of Try.inf24) rfl rfl) rfl rfl ?_
    repeat refine RS.mv rfl rfl rfl rfl ?_
    refine RS.op rfl (op_int rfl rfl (ix_sub _ _ _) rfl) rfl rfl ?_
    refine RS.call (u := .int .i64 r20) (args := [.agg (xGDeriv x18), .int .i64 (IntKind.i64.wrap (p2 - z11))]) rfl (op_call rfl rfl Try.fn10 Try.hb10 rfl rfl) (ihS x18 (IntKind.i64.wrap (p2 - z11)) r20 h21 _) rfl rfl ?_
    refine RS.op rfl (op_int rfl rfl (ix_add _ _ _) rfl) rfl rfl ?_
    refine RS.as rfl rfl rfl rfl ?_
    refine RS.done ?_
    repeat refine gq ?_
    repeat refine sq ?_
    refine WPU.region Try.tb_ok ?_
    refine RS.mv rfl rfl rfl rfl ?_
    refine RS.op rfl (op_int rfl rfl (ix_add _ _ _) rfl) rfl rfl ?_
    refine RS.as rfl rfl rfl rfl ?_
    refine RS.done ?_
    repeat refine gq ?_
    exact ⟨m1, _, _, Nat.lt_succ_self _, ⟨(IntKind.i64.wrap (z11 + r20)), (IntKind.i64.wrap (z12 + 1)), hF, rfl, rfl⟩, (Nat.zero_le _), Gh.toC (n1 := 1) ⟨rfl, rfl, rfl, rfl, trivial⟩ rfl (Nat.zero_le _) (by simp)⟩
    replace hF := cond_f h17 hF
    repeat refine sq ?_
    refine WPU.exit ?_
    repeat refine gq ?_
    exact ⟨_, _, ⟨z11, hF, rfl, rfl⟩, (Nat.zero_le _), Gh.toC (n1 := 1) ⟨rfl, trivial⟩ rfl (Nat.zero_le _) (by simp)⟩
    rcases bool_tf (decide (z12 < (p1.Kids.length : Int))) with h14 | h14
    replace h16 := cond_t h14 h16
    replace h16 := Option.some.inj h16
    subst h16
    refine WPU.region Try.tb_ok ?_
    refine RS.mv rfl rfl rfl rfl ?_
    refine RS.op (u := .ptr 0 0 4) rfl (op_fa Try.und24 rfl (sz_of Try.inf22) rfl rfl rfl) rfl rfl ?_
    refine RS.op (u := .isl false (List.map cGDeriv p1.Kids)) rfl (ld_one Try.und22 rfl rfl rfl rfl) rfl rfl ?_
    refine RS.op rfl (op_len rfl rfl rfl (len_isl cGDeriv Try.und22)) rfl rfl ?_
    refine RS.op rfl (op_int rfl rfl (ix_lss _ _ _) rfl) rfl rfl ?_
    refine RS.mv rfl rfl rfl rfl ?_
    refine RS.op (want1 rfl rfl rfl h14) (op_move rfl) rfl rfl ?_
    refine RS.op (want1 rfl rfl rfl h14) (op_move rfl) rfl rfl ?_
    refine RS.op (want1 rfl rfl rfl h14) (op_int rfl rfl (ix_lss _ _ _) rfl) rfl rfl ?_
    refine RS.op (u := .bool (decide (z11 < p2))) rfl (op_pick1 rfl h14 rfl) rfl rfl ?_
    refine RS.done ?_
    repeat refine gq ?_
    exact ⟨_, _, ⟨rfl, rfl⟩, (Nat.zero_le _), Gh.toC (n1 := 1) ⟨rfl, rfl, rfl, rfl, rfl, trivial⟩ rfl (Nat.zero_le _) (by simp)⟩
    replace h16 := cond_f h14 h16
    replace h16 := Option.some.inj h16
    subst h16
    refine WPU.region Try.tb_ok ?_
    refine RS.mv rfl rfl rfl rfl ?_
    refine RS.op (u := .ptr 0 0 4) rfl (op_fa Try.und24 rfl (sz_of Try.inf22) rfl rfl rfl) rfl rfl ?_
    refine RS.op (u := .isl false (List.map cGDeriv p1.Kids)) rfl (ld_one Try.und22 rfl rfl rfl rfl) rfl rfl ?_
    refine RS.op rfl (op_len rfl rfl rfl (len_isl cGDeriv Try.und22)) rfl rfl ?_
    refine RS.op rfl (op_int rfl rfl (ix_lss _ _ _) rfl) rfl rfl ?_
    refine RS.mv rfl rfl rfl rfl ?_
    repeat refine RS.no (want0 rfl rfl rfl h14) rfl rfl ?_
    refine RS.op (u := .bool false) rfl (op_pick0 rfl h14 rfl) rfl rfl ?_
    refine RS.done ?_
    repeat refine gq ?_
    exact ⟨_, _, ⟨rfl, rfl⟩, (Nat.zero_le _), Gh.toC (n1 := 1) ⟨rfl, rfl, rfl, rfl, rfl, trivial⟩ rfl (Nat.zero_le _) (by simp)⟩
theorem ref37_Nodes_ok (n : Nat) (p1 : GDeriv) (p2 : Int) (r : Int) (hF : ref37_Nodes n p1 p2 = some r) (σ : Sg) : EvU Try.prog 10 [.agg (xGDeriv p1), .int .i64 p2] σ (fun u σ' => u = .int .i64 r ∧ σ' = σ) :=
  EvU.pure1C (ref37_Nodes_0 n p1 p2 r hF) σ
def ref37_Light_K1 (p2 : Int) (z9 : Int) : Option (Bool) :=
  some (decide (z9 ≤ p2))
def ref37_Light_L1 (p1 : List GDeriv) (p2 : Int) (n : Nat) : Nat → Int → Int → Option (Bool)
  | 0, _, _ => none
  | m1 + 1, z7, z8 =>
    bindO (cond (decide (z8 < (p1.length : Int)))
      (some (decide (z7 ≤ p2)))
      (some false)) fun b11 =>
    cond b11
      (bindO (idxO p1 z8) fun x14 =>
      bindO (ref37_Nodes n x14 (IntKind.i64.wrap (p2 + 1))) fun r16 =>
      (ref37_Light_L1 p1 p2 n m1) (IntKind.i64.wrap (z7 + r16)) (IntKind.i64.wrap (z8 + 1)))
      (ref37_Light_K1 p2 z7)
def ref37_Light (n : Nat) (p1 : List GDeriv) (p2 : Int) : Option (Bool) :=
  ref37_Light_L1 p1 p2 n n 0 0
theorem ref37_Light_0 (n : Nat) (p1 : List GDeriv) (p2 : Int) (r : Bool) (hF : ref37_Light n p1 p2 = some r) : EvU Try.prog 35 [.isl false (List.map cGDeriv p1), .int .i64 p2] ⟨[], 0⟩ (fun u _ => u = .bool r ∧ Bel 0 u) := by
  unfold ref37_Light at hF
  refine EvU.of_body Try.tb_ok Try.fn35 rfl ?_
  refine WPU.ghost (tm' := fr 30 [(0, .isl false (List.map cGDeriv p1)), (1, .int .i64 p2)]) (Gh.start (Nat.le_of_ble_eq_true rfl)) (Nat.zero_le _) ?_
  repeat refine sq ?_
  refine WPU.region Try.tb_ok ?_
  refine RS.as rfl rfl rfl rfl ?_
  refine RS.done ?_
  repeat refine gq ?_
  repeat refine sq ?_
  refine WPU.region Try.tb_ok ?_
  refine RS.as rfl rfl rfl rfl ?_
  refine RS.done ?_
  repeat refine gq ?_
  repeat refine sq ?_
  refine WPU.region Try.tb_ok ?_
  refine RS.as rfl rfl rfl rfl ?_
  refine RS.done ?_
  repeat refine gq ?_
  repeat refine sq ?_
  refine WPU.ghost (tm' := fr 30 [(0, .isl false (List.map cGDeriv p1)), (1, .int .i64 p2), (5, .int .i64 0), (6, .int .i64 0)]) (Gh.sub ⟨rfl, rfl, rfl, rfl, trivial⟩) (Nat.zero_le _) ?_
  refine WPU.loopK (fun m tm σ => ∃ z7 : Int, ∃ z8 : Int, ref37_Light_L1 p1 p2 n m z7 z8 = some r ∧ tm = fr 30 [(0, .isl false (List.map cGDeriv p1)), (1, .int .i64 p2), (5, .int .i64 z7), (6, .int .i64 z8)] ∧ σ = ⟨[], 0⟩) (fun tm σ => ∃ z9 : Int, ref37_Light_K1 p2 z9 = some r ∧ tm = fr 30 [(1, .int .i64 p2), (5, .int .i64 z9)] ∧ σ = ⟨[], 0⟩) n ⟨0, 0, hF, rfl, rfl⟩ ?_ ?_
  rintro _ _ ⟨z9, hF, rfl, rfl⟩
  unfold ref37_Light_K1 at hF
  repeat refine gq ?_
  repeat refine sq ?_
  refine WPU.region Try.tb_ok ?_
  repeat refine RS.mv rfl rfl rfl rfl ?_
  refine RS.op rfl (op_int rfl rfl (ix_leq _ _ _) rfl) rfl rfl ?_
  refine RS.as rfl rfl rfl rfl ?_
  refine RS.done ?_
  repeat refine gq ?_
  repeat refine sq ?_
  refine WPU.ret ?_
  repeat refine gq ?_
  have hr := Option.some.inj hF
  subst hr
  exact ⟨.inr rfl, [.bool (decide (z9 ≤ p2))], res_t rfl (res_n), .bool (decide (z9 ≤ p2)), ⟨[], 0⟩, Nat.le_refl _, Gh.toR (.bool (decide (z9 ≤ p2))) rfl, rfl, BU.h⟩
  rintro m1 _ _ ⟨z7, z8, hF, rfl, rfl⟩
  rcases m1 with _ | m1
  cases hF
  unfold ref37_Light_L1 at hF
  repeat refine sq ?_
  obtain ⟨b11, h12, hF⟩ := bindO_some hF
  refine WPU.joinK (fun tm σ => tm = fr 30 [(0, .isl false (List.map cGDeriv p1)), (1, .int .i64 p2), (5, .int .i64 z7), (6, .int .i64 z8), (15, .bool b11)] ∧ σ = ⟨[], 0⟩) ?_ ?_
  rintro _ _ ⟨rfl, rfl⟩
  repeat refine gq ?_
  repeat refine sq ?_
  refine WPU.condS (t := b11) rfl (fun h13 => ?_) (fun h13 => ?_)
  replace hF := cond_t h13 hF
  repeat refine sq ?_
  refine WPU.skip ?_
  repeat refine gq ?_
  repeat refine sq ?_
  refine WPU.block ?_
  repeat refine sq ?_
  obtain ⟨x14, h15, hF⟩ := bindO_some hF
  obtain ⟨r16, h17, hF⟩ := bindO_some hF
  refine WPU.region Try.tb_ok ?_
  repeat refine RS.mv rfl rfl rfl rfl ?_
  refine RS.op (u := .iptr (xGDeriv x14)) rfl (op_ia rfl rfl (ia_isl cGDeriv Try.und22 (sz_of Try.inf24) len_cGDeriv h15 (cGDeriv_eq x14))) rfl rfl ?_
  refine RS.op (u := .agg (xGDeriv x14)) rfl (li_agg Try.und24 rfl (sz_of Try.inf24) rfl rfl) rfl rfl ?_
  refine RS.mv rfl rfl rfl rfl ?_
  refine RS.op rfl (op_int rfl rfl (ix_add _ _ _) rfl) rfl rfl ?_
  refine RS.call (u := .int .i64 r16) (args := [.agg (xGDeriv x14), .int .i64 (IntKind.i64.wrap (p2 + 1))]) rfl (op_call rfl rfl Try.fn10 Try.hb10 rfl rfl) (ref37_Nodes_ok n x14 (IntKind.i64.wrap (p2 + 1)) r16 h17 _) rfl rfl ?_
  refine RS.op rfl (op_int rfl rfl (ix_add _ _ _) rfl) rfl rfl ?_
  refine RS.as rfl rfl rfl rfl ?_
  refine RS.done ?_
  repeat refine gq ?_
  repeat refine sq ?_
  refine WPU.region Try.tb_ok ?_
  refine RS.mv rfl rfl rfl rfl ?_
  refine RS.op rfl (op_int rfl rfl (ix_add _ _ _) rfl) rfl rfl ?_
  refine RS.as rfl rfl rfl rfl ?_
  refine RS.done ?_
  repeat refine gq ?_
  exact ⟨m1, _, _, Nat.lt_succ_self _, ⟨(IntKind.i64.wrap (z7 + r16)), (IntKind.i64.wrap (z8 + 1)), hF, rfl, rfl⟩, (Nat.zero_le _), Gh.toC (n1 := 0) ⟨rfl, rfl, rfl, rfl, trivial⟩ rfl (Nat.zero_le _) (by simp)⟩
  replace hF := cond_f h13 hF
  repeat refine sq ?_
  refine WPU.exit ?_
  repeat refine gq ?_
  exact ⟨_, _, ⟨z7, hF, rfl, rfl⟩, (Nat.zero_le _), Gh.toC (n1 := 0) ⟨rfl, rfl, trivial⟩ rfl (Nat.zero_le _) (by simp)⟩
  rcases bool_tf (decide (z8 < (p1.length : Int))) with h10 | h10
  replace h12 := cond_t h10 h12
  replace h12 := Option.some.inj h12
  subst h12
  refine WPU.region Try.tb_ok ?_
  repeat refine RS.mv rfl rfl rfl rfl ?_
  refine RS.op rfl (op_len rfl rfl rfl (len_isl cGDeriv Try.und22)) rfl rfl ?_
  refine RS.op rfl (op_int rfl rfl (ix_lss _ _ _) rfl) rfl rfl ?_
  refine RS.mv rfl rfl rfl rfl ?_
  refine RS.op (want1 rfl rfl rfl h10) (op_move rfl) rfl rfl ?_
  refine RS.op (want1 rfl rfl rfl h10) (op_move rfl) rfl rfl ?_
  refine RS.op (want1 rfl rfl rfl h10) (op_int rfl rfl (ix_leq _ _ _) rfl) rfl rfl ?_
  refine RS.op (u := .bool (decide (z7 ≤ p2))) rfl (op_pick1 rfl h10 rfl) rfl rfl ?_
  refine RS.done ?_
  repeat refine gq ?_
  exact ⟨_, _, ⟨rfl, rfl⟩, (Nat.zero_le _), Gh.toC (n1 := 0) ⟨rfl, rfl, rfl, rfl, rfl, trivial⟩ rfl (Nat.zero_le _) (by simp)⟩
  replace h12 := cond_f h10 h12
  replace h12 := Option.some.inj h12
  subst h12
  refine WPU.region Try.tb_ok ?_
  repeat refine RS.mv rfl rfl rfl rfl ?_
  refine RS.op rfl (op_len rfl rfl rfl (len_isl cGDeriv Try.und22)) rfl rfl ?_
  refine RS.op rfl (op_int rfl rfl (ix_lss _ _ _) rfl) rfl rfl ?_
  refine RS.mv rfl rfl rfl rfl ?_
  repeat refine RS.no (want0 rfl rfl rfl h10) rfl rfl ?_
  refine RS.op (u := .bool false) rfl (op_pick0 rfl h10 rfl) rfl rfl ?_
  refine RS.done ?_
  repeat refine gq ?_
  exact ⟨_, _, ⟨rfl, rfl⟩, (Nat.zero_le _), Gh.toC (n1 := 0) ⟨rfl, rfl, rfl, rfl, rfl, trivial⟩ rfl (Nat.zero_le _) (by simp)⟩
theorem ref37_Light_ok (n : Nat) (p1 : List GDeriv) (p2 : Int) (r : Bool) (hF : ref37_Light n p1 p2 = some r) (σ : Sg) : EvU Try.prog 35 [.isl false (List.map cGDeriv p1), .int .i64 p2] σ (fun u σ' => u = .bool r ∧ σ' = σ) :=
  EvU.pure1C (ref37_Light_0 n p1 p2 r hF) σ
def law45_light (n : Nat) (p1 : List GDeriv) (p2 : List GDecision) : Option (Bool) :=
  bindO (cond (decide ((p1.length : Int) ≤ 6))
    (bindO (ref37_Light n p1 60) fun r4 =>
    cond r4
      (some (decide ((p2.length : Int) ≤ 8)))
      (some false))
    (some false)) fun b7 =>
  some b7
theorem law45_light_0 (n : Nat) (p1 : List GDeriv) (p2 : List GDecision) (r : Bool) (hF : law45_light n p1 p2 = some r) : EvU Try.prog 17 [.isl false (List.map cGDeriv p1), .isl false (List.map cGDecision p2)] ⟨[], 0⟩ (fun u _ => u = .bool r ∧ Bel 0 u) := by
  unfold law45_light at hF
  refine EvU.of_body Try.tb_ok Try.fn17 rfl ?_
  refine WPU.ghost (tm' := fr 17 [(0, .isl false (List.map cGDeriv p1)), (1, .isl false (List.map cGDecision p2))]) (Gh.start (Nat.le_of_ble_eq_true rfl)) (Nat.zero_le _) ?_
  repeat refine sq ?_
  refine WPU.region Try.tb_ok ?_
  refine RS.as rfl rfl rfl rfl ?_
  refine RS.done ?_
  repeat refine gq ?_
  repeat refine sq ?_
  obtain ⟨b7, h8, hF⟩ := bindO_some hF
  refine WPU.joinK (fun tm σ => tm = fr 17 [(4, .bool b7)] ∧ σ = ⟨[], 0⟩) ?_ ?_
  rintro _ _ ⟨rfl, rfl⟩
  repeat refine gq ?_
  repeat refine sq ?_
  refine WPU.ret ?_
  repeat refine gq ?_
  have hr := Option.some.inj hF
  subst hr
  exact ⟨.inr rfl, [.bool b7], res_t rfl (res_n), .bool b7, ⟨[], 0⟩, Nat.le_refl _, Gh.toR (.bool b7) rfl, rfl, BU.h⟩
  rcases bool_tf (decide ((p1.length : Int) ≤ 6)) with h3 | h3
  replace h8 := cond_t h3 h8
  obtain ⟨r4, h5, h8⟩ := bindO_some h8
  rcases bool_tf r4 with h6 | h6
  replace h8 := cond_t h6 h8
  replace h8 := Option.some.inj h8
  subst h8
  refine WPU.region Try.tb_ok ?_
  refine RS.mv rfl rfl rfl rfl ?_
  refine RS.op rfl (op_len rfl rfl rfl (len_isl cGDeriv Try.und22)) rfl rfl ?_
  refine RS.op rfl (op_int rfl rfl (ix_leq _ _ _) rfl) rfl rfl ?_
  refine RS.mv rfl rfl rfl rfl ?_
  refine RS.op (want1 rfl rfl rfl h3) (op_move rfl) rfl rfl ?_
  refine RS.call (u := .bool r4) (args := [.isl false (List.map cGDeriv p1), .int .i64 60]) (want1 rfl rfl rfl h3) (op_call rfl rfl Try.fn35 Try.hb35 rfl rfl) (ref37_Light_ok n p1 60 r4 h5 _) rfl rfl ?_
  refine RS.op (u := .bool r4) rfl (op_pick1 rfl h3 rfl) rfl rfl ?_
  refine RS.mv rfl rfl rfl rfl ?_
  refine RS.op (want1 rfl rfl rfl h6) (op_move rfl) rfl rfl ?_
  refine RS.op (want1 rfl rfl rfl h6) (op_len rfl rfl rfl (len_isl cGDecision Try.und36)) rfl rfl ?_
  refine RS.op (want1 rfl rfl rfl h6) (op_int rfl rfl (ix_leq _ _ _) rfl) rfl rfl ?_
  refine RS.op (u := .bool (decide ((p2.length : Int) ≤ 8))) rfl (op_pick1 rfl h6 rfl) rfl rfl ?_
  refine RS.as rfl rfl rfl rfl ?_
  refine RS.done ?_
  repeat refine gq ?_
  exact ⟨_, _, ⟨rfl, rfl⟩, (Nat.zero_le _), Gh.toC (n1 := 0) ⟨rfl, trivial⟩ rfl (Nat.zero_le _) (by simp)⟩
  replace h8 := cond_f h6 h8
  replace h8 := Option.some.inj h8
  subst h8
  refine WPU.region Try.tb_ok ?_
  refine RS.mv rfl rfl rfl rfl ?_
  refine RS.op rfl (op_len rfl rfl rfl (len_isl cGDeriv Try.und22)) rfl rfl ?_
  refine RS.op rfl (op_int rfl rfl (ix_leq _ _ _) rfl) rfl rfl ?_
  refine RS.mv rfl rfl rfl rfl ?_
  refine RS.op (want1 rfl rfl rfl h3) (op_move rfl) rfl rfl ?_
  refine RS.call (u := .bool r4) (args := [.isl false (List.map cGDeriv p1), .int .i64 60]) (want1 rfl rfl rfl h3) (op_call rfl rfl Try.fn35 Try.hb35 rfl rfl) (ref37_Light_ok n p1 60 r4 h5 _) rfl rfl ?_
  refine RS.op (u := .bool r4) rfl (op_pick1 rfl h3 rfl) rfl rfl ?_
  refine RS.mv rfl rfl rfl rfl ?_
  repeat refine RS.no (want0 rfl rfl rfl h6) rfl rfl ?_
  refine RS.op (u := .bool false) rfl (op_pick0 rfl h6 rfl) rfl rfl ?_
  refine RS.as rfl rfl rfl rfl ?_
  refine RS.done ?_
  repeat refine gq ?_
  exact ⟨_, _, ⟨rfl, rfl⟩, (Nat.zero_le _), Gh.toC (n1 := 0) ⟨rfl, trivial⟩ rfl (Nat.zero_le _) (by simp)⟩
  replace h8 := cond_f h3 h8
  replace h8 := Option.some.inj h8
  subst h8
  refine WPU.region Try.tb_ok ?_
  refine RS.mv rfl rfl rfl rfl ?_
  refine RS.op rfl (op_len rfl rfl rfl (len_isl cGDeriv Try.und22)) rfl rfl ?_
  refine RS.op rfl (op_int rfl rfl (ix_leq _ _ _) rfl) rfl rfl ?_
  refine RS.mv rfl rfl rfl rfl ?_
  repeat refine RS.no (want0 rfl rfl rfl h3) rfl rfl ?_
  refine RS.op (u := .bool false) rfl (op_pick0 rfl h3 rfl) rfl rfl ?_
  refine RS.mv rfl rfl rfl rfl ?_
  repeat refine RS.no (want0 rfl rfl rfl rfl) rfl rfl ?_
  refine RS.op (u := .bool false) rfl (op_pick0 rfl rfl rfl) rfl rfl ?_
  refine RS.as rfl rfl rfl rfl ?_
  refine RS.done ?_
  repeat refine gq ?_
  exact ⟨_, _, ⟨rfl, rfl⟩, (Nat.zero_le _), Gh.toC (n1 := 0) ⟨rfl, trivial⟩ rfl (Nat.zero_le _) (by simp)⟩
theorem law45_light_ok (n : Nat) (p1 : List GDeriv) (p2 : List GDecision) (r : Bool) (hF : law45_light n p1 p2 = some r) (σ : Sg) : EvU Try.prog 17 [.isl false (List.map cGDeriv p1), .isl false (List.map cGDecision p2)] σ (fun u σ' => u = .bool r ∧ σ' = σ) :=
  EvU.pure1C (law45_light_0 n p1 p2 r hF) σ
def law45_leaf (n : Nat) (p1 : List UInt8) (p2 : Int) (p3 : Int) : Option (GDeriv) :=
  some (GDeriv.mk 0 p1 p2 p3 [])
theorem law45_leaf_0 (n : Nat) (p1 : List UInt8) (p2 : Int) (p3 : Int) (r : GDeriv) (hF : law45_leaf n p1 p2 p3 = some r) : EvU Try.prog 27 [.str p1, .int .i64 p2, .int .i64 p3] ⟨[], 0⟩ (fun u _ => u = .agg (xGDeriv r) ∧ Bel 0 u) := by
  unfold law45_leaf at hF
  refine EvU.of_body Try.tb_ok Try.fn27 rfl ?_
  refine WPU.ghost (tm' := fr 11 [(0, .str p1), (1, .int .i64 p2), (2, .int .i64 p3)]) (Gh.start (Nat.le_of_ble_eq_true rfl)) (Nat.zero_le _) ?_
  repeat refine sq ?_
  refine WPU.region Try.tb_ok ?_
  refine RS.op (u := .ptr 0 0 0) (σ' := ⟨[(0, .row [.int .i64 0, .str [], .int .i64 0, .int .i64 0, .nils] 24)], 1⟩) rfl (op_alloc Try.inf24 rfl rfl) rfl rfl ?_
  refine RS.done ?_
  repeat refine gq ?_
  repeat refine sq ?_
  refine WPU.region Try.tb_ok ?_
  repeat refine RS.mv rfl rfl rfl rfl ?_
  refine RS.op (u := .agg [.int .i64 0, .str p1, .int .i64 p2, .int .i64 p3, .nils]) rfl (op_bld Try.bd24 rfl rfl rfl) rfl rfl ?_
  refine RS.opn (u := .junk) (σ' := ⟨[(0, .row [.int .i64 0, .str p1, .int .i64 p2, .int .i64 p3, .nils] 24)], 1⟩) rfl (op_store (sz_of Try.inf24) rfl rfl rfl rfl rfl rfl rfl rfl) rfl ?_
  refine RS.done ?_
  repeat refine gq ?_
  repeat refine sq ?_
  refine WPU.ret ?_
  repeat refine gq ?_
  have hr := Option.some.inj hF
  subst hr
  exact ⟨.inr rfl, [.agg [.int .i64 0, .str p1, .int .i64 p2, .int .i64 p3, .nils]], res_c (ld_agg Try.und24 rfl (sz_of Try.inf24) rfl rfl rfl) (res_n), .agg [.int .i64 0, .str p1, .int .i64 p2, .int .i64 p3, .isl false []], ⟨[], 0⟩, Nat.le_refl _, Gh.trans (Gh.wk (.cons (.agg (.cons (.refl _) (.cons (.refl _) (.cons (.refl _) (.cons (.refl _) (.cons (.nil false) .nil)))))) .nil)) (Gh.toR (.agg [.int .i64 0, .str p1, .int .i64 p2, .int .i64 p3, .isl false []]) rfl), rfl, BU.h⟩
theorem law45_leaf_ok (n : Nat) (p1 : List UInt8) (p2 : Int) (p3 : Int) (r : GDeriv) (hF : law45_leaf n p1 p2 p3 = some r) (σ : Sg) : EvU Try.prog 27 [.str p1, .int .i64 p2, .int .i64 p3] σ (fun u σ' => u = .agg (xGDeriv r) ∧ σ' = σ) :=
  EvU.pure1C (law45_leaf_0 n p1 p2 p3 r hF) σ
end Go.Proofs
end
