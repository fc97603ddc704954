/-
  Texts of the walk: TabA FnA E1.
-/
import Derived.Test.YtcanbnholmlapaaProg
import Derived.Test.YtcanbnholmlapaaP10
section
namespace Go.Proofs
open Go Go.Rx
noncomputable def Try.tb : Tb := tbOf Try.prog [32,35,53]
theorem Try.mixed : Try.prog.follows .mixedOrders = true := by kernel_rfl
theorem Try.eqs_ok : ∀ t ∈ [32,35,53], Try.prog.stoodInHeld t = false ∧ Try.prog.eqGuardType Try.prog.depth t = false := by
  intro t ht
  simp only [List.mem_cons, List.not_mem_nil, or_false] at ht
  rcases ht with rfl | rfl | rfl <;> exact ⟨by kernel_rfl, by kernel_rfl⟩
theorem Try.names_ok : (Try.prog.funcs.toList.all fun f => !(f.name == "runtime.NumGoroutine")) = true := by kernel_rfl
theorem Try.tb_ok : TbOk Try.prog Try.tb := tbOf_ok Try.prog [32,35,53] Try.mixed (fun f hf _ => by
  have := List.all_eq_true.1 Try.names_ok f hf
  simpa using this) Try.eqs_ok
theorem Try.und3 : Try.tb.und 3 = some (.int .i64) := by kernel_rfl
theorem Try.inf3 : Try.tb.inf 3 = some (1, 8, .int .i64 0) := by kernel_rfl
theorem Try.und9 : Try.tb.und 9 = some (.string) := by kernel_rfl
theorem Try.inf9 : Try.tb.inf 9 = some (1, 16, .string ⟨#[]⟩) := by kernel_rfl
theorem Try.und22 : Try.tb.und 22 = some (.slice 24) := by kernel_rfl
theorem Try.inf22 : Try.tb.inf 22 = some (1, 24, .slice none 0 0) := by kernel_rfl
theorem Try.und24 : Try.tb.und 24 = some (.struct #[⟨ "Kind", 3, 0, false, "", "", 0⟩, ⟨ "Name", 9, 1, false, "", "", 8⟩, ⟨ "From", 3, 2, false, "", "", 24⟩, ⟨ "To", 3, 3, false, "", "", 32⟩, ⟨ "Kids", 22, 4, false, "", "", 40⟩]) := by kernel_rfl
theorem Try.inf24 : Try.tb.inf 24 = some (5, 64, .agg #[.int .i64 0, .string ⟨#[]⟩, .int .i64 0, .int .i64 0, .slice none 0 0]) := by kernel_rfl
theorem Try.und28 : Try.tb.und 28 = some (.slice 53) := by kernel_rfl
theorem Try.und32 : Try.tb.und 32 = some (.struct #[⟨ "Items", 3, 0, false, "", "", 0⟩, ⟨ "Exact", 3, 1, false, "", "", 8⟩, ⟨ "Gold", 3, 2, false, "", "", 16⟩, ⟨ "Test", 3, 3, false, "", "", 24⟩, ⟨ "Match", 3, 4, false, "", "", 32⟩, ⟨ "Crossing", 3, 5, false, "", "", 40⟩]) := by kernel_rfl
theorem Try.inf32 : Try.tb.inf 32 = some (6, 48, .agg #[.int .i64 0, .int .i64 0, .int .i64 0, .int .i64 0, .int .i64 0, .int .i64 0]) := by kernel_rfl
theorem Try.und35 : Try.tb.und 35 = some (.struct #[⟨ "Num", 3, 0, false, "", "", 0⟩, ⟨ "Den", 3, 1, false, "", "", 8⟩]) := by kernel_rfl
theorem Try.inf35 : Try.tb.inf 35 = some (2, 16, .agg #[.int .i64 0, .int .i64 0]) := by kernel_rfl
theorem Try.und53 : Try.tb.und 53 = some (.struct #[⟨ "Name", 9, 0, false, "", "", 0⟩, ⟨ "From", 3, 1, false, "", "", 16⟩, ⟨ "To", 3, 2, false, "", "", 24⟩]) := by kernel_rfl
theorem Try.inf53 : Try.tb.inf 53 = some (3, 32, .agg #[.string ⟨#[]⟩, .int .i64 0, .int .i64 0]) := by kernel_rfl
theorem Try.und59 : Try.tb.und 59 = some (.map 53 3) := by kernel_rfl
theorem Try.und69 : Try.tb.und 69 = some (.int .u64) := by kernel_rfl
theorem Try.und88 : Try.tb.und 88 = some (.slice 3) := by kernel_rfl
end Go.Proofs
end
section
namespace Go.Proofs
open Go Go.Rx
theorem Try.fn4 : Try.tb.fn 4 = some Try.f4 := by kernel_rfl
theorem Try.fn10 : Try.tb.fn 10 = some Try.f10 := by kernel_rfl
theorem Try.hb10 : Try.f10.body.isSome = true := rfl
theorem Try.fn11 : Try.tb.fn 11 = some Try.f11 := by kernel_rfl
theorem Try.hb11 : Try.f11.body.isSome = true := rfl
theorem Try.fn13 : Try.tb.fn 13 = some Try.f13 := by kernel_rfl
theorem Try.hb13 : Try.f13.body.isSome = true := rfl
theorem Try.fn14 : Try.tb.fn 14 = some Try.f14 := by kernel_rfl
theorem Try.hb14 : Try.f14.body.isSome = true := rfl
theorem Try.fn15 : Try.tb.fn 15 = some Try.f15 := by kernel_rfl
theorem Try.hb15 : Try.f15.body.isSome = true := rfl
theorem Try.fn16 : Try.tb.fn 16 = some Try.f16 := by kernel_rfl
theorem Try.hb16 : Try.f16.body.isSome = true := rfl
theorem Try.fn17 : Try.tb.fn 17 = some Try.f17 := by kernel_rfl
theorem Try.hb17 : Try.f17.body.isSome = true := rfl
theorem Try.fn18 : Try.tb.fn 18 = some Try.f18 := by kernel_rfl
theorem Try.hb18 : Try.f18.body.isSome = true := rfl
theorem Try.fn19 : Try.tb.fn 19 = some Try.f19 := by kernel_rfl
theorem Try.hb19 : Try.f19.body.isSome = true := rfl
theorem Try.fn20 : Try.tb.fn 20 = some Try.f20 := by kernel_rfl
theorem Try.hb20 : Try.f20.body.isSome = true := rfl
theorem Try.fn24 : Try.tb.fn 24 = some Try.f24 := by kernel_rfl
theorem Try.hb24 : Try.f24.body.isSome = true := rfl
theorem Try.fn25 : Try.tb.fn 25 = some Try.f25 := by kernel_rfl
theorem Try.hb25 : Try.f25.body.isSome = true := rfl
theorem Try.fn26 : Try.tb.fn 26 = some Try.f26 := by kernel_rfl
theorem Try.hb26 : Try.f26.body.isSome = true := rfl
theorem Try.fn27 : Try.tb.fn 27 = some Try.f27 := by kernel_rfl
theorem Try.hb27 : Try.f27.body.isSome = true := rfl
theorem Try.fn29 : Try.tb.fn 29 = some Try.f29 := by kernel_rfl
theorem Try.hb29 : Try.f29.body.isSome = true := rfl
theorem Try.fn30 : Try.tb.fn 30 = some Try.f30 := by kernel_rfl
theorem Try.hb30 : Try.f30.body.isSome = true := rfl
theorem Try.fn31 : Try.tb.fn 31 = some Try.f31 := by kernel_rfl
theorem Try.fn32 : Try.tb.fn 32 = some Try.f32 := by kernel_rfl
theorem Try.hb32 : Try.f32.body.isSome = true := rfl
theorem Try.fn33 : Try.tb.fn 33 = some Try.f33 := by kernel_rfl
theorem Try.hb33 : Try.f33.body.isSome = true := rfl
theorem Try.fn34 : Try.tb.fn 34 = some Try.f34 := by kernel_rfl
theorem Try.hb34 : Try.f34.body.isSome = true := rfl
theorem Try.fn35 : Try.tb.fn 35 = some Try.f35 := by kernel_rfl
theorem Try.hb35 : Try.f35.body.isSome = true := rfl
theorem Try.fn36 : Try.tb.fn 36 = some Try.f36 := by kernel_rfl
theorem Try.hb36 : Try.f36.body.isSome = true := rfl
theorem Try.fn37 : Try.tb.fn 37 = some Try.f37 := by kernel_rfl
theorem Try.hb37 : Try.f37.body.isSome = true := rfl
theorem Try.fn38 : Try.tb.fn 38 = some Try.f38 := by kernel_rfl
theorem Try.hb38 : Try.f38.body.isSome = true := rfl
theorem Try.fn39 : Try.tb.fn 39 = some Try.f39 := by kernel_rfl
theorem Try.hb39 : Try.f39.body.isSome = true := rfl
theorem Try.fn40 : Try.tb.fn 40 = some Try.f40 := by kernel_rfl
theorem Try.hb40 : Try.f40.body.isSome = true := rfl
theorem Try.fn41 : Try.tb.fn 41 = some Try.f41 := by kernel_rfl
theorem Try.hb41 : Try.f41.body.isSome = true := rfl
theorem Try.fn43 : Try.tb.fn 43 = some Try.f43 := by kernel_rfl
theorem Try.hb43 : Try.f43.body.isSome = true := rfl
theorem Try.fn44 : Try.tb.fn 44 = some Try.f44 := by kernel_rfl
theorem Try.hb44 : Try.f44.body.isSome = true := rfl
theorem Try.fn45 : Try.tb.fn 45 = some Try.f45 := by kernel_rfl
theorem Try.hb45 : Try.f45.body.isSome = true := rfl
theorem Try.fn46 : Try.tb.fn 46 = some Try.f46 := by kernel_rfl
theorem Try.hb46 : Try.f46.body.isSome = true := rfl
theorem Try.fn47 : Try.tb.fn 47 = some Try.f47 := by kernel_rfl
theorem Try.hb47 : Try.f47.body.isSome = true := rfl
theorem Try.fn48 : Try.tb.fn 48 = some Try.f48 := by kernel_rfl
theorem Try.hb48 : Try.f48.body.isSome = true := rfl
theorem Try.fn49 : Try.tb.fn 49 = some Try.f49 := by kernel_rfl
theorem Try.hb49 : Try.f49.body.isSome = true := rfl
theorem Try.fn50 : Try.tb.fn 50 = some Try.f50 := by kernel_rfl
theorem Try.hb50 : Try.f50.body.isSome = true := rfl
theorem Try.fn51 : Try.tb.fn 51 = some Try.f51 := by kernel_rfl
theorem Try.hb51 : Try.f51.body.isSome = true := rfl
theorem Try.fn52 : Try.tb.fn 52 = some Try.f52 := by kernel_rfl
theorem Try.hb52 : Try.f52.body.isSome = true := rfl
theorem Try.fn62 : Try.tb.fn 62 = some Try.f62 := by kernel_rfl
theorem Try.hb62 : Try.f62.body.isSome = true := rfl
theorem Try.fn63 : Try.tb.fn 63 = some Try.f63 := by kernel_rfl
theorem Try.hb63 : Try.f63.body.isSome = true := rfl
end Go.Proofs
end
section
namespace Go.Proofs
open Go Go.Rx Go.Vx
set_option maxRecDepth 10000
set_option linter.unusedSimpArgs false
set_option linter.unusedVariables false
inductive GDeriv where
  | mk (Kind : Int) (Name : List UInt8) (From : Int) (To : Int) (Kids : List GDeriv)
instance : Inhabited GDeriv := ⟨.mk default default default default []⟩
def GDeriv.Kind : GDeriv → Int
  | .mk a0 _ _ _ _ => a0
def GDeriv.Name : GDeriv → List UInt8
  | .mk _ a1 _ _ _ => a1
def GDeriv.From : GDeriv → Int
  | .mk _ _ a2 _ _ => a2
def GDeriv.To : GDeriv → Int
  | .mk _ _ _ a3 _ => a3
def GDeriv.Kids : GDeriv → List GDeriv
  | .mk _ _ _ _ a4 => a4
mutual
def cGDeriv : GDeriv → List U
  | .mk a0 a1 a2 a3 a4 => [.int .i64 a0, .str a1, .int .i64 a2, .int .i64 a3, .isl false (cGDeriv_l a4)]
def cGDeriv_l : List GDeriv → List (List U)
  | [] => []
  | x :: l => cGDeriv x :: cGDeriv_l l
end
theorem cGDeriv_l_eq : ∀ l, cGDeriv_l l = l.map cGDeriv
  | [] => by simp [cGDeriv_l]
  | x :: l => by simp [cGDeriv_l, cGDeriv_l_eq l]
def xGDeriv (x : GDeriv) : List U := [.int .i64 x.Kind, .str x.Name, .int .i64 x.From, .int .i64 x.To, .isl false (List.map cGDeriv x.Kids)]
theorem cGDeriv_eq (x : GDeriv) : cGDeriv x = xGDeriv x := by
  cases x; simp only [cGDeriv, cGDeriv_l_eq]; rfl
mutual
theorem bel_cGDeriv (n : Nat) : ∀ x, BelL n (cGDeriv x)
  | .mk a0 a1 a2 a3 a4 => by simp only [cGDeriv, BelL, Bel, true_and, and_true]; exact bel_cGDeriv_l n a4
theorem bel_cGDeriv_l (n : Nat) : ∀ l, BelR n (cGDeriv_l l)
  | [] => by simp [cGDeriv_l, BelR]
  | x :: l => by simp only [cGDeriv_l, BelR]; exact ⟨bel_cGDeriv n x, bel_cGDeriv_l n l⟩
end
theorem len_cGDeriv (x : GDeriv) : (cGDeriv x).length = 5 := by rw [cGDeriv_eq]; rfl
theorem bel_xGDeriv (n : Nat) (x : GDeriv) : BelL n (xGDeriv x) := by rw [← cGDeriv_eq]; exact bel_cGDeriv n x
instance : BF cGDeriv := ⟨bel_cGDeriv⟩
instance (n : Nat) (x : GDeriv) : BUL n (xGDeriv x) := ⟨bel_xGDeriv n x⟩
theorem fz_xGDeriv (K : Nat) (b : B) (sz : Nat) (x : GDeriv) : fzL K b sz (xGDeriv x) = xGDeriv x := fzL_bel _ _ _ (bel_xGDeriv K x)
structure GBracket where
  Name : List UInt8
  From : Int
  To : Int
instance : Inhabited GBracket := ⟨.mk default default default⟩
def cGBracket (x : GBracket) : List U := [.str x.Name, .int .i64 x.From, .int .i64 x.To]
theorem bel_cGBracket (n : Nat) (x : GBracket) : BelL n (cGBracket x) := by
  simp only [cGBracket, BelL, Bel, true_and, and_true]
theorem len_cGBracket (x : GBracket) : (cGBracket x).length = 3 := rfl
instance : BF cGBracket := ⟨bel_cGBracket⟩
instance (n : Nat) (x : GBracket) : BUL n (cGBracket x) := ⟨bel_cGBracket n x⟩
theorem fz_cGBracket (K : Nat) (b : B) (sz : Nat) (x : GBracket) : fzL K b sz (cGBracket x) = cGBracket x := fzL_bel _ _ _ (bel_cGBracket K x)
def eqGBracket (x y : GBracket) : Bool := (bytesEq x.Name y.Name && ((x.From == y.From) && (x.To == y.To)))
theorem Try.eqs53 : Try.tb.eqs 53 = true := by kernel_rfl
theorem eqv53 (x y : GBracket) : eqv Try.tb 50 53 (.agg ⟨[.string ⟨⟨x.Name⟩⟩, .int .i64 x.From, .int .i64 x.To]⟩) (.agg ⟨[.string ⟨⟨y.Name⟩⟩, .int .i64 y.From, .int .i64 y.To]⟩) = some (eqGBracket x y) := by
  simp only [eqv, cond_true, cond_false, eqFs, partX, isAggD, nth, sizeX, List.drop, List.take, List.toList_toArray, eqGBracket, ne_eq, String.reduceEq, not_false_eq_true, if_true, Try.und3, Try.und9, Try.und53, Try.eqs53, Try.inf53]
  cases bytesEq x.Name y.Name <;> cases (x.From == y.From) <;> cases (x.To == y.To) <;> rfl
theorem eqq53_eql (x y : GBracket) : g2 (binX Try.tb .eql 53) (.agg [.str x.Name, .int .i64 x.From, .int .i64 x.To]) (.agg [.str y.Name, .int .i64 y.From, .int .i64 y.To]) = some (.bool (eqGBracket x y)) := by
  simp only [g2, toV, toVL, okL, okC, cond_true, binX, guardX, Try.eqs53, eqv53, ofV]
theorem Try.bd53 : BdT Try.tb 53 [.str [], .int .i64 0, .int .i64 0] [(0, 1), (1, 1), (2, 1)] := bdT Try.und53 Try.inf53 rfl (by kernel_rfl)
def law50_count_K1  (z13 : Int) : Option (Int) :=
  some z13
def law50_count_L1 (p1 : GDeriv) (p2 : Int) (self : GDeriv → Int → Option (Int)) : Nat → Int → Int → Option (Int)
  | 0, _, _ => none
  | m1 + 1, z11, z12 =>
    bindO (cond (decide (z12 < (p1.Kids.length : Int)))
      (some (decide (z11 ≤ p2)))
      (some false)) fun b15 =>
    cond b15
      (bindO (idxO p1.Kids z12) fun x18 =>
      bindO (self x18 (IntKind.i64.wrap (p2 - z11))) fun r20 =>
      (law50_count_L1 p1 p2 self m1) (IntKind.i64.wrap (z11 + r20)) (IntKind.i64.wrap (z12 + 1)))
      (law50_count_K1 z11)
def law50_count_b (n : Nat) (self : GDeriv → Int → Option (Int)) (p1 : GDeriv) (p2 : Int) : Option (Int) :=
  law50_count_L1 p1 p2 self n 1 0
def law50_count : Nat → GDeriv → Int → Option (Int)
  | 0, _, _ => none
  | n + 1, p1, p2 => law50_count_b n (law50_count n) p1 p2
theorem law50_count_0 : ∀ (n : Nat) (p1 : GDeriv) (p2 : Int) (r : Int), law50_count n p1 p2 = some r → EvU Try.prog 26 [.agg (xGDeriv p1), .int .i64 p2] ⟨[], 0⟩ (fun u _ => u = .int .i64 r ∧ Bel 0 u)
  | 0, p1, p2, r, hF => by cases hF
  | n + 1, p1, p2, r, hF => by
    have ih := law50_count_0 n
    have ihS : ∀ (p1 : GDeriv) (p2 : Int) (r : Int), law50_count n p1 p2 = some r → ∀ σ, EvU Try.prog 26 [.agg (xGDeriv p1), .int .i64 p2] σ (fun u σ' => u = .int .i64 r ∧ σ' = σ) := fun p1 p2 r h σ => EvU.pure1C (ih p1 p2 r h) σ
    unfold law50_count law50_count_b at hF
    refine EvU.of_body Try.tb_ok Try.fn26 rfl ?_
    refine WPU.ghost (tm' := fr 31 [(0, .agg (xGDeriv p1)), (1, .int .i64 p2)]) (Gh.start (Nat.le_of_ble_eq_true rfl)) (Nat.zero_le _) ?_
    repeat refine WPU.seq ?_
    refine WPU.region Try.tb_ok ?_
    refine RS.op (u := .ptr 0 0 0) (σ' := ⟨[(0, .row (xGDeriv p1) 24)], 1⟩) rfl (op_box rfl rfl rfl) rfl rfl ?_
    refine RS.op rfl (op_assign rfl) rfl rfl ?_
    refine RS.done ?_
    repeat refine gq ?_
    repeat refine WPU.seq ?_
    refine WPU.region Try.tb_ok ?_
    refine RS.op rfl (op_assign rfl) rfl rfl ?_
    refine RS.done ?_
    repeat refine gq ?_
    repeat refine WPU.seq ?_
    refine WPU.region Try.tb_ok ?_
    refine RS.op rfl (op_assign rfl) rfl rfl ?_
    refine RS.done ?_
    repeat refine gq ?_
    repeat refine WPU.seq ?_
    refine WPU.ghost (tm' := fr 31 [(1, .int .i64 p2), (2, .ptr 0 0 0), (5, .int .i64 1), (6, .int .i64 0)]) (Gh.sub ⟨rfl, rfl, rfl, rfl, trivial⟩) (Nat.zero_le _) ?_
    refine WPU.loopK (fun m tm σ => ∃ z11 : Int, ∃ z12 : Int, law50_count_L1 p1 p2 (law50_count n) m z11 z12 = some r ∧ tm = fr 31 [(1, .int .i64 p2), (2, .ptr 0 0 0), (5, .int .i64 z11), (6, .int .i64 z12)] ∧ σ = ⟨[(0, .row (xGDeriv p1) 24)], 1⟩) (fun tm σ => ∃ z13 : Int, law50_count_K1 z13 = some r ∧ tm = fr 31 [(5, .int .i64 z13)] ∧ σ = ⟨[(0, .row (xGDeriv p1) 24)], 1⟩) n ⟨1, 0, hF, rfl, rfl⟩ ?_ ?_
    · skip
      rintro _ _ ⟨z13, hF, rfl, rfl⟩
      unfold law50_count_K1 at hF
      repeat refine gq ?_
      repeat refine WPU.seq ?_
      refine WPU.region Try.tb_ok ?_
      refine RS.op rfl (op_move rfl) rfl rfl ?_
      refine RS.op rfl (op_assign rfl) rfl rfl ?_
      refine RS.done ?_
      repeat refine gq ?_
      repeat refine WPU.seq ?_
      refine WPU.ret ?_
      repeat refine gq ?_
      have hr := Option.some.inj hF
      subst hr
      exact ⟨.inr rfl, [.int .i64 z13], res_t rfl (res_n), .int .i64 z13, ⟨[], 0⟩, Nat.le_refl _, Gh.toR (.int .i64 z13) rfl, rfl, BU.h⟩
    · skip
      rintro m1 _ _ ⟨z11, z12, hF, rfl, rfl⟩
      cases m1 with
      | zero => cases hF
      | succ m1 =>
        unfold law50_count_L1 at hF
        repeat refine WPU.seq ?_
        obtain ⟨b15, h16, hF⟩ := bindO_some hF
        refine WPU.joinK (fun tm σ => tm = fr 31 [(1, .int .i64 p2), (2, .ptr 0 0 0), (5, .int .i64 z11), (6, .int .i64 z12), (16, .bool b15)] ∧ σ = ⟨[(0, .row (xGDeriv p1) 24)], 1⟩) ?_ ?_
        · skip
          rintro _ _ ⟨rfl, rfl⟩
          repeat refine gq ?_
          repeat refine WPU.seq ?_
          refine WPU.condS (t := b15) rfl (fun h17 => ?_) (fun h17 => ?_)
          · skip
            replace hF := cond_t h17 hF
            repeat refine WPU.seq ?_
            refine WPU.skip ?_
            repeat refine gq ?_
            repeat refine WPU.seq ?_
            refine WPU.block ?_
            repeat refine WPU.seq ?_
            obtain ⟨x18, h19, hF⟩ := bindO_some hF
            obtain ⟨r20, h21, hF⟩ := bindO_some hF
            refine WPU.region Try.tb_ok ?_
            refine RS.op rfl (op_move rfl) rfl rfl ?_
            refine RS.op (u := .ptr 0 0 4) rfl (op_fa Try.und24 rfl (sz_of Try.inf22) rfl rfl rfl) rfl rfl ?_
            refine RS.op (u := .isl false (List.map cGDeriv p1.Kids)) rfl (ld_one Try.und22 rfl rfl rfl rfl) rfl rfl ?_
            refine RS.op rfl (op_move rfl) rfl rfl ?_
            refine RS.op (u := .iptr (xGDeriv x18)) rfl (op_ia rfl rfl (ia_isl cGDeriv Try.und22 (sz_of Try.inf24) len_cGDeriv h19 (cGDeriv_eq x18))) rfl rfl ?_
            refine RS.op (u := .agg (xGDeriv x18)) rfl (li_agg Try.und24 rfl (sz_of Try.inf24) rfl rfl) rfl rfl ?_
            repeat refine RS.op rfl (op_move rfl) rfl rfl ?_
            refine RS.op rfl (op_int rfl rfl (ix_sub _ _ _) rfl) rfl rfl ?_
            refine RS.call (u := .int .i64 r20) (args := [.agg (xGDeriv x18), .int .i64 (IntKind.i64.wrap (p2 - z11))]) rfl (op_call rfl rfl Try.fn26 Try.hb26 rfl rfl) (ihS x18 (IntKind.i64.wrap (p2 - z11)) r20 h21 _) rfl rfl ?_
            refine RS.op rfl (op_int rfl rfl (ix_add _ _ _) rfl) rfl rfl ?_
            refine RS.op rfl (op_assign rfl) rfl rfl ?_
            refine RS.done ?_
            repeat refine gq ?_
            repeat refine WPU.seq ?_
            refine WPU.region Try.tb_ok ?_
            refine RS.op rfl (op_move rfl) rfl rfl ?_
            refine RS.op rfl (op_int rfl rfl (ix_add _ _ _) rfl) rfl rfl ?_
            refine RS.op rfl (op_assign rfl) rfl rfl ?_
            refine RS.done ?_
            repeat refine gq ?_
            exact ⟨m1, _, _, Nat.lt_succ_self _, ⟨(IntKind.i64.wrap (z11 + r20)), (IntKind.i64.wrap (z12 + 1)), hF, rfl, rfl⟩, (Nat.zero_le _), Gh.toC (n1 := 1) ⟨rfl, rfl, rfl, rfl, trivial⟩ rfl (Nat.zero_le _) (by simp)⟩
          · skip
            replace hF := cond_f h17 hF
            repeat refine WPU.seq ?_
            refine WPU.exit ?_
            repeat refine gq ?_
            exact ⟨_, _, ⟨z11, hF, rfl, rfl⟩, (Nat.zero_le _), Gh.toC (n1 := 1) ⟨rfl, trivial⟩ rfl (Nat.zero_le _) (by simp)⟩
        · skip
          rcases bool_tf (decide (z12 < (p1.Kids.length : Int))) with h14 | h14
          · skip
            replace h16 := cond_t h14 h16
            replace h16 := Option.some.inj h16
            subst h16
            refine WPU.region Try.tb_ok ?_
            refine RS.op rfl (op_move rfl) rfl rfl ?_
            refine RS.op (u := .ptr 0 0 4) rfl (op_fa Try.und24 rfl (sz_of Try.inf22) rfl rfl rfl) rfl rfl ?_
            refine RS.op (u := .isl false (List.map cGDeriv p1.Kids)) rfl (ld_one Try.und22 rfl rfl rfl rfl) rfl rfl ?_
            refine RS.op rfl (op_len rfl rfl rfl (len_isl cGDeriv Try.und22)) rfl rfl ?_
            refine RS.op rfl (op_int rfl rfl (ix_lss _ _ _) rfl) rfl rfl ?_
            refine RS.op rfl (op_move rfl) rfl rfl ?_
            refine RS.op (want1 rfl rfl rfl h14) (op_move rfl) rfl rfl ?_
            refine RS.op (want1 rfl rfl rfl h14) (op_move rfl) rfl rfl ?_
            refine RS.op (want1 rfl rfl rfl h14) (op_int rfl rfl (ix_leq _ _ _) rfl) rfl rfl ?_
            refine RS.op (u := .bool (decide (z11 ≤ p2))) rfl (op_pick1 rfl h14 rfl) rfl rfl ?_
            refine RS.done ?_
            repeat refine gq ?_
            exact ⟨_, _, ⟨rfl, rfl⟩, (Nat.zero_le _), Gh.toC (n1 := 1) ⟨rfl, rfl, rfl, rfl, rfl, trivial⟩ rfl (Nat.zero_le _) (by simp)⟩
          · skip
            replace h16 := cond_f h14 h16
            replace h16 := Option.some.inj h16
            subst h16
            refine WPU.region Try.tb_ok ?_
            refine RS.op rfl (op_move rfl) rfl rfl ?_
            refine RS.op (u := .ptr 0 0 4) rfl (op_fa Try.und24 rfl (sz_of Try.inf22) rfl rfl rfl) rfl rfl ?_
            refine RS.op (u := .isl false (List.map cGDeriv p1.Kids)) rfl (ld_one Try.und22 rfl rfl rfl rfl) rfl rfl ?_
            refine RS.op rfl (op_len rfl rfl rfl (len_isl cGDeriv Try.und22)) rfl rfl ?_
            refine RS.op rfl (op_int rfl rfl (ix_lss _ _ _) rfl) rfl rfl ?_
            refine RS.op rfl (op_move rfl) rfl rfl ?_
            repeat refine RS.no (want0 rfl rfl rfl h14) rfl rfl ?_
            refine RS.op (u := .bool false) rfl (op_pick0 rfl h14 rfl) rfl rfl ?_
            refine RS.done ?_
            repeat refine gq ?_
            exact ⟨_, _, ⟨rfl, rfl⟩, (Nat.zero_le _), Gh.toC (n1 := 1) ⟨rfl, rfl, rfl, rfl, rfl, trivial⟩ rfl (Nat.zero_le _) (by simp)⟩
theorem law50_count_ok (n : Nat) (p1 : GDeriv) (p2 : Int) (r : Int) (hF : law50_count n p1 p2 = some r) (σ : Sg) : EvU Try.prog 26 [.agg (xGDeriv p1), .int .i64 p2] σ (fun u σ' => u = .int .i64 r ∧ σ' = σ) :=
  EvU.pure1C (law50_count_0 n p1 p2 r hF) σ
def law50_nested_K2 (z11 : Int) (rc1 : Int → Option (Bool))  : Option (Bool) :=
  rc1 (IntKind.i64.wrap (z11 + 1))
def law50_nested_L2 (z11 : Int) (rc1 : Int → Option (Bool)) (x13 : GDeriv) (l22 : List GDeriv) : Nat → Int → Option (Bool)
  | 0, _ => none
  | m2 + 1, z42 =>
    cond (decide (z42 < (l22.length : Int)))
      (bindO (idxO l22 z42) fun x44 =>
      bindO (cond (decide (x13.From < x44.To))
        (some (decide (x44.From < x13.To)))
        (some false)) fun b47 =>
      cond b47
        (some false)
        ((law50_nested_L2 z11 rc1 x13 l22 m2) (IntKind.i64.wrap (z42 + 1))))
      (law50_nested_K2 z11 rc1)
def law50_nested_K1   : Option (Bool) :=
  some true
def law50_nested_L1 (p1 : GDeriv) (n : Nat) (self : GDeriv → Option (Bool)) : Nat → Int → Option (Bool)
  | 0, _ => none
  | m1 + 1, z11 =>
    cond (decide (z11 < (p1.Kids.length : Int)))
      (bindO (idxO p1.Kids z11) fun x13 =>
      bindO (cond (decide (x13.From < p1.From))
        (some true)
        (cond (decide (x13.To > p1.To))
          (some true)
          (bindO (self x13) fun r17 =>
          some (!r17)))) fun b19 =>
      cond b19
        (some false)
        (bindO (cutO p1.Kids 0 z11) fun l22 =>
        law50_nested_L2 z11 (law50_nested_L1 p1 n self m1) x13 l22 n 0))
      (law50_nested_K1)
def law50_nested_b (n : Nat) (self : GDeriv → Option (Bool)) (p1 : GDeriv) : Option (Bool) :=
  cond (decide (p1.From ≥ p1.To))
    (some false)
    (law50_nested_L1 p1 n self n 0)
def law50_nested : Nat → GDeriv → Option (Bool)
  | 0, _ => none
  | n + 1, p1 => law50_nested_b n (law50_nested n) p1
theorem law50_nested_0 : ∀ (n : Nat) (p1 : GDeriv) (r : Bool), law50_nested n p1 = some r → EvU Try.prog 27 [.agg (xGDeriv p1)] ⟨[], 0⟩ (fun u _ => u = .bool r ∧ Bel 0 u)
  | 0, p1, r, hF => by cases hF
  | n + 1, p1, r, hF => by
    have ih := law50_nested_0 n
    have ihS : ∀ (p1 : GDeriv) (r : Bool), law50_nested n p1 = some r → ∀ σ, EvU Try.prog 27 [.agg (xGDeriv p1)] σ (fun u σ' => u = .bool r ∧ σ' = σ) := fun p1 r h σ => EvU.pure1C (ih p1 r h) σ
    unfold law50_nested law50_nested_b at hF
    refine EvU.of_body Try.tb_ok Try.fn27 rfl ?_
    refine WPU.ghost (tm' := fr 60 [(0, .agg (xGDeriv p1))]) (Gh.start (Nat.le_of_ble_eq_true rfl)) (Nat.zero_le _) ?_
    repeat refine WPU.seq ?_
    refine WPU.region Try.tb_ok ?_
    refine RS.op (u := .ptr 0 0 0) (σ' := ⟨[(0, .row (xGDeriv p1) 24)], 1⟩) rfl (op_box rfl rfl rfl) rfl rfl ?_
    refine RS.op rfl (op_assign rfl) rfl rfl ?_
    refine RS.done ?_
    repeat refine gq ?_
    repeat refine WPU.seq ?_
    refine WPU.region Try.tb_ok ?_
    refine RS.op (u := .ptr 0 0 2) rfl (op_fa Try.und24 rfl (sz_of Try.inf3) rfl rfl rfl) rfl rfl ?_
    refine RS.op (u := .int .i64 p1.From) rfl (ld_one Try.und3 rfl rfl rfl rfl) rfl rfl ?_
    refine RS.op (u := .ptr 0 0 3) rfl (op_fa Try.und24 rfl (sz_of Try.inf3) rfl rfl rfl) rfl rfl ?_
    refine RS.op (u := .int .i64 p1.To) rfl (ld_one Try.und3 rfl rfl rfl rfl) rfl rfl ?_
    refine RS.op rfl (op_int rfl rfl (ix_geq _ _ _) rfl) rfl rfl ?_
    refine RS.done ?_
    repeat refine gq ?_
    repeat refine WPU.seq ?_
    refine WPU.condS (t := (decide (p1.From ≥ p1.To))) rfl (fun h2 => ?_) (fun h2 => ?_)
    · skip
      replace hF := cond_t h2 hF
      repeat refine WPU.seq ?_
      refine WPU.region Try.tb_ok ?_
      refine RS.op rfl (op_assign rfl) rfl rfl ?_
      refine RS.done ?_
      repeat refine gq ?_
      repeat refine WPU.seq ?_
      refine WPU.ret ?_
      repeat refine gq ?_
      have hr := Option.some.inj hF
      subst hr
      exact ⟨.inr rfl, [.bool false], res_t rfl (res_n), .bool false, ⟨[], 0⟩, Nat.le_refl _, Gh.toR (.bool false) rfl, rfl, BU.h⟩
    · skip
      replace hF := cond_f h2 hF
      repeat refine WPU.seq ?_
      refine WPU.skip ?_
      repeat refine gq ?_
      repeat refine WPU.seq ?_
      refine WPU.region Try.tb_ok ?_
      refine RS.op (u := .ptr 0 0 4) rfl (op_fa Try.und24 rfl (sz_of Try.inf22) rfl rfl rfl) rfl rfl ?_
      refine RS.op (u := .isl false (List.map cGDeriv p1.Kids)) rfl (ld_one Try.und22 rfl rfl rfl rfl) rfl rfl ?_
      refine RS.op rfl (op_len rfl rfl rfl (len_isl cGDeriv Try.und22)) rfl rfl ?_
      refine RS.op rfl (op_move rfl) rfl rfl ?_
      refine RS.done ?_
      repeat refine gq ?_
      repeat refine WPU.seq ?_
      refine WPU.ghost (tm' := fr 60 [(1, .ptr 0 0 0), (13, .isl false (List.map cGDeriv p1.Kids)), (14, .int .i64 (p1.Kids.length : Int)), (15, .int .i64 0)]) (Gh.sub ⟨rfl, rfl, rfl, rfl, trivial⟩) (Nat.zero_le _) ?_
      refine WPU.loopK (fun m tm σ => ∃ z11 : Int, law50_nested_L1 p1 n (law50_nested n) m z11 = some r ∧ tm = fr 60 [(1, .ptr 0 0 0), (13, .isl false (List.map cGDeriv p1.Kids)), (14, .int .i64 (p1.Kids.length : Int)), (15, .int .i64 z11)] ∧ σ = ⟨[(0, .row (xGDeriv p1) 24)], 1⟩) (fun tm σ => law50_nested_K1 = some r ∧ tm = fr 60 [] ∧ σ = ⟨[(0, .row (xGDeriv p1) 24)], 1⟩) n ⟨0, hF, rfl, rfl⟩ ?_ ?_
      · skip
        rintro _ _ ⟨hF, rfl, rfl⟩
        unfold law50_nested_K1 at hF
        repeat refine gq ?_
        repeat refine WPU.seq ?_
        refine WPU.region Try.tb_ok ?_
        refine RS.op rfl (op_assign rfl) rfl rfl ?_
        refine RS.done ?_
        repeat refine gq ?_
        repeat refine WPU.seq ?_
        refine WPU.ret ?_
        repeat refine gq ?_
        have hr := Option.some.inj hF
        subst hr
        exact ⟨.inr rfl, [.bool true], res_t rfl (res_n), .bool true, ⟨[], 0⟩, Nat.le_refl _, Gh.toR (.bool true) rfl, rfl, BU.h⟩
      · skip
        rintro m1 _ _ ⟨z11, hF, rfl, rfl⟩
        cases m1 with
        | zero => cases hF
        | succ m1 =>
          unfold law50_nested_L1 at hF
          repeat refine WPU.seq ?_
          refine WPU.region Try.tb_ok ?_
          refine RS.op rfl (op_int rfl rfl (ix_lss _ _ _) rfl) rfl rfl ?_
          refine RS.done ?_
          repeat refine gq ?_
          repeat refine WPU.seq ?_
          refine WPU.condS (t := (decide (z11 < (p1.Kids.length : Int)))) rfl (fun h12 => ?_) (fun h12 => ?_)
          · skip
            replace hF := cond_t h12 hF
            repeat refine WPU.seq ?_
            refine WPU.skip ?_
            repeat refine gq ?_
            repeat refine WPU.seq ?_
            refine WPU.block ?_
            repeat refine WPU.seq ?_
            obtain ⟨x13, h14, hF⟩ := bindO_some hF
            refine WPU.region Try.tb_ok ?_
            refine RS.op rfl (op_move rfl) rfl rfl ?_
            refine RS.op (u := .iptr (xGDeriv x13)) rfl (op_ia rfl rfl (ia_isl cGDeriv Try.und22 (sz_of Try.inf24) len_cGDeriv h14 (cGDeriv_eq x13))) rfl rfl ?_
            refine RS.op (u := .agg (xGDeriv x13)) rfl (li_agg Try.und24 rfl (sz_of Try.inf24) rfl rfl) rfl rfl ?_
            refine RS.op (u := .ptr 1 0 0) (σ' := ⟨[(1, .row [.int .i64 0, .str [], .int .i64 0, .int .i64 0, .nils] 24), (0, .row (xGDeriv p1) 24)], 2⟩) rfl (op_alloc Try.inf24 rfl rfl) rfl rfl ?_
            refine RS.op rfl (op_assign rfl) rfl rfl ?_
            refine RS.opn (u := .junk) (σ' := ⟨[(1, .row (xGDeriv x13) 24), (0, .row (xGDeriv p1) 24)], 2⟩) rfl (op_store (sz_of Try.inf24) rfl rfl rfl rfl rfl rfl rfl rfl) rfl ?_
            refine RS.done ?_
            repeat refine gq ?_
            repeat refine WPU.seq ?_
            obtain ⟨b19, h20, hF⟩ := bindO_some hF
            refine WPU.joinK (fun tm σ => tm = fr 60 [(1, .ptr 0 0 0), (3, .int .i64 z11), (4, .ptr 1 0 0), (13, .isl false (List.map cGDeriv p1.Kids)), (14, .int .i64 (p1.Kids.length : Int)), (15, .int .i64 z11), (36, .bool b19)] ∧ σ = ⟨[(1, .row (xGDeriv x13) 24), (0, .row (xGDeriv p1) 24)], 2⟩) ?_ ?_
            · skip
              rintro _ _ ⟨rfl, rfl⟩
              repeat refine gq ?_
              repeat refine WPU.seq ?_
              refine WPU.condS (t := b19) rfl (fun h21 => ?_) (fun h21 => ?_)
              · skip
                replace hF := cond_t h21 hF
                repeat refine WPU.seq ?_
                refine WPU.region Try.tb_ok ?_
                refine RS.op rfl (op_assign rfl) rfl rfl ?_
                refine RS.done ?_
                repeat refine gq ?_
                repeat refine WPU.seq ?_
                refine WPU.ret ?_
                repeat refine gq ?_
                have hr := Option.some.inj hF
                subst hr
                exact ⟨.inr rfl, [.bool false], res_t rfl (res_n), .bool false, ⟨[], 0⟩, Nat.le_refl _, Gh.toR (.bool false) rfl, rfl, BU.h⟩
              · skip
                replace hF := cond_f h21 hF
                repeat refine WPU.seq ?_
                refine WPU.skip ?_
                repeat refine gq ?_
                repeat refine WPU.seq ?_
                obtain ⟨l22, h23, hF⟩ := bindO_some hF
                obtain ⟨h24, h25⟩ := cut_hi cGDeriv .i64 h23
                refine WPU.region Try.tb_ok ?_
                refine RS.op (u := .ptr 0 0 4) rfl (op_fa Try.und24 rfl (sz_of Try.inf22) rfl rfl rfl) rfl rfl ?_
                refine RS.op (u := .isl false (List.map cGDeriv p1.Kids)) rfl (ld_one Try.und22 rfl rfl rfl rfl) rfl rfl ?_
                refine RS.op rfl (op_move rfl) rfl rfl ?_
                refine RS.op (u := .isl false (List.map cGDeriv l22)) rfl (op_slice rfl em_n (em_s rfl) em_n (sl_isl cGDeriv Try.und22 (sz_of Try.inf24) len_cGDeriv h24 h25)) rfl rfl ?_
                refine RS.op rfl (op_len rfl rfl rfl (len_isl cGDeriv Try.und22)) rfl rfl ?_
                refine RS.op rfl (op_move rfl) rfl rfl ?_
                refine RS.done ?_
                repeat refine gq ?_
                repeat refine WPU.seq ?_
                refine WPU.ghost (tm' := fr 60 [(1, .ptr 0 0 0), (4, .ptr 1 0 0), (13, .isl false (List.map cGDeriv p1.Kids)), (14, .int .i64 (p1.Kids.length : Int)), (15, .int .i64 z11), (40, .isl false (List.map cGDeriv l22)), (41, .int .i64 (l22.length : Int)), (42, .int .i64 0)]) (Gh.sub ⟨rfl, rfl, rfl, rfl, rfl, rfl, rfl, rfl, trivial⟩) (Nat.zero_le _) ?_
                refine WPU.loopK (fun m tm σ => ∃ z42 : Int, law50_nested_L2 z11 (law50_nested_L1 p1 n (law50_nested n) m1) x13 l22 m z42 = some r ∧ tm = fr 60 [(1, .ptr 0 0 0), (4, .ptr 1 0 0), (13, .isl false (List.map cGDeriv p1.Kids)), (14, .int .i64 (p1.Kids.length : Int)), (15, .int .i64 z11), (40, .isl false (List.map cGDeriv l22)), (41, .int .i64 (l22.length : Int)), (42, .int .i64 z42)] ∧ σ = ⟨[(1, .row (xGDeriv x13) 24), (0, .row (xGDeriv p1) 24)], 2⟩) (fun tm σ => law50_nested_K2 z11 (law50_nested_L1 p1 n (law50_nested n) m1) = some r ∧ tm = fr 60 [(1, .ptr 0 0 0), (13, .isl false (List.map cGDeriv p1.Kids)), (14, .int .i64 (p1.Kids.length : Int)), (15, .int .i64 z11)] ∧ σ = ⟨[(1, .row (xGDeriv x13) 24), (0, .row (xGDeriv p1) 24)], 2⟩) n ⟨0, hF, rfl, rfl⟩ ?_ ?_
                · skip
                  rintro _ _ ⟨hF, rfl, rfl⟩
                  unfold law50_nested_K2 at hF
                  repeat refine gq ?_
                  repeat refine WPU.seq ?_
                  refine WPU.region Try.tb_ok ?_
                  refine RS.op rfl (op_int rfl rfl (ix_add _ _ _) rfl) rfl rfl ?_
                  refine RS.op rfl (op_move rfl) rfl rfl ?_
                  refine RS.done ?_
                  repeat refine gq ?_
                  exact ⟨m1, _, _, Nat.lt_succ_self _, ⟨(IntKind.i64.wrap (z11 + 1)), hF, rfl, rfl⟩, (Nat.zero_le _), Gh.toC (n1 := 1) ⟨rfl, rfl, rfl, rfl, trivial⟩ rfl (Nat.zero_le _) (by simp)⟩
                · skip
                  rintro m2 _ _ ⟨z42, hF, rfl, rfl⟩
                  cases m2 with
                  | zero => cases hF
                  | succ m2 =>
                    unfold law50_nested_L2 at hF
                    repeat refine WPU.seq ?_
                    refine WPU.region Try.tb_ok ?_
                    refine RS.op rfl (op_int rfl rfl (ix_lss _ _ _) rfl) rfl rfl ?_
                    refine RS.done ?_
                    repeat refine gq ?_
                    repeat refine WPU.seq ?_
                    refine WPU.condS (t := (decide (z42 < (l22.length : Int)))) rfl (fun h43 => ?_) (fun h43 => ?_)
                    · skip
                      replace hF := cond_t h43 hF
                      repeat refine WPU.seq ?_
                      refine WPU.skip ?_
                      repeat refine gq ?_
                      repeat refine WPU.seq ?_
                      refine WPU.block ?_
                      repeat refine WPU.seq ?_
                      obtain ⟨x44, h45, hF⟩ := bindO_some hF
                      refine WPU.region Try.tb_ok ?_
                      refine RS.op (u := .iptr (xGDeriv x44)) rfl (op_ia rfl rfl (ia_isl cGDeriv Try.und22 (sz_of Try.inf24) len_cGDeriv h45 (cGDeriv_eq x44))) rfl rfl ?_
                      refine RS.op (u := .agg (xGDeriv x44)) rfl (li_agg Try.und24 rfl (sz_of Try.inf24) rfl rfl) rfl rfl ?_
                      refine RS.op (u := .ptr 2 0 0) (σ' := ⟨[(2, .row [.int .i64 0, .str [], .int .i64 0, .int .i64 0, .nils] 24), (1, .row (xGDeriv x13) 24), (0, .row (xGDeriv p1) 24)], 3⟩) rfl (op_alloc Try.inf24 rfl rfl) rfl rfl ?_
                      refine RS.opn (u := .junk) (σ' := ⟨[(2, .row (xGDeriv x44) 24), (1, .row (xGDeriv x13) 24), (0, .row (xGDeriv p1) 24)], 3⟩) rfl (op_store (sz_of Try.inf24) rfl rfl rfl rfl rfl rfl rfl rfl) rfl ?_
                      refine RS.done ?_
                      repeat refine gq ?_
                      repeat refine WPU.seq ?_
                      obtain ⟨b47, h48, hF⟩ := bindO_some hF
                      refine WPU.joinK (fun tm σ => tm = fr 60 [(1, .ptr 0 0 0), (4, .ptr 1 0 0), (13, .isl false (List.map cGDeriv p1.Kids)), (14, .int .i64 (p1.Kids.length : Int)), (15, .int .i64 z11), (40, .isl false (List.map cGDeriv l22)), (41, .int .i64 (l22.length : Int)), (42, .int .i64 z42), (57, .bool b47)] ∧ σ = ⟨[(2, .row (xGDeriv x44) 24), (1, .row (xGDeriv x13) 24), (0, .row (xGDeriv p1) 24)], 3⟩) ?_ ?_
                      · skip
                        rintro _ _ ⟨rfl, rfl⟩
                        repeat refine gq ?_
                        repeat refine WPU.seq ?_
                        refine WPU.condS (t := b47) rfl (fun h49 => ?_) (fun h49 => ?_)
                        · skip
                          replace hF := cond_t h49 hF
                          repeat refine WPU.seq ?_
                          refine WPU.region Try.tb_ok ?_
                          refine RS.op rfl (op_assign rfl) rfl rfl ?_
                          refine RS.done ?_
                          repeat refine gq ?_
                          repeat refine WPU.seq ?_
                          refine WPU.ret ?_
                          repeat refine gq ?_
                          have hr := Option.some.inj hF
                          subst hr
                          exact ⟨.inr rfl, [.bool false], res_t rfl (res_n), .bool false, ⟨[], 0⟩, Nat.le_refl _, Gh.toR (.bool false) rfl, rfl, BU.h⟩
                        · skip
                          replace hF := cond_f h49 hF
                          repeat refine WPU.seq ?_
                          refine WPU.skip ?_
                          repeat refine gq ?_
                          repeat refine WPU.seq ?_
                          refine WPU.region Try.tb_ok ?_
                          refine RS.op rfl (op_int rfl rfl (ix_add _ _ _) rfl) rfl rfl ?_
                          refine RS.op rfl (op_move rfl) rfl rfl ?_
                          refine RS.done ?_
                          repeat refine gq ?_
                          exact ⟨m2, _, _, Nat.lt_succ_self _, ⟨(IntKind.i64.wrap (z42 + 1)), hF, rfl, rfl⟩, (Nat.zero_le _), Gh.toC (n1 := 2) ⟨rfl, rfl, rfl, rfl, rfl, rfl, rfl, rfl, trivial⟩ rfl (Nat.zero_le _) (by simp)⟩
                      · skip
                        rcases bool_tf (decide (x13.From < x44.To)) with h46 | h46
                        · skip
                          replace h48 := cond_t h46 h48
                          replace h48 := Option.some.inj h48
                          subst h48
                          refine WPU.region Try.tb_ok ?_
                          refine RS.op (u := .ptr 1 0 2) rfl (op_fa Try.und24 rfl (sz_of Try.inf3) rfl rfl rfl) rfl rfl ?_
                          refine RS.op (u := .int .i64 x13.From) rfl (ld_one Try.und3 rfl rfl rfl rfl) rfl rfl ?_
                          refine RS.op (u := .ptr 2 0 3) rfl (op_fa Try.und24 rfl (sz_of Try.inf3) rfl rfl rfl) rfl rfl ?_
                          refine RS.op (u := .int .i64 x44.To) rfl (ld_one Try.und3 rfl rfl rfl rfl) rfl rfl ?_
                          refine RS.op rfl (op_int rfl rfl (ix_lss _ _ _) rfl) rfl rfl ?_
                          refine RS.op rfl (op_move rfl) rfl rfl ?_
                          refine RS.op (u := .ptr 2 0 2) (want1 rfl rfl rfl h46) (op_fa Try.und24 rfl (sz_of Try.inf3) rfl rfl rfl) rfl rfl ?_
                          refine RS.op (u := .int .i64 x44.From) (want1 rfl rfl rfl h46) (ld_one Try.und3 rfl rfl rfl rfl) rfl rfl ?_
                          refine RS.op (u := .ptr 1 0 3) (want1 rfl rfl rfl h46) (op_fa Try.und24 rfl (sz_of Try.inf3) rfl rfl rfl) rfl rfl ?_
                          refine RS.op (u := .int .i64 x13.To) (want1 rfl rfl rfl h46) (ld_one Try.und3 rfl rfl rfl rfl) rfl rfl ?_
                          refine RS.op (want1 rfl rfl rfl h46) (op_int rfl rfl (ix_lss _ _ _) rfl) rfl rfl ?_
                          refine RS.op (u := .bool (decide (x44.From < x13.To))) rfl (op_pick1 rfl h46 rfl) rfl rfl ?_
                          refine RS.done ?_
                          repeat refine gq ?_
                          exact ⟨_, _, ⟨rfl, rfl⟩, (Nat.zero_le _), Gh.toC (n1 := 3) ⟨rfl, rfl, rfl, rfl, rfl, rfl, rfl, rfl, rfl, trivial⟩ rfl (Nat.zero_le _) (by simp)⟩
                        · skip
                          replace h48 := cond_f h46 h48
                          replace h48 := Option.some.inj h48
                          subst h48
                          refine WPU.region Try.tb_ok ?_
                          refine RS.op (u := .ptr 1 0 2) rfl (op_fa Try.und24 rfl (sz_of Try.inf3) rfl rfl rfl) rfl rfl ?_
                          refine RS.op (u := .int .i64 x13.From) rfl (ld_one Try.und3 rfl rfl rfl rfl) rfl rfl ?_
                          refine RS.op (u := .ptr 2 0 3) rfl (op_fa Try.und24 rfl (sz_of Try.inf3) rfl rfl rfl) rfl rfl ?_
                          refine RS.op (u := .int .i64 x44.To) rfl (ld_one Try.und3 rfl rfl rfl rfl) rfl rfl ?_
                          refine RS.op rfl (op_int rfl rfl (ix_lss _ _ _) rfl) rfl rfl ?_
                          refine RS.op rfl (op_move rfl) rfl rfl ?_
                          repeat refine RS.no (want0 rfl rfl rfl h46) rfl rfl ?_
                          refine RS.op (u := .bool false) rfl (op_pick0 rfl h46 rfl) rfl rfl ?_
                          refine RS.done ?_
                          repeat refine gq ?_
                          exact ⟨_, _, ⟨rfl, rfl⟩, (Nat.zero_le _), Gh.toC (n1 := 3) ⟨rfl, rfl, rfl, rfl, rfl, rfl, rfl, rfl, rfl, trivial⟩ rfl (Nat.zero_le _) (by simp)⟩
                    · skip
                      replace hF := cond_f h43 hF
                      repeat refine WPU.seq ?_
                      refine WPU.exit ?_
                      repeat refine gq ?_
                      exact ⟨_, _, ⟨hF, rfl, rfl⟩, (Nat.zero_le _), Gh.toC (n1 := 2) ⟨rfl, rfl, rfl, rfl, trivial⟩ rfl (Nat.zero_le _) (by simp)⟩
            · skip
              rcases bool_tf (decide (x13.From < p1.From)) with h15 | h15
              · skip
                replace h20 := cond_t h15 h20
                replace h20 := Option.some.inj h20
                subst h20
                refine WPU.region Try.tb_ok ?_
                refine RS.op (u := .ptr 1 0 2) rfl (op_fa Try.und24 rfl (sz_of Try.inf3) rfl rfl rfl) rfl rfl ?_
                refine RS.op (u := .int .i64 x13.From) rfl (ld_one Try.und3 rfl rfl rfl rfl) rfl rfl ?_
                refine RS.op (u := .ptr 0 0 2) rfl (op_fa Try.und24 rfl (sz_of Try.inf3) rfl rfl rfl) rfl rfl ?_
                refine RS.op (u := .int .i64 p1.From) rfl (ld_one Try.und3 rfl rfl rfl rfl) rfl rfl ?_
                refine RS.op rfl (op_int rfl rfl (ix_lss _ _ _) rfl) rfl rfl ?_
                refine RS.op rfl (op_move rfl) rfl rfl ?_
                repeat refine RS.no (want0 rfl rfl rfl h15) rfl rfl ?_
                refine RS.op (u := .bool true) rfl (op_pick1 rfl h15 rfl) rfl rfl ?_
                refine RS.op rfl (op_move rfl) rfl rfl ?_
                repeat refine RS.no (want0 rfl rfl rfl rfl) rfl rfl ?_
                refine RS.op (u := .bool true) rfl (op_pick1 rfl rfl rfl) rfl rfl ?_
                refine RS.done ?_
                repeat refine gq ?_
                exact ⟨_, _, ⟨rfl, rfl⟩, (Nat.zero_le _), Gh.toC (n1 := 2) ⟨rfl, rfl, rfl, rfl, rfl, rfl, rfl, trivial⟩ rfl (Nat.zero_le _) (by simp)⟩
              · skip
                replace h20 := cond_f h15 h20
                rcases bool_tf (decide (x13.To > p1.To)) with h16 | h16
                · skip
                  replace h20 := cond_t h16 h20
                  replace h20 := Option.some.inj h20
                  subst h20
                  refine WPU.region Try.tb_ok ?_
                  refine RS.op (u := .ptr 1 0 2) rfl (op_fa Try.und24 rfl (sz_of Try.inf3) rfl rfl rfl) rfl rfl ?_
                  refine RS.op (u := .int .i64 x13.From) rfl (ld_one Try.und3 rfl rfl rfl rfl) rfl rfl ?_
                  refine RS.op (u := .ptr 0 0 2) rfl (op_fa Try.und24 rfl (sz_of Try.inf3) rfl rfl rfl) rfl rfl ?_
                  refine RS.op (u := .int .i64 p1.From) rfl (ld_one Try.und3 rfl rfl rfl rfl) rfl rfl ?_
                  refine RS.op rfl (op_int rfl rfl (ix_lss _ _ _) rfl) rfl rfl ?_
                  refine RS.op rfl (op_move rfl) rfl rfl ?_
                  refine RS.op (u := .ptr 1 0 3) (want1 rfl rfl rfl h15) (op_fa Try.und24 rfl (sz_of Try.inf3) rfl rfl rfl) rfl rfl ?_
                  refine RS.op (u := .int .i64 x13.To) (want1 rfl rfl rfl h15) (ld_one Try.und3 rfl rfl rfl rfl) rfl rfl ?_
                  refine RS.op (u := .ptr 0 0 3) (want1 rfl rfl rfl h15) (op_fa Try.und24 rfl (sz_of Try.inf3) rfl rfl rfl) rfl rfl ?_
                  refine RS.op (u := .int .i64 p1.To) (want1 rfl rfl rfl h15) (ld_one Try.und3 rfl rfl rfl rfl) rfl rfl ?_
                  refine RS.op (want1 rfl rfl rfl h15) (op_int rfl rfl (ix_gtr _ _ _) rfl) rfl rfl ?_
                  refine RS.op (u := .bool (decide (x13.To > p1.To))) rfl (op_pick0 rfl h15 rfl) rfl rfl ?_
                  refine RS.op rfl (op_move rfl) rfl rfl ?_
                  repeat refine RS.no (want0 rfl rfl rfl h16) rfl rfl ?_
                  refine RS.op (u := .bool true) rfl (op_pick1 rfl h16 rfl) rfl rfl ?_
                  refine RS.done ?_
                  repeat refine gq ?_
                  exact ⟨_, _, ⟨rfl, rfl⟩, (Nat.zero_le _), Gh.toC (n1 := 2) ⟨rfl, rfl, rfl, rfl, rfl, rfl, rfl, trivial⟩ rfl (Nat.zero_le _) (by simp)⟩
                · skip
                  replace h20 := cond_f h16 h20
                  obtain ⟨r17, h18, h20⟩ := bindO_some h20
                  replace h20 := Option.some.inj h20
                  subst h20
                  refine WPU.region Try.tb_ok ?_
                  refine RS.op (u := .ptr 1 0 2) rfl (op_fa Try.und24 rfl (sz_of Try.inf3) rfl rfl rfl) rfl rfl ?_
                  refine RS.op (u := .int .i64 x13.From) rfl (ld_one Try.und3 rfl rfl rfl rfl) rfl rfl ?_
                  refine RS.op (u := .ptr 0 0 2) rfl (op_fa Try.und24 rfl (sz_of Try.inf3) rfl rfl rfl) rfl rfl ?_
                  refine RS.op (u := .int .i64 p1.From) rfl (ld_one Try.und3 rfl rfl rfl rfl) rfl rfl ?_
                  refine RS.op rfl (op_int rfl rfl (ix_lss _ _ _) rfl) rfl rfl ?_
                  refine RS.op rfl (op_move rfl) rfl rfl ?_
                  refine RS.op (u := .ptr 1 0 3) (want1 rfl rfl rfl h15) (op_fa Try.und24 rfl (sz_of Try.inf3) rfl rfl rfl) rfl rfl ?_
                  refine RS.op (u := .int .i64 x13.To) (want1 rfl rfl rfl h15) (ld_one Try.und3 rfl rfl rfl rfl) rfl rfl ?_
                  refine RS.op (u := .ptr 0 0 3) (want1 rfl rfl rfl h15) (op_fa Try.und24 rfl (sz_of Try.inf3) rfl rfl rfl) rfl rfl ?_
                  refine RS.op (u := .int .i64 p1.To) (want1 rfl rfl rfl h15) (ld_one Try.und3 rfl rfl rfl rfl) rfl rfl ?_
                  refine RS.op (want1 rfl rfl rfl h15) (op_int rfl rfl (ix_gtr _ _ _) rfl) rfl rfl ?_
                  refine RS.op (u := .bool (decide (x13.To > p1.To))) rfl (op_pick0 rfl h15 rfl) rfl rfl ?_
                  refine RS.op rfl (op_move rfl) rfl rfl ?_
                  refine RS.op (u := .agg (xGDeriv x13)) (want1 rfl rfl rfl h16) (ld_agg Try.und24 rfl (sz_of Try.inf24) rfl rfl rfl) rfl rfl ?_
                  refine RS.call (u := .bool r17) (args := [.agg (xGDeriv x13)]) (want1 rfl rfl rfl h16) (op_call rfl rfl Try.fn27 Try.hb27 rfl rfl) (ihS x13 r17 h18 _) rfl rfl ?_
                  refine RS.op (u := .bool (!r17)) (want1 rfl rfl rfl h16) (op_un rfl rfl rfl rfl) rfl rfl ?_
                  refine RS.op (u := .bool (!r17)) rfl (op_pick0 rfl h16 rfl) rfl rfl ?_
                  refine RS.done ?_
                  repeat refine gq ?_
                  exact ⟨_, _, ⟨rfl, rfl⟩, (Nat.zero_le _), Gh.toC (n1 := 2) ⟨rfl, rfl, rfl, rfl, rfl, rfl, rfl, trivial⟩ rfl (Nat.zero_le _) (by simp)⟩
          · skip
            replace hF := cond_f h12 hF
            repeat refine WPU.seq ?_
            refine WPU.exit ?_
            repeat refine gq ?_
            exact ⟨_, _, ⟨hF, rfl, rfl⟩, (Nat.zero_le _), Gh.toC (n1 := 1) trivial rfl (Nat.zero_le _) (by simp)⟩
theorem law50_nested_ok (n : Nat) (p1 : GDeriv) (r : Bool) (hF : law50_nested n p1 = some r) (σ : Sg) : EvU Try.prog 27 [.agg (xGDeriv p1)] σ (fun u σ' => u = .bool r ∧ σ' = σ) :=
  EvU.pure1C (law50_nested_0 n p1 r hF) σ
def law50_valid_K1   : Option (Bool) :=
  some true
def law50_valid_L1 (p1 : List GDeriv) (n : Nat) : Nat → Int → Option (Bool)
  | 0, _ => none
  | m1 + 1, z5 =>
    cond (decide (z5 < (p1.length : Int)))
      (bindO (idxO p1 z5) fun x7 =>
      bindO (bindO (law50_count n x7 40) fun r9 =>
      cond (decide (r9 > 40))
        (some true)
        (bindO (law50_nested n x7) fun r12 =>
        some (!r12))) fun b14 =>
      cond b14
        (some false)
        ((law50_valid_L1 p1 n m1) (IntKind.i64.wrap (z5 + 1))))
      (law50_valid_K1)
def law50_valid (n : Nat) (p1 : List GDeriv) : Option (Bool) :=
  law50_valid_L1 p1 n n 0
theorem law50_valid_0 (n : Nat) (p1 : List GDeriv) (r : Bool) (hF : law50_valid n p1 = some r) : EvU Try.prog 10 [.isl false (List.map cGDeriv p1)] ⟨[], 0⟩ (fun u _ => u = .bool r ∧ Bel 0 u) := by
  unfold law50_valid at hF
  refine EvU.of_body Try.tb_ok Try.fn10 rfl ?_
  refine WPU.ghost (tm' := fr 20 [(0, .isl false (List.map cGDeriv p1))]) (Gh.start (Nat.le_of_ble_eq_true rfl)) (Nat.zero_le _) ?_
  repeat refine WPU.seq ?_
  refine WPU.region Try.tb_ok ?_
  refine RS.op rfl (op_assign rfl) rfl rfl ?_
  refine RS.done ?_
  repeat refine gq ?_
  repeat refine WPU.seq ?_
  refine WPU.region Try.tb_ok ?_
  refine RS.op rfl (op_move rfl) rfl rfl ?_
  refine RS.op rfl (op_len rfl rfl rfl (len_isl cGDeriv Try.und22)) rfl rfl ?_
  refine RS.op rfl (op_move rfl) rfl rfl ?_
  refine RS.done ?_
  repeat refine gq ?_
  repeat refine WPU.seq ?_
  refine WPU.ghost (tm' := fr 20 [(5, .isl false (List.map cGDeriv p1)), (6, .int .i64 (p1.length : Int)), (7, .int .i64 0)]) (Gh.sub ⟨rfl, rfl, rfl, trivial⟩) (Nat.zero_le _) ?_
  refine WPU.loopK (fun m tm σ => ∃ z5 : Int, law50_valid_L1 p1 n m z5 = some r ∧ tm = fr 20 [(5, .isl false (List.map cGDeriv p1)), (6, .int .i64 (p1.length : Int)), (7, .int .i64 z5)] ∧ σ = ⟨[], 0⟩) (fun tm σ => law50_valid_K1 = some r ∧ tm = fr 20 [] ∧ σ = ⟨[], 0⟩) n ⟨0, hF, rfl, rfl⟩ ?_ ?_
  · skip
    rintro _ _ ⟨hF, rfl, rfl⟩
    unfold law50_valid_K1 at hF
    repeat refine gq ?_
    repeat refine WPU.seq ?_
    refine WPU.region Try.tb_ok ?_
    refine RS.op rfl (op_assign rfl) rfl rfl ?_
    refine RS.done ?_
    repeat refine gq ?_
    repeat refine WPU.seq ?_
    refine WPU.ret ?_
    repeat refine gq ?_
    have hr := Option.some.inj hF
    subst hr
    exact ⟨.inr rfl, [.bool true], res_t rfl (res_n), .bool true, ⟨[], 0⟩, Nat.le_refl _, Gh.toR (.bool true) rfl, rfl, BU.h⟩
  · skip
    rintro m1 _ _ ⟨z5, hF, rfl, rfl⟩
    cases m1 with
    | zero => cases hF
    | succ m1 =>
      unfold law50_valid_L1 at hF
      repeat refine WPU.seq ?_
      refine WPU.region Try.tb_ok ?_
      refine RS.op rfl (op_int rfl rfl (ix_lss _ _ _) rfl) rfl rfl ?_
      refine RS.done ?_
      repeat refine gq ?_
      repeat refine WPU.seq ?_
      refine WPU.condS (t := (decide (z5 < (p1.length : Int)))) rfl (fun h6 => ?_) (fun h6 => ?_)
      · skip
        replace hF := cond_t h6 hF
        repeat refine WPU.seq ?_
        refine WPU.skip ?_
        repeat refine gq ?_
        repeat refine WPU.seq ?_
        refine WPU.block ?_
        repeat refine WPU.seq ?_
        obtain ⟨x7, h8, hF⟩ := bindO_some hF
        refine WPU.region Try.tb_ok ?_
        refine RS.op (u := .iptr (xGDeriv x7)) rfl (op_ia rfl rfl (ia_isl cGDeriv Try.und22 (sz_of Try.inf24) len_cGDeriv h8 (cGDeriv_eq x7))) rfl rfl ?_
        refine RS.op (u := .agg (xGDeriv x7)) rfl (li_agg Try.und24 rfl (sz_of Try.inf24) rfl rfl) rfl rfl ?_
        refine RS.op (u := .ptr 0 0 0) (σ' := ⟨[(0, .row [.int .i64 0, .str [], .int .i64 0, .int .i64 0, .nils] 24)], 1⟩) rfl (op_alloc Try.inf24 rfl rfl) rfl rfl ?_
        refine RS.opn (u := .junk) (σ' := ⟨[(0, .row (xGDeriv x7) 24)], 1⟩) rfl (op_store (sz_of Try.inf24) rfl rfl rfl rfl rfl rfl rfl rfl) rfl ?_
        refine RS.done ?_
        repeat refine gq ?_
        repeat refine WPU.seq ?_
        obtain ⟨b14, h15, hF⟩ := bindO_some hF
        refine WPU.joinK (fun tm σ => tm = fr 20 [(5, .isl false (List.map cGDeriv p1)), (6, .int .i64 (p1.length : Int)), (7, .int .i64 z5), (18, .bool b14)] ∧ σ = ⟨[(0, .row (xGDeriv x7) 24)], 1⟩) ?_ ?_
        · skip
          rintro _ _ ⟨rfl, rfl⟩
          repeat refine gq ?_
          repeat refine WPU.seq ?_
          refine WPU.condS (t := b14) rfl (fun h16 => ?_) (fun h16 => ?_)
          · skip
            replace hF := cond_t h16 hF
            repeat refine WPU.seq ?_
            refine WPU.region Try.tb_ok ?_
            refine RS.op rfl (op_assign rfl) rfl rfl ?_
            refine RS.done ?_
            repeat refine gq ?_
            repeat refine WPU.seq ?_
            refine WPU.ret ?_
            repeat refine gq ?_
            have hr := Option.some.inj hF
            subst hr
            exact ⟨.inr rfl, [.bool false], res_t rfl (res_n), .bool false, ⟨[], 0⟩, Nat.le_refl _, Gh.toR (.bool false) rfl, rfl, BU.h⟩
          · skip
            replace hF := cond_f h16 hF
            repeat refine WPU.seq ?_
            refine WPU.skip ?_
            repeat refine gq ?_
            repeat refine WPU.seq ?_
            refine WPU.region Try.tb_ok ?_
            refine RS.op rfl (op_int rfl rfl (ix_add _ _ _) rfl) rfl rfl ?_
            refine RS.op rfl (op_move rfl) rfl rfl ?_
            refine RS.done ?_
            repeat refine gq ?_
            exact ⟨m1, _, _, Nat.lt_succ_self _, ⟨(IntKind.i64.wrap (z5 + 1)), hF, rfl, rfl⟩, (Nat.zero_le _), Gh.toC (n1 := 0) ⟨rfl, rfl, rfl, trivial⟩ rfl (Nat.zero_le _) (by simp)⟩
        · skip
          obtain ⟨r9, h10, h15⟩ := bindO_some h15
          rcases bool_tf (decide (r9 > 40)) with h11 | h11
          · skip
            replace h15 := cond_t h11 h15
            replace h15 := Option.some.inj h15
            subst h15
            refine WPU.region Try.tb_ok ?_
            refine RS.op (u := .agg (xGDeriv x7)) rfl (ld_agg Try.und24 rfl (sz_of Try.inf24) rfl rfl rfl) rfl rfl ?_
            refine RS.call (u := .int .i64 r9) (args := [.agg (xGDeriv x7), .int .i64 40]) rfl (op_call rfl rfl Try.fn26 Try.hb26 rfl rfl) (law50_count_ok n x7 40 r9 h10 _) rfl rfl ?_
            refine RS.op rfl (op_int rfl rfl (ix_gtr _ _ _) rfl) rfl rfl ?_
            refine RS.op rfl (op_move rfl) rfl rfl ?_
            repeat refine RS.no (want0 rfl rfl rfl h11) rfl rfl ?_
            refine RS.op (u := .bool true) rfl (op_pick1 rfl h11 rfl) rfl rfl ?_
            refine RS.done ?_
            repeat refine gq ?_
            exact ⟨_, _, ⟨rfl, rfl⟩, (Nat.zero_le _), Gh.toC (n1 := 1) ⟨rfl, rfl, rfl, rfl, trivial⟩ rfl (Nat.zero_le _) (by simp)⟩
          · skip
            replace h15 := cond_f h11 h15
            obtain ⟨r12, h13, h15⟩ := bindO_some h15
            replace h15 := Option.some.inj h15
            subst h15
            refine WPU.region Try.tb_ok ?_
            refine RS.op (u := .agg (xGDeriv x7)) rfl (ld_agg Try.und24 rfl (sz_of Try.inf24) rfl rfl rfl) rfl rfl ?_
            refine RS.call (u := .int .i64 r9) (args := [.agg (xGDeriv x7), .int .i64 40]) rfl (op_call rfl rfl Try.fn26 Try.hb26 rfl rfl) (law50_count_ok n x7 40 r9 h10 _) rfl rfl ?_
            refine RS.op rfl (op_int rfl rfl (ix_gtr _ _ _) rfl) rfl rfl ?_
            refine RS.op rfl (op_move rfl) rfl rfl ?_
            refine RS.op (u := .agg (xGDeriv x7)) (want1 rfl rfl rfl h11) (ld_agg Try.und24 rfl (sz_of Try.inf24) rfl rfl rfl) rfl rfl ?_
            refine RS.call (u := .bool r12) (args := [.agg (xGDeriv x7)]) (want1 rfl rfl rfl h11) (op_call rfl rfl Try.fn27 Try.hb27 rfl rfl) (law50_nested_ok n x7 r12 h13 _) rfl rfl ?_
            refine RS.op (u := .bool (!r12)) (want1 rfl rfl rfl h11) (op_un rfl rfl rfl rfl) rfl rfl ?_
            refine RS.op (u := .bool (!r12)) rfl (op_pick0 rfl h11 rfl) rfl rfl ?_
            refine RS.done ?_
            repeat refine gq ?_
            exact ⟨_, _, ⟨rfl, rfl⟩, (Nat.zero_le _), Gh.toC (n1 := 1) ⟨rfl, rfl, rfl, rfl, trivial⟩ rfl (Nat.zero_le _) (by simp)⟩
      · skip
        replace hF := cond_f h6 hF
        repeat refine WPU.seq ?_
        refine WPU.exit ?_
        repeat refine gq ?_
        exact ⟨_, _, ⟨hF, rfl, rfl⟩, (Nat.zero_le _), Gh.toC (n1 := 0) trivial rfl (Nat.zero_le _) (by simp)⟩
def ref50_before (n : Nat) (p1 : GBracket) (p2 : GBracket) : Option (Bool) :=
  cond (p1.From != p2.From)
    (some (decide (p1.From < p2.From)))
    (cond (p1.To != p2.To)
      (some (decide (p1.To < p2.To)))
      (some (bytesLt p1.Name p2.Name)))
theorem ref50_before_0 (n : Nat) (p1 : GBracket) (p2 : GBracket) (r : Bool) (hF : ref50_before n p1 p2 = some r) : EvU Try.prog 48 [.agg (cGBracket p1), .agg (cGBracket p2)] ⟨[], 0⟩ (fun u _ => u = .bool r ∧ Bel 0 u) := by
  unfold ref50_before at hF
  refine EvU.of_body Try.tb_ok Try.fn48 rfl ?_
  refine WPU.ghost (tm' := fr 30 [(0, .agg (cGBracket p1)), (1, .agg (cGBracket p2))]) (Gh.start (Nat.le_of_ble_eq_true rfl)) (Nat.zero_le _) ?_
  repeat refine WPU.seq ?_
  refine WPU.region Try.tb_ok ?_
  refine RS.op (u := .ptr 0 0 0) (σ' := ⟨[(0, .row (cGBracket p1) 53)], 1⟩) rfl (op_box rfl rfl rfl) rfl rfl ?_
  refine RS.op (u := .ptr 1 0 0) (σ' := ⟨[(1, .row (cGBracket p2) 53), (0, .row (cGBracket p1) 53)], 2⟩) rfl (op_box rfl rfl rfl) rfl rfl ?_
  refine RS.op rfl (op_assign rfl) rfl rfl ?_
  refine RS.done ?_
  repeat refine gq ?_
  repeat refine WPU.seq ?_
  refine WPU.region Try.tb_ok ?_
  refine RS.op (u := .ptr 0 0 1) rfl (op_fa Try.und53 rfl (sz_of Try.inf3) rfl rfl rfl) rfl rfl ?_
  refine RS.op (u := .int .i64 p1.From) rfl (ld_one Try.und3 rfl rfl rfl rfl) rfl rfl ?_
  refine RS.op (u := .ptr 1 0 1) rfl (op_fa Try.und53 rfl (sz_of Try.inf3) rfl rfl rfl) rfl rfl ?_
  refine RS.op (u := .int .i64 p2.From) rfl (ld_one Try.und3 rfl rfl rfl rfl) rfl rfl ?_
  refine RS.op rfl (op_int rfl rfl (ix_neq _ _ _) rfl) rfl rfl ?_
  refine RS.done ?_
  repeat refine gq ?_
  repeat refine WPU.seq ?_
  refine WPU.condS (t := (p1.From != p2.From)) rfl (fun h3 => ?_) (fun h3 => ?_)
  · skip
    replace hF := cond_t h3 hF
    repeat refine WPU.seq ?_
    refine WPU.region Try.tb_ok ?_
    refine RS.op (u := .ptr 0 0 1) rfl (op_fa Try.und53 rfl (sz_of Try.inf3) rfl rfl rfl) rfl rfl ?_
    refine RS.op (u := .int .i64 p1.From) rfl (ld_one Try.und3 rfl rfl rfl rfl) rfl rfl ?_
    refine RS.op (u := .ptr 1 0 1) rfl (op_fa Try.und53 rfl (sz_of Try.inf3) rfl rfl rfl) rfl rfl ?_
    refine RS.op (u := .int .i64 p2.From) rfl (ld_one Try.und3 rfl rfl rfl rfl) rfl rfl ?_
    refine RS.op rfl (op_int rfl rfl (ix_lss _ _ _) rfl) rfl rfl ?_
    refine RS.op rfl (op_assign rfl) rfl rfl ?_
    refine RS.done ?_
    repeat refine gq ?_
    repeat refine WPU.seq ?_
    refine WPU.ret ?_
    repeat refine gq ?_
    have hr := Option.some.inj hF
    subst hr
    exact ⟨.inr rfl, [.bool (decide (p1.From < p2.From))], res_t rfl (res_n), .bool (decide (p1.From < p2.From)), ⟨[], 0⟩, Nat.le_refl _, Gh.toR (.bool (decide (p1.From < p2.From))) rfl, rfl, BU.h⟩
  · skip
    replace hF := cond_f h3 hF
    repeat refine WPU.seq ?_
    refine WPU.skip ?_
    repeat refine gq ?_
    repeat refine WPU.seq ?_
    refine WPU.region Try.tb_ok ?_
    refine RS.op (u := .ptr 0 0 2) rfl (op_fa Try.und53 rfl (sz_of Try.inf3) rfl rfl rfl) rfl rfl ?_
    refine RS.op (u := .int .i64 p1.To) rfl (ld_one Try.und3 rfl rfl rfl rfl) rfl rfl ?_
    refine RS.op (u := .ptr 1 0 2) rfl (op_fa Try.und53 rfl (sz_of Try.inf3) rfl rfl rfl) rfl rfl ?_
    refine RS.op (u := .int .i64 p2.To) rfl (ld_one Try.und3 rfl rfl rfl rfl) rfl rfl ?_
    refine RS.op rfl (op_int rfl rfl (ix_neq _ _ _) rfl) rfl rfl ?_
    refine RS.done ?_
    repeat refine gq ?_
    repeat refine WPU.seq ?_
    refine WPU.condS (t := (p1.To != p2.To)) rfl (fun h4 => ?_) (fun h4 => ?_)
    · skip
      replace hF := cond_t h4 hF
      repeat refine WPU.seq ?_
      refine WPU.region Try.tb_ok ?_
      refine RS.op (u := .ptr 0 0 2) rfl (op_fa Try.und53 rfl (sz_of Try.inf3) rfl rfl rfl) rfl rfl ?_
      refine RS.op (u := .int .i64 p1.To) rfl (ld_one Try.und3 rfl rfl rfl rfl) rfl rfl ?_
      refine RS.op (u := .ptr 1 0 2) rfl (op_fa Try.und53 rfl (sz_of Try.inf3) rfl rfl rfl) rfl rfl ?_
      refine RS.op (u := .int .i64 p2.To) rfl (ld_one Try.und3 rfl rfl rfl rfl) rfl rfl ?_
      refine RS.op rfl (op_int rfl rfl (ix_lss _ _ _) rfl) rfl rfl ?_
      refine RS.op rfl (op_assign rfl) rfl rfl ?_
      refine RS.done ?_
      repeat refine gq ?_
      repeat refine WPU.seq ?_
      refine WPU.ret ?_
      repeat refine gq ?_
      have hr := Option.some.inj hF
      subst hr
      exact ⟨.inr rfl, [.bool (decide (p1.To < p2.To))], res_t rfl (res_n), .bool (decide (p1.To < p2.To)), ⟨[], 0⟩, Nat.le_refl _, Gh.toR (.bool (decide (p1.To < p2.To))) rfl, rfl, BU.h⟩
    · skip
      replace hF := cond_f h4 hF
      repeat refine WPU.seq ?_
      refine WPU.skip ?_
      repeat refine gq ?_
      repeat refine WPU.seq ?_
      refine WPU.region Try.tb_ok ?_
      refine RS.op (u := .ptr 0 0 0) rfl (op_fa Try.und53 rfl (sz_of Try.inf9) rfl rfl rfl) rfl rfl ?_
      refine RS.op (u := .str p1.Name) rfl (ld_one Try.und9 rfl rfl rfl rfl) rfl rfl ?_
      refine RS.op (u := .ptr 1 0 0) rfl (op_fa Try.und53 rfl (sz_of Try.inf9) rfl rfl rfl) rfl rfl ?_
      refine RS.op (u := .str p2.Name) rfl (ld_one Try.und9 rfl rfl rfl rfl) rfl rfl ?_
      refine RS.op (u := .bool (bytesLt p1.Name p2.Name)) rfl (op_str rfl rfl rfl rfl) rfl rfl ?_
      refine RS.op rfl (op_assign rfl) rfl rfl ?_
      refine RS.done ?_
      repeat refine gq ?_
      repeat refine WPU.seq ?_
      refine WPU.ret ?_
      repeat refine gq ?_
      have hr := Option.some.inj hF
      subst hr
      exact ⟨.inr rfl, [.bool (bytesLt p1.Name p2.Name)], res_t rfl (res_n), .bool (bytesLt p1.Name p2.Name), ⟨[], 0⟩, Nat.le_refl _, Gh.toR (.bool (bytesLt p1.Name p2.Name)) rfl, rfl, BU.h⟩
theorem ref50_before_ok (n : Nat) (p1 : GBracket) (p2 : GBracket) (r : Bool) (hF : ref50_before n p1 p2 = some r) (σ : Sg) : EvU Try.prog 48 [.agg (cGBracket p1), .agg (cGBracket p2)] σ (fun u σ' => u = .bool r ∧ σ' = σ) :=
  EvU.pure1C (ref50_before_0 n p1 p2 r hF) σ
def ref50_put_K1 (p1 : List GBracket) (p2 : GBracket) (z9 : Int) : Option ((List GBracket)) :=
  bindO (cutO p1 0 z9) fun l10 =>
  needO (l10.length * 32 ≤ 140737488355328 ∧ l10.length ≤ 140737488355328) (
  needO ((l10.length + 1) * 32 ≤ 140737488355328 ∧ l10.length + 1 ≤ 140737488355328) (
  bindO (cutO p1 z9 (p1.length : Int)) fun l16 =>
  needO (((l10 ++ [p2]).length + l16.length) * 32 ≤ 140737488355328 ∧ (l10 ++ [p2]).length + l16.length ≤ 140737488355328) (
  some ((l10 ++ [p2]) ++ l16))))
def ref50_put_L1 (p1 : List GBracket) (p2 : GBracket) (n : Nat) : Nat → Int → Option ((List GBracket))
  | 0, _ => none
  | m1 + 1, z8 =>
    bindO (cond (decide (z8 > 0))
      (bindO (idxO p1 (IntKind.i64.wrap (z8 - 1))) fun x22 =>
      bindO (ref50_before n p2 x22) fun r24 =>
      some r24)
      (some false)) fun b26 =>
    cond b26
      ((ref50_put_L1 p1 p2 n m1) (IntKind.i64.wrap (z8 - 1)))
      (ref50_put_K1 p1 p2 z8)
def ref50_put (n : Nat) (p1 : List GBracket) (p2 : GBracket) : Option ((List GBracket)) :=
  ref50_put_L1 p1 p2 n n (p1.length : Int)
theorem ref50_put_0 (n : Nat) (p1 : List GBracket) (p2 : GBracket) (r : (List GBracket)) (hF : ref50_put n p1 p2 = some r) : EvU Try.prog 32 [.isl false (List.map cGBracket p1), .agg (cGBracket p2)] ⟨[], 0⟩ (fun u _ => u = .isl false (List.map cGBracket r) ∧ Bel 0 u) := by
  unfold ref50_put at hF
  refine EvU.of_body Try.tb_ok Try.fn32 rfl ?_
  refine WPU.ghost (tm' := fr 36 [(0, .isl false (List.map cGBracket p1)), (1, .agg (cGBracket p2))]) (Gh.start (Nat.le_of_ble_eq_true rfl)) (Nat.zero_le _) ?_
  repeat refine WPU.seq ?_
  refine WPU.region Try.tb_ok ?_
  refine RS.op (u := .ptr 0 0 0) (σ' := ⟨[(0, .row (cGBracket p2) 53)], 1⟩) rfl (op_box rfl rfl rfl) rfl rfl ?_
  refine RS.op rfl (op_assign rfl) rfl rfl ?_
  refine RS.done ?_
  repeat refine gq ?_
  repeat refine WPU.seq ?_
  refine WPU.region Try.tb_ok ?_
  refine RS.op rfl (op_move rfl) rfl rfl ?_
  refine RS.op rfl (op_len rfl rfl rfl (len_isl cGBracket Try.und28)) rfl rfl ?_
  refine RS.op rfl (op_assign rfl) rfl rfl ?_
  refine RS.done ?_
  repeat refine gq ?_
  repeat refine WPU.seq ?_
  refine WPU.ghost (tm' := fr 36 [(0, .isl false (List.map cGBracket p1)), (3, .ptr 0 0 0), (5, .int .i64 (p1.length : Int))]) (Gh.sub ⟨rfl, rfl, rfl, trivial⟩) (Nat.zero_le _) ?_
  refine WPU.loopK (fun m tm σ => ∃ z8 : Int, ref50_put_L1 p1 p2 n m z8 = some r ∧ tm = fr 36 [(0, .isl false (List.map cGBracket p1)), (3, .ptr 0 0 0), (5, .int .i64 z8)] ∧ σ = ⟨[(0, .row (cGBracket p2) 53)], 1⟩) (fun tm σ => ∃ z9 : Int, ref50_put_K1 p1 p2 z9 = some r ∧ tm = fr 36 [(0, .isl false (List.map cGBracket p1)), (3, .ptr 0 0 0), (5, .int .i64 z9)] ∧ σ = ⟨[(0, .row (cGBracket p2) 53)], 1⟩) n ⟨(p1.length : Int), hF, rfl, rfl⟩ ?_ ?_
  · skip
    rintro _ _ ⟨z9, hF, rfl, rfl⟩
    unfold ref50_put_K1 at hF
    repeat refine gq ?_
    repeat refine WPU.seq ?_
    obtain ⟨l10, h11, hF⟩ := bindO_some hF
    obtain ⟨h12, h13⟩ := cut_hi cGBracket .i64 h11
    obtain ⟨h14, hF⟩ := needO_some hF
    refine WPU.region Try.tb_ok ?_
    refine RS.op (u := .sl 1 0 0 0) (σ' := ⟨[(1, .row [] 53), (0, .row (cGBracket p2) 53)], 2⟩) rfl (op_bsl Try.und28 Try.inf53 rfl rfl rfl rfl rfl rfl rfl) rfl rfl ?_
    repeat refine RS.op rfl (op_move rfl) rfl rfl ?_
    refine RS.op (u := .isl false (List.map cGBracket l10)) rfl (op_slice rfl em_n (em_s rfl) em_n (sl_isl cGBracket Try.und28 (sz_of Try.inf53) len_cGBracket h12 h13)) rfl rfl ?_
    refine RS.op (u := .vl 2 0 0 l10.length) (σ' := ⟨[(2, .vec (List.map cGBracket l10).flatten 53 3 0), (1, .row [] 53), (0, .row (cGBracket p2) 53)], 3⟩) rfl (op_app rfl rfl rfl rfl (app_emp cGBracket l10 Try.und28 Try.und28 Try.inf53 rfl rfl rfl (src_isl cGBracket len_cGBracket) h14)) rfl rfl ?_
    refine RS.op rfl (op_assign rfl) rfl rfl ?_
    refine RS.done ?_
    repeat refine gq ?_
    repeat refine WPU.seq ?_
    obtain ⟨h15, hF⟩ := needO_some hF
    refine WPU.region Try.tb_ok ?_
    refine RS.op rfl (op_move rfl) rfl rfl ?_
    refine RS.op (u := .agg (cGBracket p2)) rfl (ld_agg Try.und53 rfl (sz_of Try.inf53) rfl rfl rfl) rfl rfl ?_
    refine RS.op (u := .sl 3 0 1 1) (σ' := ⟨[(3, .row (cGBracket p2) 53), (2, .vec (List.map cGBracket l10).flatten 53 3 0), (1, .row [] 53), (0, .row (cGBracket p2) 53)], 4⟩) rfl (op_bsl Try.und28 Try.inf53 rfl rfl rfl rfl rfl rfl rfl) rfl rfl ?_
    refine RS.op (u := .vl 2 1 0 ((l10 ++ [p2]).length)) (σ' := ⟨[(3, .row (cGBracket p2) 53), (2, .vec (List.map cGBracket (l10 ++ [p2])).flatten 53 3 1), (1, .row [] 53), (0, .row (cGBracket p2) 53)], 4⟩) rfl (op_app rfl rfl rfl rfl (app_vl cGBracket ([p2]) Try.und28 Try.und28 Try.inf53 rfl len_cGBracket rfl (src_row cGBracket [p2] rfl rfl rfl rfl) h15)) rfl rfl ?_
    refine RS.op rfl (op_assign rfl) rfl rfl ?_
    refine RS.done ?_
    repeat refine gq ?_
    repeat refine WPU.seq ?_
    obtain ⟨l16, h17, hF⟩ := bindO_some hF
    obtain ⟨h18, h19⟩ := cut_lo cGBracket .i64 h17
    obtain ⟨h20, hF⟩ := needO_some hF
    refine WPU.region Try.tb_ok ?_
    repeat refine RS.op rfl (op_move rfl) rfl rfl ?_
    refine RS.op (u := .isl false (List.map cGBracket l16)) rfl (op_slice rfl (em_s rfl) em_n em_n (sl_isl cGBracket Try.und28 (sz_of Try.inf53) len_cGBracket h18 h19)) rfl rfl ?_
    refine RS.op (u := .vl 2 2 0 (((l10 ++ [p2]) ++ l16).length)) (σ' := ⟨[(3, .row (cGBracket p2) 53), (2, .vec (List.map cGBracket ((l10 ++ [p2]) ++ l16)).flatten 53 3 2), (1, .row [] 53), (0, .row (cGBracket p2) 53)], 4⟩) rfl (op_app rfl rfl rfl rfl (app_vl cGBracket l16 Try.und28 Try.und28 Try.inf53 rfl len_cGBracket rfl (src_isl cGBracket len_cGBracket) h20)) rfl rfl ?_
    refine RS.op rfl (op_assign rfl) rfl rfl ?_
    refine RS.done ?_
    repeat refine gq ?_
    repeat refine WPU.seq ?_
    refine WPU.ret ?_
    repeat refine gq ?_
    have hr := Option.some.inj hF
    subst hr
    exact ⟨.inr rfl, [.vl 2 2 0 (((l10 ++ [p2]) ++ l16).length)], res_t rfl (res_n), .isl false (List.map cGBracket ((l10 ++ [p2]) ++ l16)), ⟨[], 0⟩, Nat.le_refl _, Gh.trans (Gh.fz (tm' := [.isl false (List.map cGBracket ((l10 ++ [p2]) ++ l16))]) (h' := [(3, .row (cGBracket p2) 53), (1, .row [] 53), (0, .row (cGBracket p2) 53)]) 2 (.vec (List.map cGBracket ((l10 ++ [p2]) ++ l16)).flatten 53 3 2) 3 rfl (by simp) (by simp only [oneU, fzL_nil, fzL_cons, fz_int, fz_bool, fz_str, fz_nils, fz_nilp, fz_nilm, fz_nilf, fz_junk, fz_isl, fz_map, fz_agg, fz_tup, fz_fn, junkT, fz_vl len_cGBracket, fz_cGBracket]) (by simp only [fzH, fzB, Nat.beq, cond_true, cond_false, oneU, fzL_nil, fzL_cons, fz_int, fz_bool, fz_str, fz_nils, fz_nilp, fz_nilm, fz_nilf, fz_junk, fz_isl, fz_map, fz_agg, fz_tup, fz_fn, junkT, fz_vl len_cGBracket, fz_cGBracket])) (Gh.toR (.isl false (List.map cGBracket ((l10 ++ [p2]) ++ l16))) rfl), rfl, BU.h⟩
  · skip
    rintro m1 _ _ ⟨z8, hF, rfl, rfl⟩
    cases m1 with
    | zero => cases hF
    | succ m1 =>
      unfold ref50_put_L1 at hF
      repeat refine WPU.seq ?_
      obtain ⟨b26, h27, hF⟩ := bindO_some hF
      refine WPU.joinK (fun tm σ => tm = fr 36 [(0, .isl false (List.map cGBracket p1)), (3, .ptr 0 0 0), (5, .int .i64 z8), (19, .bool b26)] ∧ σ = ⟨[(0, .row (cGBracket p2) 53)], 1⟩) ?_ ?_
      · skip
        rintro _ _ ⟨rfl, rfl⟩
        repeat refine gq ?_
        repeat refine WPU.seq ?_
        refine WPU.condS (t := b26) rfl (fun h28 => ?_) (fun h28 => ?_)
        · skip
          replace hF := cond_t h28 hF
          repeat refine WPU.seq ?_
          refine WPU.skip ?_
          repeat refine gq ?_
          repeat refine WPU.seq ?_
          refine WPU.block ?_
          repeat refine WPU.seq ?_
          refine WPU.region Try.tb_ok ?_
          refine RS.op rfl (op_move rfl) rfl rfl ?_
          refine RS.op rfl (op_int rfl rfl (ix_sub _ _ _) rfl) rfl rfl ?_
          refine RS.op rfl (op_assign rfl) rfl rfl ?_
          refine RS.done ?_
          repeat refine gq ?_
          exact ⟨m1, _, _, Nat.lt_succ_self _, ⟨(IntKind.i64.wrap (z8 - 1)), hF, rfl, rfl⟩, (Nat.zero_le _), Gh.toC (n1 := 1) ⟨rfl, rfl, rfl, trivial⟩ rfl (Nat.zero_le _) (by simp)⟩
        · skip
          replace hF := cond_f h28 hF
          repeat refine WPU.seq ?_
          refine WPU.exit ?_
          repeat refine gq ?_
          exact ⟨_, _, ⟨z8, hF, rfl, rfl⟩, (Nat.zero_le _), Gh.toC (n1 := 1) ⟨rfl, rfl, rfl, trivial⟩ rfl (Nat.zero_le _) (by simp)⟩
      · skip
        rcases bool_tf (decide (z8 > 0)) with h21 | h21
        · skip
          replace h27 := cond_t h21 h27
          obtain ⟨x22, h23, h27⟩ := bindO_some h27
          obtain ⟨r24, h25, h27⟩ := bindO_some h27
          replace h27 := Option.some.inj h27
          subst h27
          refine WPU.drawE Try.tb_ok [] (by kernel_rfl) ?_
          refine RD.look rfl (op_move rfl) rfl rfl ?_
          refine RD.look rfl (op_int rfl rfl (ix_gtr _ _ _) rfl) rfl rfl ?_
          refine RD.look rfl (op_move rfl) rfl rfl ?_
          refine RD.look (u := .agg (cGBracket p2)) (want1 rfl rfl rfl h21) (ld_agg Try.und53 rfl (sz_of Try.inf53) rfl rfl rfl) rfl rfl ?_
          refine RD.look (want1 rfl rfl rfl h21) (op_move rfl) rfl rfl ?_
          refine RD.look (want1 rfl rfl rfl h21) (op_move rfl) rfl rfl ?_
          refine RD.look (want1 rfl rfl rfl h21) (op_int rfl rfl (ix_sub _ _ _) rfl) rfl rfl ?_
          refine RD.look (u := .iptr (cGBracket x22)) (want1 rfl rfl rfl h21) (op_ia rfl rfl (ia_isl cGBracket Try.und28 (sz_of Try.inf53) len_cGBracket h23 rfl)) rfl rfl ?_
          refine RD.look (u := .agg (cGBracket x22)) (want1 rfl rfl rfl h21) (li_agg Try.und53 rfl (sz_of Try.inf53) rfl rfl) rfl rfl ?_
          refine RD.free (u := .bool r24) (args := [.agg (cGBracket p2), .agg (cGBracket x22)]) (want1 rfl rfl rfl h21) (op_call rfl rfl Try.fn48 Try.hb48 rfl rfl) (fun s => ref50_before_ok n p2 x22 r24 h25 s) rfl rfl ?_
          refine RD.look (u := .bool r24) rfl (op_pick1 rfl h21 rfl) rfl rfl ?_
          refine RD.done ⟨by kernel_rfl, trivial, ?_⟩
          repeat refine gq ?_
          exact ⟨_, _, ⟨rfl, rfl⟩, (Nat.zero_le _), Gh.toC (n1 := 1) ⟨rfl, rfl, rfl, rfl, trivial⟩ rfl (Nat.zero_le _) (by simp)⟩
        · skip
          replace h27 := cond_f h21 h27
          replace h27 := Option.some.inj h27
          subst h27
          refine WPU.drawE Try.tb_ok [] (by kernel_rfl) ?_
          refine RD.look rfl (op_move rfl) rfl rfl ?_
          refine RD.look rfl (op_int rfl rfl (ix_gtr _ _ _) rfl) rfl rfl ?_
          refine RD.look rfl (op_move rfl) rfl rfl ?_
          repeat refine RD.no (want0 rfl rfl rfl h21) rfl rfl ?_
          refine RD.look (u := .bool false) rfl (op_pick0 rfl h21 rfl) rfl rfl ?_
          refine RD.done ⟨by kernel_rfl, trivial, ?_⟩
          repeat refine gq ?_
          exact ⟨_, _, ⟨rfl, rfl⟩, (Nat.zero_le _), Gh.toC (n1 := 1) ⟨rfl, rfl, rfl, rfl, trivial⟩ rfl (Nat.zero_le _) (by simp)⟩
theorem ref50_put_ok (n : Nat) (p1 : List GBracket) (p2 : GBracket) (r : (List GBracket)) (hF : ref50_put n p1 p2 = some r) (σ : Sg) : EvU Try.prog 32 [.isl false (List.map cGBracket p1), .agg (cGBracket p2)] σ (fun u σ' => u = .isl false (List.map cGBracket r) ∧ σ' = σ) :=
  EvU.pure1C (ref50_put_0 n p1 p2 r hF) σ
def ref50_Brackets_K3 (z13 : Int) (rc2 : (List GBracket) → Int → Option ((List GBracket))) (l31 : List GBracket) : Option ((List GBracket)) :=
  rc2 l31 (IntKind.i64.wrap (z13 + 1))
def ref50_Brackets_L3 (n : Nat) (z13 : Int) (rc2 : (List GBracket) → Int → Option ((List GBracket))) (r18 : (List GBracket)) : Nat → (List GBracket) → Int → Option ((List GBracket))
  | 0, _, _ => none
  | m3 + 1, l29, z30 =>
    cond (decide (z30 < (r18.length : Int)))
      (bindO (idxO r18 z30) fun x33 =>
      bindO (ref50_put n l29 x33) fun r35 =>
      (ref50_Brackets_L3 n z13 rc2 r18 m3) r35 (IntKind.i64.wrap (z30 + 1)))
      (ref50_Brackets_K3 z13 rc2 l29)
def ref50_Brackets_K2  (l14 : List GBracket) : Option ((List GBracket)) :=
  some l14
def ref50_Brackets_L2 (p1 : GDeriv) (n : Nat) (self : GDeriv → Option ((List GBracket))) : Nat → (List GBracket) → Int → Option ((List GBracket))
  | 0, _, _ => none
  | m2 + 1, l12, z13 =>
    cond (decide (z13 < (p1.Kids.length : Int)))
      (bindO (idxO p1.Kids z13) fun x16 =>
      bindO (self x16) fun r18 =>
      ref50_Brackets_L3 n z13 (ref50_Brackets_L2 p1 n self m2) r18 n l12 0)
      (ref50_Brackets_K2 l12)
def ref50_Brackets_J1 (p1 : GDeriv) (n : Nat) (self : GDeriv → Option ((List GBracket))) (l3 : List GBracket) : Option ((List GBracket)) :=
  ref50_Brackets_L2 p1 n self n l3 0
def ref50_Brackets_b (n : Nat) (self : GDeriv → Option ((List GBracket))) (p1 : GDeriv) : Option ((List GBracket)) :=
  cond (p1.Kind == 2)
    (needO ((([] : List GBracket).length + 1) * 32 ≤ 140737488355328 ∧ ([] : List GBracket).length + 1 ≤ 140737488355328) (
    ref50_Brackets_J1 p1 n self (([] : List GBracket) ++ [(GBracket.mk p1.Name p1.From p1.To)])))
    (ref50_Brackets_J1 p1 n self ([] : List GBracket))
def ref50_Brackets : Nat → GDeriv → Option ((List GBracket))
  | 0, _ => none
  | n + 1, p1 => ref50_Brackets_b n (ref50_Brackets n) p1
theorem ref50_Brackets_0 : ∀ (n : Nat) (p1 : GDeriv) (r : (List GBracket)), ref50_Brackets n p1 = some r → EvU Try.prog 14 [.agg (xGDeriv p1)] ⟨[], 0⟩ (fun u _ => u = .isl false (List.map cGBracket r) ∧ Bel 0 u)
  | 0, p1, r, hF => by cases hF
  | n + 1, p1, r, hF => by
    have ih := ref50_Brackets_0 n
    have ihS : ∀ (p1 : GDeriv) (r : (List GBracket)), ref50_Brackets n p1 = some r → ∀ σ, EvU Try.prog 14 [.agg (xGDeriv p1)] σ (fun u σ' => u = .isl false (List.map cGBracket r) ∧ σ' = σ) := fun p1 r h σ => EvU.pure1C (ih p1 r h) σ
    unfold ref50_Brackets ref50_Brackets_b at hF
    refine EvU.of_body Try.tb_ok Try.fn14 rfl ?_
    refine WPU.ghost (tm' := fr 46 [(0, .agg (xGDeriv p1))]) (Gh.start (Nat.le_of_ble_eq_true rfl)) (Nat.zero_le _) ?_
    repeat refine WPU.seq ?_
    refine WPU.region Try.tb_ok ?_
    refine RS.op (u := .ptr 0 0 0) (σ' := ⟨[(0, .row (xGDeriv p1) 24)], 1⟩) rfl (op_box rfl rfl rfl) rfl rfl ?_
    refine RS.op rfl (op_assign rfl) rfl rfl ?_
    refine RS.done ?_
    repeat refine gq ?_
    repeat refine WPU.seq ?_
    refine WPU.region Try.tb_ok ?_
    refine RS.op rfl (op_assign rfl) rfl rfl ?_
    refine RS.done ?_
    repeat refine gq ?_
    repeat refine WPU.seq ?_
    refine WPU.region Try.tb_ok ?_
    refine RS.op (u := .ptr 0 0 0) rfl (op_fa Try.und24 rfl (sz_of Try.inf3) rfl rfl rfl) rfl rfl ?_
    refine RS.op (u := .int .i64 p1.Kind) rfl (ld_one Try.und3 rfl rfl rfl rfl) rfl rfl ?_
    refine RS.op rfl (op_int rfl rfl (ix_eql _ _ _) rfl) rfl rfl ?_
    refine RS.done ?_
    repeat refine gq ?_
    repeat refine WPU.seq ?_
    refine WPU.ghost (tm' := fr 46 [(0, .agg (xGDeriv p1)), (1, .ptr 0 0 0), (2, .nils), (3, .vl 1 0 0 (([] : List GBracket).length)), (7, .ptr 0 0 0), (8, .int .i64 p1.Kind), (9, .bool (p1.Kind == 2))]) (σ' := ⟨[(1, .vec (List.map cGBracket ([] : List GBracket)).flatten 53 3 0), (0, .row (xGDeriv p1) 24)], 2⟩) (Gh.trans (Gh.nilS 3 53 3 (by decide) (Nat.zero_le _) rfl rfl) (Gh.eqS ⟨rfl, rfl, rfl, rfl, rfl, rfl, rfl, trivial⟩ rfl)) (Nat.zero_le _) ?_
    refine WPU.joinK (fun tm σ => ∃ l3 : List GBracket, ∃ t4 : Nat, ref50_Brackets_J1 p1 n (ref50_Brackets n) l3 = some r ∧ tm = fr 46 [(1, .ptr 0 0 0), (3, .vl 1 t4 0 l3.length)] ∧ σ = ⟨[(1, .vec (List.map cGBracket l3).flatten 53 3 t4), (0, .row (xGDeriv p1) 24)], 2⟩) ?_ ?_
    · skip
      rintro _ _ ⟨l3, t4, hF, rfl, rfl⟩
      unfold ref50_Brackets_J1 at hF
      repeat refine gq ?_
      repeat refine WPU.seq ?_
      refine WPU.region Try.tb_ok ?_
      refine RS.op rfl (op_assign rfl) rfl rfl ?_
      refine RS.done ?_
      repeat refine gq ?_
      repeat refine WPU.seq ?_
      refine WPU.ghost (tm' := fr 46 [(1, .ptr 0 0 0), (3, .isl false (List.map cGBracket l3)), (4, .int .i64 0)]) (σ' := ⟨[(0, .row (xGDeriv p1) 24)], 2⟩) (Gh.trans (Gh.sub (l' := [(1, .ptr 0 0 0), (3, .vl 1 t4 0 l3.length), (4, .int .i64 0)]) ⟨rfl, rfl, rfl, trivial⟩) (Gh.fzS (l' := [(1, .ptr 0 0 0), (3, .isl false (List.map cGBracket l3)), (4, .int .i64 0)]) (h' := [(0, .row (xGDeriv p1) 24)]) 1 (.vec (List.map cGBracket l3).flatten 53 3 t4) 3 rfl (by simp) (by simp only [fzS, oneU, fzL_nil, fzL_cons, fz_int, fz_bool, fz_str, fz_nils, fz_nilp, fz_nilm, fz_nilf, fz_junk, fz_isl, fz_map, fz_agg, fz_tup, fz_fn, junkT, fz_vl len_cGBracket, fz_xGDeriv, fz_vn (show Nat.beq 0 1 = false from rfl), fz_sn (show Nat.beq 0 1 = false from rfl), fz_pn (show Nat.beq 0 1 = false from rfl)]) (by simp only [fzH, fzB, Nat.beq, cond_true, cond_false, oneU, fzL_nil, fzL_cons, fz_int, fz_bool, fz_str, fz_nils, fz_nilp, fz_nilm, fz_nilf, fz_junk, fz_isl, fz_map, fz_agg, fz_tup, fz_fn, junkT, fz_vl len_cGBracket, fz_xGDeriv, fz_vn (show Nat.beq 0 1 = false from rfl), fz_sn (show Nat.beq 0 1 = false from rfl), fz_pn (show Nat.beq 0 1 = false from rfl)]))) (Nat.zero_le _) ?_
      refine WPU.ghost (tm' := fr 46 [(1, .ptr 0 0 0), (3, .isl false (List.map cGBracket l3)), (4, .int .i64 0)]) (Gh.sub ⟨rfl, rfl, rfl, trivial⟩) (Nat.zero_le _) ?_
      refine WPU.loopK (fun m tm σ => ∃ l12 : List GBracket, ∃ z13 : Int, ref50_Brackets_L2 p1 n (ref50_Brackets n) m l12 z13 = some r ∧ tm = fr 46 [(1, .ptr 0 0 0), (3, .isl false (List.map cGBracket l12)), (4, .int .i64 z13)] ∧ σ = ⟨[(0, .row (xGDeriv p1) 24)], 2⟩) (fun tm σ => ∃ l14 : List GBracket, ref50_Brackets_K2 l14 = some r ∧ tm = fr 46 [(3, .isl false (List.map cGBracket l14))] ∧ σ = ⟨[(0, .row (xGDeriv p1) 24)], 2⟩) n ⟨l3, 0, hF, rfl, rfl⟩ ?_ ?_
      · skip
        rintro _ _ ⟨l14, hF, rfl, rfl⟩
        unfold ref50_Brackets_K2 at hF
        repeat refine gq ?_
        repeat refine WPU.seq ?_
        refine WPU.region Try.tb_ok ?_
        refine RS.op rfl (op_move rfl) rfl rfl ?_
        refine RS.op rfl (op_assign rfl) rfl rfl ?_
        refine RS.done ?_
        repeat refine gq ?_
        repeat refine WPU.seq ?_
        refine WPU.ret ?_
        repeat refine gq ?_
        have hr := Option.some.inj hF
        subst hr
        exact ⟨.inr rfl, [.isl false (List.map cGBracket l14)], res_t rfl (res_n), .isl false (List.map cGBracket l14), ⟨[], 0⟩, Nat.le_refl _, Gh.toR (.isl false (List.map cGBracket l14)) rfl, rfl, BU.h⟩
      · skip
        rintro m2 _ _ ⟨l12, z13, hF, rfl, rfl⟩
        cases m2 with
        | zero => cases hF
        | succ m2 =>
          unfold ref50_Brackets_L2 at hF
          repeat refine WPU.seq ?_
          refine WPU.region Try.tb_ok ?_
          refine RS.op rfl (op_move rfl) rfl rfl ?_
          refine RS.op (u := .ptr 0 0 4) rfl (op_fa Try.und24 rfl (sz_of Try.inf22) rfl rfl rfl) rfl rfl ?_
          refine RS.op (u := .isl false (List.map cGDeriv p1.Kids)) rfl (ld_one Try.und22 rfl rfl rfl rfl) rfl rfl ?_
          refine RS.op rfl (op_len rfl rfl rfl (len_isl cGDeriv Try.und22)) rfl rfl ?_
          refine RS.op rfl (op_int rfl rfl (ix_lss _ _ _) rfl) rfl rfl ?_
          refine RS.done ?_
          repeat refine gq ?_
          repeat refine WPU.seq ?_
          refine WPU.condS (t := (decide (z13 < (p1.Kids.length : Int)))) rfl (fun h15 => ?_) (fun h15 => ?_)
          · skip
            replace hF := cond_t h15 hF
            repeat refine WPU.seq ?_
            refine WPU.skip ?_
            repeat refine gq ?_
            repeat refine WPU.seq ?_
            refine WPU.block ?_
            repeat refine WPU.seq ?_
            obtain ⟨x16, h17, hF⟩ := bindO_some hF
            obtain ⟨r18, h19, hF⟩ := bindO_some hF
            refine WPU.region Try.tb_ok ?_
            refine RS.op (u := .ptr 0 0 4) rfl (op_fa Try.und24 rfl (sz_of Try.inf22) rfl rfl rfl) rfl rfl ?_
            refine RS.op (u := .isl false (List.map cGDeriv p1.Kids)) rfl (ld_one Try.und22 rfl rfl rfl rfl) rfl rfl ?_
            refine RS.op rfl (op_move rfl) rfl rfl ?_
            refine RS.op (u := .iptr (xGDeriv x16)) rfl (op_ia rfl rfl (ia_isl cGDeriv Try.und22 (sz_of Try.inf24) len_cGDeriv h17 (cGDeriv_eq x16))) rfl rfl ?_
            refine RS.op (u := .agg (xGDeriv x16)) rfl (li_agg Try.und24 rfl (sz_of Try.inf24) rfl rfl) rfl rfl ?_
            refine RS.call (u := .isl false (List.map cGBracket r18)) (args := [.agg (xGDeriv x16)]) rfl (op_call rfl rfl Try.fn14 Try.hb14 rfl rfl) (ihS x16 r18 h19 _) rfl rfl ?_
            refine RS.op rfl (op_assign rfl) rfl rfl ?_
            refine RS.done ?_
            repeat refine gq ?_
            repeat refine WPU.seq ?_
            refine WPU.region Try.tb_ok ?_
            refine RS.op rfl (op_assign rfl) rfl rfl ?_
            refine RS.done ?_
            repeat refine gq ?_
            repeat refine WPU.seq ?_
            refine WPU.ghost (tm' := fr 46 [(1, .ptr 0 0 0), (3, .isl false (List.map cGBracket l12)), (4, .int .i64 z13), (5, .isl false (List.map cGBracket r18)), (6, .int .i64 0)]) (Gh.sub ⟨rfl, rfl, rfl, rfl, rfl, trivial⟩) (Nat.zero_le _) ?_
            refine WPU.loopK (fun m tm σ => ∃ l29 : List GBracket, ∃ z30 : Int, ref50_Brackets_L3 n z13 (ref50_Brackets_L2 p1 n (ref50_Brackets n) m2) r18 m l29 z30 = some r ∧ tm = fr 46 [(1, .ptr 0 0 0), (3, .isl false (List.map cGBracket l29)), (4, .int .i64 z13), (5, .isl false (List.map cGBracket r18)), (6, .int .i64 z30)] ∧ σ = ⟨[(0, .row (xGDeriv p1) 24)], 2⟩) (fun tm σ => ∃ l31 : List GBracket, ref50_Brackets_K3 z13 (ref50_Brackets_L2 p1 n (ref50_Brackets n) m2) l31 = some r ∧ tm = fr 46 [(1, .ptr 0 0 0), (3, .isl false (List.map cGBracket l31)), (4, .int .i64 z13)] ∧ σ = ⟨[(0, .row (xGDeriv p1) 24)], 2⟩) n ⟨l12, 0, hF, rfl, rfl⟩ ?_ ?_
            · skip
              rintro _ _ ⟨l31, hF, rfl, rfl⟩
              unfold ref50_Brackets_K3 at hF
              repeat refine gq ?_
              repeat refine WPU.seq ?_
              refine WPU.region Try.tb_ok ?_
              refine RS.op rfl (op_move rfl) rfl rfl ?_
              refine RS.op rfl (op_int rfl rfl (ix_add _ _ _) rfl) rfl rfl ?_
              refine RS.op rfl (op_assign rfl) rfl rfl ?_
              refine RS.done ?_
              repeat refine gq ?_
              exact ⟨m2, _, _, Nat.lt_succ_self _, ⟨l31, (IntKind.i64.wrap (z13 + 1)), hF, rfl, rfl⟩, (Nat.zero_le _), Gh.toC (n1 := 2) ⟨rfl, rfl, rfl, trivial⟩ rfl (Nat.zero_le _) (by simp)⟩
            · skip
              rintro m3 _ _ ⟨l29, z30, hF, rfl, rfl⟩
              cases m3 with
              | zero => cases hF
              | succ m3 =>
                unfold ref50_Brackets_L3 at hF
                repeat refine WPU.seq ?_
                refine WPU.region Try.tb_ok ?_
                repeat refine RS.op rfl (op_move rfl) rfl rfl ?_
                refine RS.op rfl (op_len rfl rfl rfl (len_isl cGBracket Try.und28)) rfl rfl ?_
                refine RS.op rfl (op_int rfl rfl (ix_lss _ _ _) rfl) rfl rfl ?_
                refine RS.done ?_
                repeat refine gq ?_
                repeat refine WPU.seq ?_
                refine WPU.condS (t := (decide (z30 < (r18.length : Int)))) rfl (fun h32 => ?_) (fun h32 => ?_)
                · skip
                  replace hF := cond_t h32 hF
                  repeat refine WPU.seq ?_
                  refine WPU.skip ?_
                  repeat refine gq ?_
                  repeat refine WPU.seq ?_
                  refine WPU.block ?_
                  repeat refine WPU.seq ?_
                  obtain ⟨x33, h34, hF⟩ := bindO_some hF
                  obtain ⟨r35, h36, hF⟩ := bindO_some hF
                  refine WPU.region Try.tb_ok ?_
                  repeat refine RS.op rfl (op_move rfl) rfl rfl ?_
                  refine RS.op (u := .iptr (cGBracket x33)) rfl (op_ia rfl rfl (ia_isl cGBracket Try.und28 (sz_of Try.inf53) len_cGBracket h34 rfl)) rfl rfl ?_
                  refine RS.op (u := .agg (cGBracket x33)) rfl (li_agg Try.und53 rfl (sz_of Try.inf53) rfl rfl) rfl rfl ?_
                  refine RS.call (u := .isl false (List.map cGBracket r35)) (args := [.isl false (List.map cGBracket l29), .agg (cGBracket x33)]) rfl (op_call rfl rfl Try.fn32 Try.hb32 rfl rfl) (ref50_put_ok n l29 x33 r35 h36 _) rfl rfl ?_
                  refine RS.op rfl (op_assign rfl) rfl rfl ?_
                  refine RS.done ?_
                  repeat refine gq ?_
                  repeat refine WPU.seq ?_
                  refine WPU.region Try.tb_ok ?_
                  refine RS.op rfl (op_move rfl) rfl rfl ?_
                  refine RS.op rfl (op_int rfl rfl (ix_add _ _ _) rfl) rfl rfl ?_
                  refine RS.op rfl (op_assign rfl) rfl rfl ?_
                  refine RS.done ?_
                  repeat refine gq ?_
                  exact ⟨m3, _, _, Nat.lt_succ_self _, ⟨r35, (IntKind.i64.wrap (z30 + 1)), hF, rfl, rfl⟩, (Nat.zero_le _), Gh.toC (n1 := 2) ⟨rfl, rfl, rfl, rfl, rfl, trivial⟩ rfl (Nat.zero_le _) (by simp)⟩
                · skip
                  replace hF := cond_f h32 hF
                  repeat refine WPU.seq ?_
                  refine WPU.exit ?_
                  repeat refine gq ?_
                  exact ⟨_, _, ⟨l29, hF, rfl, rfl⟩, (Nat.zero_le _), Gh.toC (n1 := 2) ⟨rfl, rfl, rfl, trivial⟩ rfl (Nat.zero_le _) (by simp)⟩
          · skip
            replace hF := cond_f h15 hF
            repeat refine WPU.seq ?_
            refine WPU.exit ?_
            repeat refine gq ?_
            exact ⟨_, _, ⟨l12, hF, rfl, rfl⟩, (Nat.zero_le _), Gh.toC (n1 := 2) ⟨rfl, trivial⟩ rfl (Nat.zero_le _) (by simp)⟩
    · skip
      refine WPU.condS (t := (p1.Kind == 2)) rfl (fun h2 => ?_) (fun h2 => ?_)
      · skip
        replace hF := cond_t h2 hF
        repeat refine WPU.seq ?_
        obtain ⟨h37, hF⟩ := needO_some hF
        refine WPU.region Try.tb_ok ?_
        refine RS.op rfl (op_move rfl) rfl rfl ?_
        refine RS.op (u := .ptr 0 0 1) rfl (op_fa Try.und24 rfl (sz_of Try.inf9) rfl rfl rfl) rfl rfl ?_
        refine RS.op (u := .str p1.Name) rfl (ld_one Try.und9 rfl rfl rfl rfl) rfl rfl ?_
        refine RS.op (u := .ptr 0 0 2) rfl (op_fa Try.und24 rfl (sz_of Try.inf3) rfl rfl rfl) rfl rfl ?_
        refine RS.op (u := .int .i64 p1.From) rfl (ld_one Try.und3 rfl rfl rfl rfl) rfl rfl ?_
        refine RS.op (u := .ptr 0 0 3) rfl (op_fa Try.und24 rfl (sz_of Try.inf3) rfl rfl rfl) rfl rfl ?_
        refine RS.op (u := .int .i64 p1.To) rfl (ld_one Try.und3 rfl rfl rfl rfl) rfl rfl ?_
        refine RS.op (u := .agg [.str p1.Name, .int .i64 p1.From, .int .i64 p1.To]) rfl (op_bld Try.bd53 rfl rfl rfl) rfl rfl ?_
        refine RS.op (u := .sl 2 0 1 1) (σ' := ⟨[(2, .row [.str p1.Name, .int .i64 p1.From, .int .i64 p1.To] 53), (1, .vec (List.map cGBracket ([] : List GBracket)).flatten 53 3 0), (0, .row (xGDeriv p1) 24)], 3⟩) rfl (op_bsl Try.und28 Try.inf53 rfl rfl rfl rfl rfl rfl rfl) rfl rfl ?_
        refine RS.op (u := .vl 1 1 0 ((([] : List GBracket) ++ [(GBracket.mk p1.Name p1.From p1.To)]).length)) (σ' := ⟨[(2, .row [.str p1.Name, .int .i64 p1.From, .int .i64 p1.To] 53), (1, .vec (List.map cGBracket (([] : List GBracket) ++ [(GBracket.mk p1.Name p1.From p1.To)])).flatten 53 3 1), (0, .row (xGDeriv p1) 24)], 3⟩) rfl (op_app rfl rfl rfl rfl (app_vl cGBracket ([(GBracket.mk p1.Name p1.From p1.To)]) Try.und28 Try.und28 Try.inf53 rfl len_cGBracket rfl (src_row cGBracket [(GBracket.mk p1.Name p1.From p1.To)] rfl rfl rfl rfl) h37)) rfl rfl ?_
        refine RS.op rfl (op_assign rfl) rfl rfl ?_
        refine RS.done ?_
        repeat refine gq ?_
        exact ⟨_, _, ⟨(([] : List GBracket) ++ [(GBracket.mk p1.Name p1.From p1.To)]), 1, hF, rfl, rfl⟩, (Nat.zero_le _), Gh.toC (n1 := 2) ⟨rfl, rfl, trivial⟩ rfl (Nat.zero_le _) (by simp)⟩
      · skip
        replace hF := cond_f h2 hF
        repeat refine WPU.seq ?_
        refine WPU.skip ?_
        repeat refine gq ?_
        exact ⟨_, _, ⟨([] : List GBracket), 0, hF, rfl, rfl⟩, (Nat.zero_le _), Gh.toC (n1 := 2) ⟨rfl, rfl, trivial⟩ rfl (Nat.zero_le _) (by simp)⟩
theorem ref50_Brackets_ok (n : Nat) (p1 : GDeriv) (r : (List GBracket)) (hF : ref50_Brackets n p1 = some r) (σ : Sg) : EvU Try.prog 14 [.agg (xGDeriv p1)] σ (fun u σ' => u = .isl false (List.map cGBracket r) ∧ σ' = σ) :=
  EvU.pure1C (ref50_Brackets_0 n p1 r hF) σ
def cmp_isNaN_int (n : Nat) (p1 : Int) : Option (Bool) :=
  some (p1 != p1)
theorem cmp_isNaN_int_0 (n : Nat) (p1 : Int) (r : Bool) (hF : cmp_isNaN_int n p1 = some r) : EvU Try.prog 62 [.int .i64 p1] ⟨[], 0⟩ (fun u _ => u = .bool r ∧ Bel 0 u) := by
  unfold cmp_isNaN_int at hF
  refine EvU.of_body Try.tb_ok Try.fn62 rfl ?_
  refine WPU.ghost (tm' := fr 6 [(0, .int .i64 p1)]) (Gh.start (Nat.le_of_ble_eq_true rfl)) (Nat.zero_le _) ?_
  repeat refine WPU.seq ?_
  refine WPU.region Try.tb_ok ?_
  refine RS.op rfl (op_assign rfl) rfl rfl ?_
  refine RS.done ?_
  repeat refine gq ?_
  repeat refine WPU.seq ?_
  refine WPU.region Try.tb_ok ?_
  repeat refine RS.op rfl (op_move rfl) rfl rfl ?_
  refine RS.op rfl (op_int rfl rfl (ix_neq _ _ _) rfl) rfl rfl ?_
  refine RS.op rfl (op_assign rfl) rfl rfl ?_
  refine RS.done ?_
  repeat refine gq ?_
  repeat refine WPU.seq ?_
  refine WPU.ret ?_
  repeat refine gq ?_
  have hr := Option.some.inj hF
  subst hr
  exact ⟨.inr rfl, [.bool (p1 != p1)], res_t rfl (res_n), .bool (p1 != p1), ⟨[], 0⟩, Nat.le_refl _, Gh.toR (.bool (p1 != p1)) rfl, rfl, BU.h⟩
theorem cmp_isNaN_int_ok (n : Nat) (p1 : Int) (r : Bool) (hF : cmp_isNaN_int n p1 = some r) (σ : Sg) : EvU Try.prog 62 [.int .i64 p1] σ (fun u σ' => u = .bool r ∧ σ' = σ) :=
  EvU.pure1C (cmp_isNaN_int_0 n p1 r hF) σ
def cmp_Compare_int (n : Nat) (p1 : Int) (p2 : Int) : Option (Int) :=
  bindO (cmp_isNaN_int n p1) fun r3 =>
  bindO (cmp_isNaN_int n p2) fun r5 =>
  cond r3
    (cond r5
      (some 0)
      (some (-1)))
    (cond r5
      (some 1)
      (cond (decide (p1 < p2))
        (some (-1))
        (cond (decide (p1 > p2))
          (some 1)
          (some 0))))
theorem cmp_Compare_int_0 (n : Nat) (p1 : Int) (p2 : Int) (r : Int) (hF : cmp_Compare_int n p1 p2 = some r) : EvU Try.prog 46 [.int .i64 p1, .int .i64 p2] ⟨[], 0⟩ (fun u _ => u = .int .i64 r ∧ Bel 0 u) := by
  unfold cmp_Compare_int at hF
  refine EvU.of_body Try.tb_ok Try.fn46 rfl ?_
  refine WPU.ghost (tm' := fr 20 [(0, .int .i64 p1), (1, .int .i64 p2)]) (Gh.start (Nat.le_of_ble_eq_true rfl)) (Nat.zero_le _) ?_
  repeat refine WPU.seq ?_
  refine WPU.region Try.tb_ok ?_
  refine RS.op rfl (op_assign rfl) rfl rfl ?_
  refine RS.done ?_
  repeat refine gq ?_
  repeat refine WPU.seq ?_
  obtain ⟨r3, h4, hF⟩ := bindO_some hF
  refine WPU.region Try.tb_ok ?_
  refine RS.op rfl (op_move rfl) rfl rfl ?_
  refine RS.call (u := .bool r3) (args := [.int .i64 p1]) rfl (op_call rfl rfl Try.fn62 Try.hb62 rfl rfl) (cmp_isNaN_int_ok n p1 r3 h4 _) rfl rfl ?_
  refine RS.op rfl (op_assign rfl) rfl rfl ?_
  refine RS.done ?_
  repeat refine gq ?_
  repeat refine WPU.seq ?_
  obtain ⟨r5, h6, hF⟩ := bindO_some hF
  refine WPU.region Try.tb_ok ?_
  refine RS.op rfl (op_move rfl) rfl rfl ?_
  refine RS.call (u := .bool r5) (args := [.int .i64 p2]) rfl (op_call rfl rfl Try.fn62 Try.hb62 rfl rfl) (cmp_isNaN_int_ok n p2 r5 h6 _) rfl rfl ?_
  refine RS.op rfl (op_assign rfl) rfl rfl ?_
  refine RS.done ?_
  repeat refine gq ?_
  repeat refine WPU.seq ?_
  refine WPU.region Try.tb_ok ?_
  refine RS.op rfl (op_move rfl) rfl rfl ?_
  refine RS.done ?_
  repeat refine gq ?_
  repeat refine WPU.seq ?_
  refine WPU.condS (t := r3) rfl (fun h7 => ?_) (fun h7 => ?_)
  · skip
    replace hF := cond_t h7 hF
    repeat refine WPU.seq ?_
    refine WPU.region Try.tb_ok ?_
    refine RS.op rfl (op_move rfl) rfl rfl ?_
    refine RS.done ?_
    repeat refine gq ?_
    repeat refine WPU.seq ?_
    refine WPU.condS (t := r5) rfl (fun h8 => ?_) (fun h8 => ?_)
    · skip
      replace hF := cond_t h8 hF
      repeat refine WPU.seq ?_
      refine WPU.region Try.tb_ok ?_
      refine RS.op rfl (op_assign rfl) rfl rfl ?_
      refine RS.done ?_
      repeat refine gq ?_
      repeat refine WPU.seq ?_
      refine WPU.ret ?_
      repeat refine gq ?_
      have hr := Option.some.inj hF
      subst hr
      exact ⟨.inr rfl, [.int .i64 0], res_t rfl (res_n), .int .i64 0, ⟨[], 0⟩, Nat.le_refl _, Gh.toR (.int .i64 0) rfl, rfl, BU.h⟩
    · skip
      replace hF := cond_f h8 hF
      repeat refine WPU.seq ?_
      refine WPU.skip ?_
      repeat refine gq ?_
      repeat refine WPU.seq ?_
      refine WPU.region Try.tb_ok ?_
      refine RS.op rfl (op_assign rfl) rfl rfl ?_
      refine RS.done ?_
      repeat refine gq ?_
      repeat refine WPU.seq ?_
      refine WPU.ret ?_
      repeat refine gq ?_
      have hr := Option.some.inj hF
      subst hr
      exact ⟨.inr rfl, [.int .i64 (-1)], res_t rfl (res_n), .int .i64 (-1), ⟨[], 0⟩, Nat.le_refl _, Gh.toR (.int .i64 (-1)) rfl, rfl, BU.h⟩
  · skip
    replace hF := cond_f h7 hF
    repeat refine WPU.seq ?_
    refine WPU.skip ?_
    repeat refine gq ?_
    repeat refine WPU.seq ?_
    refine WPU.region Try.tb_ok ?_
    refine RS.op rfl (op_move rfl) rfl rfl ?_
    refine RS.done ?_
    repeat refine gq ?_
    repeat refine WPU.seq ?_
    refine WPU.condS (t := r5) rfl (fun h9 => ?_) (fun h9 => ?_)
    · skip
      replace hF := cond_t h9 hF
      repeat refine WPU.seq ?_
      refine WPU.region Try.tb_ok ?_
      refine RS.op rfl (op_assign rfl) rfl rfl ?_
      refine RS.done ?_
      repeat refine gq ?_
      repeat refine WPU.seq ?_
      refine WPU.ret ?_
      repeat refine gq ?_
      have hr := Option.some.inj hF
      subst hr
      exact ⟨.inr rfl, [.int .i64 1], res_t rfl (res_n), .int .i64 1, ⟨[], 0⟩, Nat.le_refl _, Gh.toR (.int .i64 1) rfl, rfl, BU.h⟩
    · skip
      replace hF := cond_f h9 hF
      repeat refine WPU.seq ?_
      refine WPU.skip ?_
      repeat refine gq ?_
      repeat refine WPU.seq ?_
      refine WPU.region Try.tb_ok ?_
      repeat refine RS.op rfl (op_move rfl) rfl rfl ?_
      refine RS.op rfl (op_int rfl rfl (ix_lss _ _ _) rfl) rfl rfl ?_
      refine RS.done ?_
      repeat refine gq ?_
      repeat refine WPU.seq ?_
      refine WPU.condS (t := (decide (p1 < p2))) rfl (fun h10 => ?_) (fun h10 => ?_)
      · skip
        replace hF := cond_t h10 hF
        repeat refine WPU.seq ?_
        refine WPU.region Try.tb_ok ?_
        refine RS.op rfl (op_assign rfl) rfl rfl ?_
        refine RS.done ?_
        repeat refine gq ?_
        repeat refine WPU.seq ?_
        refine WPU.ret ?_
        repeat refine gq ?_
        have hr := Option.some.inj hF
        subst hr
        exact ⟨.inr rfl, [.int .i64 (-1)], res_t rfl (res_n), .int .i64 (-1), ⟨[], 0⟩, Nat.le_refl _, Gh.toR (.int .i64 (-1)) rfl, rfl, BU.h⟩
      · skip
        replace hF := cond_f h10 hF
        repeat refine WPU.seq ?_
        refine WPU.skip ?_
        repeat refine gq ?_
        repeat refine WPU.seq ?_
        refine WPU.region Try.tb_ok ?_
        repeat refine RS.op rfl (op_move rfl) rfl rfl ?_
        refine RS.op rfl (op_int rfl rfl (ix_gtr _ _ _) rfl) rfl rfl ?_
        refine RS.done ?_
        repeat refine gq ?_
        repeat refine WPU.seq ?_
        refine WPU.condS (t := (decide (p1 > p2))) rfl (fun h11 => ?_) (fun h11 => ?_)
        · skip
          replace hF := cond_t h11 hF
          repeat refine WPU.seq ?_
          refine WPU.region Try.tb_ok ?_
          refine RS.op rfl (op_assign rfl) rfl rfl ?_
          refine RS.done ?_
          repeat refine gq ?_
          repeat refine WPU.seq ?_
          refine WPU.ret ?_
          repeat refine gq ?_
          have hr := Option.some.inj hF
          subst hr
          exact ⟨.inr rfl, [.int .i64 1], res_t rfl (res_n), .int .i64 1, ⟨[], 0⟩, Nat.le_refl _, Gh.toR (.int .i64 1) rfl, rfl, BU.h⟩
        · skip
          replace hF := cond_f h11 hF
          repeat refine WPU.seq ?_
          refine WPU.skip ?_
          repeat refine gq ?_
          repeat refine WPU.seq ?_
          refine WPU.region Try.tb_ok ?_
          refine RS.op rfl (op_assign rfl) rfl rfl ?_
          refine RS.done ?_
          repeat refine gq ?_
          repeat refine WPU.seq ?_
          refine WPU.ret ?_
          repeat refine gq ?_
          have hr := Option.some.inj hF
          subst hr
          exact ⟨.inr rfl, [.int .i64 0], res_t rfl (res_n), .int .i64 0, ⟨[], 0⟩, Nat.le_refl _, Gh.toR (.int .i64 0) rfl, rfl, BU.h⟩
theorem cmp_Compare_int_ok (n : Nat) (p1 : Int) (p2 : Int) (r : Int) (hF : cmp_Compare_int n p1 p2 = some r) (σ : Sg) : EvU Try.prog 46 [.int .i64 p1, .int .i64 p2] σ (fun u σ' => u = .int .i64 r ∧ σ' = σ) :=
  EvU.pure1C (cmp_Compare_int_0 n p1 p2 r hF) σ
def cmp_isNaN_string (n : Nat) (p1 : List UInt8) : Option (Bool) :=
  some (!bytesEq p1 p1)
theorem cmp_isNaN_string_0 (n : Nat) (p1 : List UInt8) (r : Bool) (hF : cmp_isNaN_string n p1 = some r) : EvU Try.prog 63 [.str p1] ⟨[], 0⟩ (fun u _ => u = .bool r ∧ Bel 0 u) := by
  unfold cmp_isNaN_string at hF
  refine EvU.of_body Try.tb_ok Try.fn63 rfl ?_
  refine WPU.ghost (tm' := fr 6 [(0, .str p1)]) (Gh.start (Nat.le_of_ble_eq_true rfl)) (Nat.zero_le _) ?_
  repeat refine WPU.seq ?_
  refine WPU.region Try.tb_ok ?_
  refine RS.op rfl (op_assign rfl) rfl rfl ?_
  refine RS.done ?_
  repeat refine gq ?_
  repeat refine WPU.seq ?_
  refine WPU.region Try.tb_ok ?_
  repeat refine RS.op rfl (op_move rfl) rfl rfl ?_
  refine RS.op (u := .bool (!bytesEq p1 p1)) rfl (op_str rfl rfl rfl rfl) rfl rfl ?_
  refine RS.op rfl (op_assign rfl) rfl rfl ?_
  refine RS.done ?_
  repeat refine gq ?_
  repeat refine WPU.seq ?_
  refine WPU.ret ?_
  repeat refine gq ?_
  have hr := Option.some.inj hF
  subst hr
  exact ⟨.inr rfl, [.bool (!bytesEq p1 p1)], res_t rfl (res_n), .bool (!bytesEq p1 p1), ⟨[], 0⟩, Nat.le_refl _, Gh.toR (.bool (!bytesEq p1 p1)) rfl, rfl, BU.h⟩
theorem cmp_isNaN_string_ok (n : Nat) (p1 : List UInt8) (r : Bool) (hF : cmp_isNaN_string n p1 = some r) (σ : Sg) : EvU Try.prog 63 [.str p1] σ (fun u σ' => u = .bool r ∧ σ' = σ) :=
  EvU.pure1C (cmp_isNaN_string_0 n p1 r hF) σ
def cmp_Compare_string (n : Nat) (p1 : List UInt8) (p2 : List UInt8) : Option (Int) :=
  bindO (cmp_isNaN_string n p1) fun r3 =>
  bindO (cmp_isNaN_string n p2) fun r5 =>
  cond r3
    (cond r5
      (some 0)
      (some (-1)))
    (cond r5
      (some 1)
      (cond (bytesLt p1 p2)
        (some (-1))
        (cond (!(bytesLt p1 p2 || bytesEq p1 p2))
          (some 1)
          (some 0))))
theorem cmp_Compare_string_0 (n : Nat) (p1 : List UInt8) (p2 : List UInt8) (r : Int) (hF : cmp_Compare_string n p1 p2 = some r) : EvU Try.prog 47 [.str p1, .str p2] ⟨[], 0⟩ (fun u _ => u = .int .i64 r ∧ Bel 0 u) := by
  unfold cmp_Compare_string at hF
  refine EvU.of_body Try.tb_ok Try.fn47 rfl ?_
  refine WPU.ghost (tm' := fr 20 [(0, .str p1), (1, .str p2)]) (Gh.start (Nat.le_of_ble_eq_true rfl)) (Nat.zero_le _) ?_
  repeat refine WPU.seq ?_
  refine WPU.region Try.tb_ok ?_
  refine RS.op rfl (op_assign rfl) rfl rfl ?_
  refine RS.done ?_
  repeat refine gq ?_
  repeat refine WPU.seq ?_
  obtain ⟨r3, h4, hF⟩ := bindO_some hF
  refine WPU.region Try.tb_ok ?_
  refine RS.op rfl (op_move rfl) rfl rfl ?_
  refine RS.call (u := .bool r3) (args := [.str p1]) rfl (op_call rfl rfl Try.fn63 Try.hb63 rfl rfl) (cmp_isNaN_string_ok n p1 r3 h4 _) rfl rfl ?_
  refine RS.op rfl (op_assign rfl) rfl rfl ?_
  refine RS.done ?_
  repeat refine gq ?_
  repeat refine WPU.seq ?_
  obtain ⟨r5, h6, hF⟩ := bindO_some hF
  refine WPU.region Try.tb_ok ?_
  refine RS.op rfl (op_move rfl) rfl rfl ?_
  refine RS.call (u := .bool r5) (args := [.str p2]) rfl (op_call rfl rfl Try.fn63 Try.hb63 rfl rfl) (cmp_isNaN_string_ok n p2 r5 h6 _) rfl rfl ?_
  refine RS.op rfl (op_assign rfl) rfl rfl ?_
  refine RS.done ?_
  repeat refine gq ?_
  repeat refine WPU.seq ?_
  refine WPU.region Try.tb_ok ?_
  refine RS.op rfl (op_move rfl) rfl rfl ?_
  refine RS.done ?_
  repeat refine gq ?_
  repeat refine WPU.seq ?_
  refine WPU.condS (t := r3) rfl (fun h7 => ?_) (fun h7 => ?_)
  · skip
    replace hF := cond_t h7 hF
    repeat refine WPU.seq ?_
    refine WPU.region Try.tb_ok ?_
    refine RS.op rfl (op_move rfl) rfl rfl ?_
    refine RS.done ?_
    repeat refine gq ?_
    repeat refine WPU.seq ?_
    refine WPU.condS (t := r5) rfl (fun h8 => ?_) (fun h8 => ?_)
    · skip
      replace hF := cond_t h8 hF
      repeat refine WPU.seq ?_
      refine WPU.region Try.tb_ok ?_
      refine RS.op rfl (op_assign rfl) rfl rfl ?_
      refine RS.done ?_
      repeat refine gq ?_
      repeat refine WPU.seq ?_
      refine WPU.ret ?_
      repeat refine gq ?_
      have hr := Option.some.inj hF
      subst hr
      exact ⟨.inr rfl, [.int .i64 0], res_t rfl (res_n), .int .i64 0, ⟨[], 0⟩, Nat.le_refl _, Gh.toR (.int .i64 0) rfl, rfl, BU.h⟩
    · skip
      replace hF := cond_f h8 hF
      repeat refine WPU.seq ?_
      refine WPU.skip ?_
      repeat refine gq ?_
      repeat refine WPU.seq ?_
      refine WPU.region Try.tb_ok ?_
      refine RS.op rfl (op_assign rfl) rfl rfl ?_
      refine RS.done ?_
      repeat refine gq ?_
      repeat refine WPU.seq ?_
      refine WPU.ret ?_
      repeat refine gq ?_
      have hr := Option.some.inj hF
      subst hr
      exact ⟨.inr rfl, [.int .i64 (-1)], res_t rfl (res_n), .int .i64 (-1), ⟨[], 0⟩, Nat.le_refl _, Gh.toR (.int .i64 (-1)) rfl, rfl, BU.h⟩
  · skip
    replace hF := cond_f h7 hF
    repeat refine WPU.seq ?_
    refine WPU.skip ?_
    repeat refine gq ?_
    repeat refine WPU.seq ?_
    refine WPU.region Try.tb_ok ?_
    refine RS.op rfl (op_move rfl) rfl rfl ?_
    refine RS.done ?_
    repeat refine gq ?_
    repeat refine WPU.seq ?_
    refine WPU.condS (t := r5) rfl (fun h9 => ?_) (fun h9 => ?_)
    · skip
      replace hF := cond_t h9 hF
      repeat refine WPU.seq ?_
      refine WPU.region Try.tb_ok ?_
      refine RS.op rfl (op_assign rfl) rfl rfl ?_
      refine RS.done ?_
      repeat refine gq ?_
      repeat refine WPU.seq ?_
      refine WPU.ret ?_
      repeat refine gq ?_
      have hr := Option.some.inj hF
      subst hr
      exact ⟨.inr rfl, [.int .i64 1], res_t rfl (res_n), .int .i64 1, ⟨[], 0⟩, Nat.le_refl _, Gh.toR (.int .i64 1) rfl, rfl, BU.h⟩
    · skip
      replace hF := cond_f h9 hF
      repeat refine WPU.seq ?_
      refine WPU.skip ?_
      repeat refine gq ?_
      repeat refine WPU.seq ?_
      refine WPU.region Try.tb_ok ?_
      repeat refine RS.op rfl (op_move rfl) rfl rfl ?_
      refine RS.op (u := .bool (bytesLt p1 p2)) rfl (op_str rfl rfl rfl rfl) rfl rfl ?_
      refine RS.done ?_
      repeat refine gq ?_
      repeat refine WPU.seq ?_
      refine WPU.condS (t := (bytesLt p1 p2)) rfl (fun h10 => ?_) (fun h10 => ?_)
      · skip
        replace hF := cond_t h10 hF
        repeat refine WPU.seq ?_
        refine WPU.region Try.tb_ok ?_
        refine RS.op rfl (op_assign rfl) rfl rfl ?_
        refine RS.done ?_
        repeat refine gq ?_
        repeat refine WPU.seq ?_
        refine WPU.ret ?_
        repeat refine gq ?_
        have hr := Option.some.inj hF
        subst hr
        exact ⟨.inr rfl, [.int .i64 (-1)], res_t rfl (res_n), .int .i64 (-1), ⟨[], 0⟩, Nat.le_refl _, Gh.toR (.int .i64 (-1)) rfl, rfl, BU.h⟩
      · skip
        replace hF := cond_f h10 hF
        repeat refine WPU.seq ?_
        refine WPU.skip ?_
        repeat refine gq ?_
        repeat refine WPU.seq ?_
        refine WPU.region Try.tb_ok ?_
        repeat refine RS.op rfl (op_move rfl) rfl rfl ?_
        refine RS.op (u := .bool (!(bytesLt p1 p2 || bytesEq p1 p2))) rfl (op_str rfl rfl rfl rfl) rfl rfl ?_
        refine RS.done ?_
        repeat refine gq ?_
        repeat refine WPU.seq ?_
        refine WPU.condS (t := (!(bytesLt p1 p2 || bytesEq p1 p2))) rfl (fun h11 => ?_) (fun h11 => ?_)
        · skip
          replace hF := cond_t h11 hF
          repeat refine WPU.seq ?_
          refine WPU.region Try.tb_ok ?_
          refine RS.op rfl (op_assign rfl) rfl rfl ?_
          refine RS.done ?_
          repeat refine gq ?_
          repeat refine WPU.seq ?_
          refine WPU.ret ?_
          repeat refine gq ?_
          have hr := Option.some.inj hF
          subst hr
          exact ⟨.inr rfl, [.int .i64 1], res_t rfl (res_n), .int .i64 1, ⟨[], 0⟩, Nat.le_refl _, Gh.toR (.int .i64 1) rfl, rfl, BU.h⟩
        · skip
          replace hF := cond_f h11 hF
          repeat refine WPU.seq ?_
          refine WPU.skip ?_
          repeat refine gq ?_
          repeat refine WPU.seq ?_
          refine WPU.region Try.tb_ok ?_
          refine RS.op rfl (op_assign rfl) rfl rfl ?_
          refine RS.done ?_
          repeat refine gq ?_
          repeat refine WPU.seq ?_
          refine WPU.ret ?_
          repeat refine gq ?_
          have hr := Option.some.inj hF
          subst hr
          exact ⟨.inr rfl, [.int .i64 0], res_t rfl (res_n), .int .i64 0, ⟨[], 0⟩, Nat.le_refl _, Gh.toR (.int .i64 0) rfl, rfl, BU.h⟩
theorem cmp_Compare_string_ok (n : Nat) (p1 : List UInt8) (p2 : List UInt8) (r : Int) (hF : cmp_Compare_string n p1 p2 = some r) (σ : Sg) : EvU Try.prog 47 [.str p1, .str p2] σ (fun u σ' => u = .int .i64 r ∧ σ' = σ) :=
  EvU.pure1C (cmp_Compare_string_0 n p1 p2 r hF) σ
def evaluate_compare (n : Nat) (p1 : GBracket) (p2 : GBracket) : Option (Int) :=
  bindO (cmp_Compare_int n p1.From p2.From) fun r3 =>
  cond (r3 != 0)
    (some r3)
    (bindO (cmp_Compare_int n p1.To p2.To) fun r6 =>
    cond (r6 != 0)
      (some r6)
      (bindO (cmp_Compare_string n p1.Name p2.Name) fun r9 =>
      some r9))
theorem evaluate_compare_0 (n : Nat) (p1 : GBracket) (p2 : GBracket) (r : Int) (hF : evaluate_compare n p1 p2 = some r) : EvU Try.prog 31 [.agg (cGBracket p1), .agg (cGBracket p2)] ⟨[], 0⟩ (fun u _ => u = .int .i64 r ∧ Bel 0 u) := by
  unfold evaluate_compare at hF
  refine EvU.of_body Try.tb_ok Try.fn31 rfl ?_
  refine WPU.ghost (tm' := fr 28 [(0, .agg (cGBracket p1)), (1, .agg (cGBracket p2))]) (Gh.start (Nat.le_of_ble_eq_true rfl)) (Nat.zero_le _) ?_
  repeat refine WPU.seq ?_
  refine WPU.region Try.tb_ok ?_
  refine RS.op (u := .ptr 0 0 0) (σ' := ⟨[(0, .row (cGBracket p1) 53)], 1⟩) rfl (op_box rfl rfl rfl) rfl rfl ?_
  refine RS.op (u := .ptr 1 0 0) (σ' := ⟨[(1, .row (cGBracket p2) 53), (0, .row (cGBracket p1) 53)], 2⟩) rfl (op_box rfl rfl rfl) rfl rfl ?_
  refine RS.op rfl (op_assign rfl) rfl rfl ?_
  refine RS.done ?_
  repeat refine gq ?_
  repeat refine WPU.seq ?_
  obtain ⟨r3, h4, hF⟩ := bindO_some hF
  refine WPU.region Try.tb_ok ?_
  refine RS.op (u := .ptr 0 0 1) rfl (op_fa Try.und53 rfl (sz_of Try.inf3) rfl rfl rfl) rfl rfl ?_
  refine RS.op (u := .int .i64 p1.From) rfl (ld_one Try.und3 rfl rfl rfl rfl) rfl rfl ?_
  refine RS.op (u := .ptr 1 0 1) rfl (op_fa Try.und53 rfl (sz_of Try.inf3) rfl rfl rfl) rfl rfl ?_
  refine RS.op (u := .int .i64 p2.From) rfl (ld_one Try.und3 rfl rfl rfl rfl) rfl rfl ?_
  refine RS.call (u := .int .i64 r3) (args := [.int .i64 p1.From, .int .i64 p2.From]) rfl (op_call rfl rfl Try.fn46 Try.hb46 rfl rfl) (cmp_Compare_int_ok n p1.From p2.From r3 h4 _) rfl rfl ?_
  refine RS.op rfl (op_assign rfl) rfl rfl ?_
  refine RS.done ?_
  repeat refine gq ?_
  repeat refine WPU.seq ?_
  refine WPU.region Try.tb_ok ?_
  refine RS.op rfl (op_move rfl) rfl rfl ?_
  refine RS.op rfl (op_int rfl rfl (ix_neq _ _ _) rfl) rfl rfl ?_
  refine RS.done ?_
  repeat refine gq ?_
  repeat refine WPU.seq ?_
  refine WPU.condS (t := (r3 != 0)) rfl (fun h5 => ?_) (fun h5 => ?_)
  · skip
    replace hF := cond_t h5 hF
    repeat refine WPU.seq ?_
    refine WPU.region Try.tb_ok ?_
    refine RS.op rfl (op_move rfl) rfl rfl ?_
    refine RS.op rfl (op_assign rfl) rfl rfl ?_
    refine RS.done ?_
    repeat refine gq ?_
    repeat refine WPU.seq ?_
    refine WPU.ret ?_
    repeat refine gq ?_
    have hr := Option.some.inj hF
    subst hr
    exact ⟨.inr rfl, [.int .i64 r3], res_t rfl (res_n), .int .i64 r3, ⟨[], 0⟩, Nat.le_refl _, Gh.toR (.int .i64 r3) rfl, rfl, BU.h⟩
  · skip
    replace hF := cond_f h5 hF
    repeat refine WPU.seq ?_
    refine WPU.skip ?_
    repeat refine gq ?_
    repeat refine WPU.seq ?_
    obtain ⟨r6, h7, hF⟩ := bindO_some hF
    refine WPU.region Try.tb_ok ?_
    refine RS.op (u := .ptr 0 0 2) rfl (op_fa Try.und53 rfl (sz_of Try.inf3) rfl rfl rfl) rfl rfl ?_
    refine RS.op (u := .int .i64 p1.To) rfl (ld_one Try.und3 rfl rfl rfl rfl) rfl rfl ?_
    refine RS.op (u := .ptr 1 0 2) rfl (op_fa Try.und53 rfl (sz_of Try.inf3) rfl rfl rfl) rfl rfl ?_
    refine RS.op (u := .int .i64 p2.To) rfl (ld_one Try.und3 rfl rfl rfl rfl) rfl rfl ?_
    refine RS.call (u := .int .i64 r6) (args := [.int .i64 p1.To, .int .i64 p2.To]) rfl (op_call rfl rfl Try.fn46 Try.hb46 rfl rfl) (cmp_Compare_int_ok n p1.To p2.To r6 h7 _) rfl rfl ?_
    refine RS.op rfl (op_assign rfl) rfl rfl ?_
    refine RS.done ?_
    repeat refine gq ?_
    repeat refine WPU.seq ?_
    refine WPU.region Try.tb_ok ?_
    refine RS.op rfl (op_move rfl) rfl rfl ?_
    refine RS.op rfl (op_int rfl rfl (ix_neq _ _ _) rfl) rfl rfl ?_
    refine RS.done ?_
    repeat refine gq ?_
    repeat refine WPU.seq ?_
    refine WPU.condS (t := (r6 != 0)) rfl (fun h8 => ?_) (fun h8 => ?_)
    · skip
      replace hF := cond_t h8 hF
      repeat refine WPU.seq ?_
      refine WPU.region Try.tb_ok ?_
      refine RS.op rfl (op_move rfl) rfl rfl ?_
      refine RS.op rfl (op_assign rfl) rfl rfl ?_
      refine RS.done ?_
      repeat refine gq ?_
      repeat refine WPU.seq ?_
      refine WPU.ret ?_
      repeat refine gq ?_
      have hr := Option.some.inj hF
      subst hr
      exact ⟨.inr rfl, [.int .i64 r6], res_t rfl (res_n), .int .i64 r6, ⟨[], 0⟩, Nat.le_refl _, Gh.toR (.int .i64 r6) rfl, rfl, BU.h⟩
    · skip
      replace hF := cond_f h8 hF
      repeat refine WPU.seq ?_
      refine WPU.skip ?_
      repeat refine gq ?_
      repeat refine WPU.seq ?_
      obtain ⟨r9, h10, hF⟩ := bindO_some hF
      refine WPU.region Try.tb_ok ?_
      refine RS.op (u := .ptr 0 0 0) rfl (op_fa Try.und53 rfl (sz_of Try.inf9) rfl rfl rfl) rfl rfl ?_
      refine RS.op (u := .str p1.Name) rfl (ld_one Try.und9 rfl rfl rfl rfl) rfl rfl ?_
      refine RS.op (u := .ptr 1 0 0) rfl (op_fa Try.und53 rfl (sz_of Try.inf9) rfl rfl rfl) rfl rfl ?_
      refine RS.op (u := .str p2.Name) rfl (ld_one Try.und9 rfl rfl rfl rfl) rfl rfl ?_
      refine RS.call (u := .int .i64 r9) (args := [.str p1.Name, .str p2.Name]) rfl (op_call rfl rfl Try.fn47 Try.hb47 rfl rfl) (cmp_Compare_string_ok n p1.Name p2.Name r9 h10 _) rfl rfl ?_
      refine RS.op rfl (op_assign rfl) rfl rfl ?_
      refine RS.done ?_
      repeat refine gq ?_
      repeat refine WPU.seq ?_
      refine WPU.ret ?_
      repeat refine gq ?_
      have hr := Option.some.inj hF
      subst hr
      exact ⟨.inr rfl, [.int .i64 r9], res_t rfl (res_n), .int .i64 r9, ⟨[], 0⟩, Nat.le_refl _, Gh.toR (.int .i64 r9) rfl, rfl, BU.h⟩
def evaluate_gather_K2  (l19 : List GBracket) : Option ((List GBracket)) :=
  some l19
def evaluate_gather_L2 (p2 : GDeriv) (self : (List GBracket) → GDeriv → Option ((List GBracket))) : Nat → Int → (List GBracket) → Option ((List GBracket))
  | 0, _, _ => none
  | m2 + 1, z16, l17 =>
    cond (decide (z16 < (p2.Kids.length : Int)))
      (bindO (idxO p2.Kids z16) fun x22 =>
      bindO (self l17 x22) fun r24 =>
      (evaluate_gather_L2 p2 self m2) (IntKind.i64.wrap (z16 + 1)) r24)
      (evaluate_gather_K2 l17)
def evaluate_gather_J1 (p2 : GDeriv) (n : Nat) (self : (List GBracket) → GDeriv → Option ((List GBracket))) (l4 : List GBracket) : Option ((List GBracket)) :=
  evaluate_gather_L2 p2 self n 0 l4
def evaluate_gather_b (n : Nat) (self : (List GBracket) → GDeriv → Option ((List GBracket))) (p1 : List GBracket) (p2 : GDeriv) : Option ((List GBracket)) :=
  cond (p2.Kind == 2)
    (needO ((p1.length + 1) * 32 ≤ 140737488355328 ∧ p1.length + 1 ≤ 140737488355328) (
    evaluate_gather_J1 p2 n self (p1 ++ [(GBracket.mk p2.Name p2.From p2.To)])))
    (evaluate_gather_J1 p2 n self p1)
def evaluate_gather : Nat → (List GBracket) → GDeriv → Option ((List GBracket))
  | 0, _, _ => none
  | n + 1, p1, p2 => evaluate_gather_b n (evaluate_gather n) p1 p2
theorem evaluate_gather_0 : ∀ (n : Nat) (p1 : List GBracket) (p2 : GDeriv) (r : (List GBracket)), evaluate_gather n p1 p2 = some r → ∀ t0, EvU Try.prog 29 [.vl 0 t0 0 p1.length, .agg (xGDeriv p2)] ⟨[(0, .vec (List.map cGBracket p1).flatten 53 3 t0)], 1⟩ (fun u σ' => ∃ t, u = .vl 0 t 0 r.length ∧ σ' = ⟨[(0, .vec (List.map cGBracket r).flatten 53 3 t)], 1⟩)
  | 0, p1, p2, r, hF => by cases hF
  | n + 1, p1, p2, r, hF => by
    have ih := evaluate_gather_0 n
    have ihS : ∀ (p1 : List GBracket) (p2 : GDeriv) (r : (List GBracket)), evaluate_gather n p1 p2 = some r → ∀ (σ : Sg) {K t0 : Nat}, Nat.blt K σ.nx = true → gt σ.h K = some (.vec (List.map cGBracket p1).flatten 53 3 t0) → EvU Try.prog 29 [.vl K t0 0 p1.length, .agg (xGDeriv p2)] σ (fun u σ' => ∃ t, u = .vl K t 0 r.length ∧ σ' = ⟨ug σ.h K (.vec (List.map cGBracket r).flatten 53 3 t), σ.nx⟩) := fun p1 p2 r h σ K t0 hK hg => EvU.acc1 cGBracket (BF.h 0) (BUL.h) (ih p1 p2 r h) σ hK hg
    unfold evaluate_gather evaluate_gather_b at hF
    intro t0
    refine EvU.of_body Try.tb_ok Try.fn29 rfl ?_
    refine WPU.ghost (tm' := fr 32 [(0, .vl 0 t0 0 p1.length), (1, .agg (xGDeriv p2))]) (Gh.start (Nat.le_of_ble_eq_true rfl)) (Nat.le_refl _) ?_
    repeat refine WPU.seq ?_
    refine WPU.region Try.tb_ok ?_
    refine RS.op (u := .ptr 1 0 0) (σ' := ⟨[(1, .row (xGDeriv p2) 24), (0, .vec (List.map cGBracket p1).flatten 53 3 t0)], 2⟩) rfl (op_box rfl rfl rfl) rfl rfl ?_
    refine RS.op rfl (op_assign rfl) rfl rfl ?_
    refine RS.done ?_
    repeat refine gq ?_
    repeat refine WPU.seq ?_
    refine WPU.region Try.tb_ok ?_
    refine RS.op (u := .ptr 1 0 0) rfl (op_fa Try.und24 rfl (sz_of Try.inf3) rfl rfl rfl) rfl rfl ?_
    refine RS.op (u := .int .i64 p2.Kind) rfl (ld_one Try.und3 rfl rfl rfl rfl) rfl rfl ?_
    refine RS.op rfl (op_int rfl rfl (ix_eql _ _ _) rfl) rfl rfl ?_
    refine RS.done ?_
    repeat refine gq ?_
    repeat refine WPU.seq ?_
    refine WPU.joinK (fun tm σ => ∃ l4 : List GBracket, ∃ t5 : Nat, evaluate_gather_J1 p2 n (evaluate_gather n) l4 = some r ∧ tm = fr 32 [(0, .vl 0 t5 0 l4.length), (3, .ptr 1 0 0)] ∧ σ = ⟨[(1, .row (xGDeriv p2) 24), (0, .vec (List.map cGBracket l4).flatten 53 3 t5)], 2⟩) ?_ ?_
    · skip
      rintro _ _ ⟨l4, t5, hF, rfl, rfl⟩
      unfold evaluate_gather_J1 at hF
      repeat refine gq ?_
      repeat refine WPU.seq ?_
      refine WPU.region Try.tb_ok ?_
      refine RS.op (u := .ptr 1 0 4) rfl (op_fa Try.und24 rfl (sz_of Try.inf22) rfl rfl rfl) rfl rfl ?_
      refine RS.op (u := .isl false (List.map cGDeriv p2.Kids)) rfl (ld_one Try.und22 rfl rfl rfl rfl) rfl rfl ?_
      refine RS.op rfl (op_len rfl rfl rfl (len_isl cGDeriv Try.und22)) rfl rfl ?_
      refine RS.op rfl (op_move rfl) rfl rfl ?_
      refine RS.done ?_
      repeat refine gq ?_
      repeat refine WPU.seq ?_
      refine WPU.ghost (tm' := fr 32 [(0, .vl 0 t5 0 l4.length), (21, .isl false (List.map cGDeriv p2.Kids)), (22, .int .i64 (p2.Kids.length : Int)), (23, .int .i64 0)]) (Gh.sub ⟨rfl, rfl, rfl, rfl, trivial⟩) (Nat.le_of_ble_eq_true rfl) ?_
      refine WPU.loopK (fun m tm σ => ∃ z16 : Int, ∃ l17 : List GBracket, ∃ t18 : Nat, evaluate_gather_L2 p2 (evaluate_gather n) m z16 l17 = some r ∧ tm = fr 32 [(0, .vl 0 t18 0 l17.length), (21, .isl false (List.map cGDeriv p2.Kids)), (22, .int .i64 (p2.Kids.length : Int)), (23, .int .i64 z16)] ∧ σ = ⟨[(1, .row (xGDeriv p2) 24), (0, .vec (List.map cGBracket l17).flatten 53 3 t18)], 2⟩) (fun tm σ => ∃ l19 : List GBracket, ∃ t20 : Nat, evaluate_gather_K2 l19 = some r ∧ tm = fr 32 [(0, .vl 0 t20 0 l19.length)] ∧ σ = ⟨[(1, .row (xGDeriv p2) 24), (0, .vec (List.map cGBracket l19).flatten 53 3 t20)], 2⟩) n ⟨0, l4, t5, hF, rfl, rfl⟩ ?_ ?_
      · skip
        rintro _ _ ⟨l19, t20, hF, rfl, rfl⟩
        unfold evaluate_gather_K2 at hF
        repeat refine gq ?_
        repeat refine WPU.seq ?_
        refine WPU.region Try.tb_ok ?_
        refine RS.op rfl (op_move rfl) rfl rfl ?_
        refine RS.op rfl (op_assign rfl) rfl rfl ?_
        refine RS.done ?_
        repeat refine gq ?_
        repeat refine WPU.seq ?_
        refine WPU.ret ?_
        repeat refine gq ?_
        have hr := Option.some.inj hF
        subst hr
        exact ⟨.inr rfl, [.vl 0 t20 0 l19.length], res_t rfl res_n, .vl 0 t20 0 l19.length, ⟨[(0, .vec (List.map cGBracket l19).flatten 53 3 t20)], 1⟩, Nat.le_refl _, Gh.to (n1 := 1) [] rfl rfl (Nat.le_refl _) (Nat.le_of_ble_eq_true rfl) BUL.h BH.h, t20, rfl, rfl⟩
      · skip
        rintro m2 _ _ ⟨z16, l17, t18, hF, rfl, rfl⟩
        cases m2 with
        | zero => cases hF
        | succ m2 =>
          unfold evaluate_gather_L2 at hF
          repeat refine WPU.seq ?_
          refine WPU.region Try.tb_ok ?_
          refine RS.op rfl (op_int rfl rfl (ix_lss _ _ _) rfl) rfl rfl ?_
          refine RS.done ?_
          repeat refine gq ?_
          repeat refine WPU.seq ?_
          refine WPU.condS (t := (decide (z16 < (p2.Kids.length : Int)))) rfl (fun h21 => ?_) (fun h21 => ?_)
          · skip
            replace hF := cond_t h21 hF
            repeat refine WPU.seq ?_
            refine WPU.skip ?_
            repeat refine gq ?_
            repeat refine WPU.seq ?_
            refine WPU.block ?_
            repeat refine WPU.seq ?_
            obtain ⟨x22, h23, hF⟩ := bindO_some hF
            refine WPU.region Try.tb_ok ?_
            refine RS.op (u := .iptr (xGDeriv x22)) rfl (op_ia rfl rfl (ia_isl cGDeriv Try.und22 (sz_of Try.inf24) len_cGDeriv h23 (cGDeriv_eq x22))) rfl rfl ?_
            refine RS.op (u := .agg (xGDeriv x22)) rfl (li_agg Try.und24 rfl (sz_of Try.inf24) rfl rfl) rfl rfl ?_
            refine RS.op (u := .ptr 2 0 0) (σ' := ⟨[(2, .row [.int .i64 0, .str [], .int .i64 0, .int .i64 0, .nils] 24), (1, .row (xGDeriv p2) 24), (0, .vec (List.map cGBracket l17).flatten 53 3 t18)], 3⟩) rfl (op_alloc Try.inf24 rfl rfl) rfl rfl ?_
            refine RS.opn (u := .junk) (σ' := ⟨[(2, .row (xGDeriv x22) 24), (1, .row (xGDeriv p2) 24), (0, .vec (List.map cGBracket l17).flatten 53 3 t18)], 3⟩) rfl (op_store (sz_of Try.inf24) rfl rfl rfl rfl rfl rfl rfl rfl) rfl ?_
            refine RS.done ?_
            repeat refine gq ?_
            repeat refine WPU.seq ?_
            obtain ⟨r24, h25, hF⟩ := bindO_some hF
            refine WPU.region Try.tb_ok ?_
            refine RS.op rfl (op_move rfl) rfl rfl ?_
            refine RS.op (u := .agg (xGDeriv x22)) rfl (ld_agg Try.und24 rfl (sz_of Try.inf24) rfl rfl rfl) rfl rfl ?_
            refine RS.callx (args := [.vl 0 t18 0 l17.length, .agg (xGDeriv x22)]) rfl (op_call rfl rfl Try.fn29 Try.hb29 rfl rfl) (ihS l17 x22 r24 h25 _ rfl rfl) rfl rfl ?_
            rintro _ _ ⟨t26, rfl, rfl⟩
            refine RS.op rfl (op_assign rfl) rfl rfl ?_
            refine RS.done ?_
            repeat refine gq ?_
            repeat refine WPU.seq ?_
            refine WPU.region Try.tb_ok ?_
            refine RS.op rfl (op_int rfl rfl (ix_add _ _ _) rfl) rfl rfl ?_
            refine RS.op rfl (op_move rfl) rfl rfl ?_
            refine RS.done ?_
            repeat refine gq ?_
            exact ⟨m2, _, _, Nat.lt_succ_self _, ⟨(IntKind.i64.wrap (z16 + 1)), r24, t26, hF, rfl, rfl⟩, (Nat.le_of_ble_eq_true rfl), Gh.toC (n1 := 2) ⟨rfl, rfl, rfl, rfl, trivial⟩ rfl (Nat.le_of_ble_eq_true rfl) (by simp)⟩
          · skip
            replace hF := cond_f h21 hF
            repeat refine WPU.seq ?_
            refine WPU.exit ?_
            repeat refine gq ?_
            exact ⟨_, _, ⟨l17, t18, hF, rfl, rfl⟩, (Nat.le_of_ble_eq_true rfl), Gh.toC (n1 := 2) ⟨rfl, trivial⟩ rfl (Nat.le_of_ble_eq_true rfl) (by simp)⟩
    · skip
      refine WPU.condS (t := (p2.Kind == 2)) rfl (fun h3 => ?_) (fun h3 => ?_)
      · skip
        replace hF := cond_t h3 hF
        repeat refine WPU.seq ?_
        obtain ⟨h27, hF⟩ := needO_some hF
        refine WPU.region Try.tb_ok ?_
        refine RS.op rfl (op_move rfl) rfl rfl ?_
        refine RS.op (u := .ptr 1 0 1) rfl (op_fa Try.und24 rfl (sz_of Try.inf9) rfl rfl rfl) rfl rfl ?_
        refine RS.op (u := .str p2.Name) rfl (ld_one Try.und9 rfl rfl rfl rfl) rfl rfl ?_
        refine RS.op (u := .ptr 1 0 2) rfl (op_fa Try.und24 rfl (sz_of Try.inf3) rfl rfl rfl) rfl rfl ?_
        refine RS.op (u := .int .i64 p2.From) rfl (ld_one Try.und3 rfl rfl rfl rfl) rfl rfl ?_
        refine RS.op (u := .ptr 1 0 3) rfl (op_fa Try.und24 rfl (sz_of Try.inf3) rfl rfl rfl) rfl rfl ?_
        refine RS.op (u := .int .i64 p2.To) rfl (ld_one Try.und3 rfl rfl rfl rfl) rfl rfl ?_
        refine RS.op (u := .agg [.str p2.Name, .int .i64 p2.From, .int .i64 p2.To]) rfl (op_bld Try.bd53 rfl rfl rfl) rfl rfl ?_
        refine RS.op (u := .sl 2 0 1 1) (σ' := ⟨[(2, .row [.str p2.Name, .int .i64 p2.From, .int .i64 p2.To] 53), (1, .row (xGDeriv p2) 24), (0, .vec (List.map cGBracket p1).flatten 53 3 t0)], 3⟩) rfl (op_bsl Try.und28 Try.inf53 rfl rfl rfl rfl rfl rfl rfl) rfl rfl ?_
        refine RS.op (u := .vl 0 (t0 + 1) 0 ((p1 ++ [(GBracket.mk p2.Name p2.From p2.To)]).length)) (σ' := ⟨[(2, .row [.str p2.Name, .int .i64 p2.From, .int .i64 p2.To] 53), (1, .row (xGDeriv p2) 24), (0, .vec (List.map cGBracket (p1 ++ [(GBracket.mk p2.Name p2.From p2.To)])).flatten 53 3 (t0 + 1))], 3⟩) rfl (op_app rfl rfl rfl rfl (app_vl cGBracket ([(GBracket.mk p2.Name p2.From p2.To)]) Try.und28 Try.und28 Try.inf53 rfl len_cGBracket rfl (src_row cGBracket [(GBracket.mk p2.Name p2.From p2.To)] rfl rfl rfl rfl) h27)) rfl rfl ?_
        refine RS.op rfl (op_assign rfl) rfl rfl ?_
        refine RS.done ?_
        repeat refine gq ?_
        exact ⟨_, _, ⟨(p1 ++ [(GBracket.mk p2.Name p2.From p2.To)]), (t0 + 1), hF, rfl, rfl⟩, (Nat.le_of_ble_eq_true rfl), Gh.toC (n1 := 2) ⟨rfl, rfl, trivial⟩ rfl (Nat.le_of_ble_eq_true rfl) (by simp)⟩
      · skip
        replace hF := cond_f h3 hF
        repeat refine WPU.seq ?_
        refine WPU.skip ?_
        repeat refine gq ?_
        exact ⟨_, _, ⟨p1, t0, hF, rfl, rfl⟩, (Nat.le_of_ble_eq_true rfl), Gh.toC (n1 := 2) ⟨rfl, rfl, trivial⟩ rfl (Nat.le_of_ble_eq_true rfl) (by simp)⟩
theorem evaluate_gather_ok (n : Nat) (p1 : List GBracket) (p2 : GDeriv) (r : (List GBracket)) (hF : evaluate_gather n p1 p2 = some r) : ∀ (σ : Sg) {K t0 : Nat}, Nat.blt K σ.nx = true → gt σ.h K = some (.vec (List.map cGBracket p1).flatten 53 3 t0) → EvU Try.prog 29 [.vl K t0 0 p1.length, .agg (xGDeriv p2)] σ (fun u σ' => ∃ t, u = .vl K t 0 r.length ∧ σ' = ⟨ug σ.h K (.vec (List.map cGBracket r).flatten 53 3 t), σ.nx⟩) := fun σ K t0 hK hg =>
  EvU.acc1 cGBracket (BF.h 0) (BUL.h) (evaluate_gather_0 n p1 p2 r hF) σ hK hg
end Go.Proofs
end
