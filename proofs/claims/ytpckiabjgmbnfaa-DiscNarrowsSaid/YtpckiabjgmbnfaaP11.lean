/-
  Texts of the walk: Tab45 Fn45.
-/
import Derived.Test.YtpckiabjgmbnfaaProg
import Derived.Test.YtpckiabjgmbnfaaP10
section
namespace Go.Proofs
open Go Go.Rx
noncomputable def Try.tb : Tb := tbOf Try.prog [26,44]
theorem Try.mixed : Try.prog.follows .mixedOrders = true := by kernel_rfl
theorem Try.eqs_ok : ∀ t ∈ [26,44], Try.prog.stoodInHeld t = false ∧ Try.prog.eqGuardType Try.prog.depth t = false := by
  intro t ht
  simp only [List.mem_cons, List.not_mem_nil, or_false] at ht
  rcases ht with rfl | rfl <;> exact ⟨by kernel_rfl, by kernel_rfl⟩
theorem Try.names_ok : (Try.prog.funcs.toList.all fun f => !(f.name == "runtime.NumGoroutine")) = true := by kernel_rfl
theorem Try.tb_ok : TbOk Try.prog Try.tb := tbOf_ok Try.prog [26,44] Try.mixed (fun f hf _ => by
  have := List.all_eq_true.1 Try.names_ok f hf
  simpa using this) Try.eqs_ok
theorem Try.und3 : Try.tb.und 3 = some (.int .i64) := by kernel_rfl
theorem Try.inf3 : Try.tb.inf 3 = some (1, 8, .int .i64 0) := by kernel_rfl
theorem Try.und4 : Try.tb.und 4 = some (.bool) := by kernel_rfl
theorem Try.inf4 : Try.tb.inf 4 = some (1, 1, .bool false) := by kernel_rfl
theorem Try.und9 : Try.tb.und 9 = some (.string) := by kernel_rfl
theorem Try.inf9 : Try.tb.inf 9 = some (1, 16, .string ⟨#[]⟩) := by kernel_rfl
theorem Try.und22 : Try.tb.und 22 = some (.slice 24) := by kernel_rfl
theorem Try.inf22 : Try.tb.inf 22 = some (1, 24, .slice none 0 0) := by kernel_rfl
theorem Try.und24 : Try.tb.und 24 = some (.struct #[⟨ "Kind", 3, 0, false, "", "", 0⟩, ⟨ "Name", 9, 1, false, "", "", 8⟩, ⟨ "From", 3, 2, false, "", "", 24⟩, ⟨ "To", 3, 3, false, "", "", 32⟩, ⟨ "Kids", 22, 4, false, "", "", 40⟩]) := by kernel_rfl
theorem Try.inf24 : Try.tb.inf 24 = some (5, 64, .agg #[.int .i64 0, .string ⟨#[]⟩, .int .i64 0, .int .i64 0, .slice none 0 0]) := by kernel_rfl
theorem Try.und26 : Try.tb.und 26 = some (.struct #[⟨ "Kind", 3, 0, false, "", "", 0⟩, ⟨ "Name", 9, 1, false, "", "", 8⟩, ⟨ "From", 3, 2, false, "", "", 24⟩, ⟨ "To", 3, 3, false, "", "", 32⟩]) := by kernel_rfl
theorem Try.inf26 : Try.tb.inf 26 = some (4, 40, .agg #[.int .i64 0, .string ⟨#[]⟩, .int .i64 0, .int .i64 0]) := by kernel_rfl
theorem Try.und30 : Try.tb.und 30 = some (.slice 26) := by kernel_rfl
theorem Try.inf30 : Try.tb.inf 30 = some (1, 24, .slice none 0 0) := by kernel_rfl
theorem Try.und36 : Try.tb.und 36 = some (.slice 44) := by kernel_rfl
theorem Try.und38 : Try.tb.und 38 = some (.slice 3) := by kernel_rfl
theorem Try.und44 : Try.tb.und 44 = some (.struct #[⟨ "Prop", 26, 0, false, "", "", 0⟩, ⟨ "Yes", 4, 4, false, "", "", 40⟩]) := by kernel_rfl
theorem Try.inf44 : Try.tb.inf 44 = some (5, 48, .agg #[.int .i64 0, .string ⟨#[]⟩, .int .i64 0, .int .i64 0, .bool false]) := by kernel_rfl
theorem Try.und55 : Try.tb.und 55 = some (.slice 30) := by kernel_rfl
theorem Try.und63 : Try.tb.und 63 = some (.int .u64) := by kernel_rfl
end Go.Proofs
end
section
namespace Go.Proofs
open Go Go.Rx
theorem Try.fn7 : Try.tb.fn 7 = some Try.f7 := by kernel_rfl
theorem Try.fn10 : Try.tb.fn 10 = some Try.f10 := by kernel_rfl
theorem Try.hb10 : Try.f10.body.isSome = true := rfl
theorem Try.fn11 : Try.tb.fn 11 = some Try.f11 := by kernel_rfl
theorem Try.hb11 : Try.f11.body.isSome = true := rfl
theorem Try.fn12 : Try.tb.fn 12 = some Try.f12 := by kernel_rfl
theorem Try.hb12 : Try.f12.body.isSome = true := rfl
theorem Try.fn13 : Try.tb.fn 13 = some Try.f13 := by kernel_rfl
theorem Try.hb13 : Try.f13.body.isSome = true := rfl
theorem Try.fn15 : Try.tb.fn 15 = some Try.f15 := by kernel_rfl
theorem Try.hb15 : Try.f15.body.isSome = true := rfl
theorem Try.fn17 : Try.tb.fn 17 = some Try.f17 := by kernel_rfl
theorem Try.hb17 : Try.f17.body.isSome = true := rfl
theorem Try.fn18 : Try.tb.fn 18 = some Try.f18 := by kernel_rfl
theorem Try.hb18 : Try.f18.body.isSome = true := rfl
theorem Try.fn20 : Try.tb.fn 20 = some Try.f20 := by kernel_rfl
theorem Try.hb20 : Try.f20.body.isSome = true := rfl
theorem Try.fn21 : Try.tb.fn 21 = some Try.f21 := by kernel_rfl
theorem Try.hb21 : Try.f21.body.isSome = true := rfl
theorem Try.fn23 : Try.tb.fn 23 = some Try.f23 := by kernel_rfl
theorem Try.hb23 : Try.f23.body.isSome = true := rfl
theorem Try.fn24 : Try.tb.fn 24 = some Try.f24 := by kernel_rfl
theorem Try.hb24 : Try.f24.body.isSome = true := rfl
theorem Try.fn27 : Try.tb.fn 27 = some Try.f27 := by kernel_rfl
theorem Try.hb27 : Try.f27.body.isSome = true := rfl
theorem Try.fn28 : Try.tb.fn 28 = some Try.f28 := by kernel_rfl
theorem Try.hb28 : Try.f28.body.isSome = true := rfl
theorem Try.fn29 : Try.tb.fn 29 = some Try.f29 := by kernel_rfl
theorem Try.hb29 : Try.f29.body.isSome = true := rfl
theorem Try.fn30 : Try.tb.fn 30 = some Try.f30 := by kernel_rfl
theorem Try.hb30 : Try.f30.body.isSome = true := rfl
theorem Try.fn31 : Try.tb.fn 31 = some Try.f31 := by kernel_rfl
theorem Try.hb31 : Try.f31.body.isSome = true := rfl
theorem Try.fn33 : Try.tb.fn 33 = some Try.f33 := by kernel_rfl
theorem Try.hb33 : Try.f33.body.isSome = true := rfl
theorem Try.fn35 : Try.tb.fn 35 = some Try.f35 := by kernel_rfl
theorem Try.hb35 : Try.f35.body.isSome = true := rfl
theorem Try.fn36 : Try.tb.fn 36 = some Try.f36 := by kernel_rfl
theorem Try.hb36 : Try.f36.body.isSome = true := rfl
theorem Try.fn37 : Try.tb.fn 37 = some Try.f37 := by kernel_rfl
theorem Try.hb37 : Try.f37.body.isSome = true := rfl
theorem Try.fn38 : Try.tb.fn 38 = some Try.f38 := by kernel_rfl
theorem Try.hb38 : Try.f38.body.isSome = true := rfl
theorem Try.fn39 : Try.tb.fn 39 = some Try.f39 := by kernel_rfl
theorem Try.hb39 : Try.f39.body.isSome = true := rfl
theorem Try.fn40 : Try.tb.fn 40 = some Try.f40 := by kernel_rfl
theorem Try.hb40 : Try.f40.body.isSome = true := rfl
theorem Try.fn42 : Try.tb.fn 42 = some Try.f42 := by kernel_rfl
theorem Try.hb42 : Try.f42.body.isSome = true := rfl
theorem Try.fn43 : Try.tb.fn 43 = some Try.f43 := by kernel_rfl
theorem Try.hb43 : Try.f43.body.isSome = true := rfl
theorem Try.fn44 : Try.tb.fn 44 = some Try.f44 := by kernel_rfl
theorem Try.hb44 : Try.f44.body.isSome = true := rfl
theorem Try.fn45 : Try.tb.fn 45 = some Try.f45 := by kernel_rfl
theorem Try.hb45 : Try.f45.body.isSome = true := rfl
theorem Try.fn46 : Try.tb.fn 46 = some Try.f46 := by kernel_rfl
theorem Try.hb46 : Try.f46.body.isSome = true := rfl
theorem Try.fn48 : Try.tb.fn 48 = some Try.f48 := by kernel_rfl
theorem Try.hb48 : Try.f48.body.isSome = true := rfl
theorem Try.fn49 : Try.tb.fn 49 = some Try.f49 := by kernel_rfl
theorem Try.hb49 : Try.f49.body.isSome = true := rfl
theorem Try.fn50 : Try.tb.fn 50 = some Try.f50 := by kernel_rfl
theorem Try.hb50 : Try.f50.body.isSome = true := rfl
theorem Try.fn51 : Try.tb.fn 51 = some Try.f51 := by kernel_rfl
theorem Try.hb51 : Try.f51.body.isSome = true := rfl
theorem Try.fn52 : Try.tb.fn 52 = some Try.f52 := by kernel_rfl
theorem Try.hb52 : Try.f52.body.isSome = true := rfl
theorem Try.fn62 : Try.tb.fn 62 = some Try.f62 := by kernel_rfl
theorem Try.hb62 : Try.f62.body.isSome = true := rfl
theorem Try.fn63 : Try.tb.fn 63 = some Try.f63 := by kernel_rfl
theorem Try.hb63 : Try.f63.body.isSome = true := rfl
theorem Try.fn65 : Try.tb.fn 65 = some Try.f65 := by kernel_rfl
theorem Try.hb65 : Try.f65.body.isSome = true := rfl
end Go.Proofs
end
