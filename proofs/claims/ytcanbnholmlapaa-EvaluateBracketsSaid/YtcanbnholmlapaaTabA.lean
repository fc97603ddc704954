/-
  The tables of the program, for the symbolic run: made by program out of the translation.
-/
import Derived.Test.YtcanbnholmlapaaVxN
import Derived.Test.YtcanbnholmlapaaProg
namespace Go.Proofs
open Go Go.Rx
noncomputable def Try.tb : Tb := tbOf Try.prog [32,35,53]
theorem Try.mixed : Try.prog.follows .mixedOrders = true := by kernel_rfl
theorem Try.eqs_ok : ∀ t ∈ [32,35,53], Try.prog.stoodInHeld t = false ∧ Try.prog.eqGuardType Try.prog.depth t = false := by
  intro t ht
  simp only [List.mem_cons, List.not_mem_nil, or_false] at ht
  rcases ht with rfl | rfl | rfl <;> exact ⟨by kernel_rfl, by kernel_rfl⟩
theorem Try.names_ok : (Try.prog.funcs.toList.all fun f => !(f.name == "runtime.NumGoroutine")) = true := by kernel_rfl
theorem Try.tb_ok : TbOk Try.prog Try.tb := tbOf_ok Try.prog [32,35,53] Try.mixed (fun f hf _ => by
  have := List.all_eq_true.1 Try.names_ok f hf
  simpa using this) Try.eqs_ok
theorem Try.und2 : Try.tb.und 2 = some (.int .i64) := by kernel_rfl
theorem Try.inf2 : Try.tb.inf 2 = some (1, 8, .int .i64 0) := by kernel_rfl
theorem Try.und3 : Try.tb.und 3 = some (.int .i64) := by kernel_rfl
theorem Try.inf3 : Try.tb.inf 3 = some (1, 8, .int .i64 0) := by kernel_rfl
theorem Try.und4 : Try.tb.und 4 = some (.bool) := by kernel_rfl
theorem Try.inf4 : Try.tb.inf 4 = some (1, 1, .bool false) := by kernel_rfl
theorem Try.und5 : Try.tb.und 5 = some (.int .u8) := by kernel_rfl
theorem Try.inf5 : Try.tb.inf 5 = some (1, 1, .int .u8 0) := by kernel_rfl
theorem Try.und6 : Try.tb.und 6 = some (.int .u8) := by kernel_rfl
theorem Try.inf6 : Try.tb.inf 6 = some (1, 1, .int .u8 0) := by kernel_rfl
theorem Try.und9 : Try.tb.und 9 = some (.string) := by kernel_rfl
theorem Try.inf9 : Try.tb.inf 9 = some (1, 16, .string ⟨#[]⟩) := by kernel_rfl
theorem Try.und10 : Try.tb.und 10 = some (.string) := by kernel_rfl
theorem Try.inf10 : Try.tb.inf 10 = some (1, 16, .string ⟨#[]⟩) := by kernel_rfl
theorem Try.und11 : Try.tb.und 11 = some (.string) := by kernel_rfl
theorem Try.inf11 : Try.tb.inf 11 = some (1, 16, .string ⟨#[]⟩) := by kernel_rfl
theorem Try.und12 : Try.tb.und 12 = some (.int .u64) := by kernel_rfl
theorem Try.inf12 : Try.tb.inf 12 = some (1, 8, .int .u64 0) := by kernel_rfl
theorem Try.und15 : Try.tb.und 15 = some (.pointer 100) := by kernel_rfl
theorem Try.inf15 : Try.tb.inf 15 = some (1, 8, .pointer none) := by kernel_rfl
theorem Try.und16 : Try.tb.und 16 = some (.pointer 103) := by kernel_rfl
theorem Try.inf16 : Try.tb.inf 16 = some (1, 8, .pointer none) := by kernel_rfl
theorem Try.und17 : Try.tb.und 17 = some (.pointer 112) := by kernel_rfl
theorem Try.inf17 : Try.tb.inf 17 = some (1, 8, .pointer none) := by kernel_rfl
theorem Try.und21 : Try.tb.und 21 = some (.int .i32) := by kernel_rfl
theorem Try.inf21 : Try.tb.inf 21 = some (1, 4, .int .i32 0) := by kernel_rfl
theorem Try.und22 : Try.tb.und 22 = some (.slice 24) := by kernel_rfl
theorem Try.inf22 : Try.tb.inf 22 = some (1, 24, .slice none 0 0) := by kernel_rfl
theorem Try.und23 : Try.tb.und 23 = some (.struct #[⟨ "Kind", 3, 0, false, "", "", 0⟩, ⟨ "Name", 9, 1, false, "", "", 8⟩, ⟨ "From", 3, 2, false, "", "", 24⟩, ⟨ "To", 3, 3, false, "", "", 32⟩, ⟨ "Kids", 22, 4, false, "", "", 40⟩]) := by kernel_rfl
theorem Try.inf23 : Try.tb.inf 23 = some (5, 64, .agg #[.int .i64 0, .string ⟨#[]⟩, .int .i64 0, .int .i64 0, .slice none 0 0]) := by kernel_rfl
theorem Try.und24 : Try.tb.und 24 = some (.struct #[⟨ "Kind", 3, 0, false, "", "", 0⟩, ⟨ "Name", 9, 1, false, "", "", 8⟩, ⟨ "From", 3, 2, false, "", "", 24⟩, ⟨ "To", 3, 3, false, "", "", 32⟩, ⟨ "Kids", 22, 4, false, "", "", 40⟩]) := by kernel_rfl
theorem Try.inf24 : Try.tb.inf 24 = some (5, 64, .agg #[.int .i64 0, .string ⟨#[]⟩, .int .i64 0, .int .i64 0, .slice none 0 0]) := by kernel_rfl
theorem Try.und28 : Try.tb.und 28 = some (.slice 53) := by kernel_rfl
theorem Try.inf28 : Try.tb.inf 28 = some (1, 24, .slice none 0 0) := by kernel_rfl
theorem Try.und31 : Try.tb.und 31 = some (.struct #[⟨ "Items", 3, 0, false, "", "", 0⟩, ⟨ "Exact", 3, 1, false, "", "", 8⟩, ⟨ "Gold", 3, 2, false, "", "", 16⟩, ⟨ "Test", 3, 3, false, "", "", 24⟩, ⟨ "Match", 3, 4, false, "", "", 32⟩, ⟨ "Crossing", 3, 5, false, "", "", 40⟩]) := by kernel_rfl
theorem Try.inf31 : Try.tb.inf 31 = some (6, 48, .agg #[.int .i64 0, .int .i64 0, .int .i64 0, .int .i64 0, .int .i64 0, .int .i64 0]) := by kernel_rfl
theorem Try.und32 : Try.tb.und 32 = some (.struct #[⟨ "Items", 3, 0, false, "", "", 0⟩, ⟨ "Exact", 3, 1, false, "", "", 8⟩, ⟨ "Gold", 3, 2, false, "", "", 16⟩, ⟨ "Test", 3, 3, false, "", "", 24⟩, ⟨ "Match", 3, 4, false, "", "", 32⟩, ⟨ "Crossing", 3, 5, false, "", "", 40⟩]) := by kernel_rfl
theorem Try.inf32 : Try.tb.inf 32 = some (6, 48, .agg #[.int .i64 0, .int .i64 0, .int .i64 0, .int .i64 0, .int .i64 0, .int .i64 0]) := by kernel_rfl
theorem Try.und34 : Try.tb.und 34 = some (.struct #[⟨ "Num", 3, 0, false, "", "", 0⟩, ⟨ "Den", 3, 1, false, "", "", 8⟩]) := by kernel_rfl
theorem Try.inf34 : Try.tb.inf 34 = some (2, 16, .agg #[.int .i64 0, .int .i64 0]) := by kernel_rfl
theorem Try.und35 : Try.tb.und 35 = some (.struct #[⟨ "Num", 3, 0, false, "", "", 0⟩, ⟨ "Den", 3, 1, false, "", "", 8⟩]) := by kernel_rfl
theorem Try.inf35 : Try.tb.inf 35 = some (2, 16, .agg #[.int .i64 0, .int .i64 0]) := by kernel_rfl
theorem Try.und38 : Try.tb.und 38 = some (.slice 32) := by kernel_rfl
theorem Try.inf38 : Try.tb.inf 38 = some (1, 24, .slice none 0 0) := by kernel_rfl
theorem Try.und43 : Try.tb.und 43 = some (.int .i64) := by kernel_rfl
theorem Try.inf43 : Try.tb.inf 43 = some (1, 8, .int .i64 0) := by kernel_rfl
theorem Try.und47 : Try.tb.und 47 = some (.int .i16) := by kernel_rfl
theorem Try.inf47 : Try.tb.inf 47 = some (1, 2, .int .i16 0) := by kernel_rfl
theorem Try.und49 : Try.tb.und 49 = some (.slice 35) := by kernel_rfl
theorem Try.inf49 : Try.tb.inf 49 = some (1, 24, .slice none 0 0) := by kernel_rfl
theorem Try.und52 : Try.tb.und 52 = some (.struct #[⟨ "Name", 9, 0, false, "", "", 0⟩, ⟨ "From", 3, 1, false, "", "", 16⟩, ⟨ "To", 3, 2, false, "", "", 24⟩]) := by kernel_rfl
theorem Try.inf52 : Try.tb.inf 52 = some (3, 32, .agg #[.string ⟨#[]⟩, .int .i64 0, .int .i64 0]) := by kernel_rfl
theorem Try.und53 : Try.tb.und 53 = some (.struct #[⟨ "Name", 9, 0, false, "", "", 0⟩, ⟨ "From", 3, 1, false, "", "", 16⟩, ⟨ "To", 3, 2, false, "", "", 24⟩]) := by kernel_rfl
theorem Try.inf53 : Try.tb.inf 53 = some (3, 32, .agg #[.string ⟨#[]⟩, .int .i64 0, .int .i64 0]) := by kernel_rfl
theorem Try.und59 : Try.tb.und 59 = some (.map 53 3) := by kernel_rfl
theorem Try.inf59 : Try.tb.inf 59 = some (1, 8, .map none) := by kernel_rfl
theorem Try.und69 : Try.tb.und 69 = some (.int .u64) := by kernel_rfl
theorem Try.inf69 : Try.tb.inf 69 = some (1, 8, .int .u64 0) := by kernel_rfl
theorem Try.und75 : Try.tb.und 75 = some (.int .i64) := by kernel_rfl
theorem Try.inf75 : Try.tb.inf 75 = some (1, 8, .int .i64 0) := by kernel_rfl
theorem Try.und83 : Try.tb.und 83 = some (.int .u32) := by kernel_rfl
theorem Try.inf83 : Try.tb.inf 83 = some (1, 4, .int .u32 0) := by kernel_rfl
theorem Try.und85 : Try.tb.und 85 = some (.int .u64) := by kernel_rfl
theorem Try.inf85 : Try.tb.inf 85 = some (1, 8, .int .u64 0) := by kernel_rfl
theorem Try.und88 : Try.tb.und 88 = some (.slice 3) := by kernel_rfl
theorem Try.inf88 : Try.tb.inf 88 = some (1, 24, .slice none 0 0) := by kernel_rfl
theorem Try.und89 : Try.tb.und 89 = some (.int .u64) := by kernel_rfl
theorem Try.inf89 : Try.tb.inf 89 = some (1, 8, .int .u64 0) := by kernel_rfl
theorem Try.und93 : Try.tb.und 93 = some (.pointer 3) := by kernel_rfl
theorem Try.inf93 : Try.tb.inf 93 = some (1, 8, .pointer none) := by kernel_rfl
theorem Try.und95 : Try.tb.und 95 = some (.pointer 89) := by kernel_rfl
theorem Try.inf95 : Try.tb.inf 95 = some (1, 8, .pointer none) := by kernel_rfl
theorem Try.und101 : Try.tb.und 101 = some (.array 0 16) := by kernel_rfl
theorem Try.inf101 : Try.tb.inf 101 = some (0, 0, .agg #[]) := by kernel_rfl
theorem Try.und105 : Try.tb.und 105 = some (.int .u8) := by kernel_rfl
theorem Try.inf105 : Try.tb.inf 105 = some (1, 1, .int .u8 0) := by kernel_rfl
theorem Try.und106 : Try.tb.und 106 = some (.int .u8) := by kernel_rfl
theorem Try.inf106 : Try.tb.inf 106 = some (1, 1, .int .u8 0) := by kernel_rfl
theorem Try.und108 : Try.tb.und 108 = some (.pointer 5) := by kernel_rfl
theorem Try.inf108 : Try.tb.inf 108 = some (1, 8, .pointer none) := by kernel_rfl
theorem Try.und109 : Try.tb.und 109 = some (.int .i32) := by kernel_rfl
theorem Try.inf109 : Try.tb.inf 109 = some (1, 4, .int .i32 0) := by kernel_rfl
theorem Try.und110 : Try.tb.und 110 = some (.int .i32) := by kernel_rfl
theorem Try.inf110 : Try.tb.inf 110 = some (1, 4, .int .i32 0) := by kernel_rfl
theorem Try.und111 : Try.tb.und 111 = some (.struct #[⟨ "Size_", 12, 0, false, "", "", 0⟩, ⟨ "PtrBytes", 12, 1, false, "", "", 8⟩, ⟨ "Hash", 83, 2, false, "", "", 16⟩, ⟨ "TFlag", 105, 3, false, "", "", 20⟩, ⟨ "Align_", 5, 4, false, "", "", 21⟩, ⟨ "FieldAlign_", 5, 5, false, "", "", 22⟩, ⟨ "Kind_", 106, 6, false, "", "", 23⟩, ⟨ "Equal", 107, 7, false, "", "", 24⟩, ⟨ "GCData", 108, 8, false, "", "", 32⟩, ⟨ "Str", 109, 9, false, "", "", 40⟩, ⟨ "PtrToThis", 110, 10, false, "", "", 44⟩]) := by kernel_rfl
theorem Try.inf111 : Try.tb.inf 111 = some (11, 48, .agg #[.int .u64 0, .int .u64 0, .int .u32 0, .int .u8 0, .int .u8 0, .int .u8 0, .int .u8 0, .nilFunc, .pointer none, .int .i32 0, .int .i32 0]) := by kernel_rfl
theorem Try.und112 : Try.tb.und 112 = some (.struct #[⟨ "Size_", 12, 0, false, "", "", 0⟩, ⟨ "PtrBytes", 12, 1, false, "", "", 8⟩, ⟨ "Hash", 83, 2, false, "", "", 16⟩, ⟨ "TFlag", 105, 3, false, "", "", 20⟩, ⟨ "Align_", 5, 4, false, "", "", 21⟩, ⟨ "FieldAlign_", 5, 5, false, "", "", 22⟩, ⟨ "Kind_", 106, 6, false, "", "", 23⟩, ⟨ "Equal", 107, 7, false, "", "", 24⟩, ⟨ "GCData", 108, 8, false, "", "", 32⟩, ⟨ "Str", 109, 9, false, "", "", 40⟩, ⟨ "PtrToThis", 110, 10, false, "", "", 44⟩]) := by kernel_rfl
theorem Try.inf112 : Try.tb.inf 112 = some (11, 48, .agg #[.int .u64 0, .int .u64 0, .int .u32 0, .int .u8 0, .int .u8 0, .int .u8 0, .int .u8 0, .nilFunc, .pointer none, .int .i32 0, .int .i32 0]) := by kernel_rfl
end Go.Proofs
