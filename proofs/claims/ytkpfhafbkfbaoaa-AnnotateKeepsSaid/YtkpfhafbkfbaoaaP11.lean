/-
  Texts of the walk: Tab46 Fn46.
-/
import Derived.Test.YtkpfhafbkfbaoaaProg
import Derived.Test.YtkpfhafbkfbaoaaP10
section
namespace Go.Proofs
open Go Go.Rx
noncomputable def Try.tb : Tb:=tbOf Try.prog [38,57]
theorem Try.mixed : Try.prog.follows .mixedOrders = true:=by kernel_rfl
theorem Try.eqs_ok : ∀ t ∈ [38,57],Try.prog.stoodInHeld t = false∧Try.prog.eqGuardType Try.prog.depth t = false:=by
 intro t ht
 simp only [List.mem_cons,List.not_mem_nil,or_false] at ht
 rcases ht with rfl | rfl <;> exact ⟨by kernel_rfl,by kernel_rfl⟩
theorem Try.names_ok : (Try.prog.funcs.toList.all fun f => !(f.name == "runtime.NumGoroutine")) = true := by kernel_rfl
theorem Try.tb_ok : TbOk Try.prog Try.tb:=tbOf_ok Try.prog [38,57] Try.mixed (fun f hf _=>by
 have:=List.all_eq_true.1 Try.names_ok f hf
 simpa using this) Try.eqs_ok
theorem Try.und3 : Try.tb.und 3 = some (.int .i64):=by kernel_rfl
theorem Try.inf3 : Try.tb.inf 3 = some (1,8,.int .i64 0):=by kernel_rfl
theorem Try.und4 : Try.tb.und 4 = some (.bool):=by kernel_rfl
theorem Try.inf4 : Try.tb.inf 4 = some (1,1,.bool false):=by kernel_rfl
theorem Try.und5 : Try.tb.und 5 = some (.int .u8):=by kernel_rfl
theorem Try.inf5 : Try.tb.inf 5 = some (1,1,.int .u8 0):=by kernel_rfl
theorem Try.und9 : Try.tb.und 9 = some (.string):=by kernel_rfl
theorem Try.inf9 : Try.tb.inf 9 = some (1,16,.string ⟨#[]⟩):=by kernel_rfl
theorem Try.und22 : Try.tb.und 22 = some (.slice 36):=by kernel_rfl
theorem Try.inf22 : Try.tb.inf 22 = some (1,24,.slice none 0 0):=by kernel_rfl
theorem Try.und25 : Try.tb.und 25 = some (.slice 57):=by kernel_rfl
theorem Try.inf25 : Try.tb.inf 25 = some (1,24,.slice none 0 0):=by kernel_rfl
theorem Try.und27 : Try.tb.und 27 = some (.struct #[⟨ "Readings", 22, 0, false, "", "", 0⟩, ⟨ "Decisions", 25, 1, false, "", "", 24⟩, ⟨ "State", 3, 2, false, "", "", 48⟩]) := by kernel_rfl
theorem Try.inf27 : Try.tb.inf 27 = some (3,56,.agg #[.slice none 0 0,.slice none 0 0,.int .i64 0]):=by kernel_rfl
theorem Try.und33 : Try.tb.und 33 = some (.slice 38):=by kernel_rfl
theorem Try.inf33 : Try.tb.inf 33 = some (1,24,.slice none 0 0):=by kernel_rfl
theorem Try.und36 : Try.tb.und 36 = some (.struct #[⟨ "Kind", 3, 0, false, "", "", 0⟩, ⟨ "Name", 9, 1, false, "", "", 8⟩, ⟨ "From", 3, 2, false, "", "", 24⟩, ⟨ "To", 3, 3, false, "", "", 32⟩, ⟨ "Kids", 22, 4, false, "", "", 40⟩]) := by kernel_rfl
theorem Try.inf36 : Try.tb.inf 36 = some (5,64,.agg #[.int .i64 0,.string ⟨#[]⟩,.int .i64 0,.int .i64 0,.slice none 0 0]):=by kernel_rfl
theorem Try.und38 : Try.tb.und 38 = some (.struct #[⟨ "Kind", 3, 0, false, "", "", 0⟩, ⟨ "Name", 9, 1, false, "", "", 8⟩, ⟨ "From", 3, 2, false, "", "", 24⟩, ⟨ "To", 3, 3, false, "", "", 32⟩]) := by kernel_rfl
theorem Try.inf38 : Try.tb.inf 38 = some (4,40,.agg #[.int .i64 0,.string ⟨#[]⟩,.int .i64 0,.int .i64 0]):=by kernel_rfl
theorem Try.und43 : Try.tb.und 43 = some (.slice 3):=by kernel_rfl
theorem Try.und47 : Try.tb.und 47 = some (.slice 49):=by kernel_rfl
theorem Try.und49 : Try.tb.und 49 = some (.struct #[⟨ "Op", 5, 0, false, "", "", 0⟩, ⟨ "Prop", 38, 1, false, "", "", 8⟩, ⟨ "Yes", 4, 5, false, "", "", 48⟩]) := by kernel_rfl
theorem Try.inf49 : Try.tb.inf 49 = some (6,56,.agg #[.int .u8 0,.int .i64 0,.string ⟨#[]⟩,.int .i64 0,.int .i64 0,.bool false]):=by kernel_rfl
theorem Try.und57 : Try.tb.und 57 = some (.struct #[⟨ "Prop", 38, 0, false, "", "", 0⟩, ⟨ "Yes", 4, 4, false, "", "", 40⟩]) := by kernel_rfl
theorem Try.inf57 : Try.tb.inf 57 = some (5,48,.agg #[.int .i64 0,.string ⟨#[]⟩,.int .i64 0,.int .i64 0,.bool false]):=by kernel_rfl
theorem Try.und72 : Try.tb.und 72 = some (.struct #[⟨ "Session", 27, 0, true, "", "", 0⟩]) := by kernel_rfl
theorem Try.inf72 : Try.tb.inf 72 = some (3,56,.agg #[.slice none 0 0,.slice none 0 0,.int .i64 0]):=by kernel_rfl
theorem Try.und82 : Try.tb.und 82 = some (.slice 33):=by kernel_rfl
theorem Try.und87 : Try.tb.und 87 = some (.int .u64):=by kernel_rfl
theorem Try.und118 : Try.tb.und 118 = some (.slice 25):=by kernel_rfl
end Go.Proofs
end
section
namespace Go.Proofs
open Go Go.Rx
theorem Try.fn7 : Try.tb.fn 7 = some Try.f7:=by kernel_rfl
theorem Try.fn8 : Try.tb.fn 8 = some Try.f8:=by kernel_rfl
theorem Try.hb8 : Try.f8.body.isSome = true:=rfl
theorem Try.fn9 : Try.tb.fn 9 = some Try.f9:=by kernel_rfl
theorem Try.hb9 : Try.f9.body.isSome = true:=rfl
theorem Try.fn10 : Try.tb.fn 10 = some Try.f10:=by kernel_rfl
theorem Try.hb10 : Try.f10.body.isSome = true:=rfl
theorem Try.fn14 : Try.tb.fn 14 = some Try.f14:=by kernel_rfl
theorem Try.hb14 : Try.f14.body.isSome = true:=rfl
theorem Try.fn15 : Try.tb.fn 15 = some Try.f15:=by kernel_rfl
theorem Try.hb15 : Try.f15.body.isSome = true:=rfl
theorem Try.fn16 : Try.tb.fn 16 = some Try.f16:=by kernel_rfl
theorem Try.hb16 : Try.f16.body.isSome = true:=rfl
theorem Try.fn17 : Try.tb.fn 17 = some Try.f17:=by kernel_rfl
theorem Try.hb17 : Try.f17.body.isSome = true:=rfl
theorem Try.fn18 : Try.tb.fn 18 = some Try.f18:=by kernel_rfl
theorem Try.hb18 : Try.f18.body.isSome = true:=rfl
theorem Try.fn19 : Try.tb.fn 19 = some Try.f19:=by kernel_rfl
theorem Try.hb19 : Try.f19.body.isSome = true:=rfl
theorem Try.fn20 : Try.tb.fn 20 = some Try.f20:=by kernel_rfl
theorem Try.hb20 : Try.f20.body.isSome = true:=rfl
theorem Try.fn21 : Try.tb.fn 21 = some Try.f21:=by kernel_rfl
theorem Try.hb21 : Try.f21.body.isSome = true:=rfl
theorem Try.fn22 : Try.tb.fn 22 = some Try.f22:=by kernel_rfl
theorem Try.hb22 : Try.f22.body.isSome = true:=rfl
theorem Try.fn23 : Try.tb.fn 23 = some Try.f23:=by kernel_rfl
theorem Try.hb23 : Try.f23.body.isSome = true:=rfl
theorem Try.fn24 : Try.tb.fn 24 = some Try.f24:=by kernel_rfl
theorem Try.hb24 : Try.f24.body.isSome = true:=rfl
theorem Try.fn25 : Try.tb.fn 25 = some Try.f25:=by kernel_rfl
theorem Try.hb25 : Try.f25.body.isSome = true:=rfl
theorem Try.fn26 : Try.tb.fn 26 = some Try.f26:=by kernel_rfl
theorem Try.hb26 : Try.f26.body.isSome = true:=rfl
theorem Try.fn27 : Try.tb.fn 27 = some Try.f27:=by kernel_rfl
theorem Try.hb27 : Try.f27.body.isSome = true:=rfl
theorem Try.fn28 : Try.tb.fn 28 = some Try.f28:=by kernel_rfl
theorem Try.hb28 : Try.f28.body.isSome = true:=rfl
theorem Try.fn29 : Try.tb.fn 29 = some Try.f29:=by kernel_rfl
theorem Try.hb29 : Try.f29.body.isSome = true:=rfl
theorem Try.fn33 : Try.tb.fn 33 = some Try.f33:=by kernel_rfl
theorem Try.hb33 : Try.f33.body.isSome = true:=rfl
theorem Try.fn34 : Try.tb.fn 34 = some Try.f34:=by kernel_rfl
theorem Try.hb34 : Try.f34.body.isSome = true:=rfl
theorem Try.fn35 : Try.tb.fn 35 = some Try.f35:=by kernel_rfl
theorem Try.hb35 : Try.f35.body.isSome = true:=rfl
theorem Try.fn36 : Try.tb.fn 36 = some Try.f36:=by kernel_rfl
theorem Try.hb36 : Try.f36.body.isSome = true:=rfl
theorem Try.fn37 : Try.tb.fn 37 = some Try.f37:=by kernel_rfl
theorem Try.hb37 : Try.f37.body.isSome = true:=rfl
theorem Try.fn38 : Try.tb.fn 38 = some Try.f38:=by kernel_rfl
theorem Try.hb38 : Try.f38.body.isSome = true:=rfl
theorem Try.fn39 : Try.tb.fn 39 = some Try.f39:=by kernel_rfl
theorem Try.hb39 : Try.f39.body.isSome = true:=rfl
theorem Try.fn40 : Try.tb.fn 40 = some Try.f40:=by kernel_rfl
theorem Try.hb40 : Try.f40.body.isSome = true:=rfl
theorem Try.fn41 : Try.tb.fn 41 = some Try.f41:=by kernel_rfl
theorem Try.hb41 : Try.f41.body.isSome = true:=rfl
theorem Try.fn42 : Try.tb.fn 42 = some Try.f42:=by kernel_rfl
theorem Try.hb42 : Try.f42.body.isSome = true:=rfl
theorem Try.fn43 : Try.tb.fn 43 = some Try.f43:=by kernel_rfl
theorem Try.hb43 : Try.f43.body.isSome = true:=rfl
theorem Try.fn44 : Try.tb.fn 44 = some Try.f44:=by kernel_rfl
theorem Try.hb44 : Try.f44.body.isSome = true:=rfl
theorem Try.fn45 : Try.tb.fn 45 = some Try.f45:=by kernel_rfl
theorem Try.hb45 : Try.f45.body.isSome = true:=rfl
theorem Try.fn46 : Try.tb.fn 46 = some Try.f46:=by kernel_rfl
theorem Try.hb46 : Try.f46.body.isSome = true:=rfl
theorem Try.fn47 : Try.tb.fn 47 = some Try.f47:=by kernel_rfl
theorem Try.hb47 : Try.f47.body.isSome = true:=rfl
theorem Try.fn48 : Try.tb.fn 48 = some Try.f48:=by kernel_rfl
theorem Try.hb48 : Try.f48.body.isSome = true:=rfl
theorem Try.fn49 : Try.tb.fn 49 = some Try.f49:=by kernel_rfl
theorem Try.hb49 : Try.f49.body.isSome = true:=rfl
theorem Try.fn50 : Try.tb.fn 50 = some Try.f50:=by kernel_rfl
theorem Try.hb50 : Try.f50.body.isSome = true:=rfl
theorem Try.fn51 : Try.tb.fn 51 = some Try.f51:=by kernel_rfl
theorem Try.hb51 : Try.f51.body.isSome = true:=rfl
theorem Try.fn52 : Try.tb.fn 52 = some Try.f52:=by kernel_rfl
theorem Try.hb52 : Try.f52.body.isSome = true:=rfl
theorem Try.fn53 : Try.tb.fn 53 = some Try.f53:=by kernel_rfl
theorem Try.hb53 : Try.f53.body.isSome = true:=rfl
theorem Try.fn54 : Try.tb.fn 54 = some Try.f54:=by kernel_rfl
theorem Try.hb54 : Try.f54.body.isSome = true:=rfl
theorem Try.fn55 : Try.tb.fn 55 = some Try.f55:=by kernel_rfl
theorem Try.hb55 : Try.f55.body.isSome = true:=rfl
theorem Try.fn56 : Try.tb.fn 56 = some Try.f56:=by kernel_rfl
theorem Try.hb56 : Try.f56.body.isSome = true:=rfl
theorem Try.fn58 : Try.tb.fn 58 = some Try.f58:=by kernel_rfl
theorem Try.hb58 : Try.f58.body.isSome = true:=rfl
theorem Try.fn59 : Try.tb.fn 59 = some Try.f59:=by kernel_rfl
theorem Try.hb59 : Try.f59.body.isSome = true:=rfl
theorem Try.fn60 : Try.tb.fn 60 = some Try.f60:=by kernel_rfl
theorem Try.hb60 : Try.f60.body.isSome = true:=rfl
theorem Try.fn61 : Try.tb.fn 61 = some Try.f61:=by kernel_rfl
theorem Try.hb61 : Try.f61.body.isSome = true:=rfl
theorem Try.fn62 : Try.tb.fn 62 = some Try.f62:=by kernel_rfl
theorem Try.hb62 : Try.f62.body.isSome = true:=rfl
theorem Try.fn63 : Try.tb.fn 63 = some Try.f63:=by kernel_rfl
theorem Try.hb63 : Try.f63.body.isSome = true:=rfl
theorem Try.fn64 : Try.tb.fn 64 = some Try.f64:=by kernel_rfl
theorem Try.hb64 : Try.f64.body.isSome = true:=rfl
theorem Try.fn65 : Try.tb.fn 65 = some Try.f65:=by kernel_rfl
theorem Try.hb65 : Try.f65.body.isSome = true:=rfl
theorem Try.fn66 : Try.tb.fn 66 = some Try.f66:=by kernel_rfl
theorem Try.hb66 : Try.f66.body.isSome = true:=rfl
theorem Try.fn67 : Try.tb.fn 67 = some Try.f67:=by kernel_rfl
theorem Try.hb67 : Try.f67.body.isSome = true:=rfl
theorem Try.fn77 : Try.tb.fn 77 = some Try.f77:=by kernel_rfl
theorem Try.hb77 : Try.f77.body.isSome = true:=rfl
theorem Try.fn78 : Try.tb.fn 78 = some Try.f78:=by kernel_rfl
theorem Try.hb78 : Try.f78.body.isSome = true:=rfl
theorem Try.fn79 : Try.tb.fn 79 = some Try.f79:=by kernel_rfl
theorem Try.hb79 : Try.f79.body.isSome = true:=rfl
theorem Try.fn87 : Try.tb.fn 87 = some Try.f87:=by kernel_rfl
theorem Try.hb87 : Try.f87.body.isSome = true:=rfl
theorem Try.fn88 : Try.tb.fn 88 = some Try.f88:=by kernel_rfl
theorem Try.hb88 : Try.f88.body.isSome = true:=rfl
theorem Try.fn97 : Try.tb.fn 97 = some Try.f97:=by kernel_rfl
theorem Try.hb97 : Try.f97.body.isSome = true:=rfl
end Go.Proofs
end
