/-
  Texts of the walk: Tab32 Fn32.
-/
import Derived.Test.YtafbldphahfemaaProg
import Derived.Test.YtafbldphahfemaaP9
section
namespace Go.Proofs
open Go Go.Rx
noncomputable def Try.tb:Tb:=tbOf Try.prog [72]
theorem Try.mixed:Try.prog.follows .mixedOrders=true:=by kernel_rfl
theorem Try.eqs_ok:∀ t∈[72],Try.prog.stoodInHeld t=false∧Try.prog.eqGuardType Try.prog.depth t=false:=by
 intro t ht
 simp only [List.mem_cons,List.not_mem_nil,or_false] at ht
 rcases ht with rfl<;>exact ⟨by kernel_rfl,by kernel_rfl⟩
theorem Try.names_ok : (Try.prog.funcs.toList.all fun f => !(f.name == "runtime.NumGoroutine")) = true := by kernel_rfl
theorem Try.tb_ok:TbOk Try.prog Try.tb:=tbOf_ok Try.prog [72] Try.mixed (fun f hf _=>by
 have:=List.all_eq_true.1 Try.names_ok f hf
 simpa using this) Try.eqs_ok
theorem Try.und3:Try.tb.und 3=some (.int .i64):=by kernel_rfl
theorem Try.inf3:Try.tb.inf 3=some (1,8,.int .i64 0):=by kernel_rfl
theorem Try.und5:Try.tb.und 5=some (.int .u8):=by kernel_rfl
theorem Try.inf5:Try.tb.inf 5=some (1,1,.int .u8 0):=by kernel_rfl
theorem Try.und9:Try.tb.und 9=some (.string):=by kernel_rfl
theorem Try.inf9:Try.tb.inf 9=some (1,16,.string ⟨#[]⟩):=by kernel_rfl
theorem Try.und22:Try.tb.und 22=some (.slice 42):=by kernel_rfl
theorem Try.inf22:Try.tb.inf 22=some (1,24,.slice none 0 0):=by kernel_rfl
theorem Try.und24 : Try.tb.und 24 = some (.struct #[⟨ "Words", 3, 0, false, "", "", 0⟩, ⟨ "Edges", 22, 1, false, "", "", 8⟩]) := by kernel_rfl
theorem Try.inf24:Try.tb.inf 24=some (2,32,.agg #[.int .i64 0,.slice none 0 0]):=by kernel_rfl
theorem Try.und34:Try.tb.und 34=some (.slice 3):=by kernel_rfl
theorem Try.inf34:Try.tb.inf 34=some (1,24,.slice none 0 0):=by kernel_rfl
theorem Try.und35:Try.tb.und 35=some (.slice 37):=by kernel_rfl
theorem Try.inf35:Try.tb.inf 35=some (1,24,.slice none 0 0):=by kernel_rfl
theorem Try.und37 : Try.tb.und 37 = some (.struct #[⟨ "Kind", 3, 0, false, "", "", 0⟩, ⟨ "Name", 9, 1, false, "", "", 8⟩, ⟨ "From", 3, 2, false, "", "", 24⟩, ⟨ "To", 3, 3, false, "", "", 32⟩, ⟨ "Kids", 35, 4, false, "", "", 40⟩]) := by kernel_rfl
theorem Try.inf37:Try.tb.inf 37=some (5,64,.agg #[.int .i64 0,.string ⟨#[]⟩,.int .i64 0,.int .i64 0,.slice none 0 0]):=by kernel_rfl
theorem Try.und38:Try.tb.und 38=some (.slice 62):=by kernel_rfl
theorem Try.inf38:Try.tb.inf 38=some (1,24,.slice none 0 0):=by kernel_rfl
theorem Try.und40 : Try.tb.und 40 = some (.struct #[⟨ "Nodes", 38, 0, false, "", "", 0⟩]) := by kernel_rfl
theorem Try.inf40:Try.tb.inf 40=some (1,24,.agg #[.slice none 0 0]):=by kernel_rfl
theorem Try.und42 : Try.tb.und 42 = some (.struct #[⟨ "From", 3, 0, false, "", "", 0⟩, ⟨ "To", 3, 1, false, "", "", 8⟩, ⟨ "Unary", 3, 2, false, "", "", 16⟩, ⟨ "Kind", 3, 3, false, "", "", 24⟩, ⟨ "Name", 9, 4, false, "", "", 32⟩, ⟨ "Kids", 34, 5, false, "", "", 48⟩, ⟨ "Lex", 37, 6, false, "", "", 72⟩, ⟨ "FS", 40, 11, false, "", "", 136⟩]) := by kernel_rfl
theorem Try.inf42:Try.tb.inf 42=some (12,160,.agg #[.int .i64 0,.int .i64 0,.int .i64 0,.int .i64 0,.string ⟨#[]⟩,.slice none 0 0,.int .i64 0,.string ⟨#[]⟩,.int .i64 0,.int .i64 0,.slice none 0 0,.slice none 0 0]):=by kernel_rfl
theorem Try.und60:Try.tb.und 60=some (.slice 72):=by kernel_rfl
theorem Try.inf60:Try.tb.inf 60=some (1,24,.slice none 0 0):=by kernel_rfl
theorem Try.und62 : Try.tb.und 62 = some (.struct #[⟨ "Type", 3, 0, false, "", "", 0⟩, ⟨ "Arcs", 60, 1, false, "", "", 8⟩]) := by kernel_rfl
theorem Try.inf62:Try.tb.inf 62=some (2,32,.agg #[.int .i64 0,.slice none 0 0]):=by kernel_rfl
theorem Try.und72 : Try.tb.und 72 = some (.struct #[⟨ "Feat", 3, 0, false, "", "", 0⟩, ⟨ "To", 3, 1, false, "", "", 8⟩]) := by kernel_rfl
theorem Try.inf72:Try.tb.inf 72=some (2,16,.agg #[.int .i64 0,.int .i64 0]):=by kernel_rfl
theorem Try.und79:Try.tb.und 79=some (.int .u64):=by kernel_rfl
theorem Try.und80:Try.tb.und 80=some (.int .u64):=by kernel_rfl
theorem Try.und81:Try.tb.und 81=some (.slice 5):=by kernel_rfl
end Go.Proofs
end
section
namespace Go.Proofs
open Go Go.Rx
theorem Try.fn7:Try.tb.fn 7=some Try.f7:=by kernel_rfl
theorem Try.fn9:Try.tb.fn 9=some Try.f9:=by kernel_rfl
theorem Try.hb9:Try.f9.body.isSome=true:=rfl
theorem Try.fn11:Try.tb.fn 11=some Try.f11:=by kernel_rfl
theorem Try.hb11:Try.f11.body.isSome=true:=rfl
theorem Try.fn12:Try.tb.fn 12=some Try.f12:=by kernel_rfl
theorem Try.hb12:Try.f12.body.isSome=true:=rfl
theorem Try.fn13:Try.tb.fn 13=some Try.f13:=by kernel_rfl
theorem Try.hb13:Try.f13.body.isSome=true:=rfl
theorem Try.fn14:Try.tb.fn 14=some Try.f14:=by kernel_rfl
theorem Try.hb14:Try.f14.body.isSome=true:=rfl
theorem Try.fn16:Try.tb.fn 16=some Try.f16:=by kernel_rfl
theorem Try.hb16:Try.f16.body.isSome=true:=rfl
theorem Try.fn18:Try.tb.fn 18=some Try.f18:=by kernel_rfl
theorem Try.hb18:Try.f18.body.isSome=true:=rfl
theorem Try.fn21:Try.tb.fn 21=some Try.f21:=by kernel_rfl
theorem Try.hb21:Try.f21.body.isSome=true:=rfl
theorem Try.fn22:Try.tb.fn 22=some Try.f22:=by kernel_rfl
theorem Try.hb22:Try.f22.body.isSome=true:=rfl
theorem Try.fn25:Try.tb.fn 25=some Try.f25:=by kernel_rfl
theorem Try.hb25:Try.f25.body.isSome=true:=rfl
theorem Try.fn27:Try.tb.fn 27=some Try.f27:=by kernel_rfl
theorem Try.hb27:Try.f27.body.isSome=true:=rfl
theorem Try.fn28:Try.tb.fn 28=some Try.f28:=by kernel_rfl
theorem Try.hb28:Try.f28.body.isSome=true:=rfl
theorem Try.fn29:Try.tb.fn 29=some Try.f29:=by kernel_rfl
theorem Try.hb29:Try.f29.body.isSome=true:=rfl
theorem Try.fn30:Try.tb.fn 30=some Try.f30:=by kernel_rfl
theorem Try.hb30:Try.f30.body.isSome=true:=rfl
theorem Try.fn31:Try.tb.fn 31=some Try.f31:=by kernel_rfl
theorem Try.hb31:Try.f31.body.isSome=true:=rfl
theorem Try.fn32:Try.tb.fn 32=some Try.f32:=by kernel_rfl
theorem Try.hb32:Try.f32.body.isSome=true:=rfl
theorem Try.fn33:Try.tb.fn 33=some Try.f33:=by kernel_rfl
theorem Try.hb33:Try.f33.body.isSome=true:=rfl
theorem Try.fn34:Try.tb.fn 34=some Try.f34:=by kernel_rfl
theorem Try.hb34:Try.f34.body.isSome=true:=rfl
theorem Try.fn35:Try.tb.fn 35=some Try.f35:=by kernel_rfl
theorem Try.hb35:Try.f35.body.isSome=true:=rfl
theorem Try.fn36:Try.tb.fn 36=some Try.f36:=by kernel_rfl
theorem Try.hb36:Try.f36.body.isSome=true:=rfl
theorem Try.fn39:Try.tb.fn 39=some Try.f39:=by kernel_rfl
theorem Try.hb39:Try.f39.body.isSome=true:=rfl
theorem Try.fn40:Try.tb.fn 40=some Try.f40:=by kernel_rfl
theorem Try.hb40:Try.f40.body.isSome=true:=rfl
theorem Try.fn41:Try.tb.fn 41=some Try.f41:=by kernel_rfl
theorem Try.hb41:Try.f41.body.isSome=true:=rfl
theorem Try.fn42:Try.tb.fn 42=some Try.f42:=by kernel_rfl
theorem Try.hb42:Try.f42.body.isSome=true:=rfl
theorem Try.fn43:Try.tb.fn 43=some Try.f43:=by kernel_rfl
theorem Try.hb43:Try.f43.body.isSome=true:=rfl
theorem Try.fn44:Try.tb.fn 44=some Try.f44:=by kernel_rfl
theorem Try.hb44:Try.f44.body.isSome=true:=rfl
theorem Try.fn45:Try.tb.fn 45=some Try.f45:=by kernel_rfl
theorem Try.fn46:Try.tb.fn 46=some Try.f46:=by kernel_rfl
theorem Try.hb46:Try.f46.body.isSome=true:=rfl
theorem Try.fn47:Try.tb.fn 47=some Try.f47:=by kernel_rfl
theorem Try.hb47:Try.f47.body.isSome=true:=rfl
theorem Try.fn49:Try.tb.fn 49=some Try.f49:=by kernel_rfl
theorem Try.hb49:Try.f49.body.isSome=true:=rfl
theorem Try.fn50:Try.tb.fn 50=some Try.f50:=by kernel_rfl
theorem Try.hb50:Try.f50.body.isSome=true:=rfl
theorem Try.fn51:Try.tb.fn 51=some Try.f51:=by kernel_rfl
theorem Try.hb51:Try.f51.body.isSome=true:=rfl
theorem Try.fn52:Try.tb.fn 52=some Try.f52:=by kernel_rfl
theorem Try.hb52:Try.f52.body.isSome=true:=rfl
theorem Try.fn53:Try.tb.fn 53=some Try.f53:=by kernel_rfl
theorem Try.hb53:Try.f53.body.isSome=true:=rfl
theorem Try.fn56:Try.tb.fn 56=some Try.f56:=by kernel_rfl
theorem Try.hb56:Try.f56.body.isSome=true:=rfl
theorem Try.fn57:Try.tb.fn 57=some Try.f57:=by kernel_rfl
theorem Try.hb57:Try.f57.body.isSome=true:=rfl
theorem Try.fn58:Try.tb.fn 58=some Try.f58:=by kernel_rfl
theorem Try.hb58:Try.f58.body.isSome=true:=rfl
theorem Try.fn59:Try.tb.fn 59=some Try.f59:=by kernel_rfl
theorem Try.hb59:Try.f59.body.isSome=true:=rfl
theorem Try.fn60:Try.tb.fn 60=some Try.f60:=by kernel_rfl
theorem Try.hb60:Try.f60.body.isSome=true:=rfl
end Go.Proofs
end
