/-
  Texts of the walk: Tab46z Fn46z.
-/
import Derived.Test.YtkpfhafbkfbaoaaGreatProg
import Derived.Test.YtkpfhafbkfbaoaaGreatP8
section
namespace Go.Proofs
open Go Go.Rx
noncomputable def Tryz.tb:Tb:=tbOf Tryz.prog [33,62]
theorem Tryz.mixed:Tryz.prog.follows .mixedOrders=true:=by kernel_rfl
theorem Tryz.eqs_ok:∀ t∈[33,62],Tryz.prog.stoodInHeld t=false∧Tryz.prog.eqGuardType Tryz.prog.depth t=false:=by
 intro t ht
 simp only [List.mem_cons,List.not_mem_nil,or_false] at ht
 rcases ht with rfl | rfl<;>exact ⟨by kernel_rfl,by kernel_rfl⟩
theorem Tryz.names_ok : (Tryz.prog.funcs.toList.all fun f => !(f.name == "runtime.NumGoroutine")) = true := by kernel_rfl
theorem Tryz.tb_ok:TbOk Tryz.prog Tryz.tb:=tbOf_ok Tryz.prog [33,62] Tryz.mixed (fun f hf _=>by
 have:=List.all_eq_true.1 Tryz.names_ok f hf
 simpa using this) Tryz.eqs_ok
theorem Tryz.und3:Tryz.tb.und 3=some (.int .i64):=by kernel_rfl
theorem Tryz.inf3:Tryz.tb.inf 3=some (1,8,.int .i64 0):=by kernel_rfl
theorem Tryz.und4:Tryz.tb.und 4=some (.bool):=by kernel_rfl
theorem Tryz.inf4:Tryz.tb.inf 4=some (1,1,.bool false):=by kernel_rfl
theorem Tryz.und5:Tryz.tb.und 5=some (.int .u8):=by kernel_rfl
theorem Tryz.inf5:Tryz.tb.inf 5=some (1,1,.int .u8 0):=by kernel_rfl
theorem Tryz.und9:Tryz.tb.und 9=some (.string):=by kernel_rfl
theorem Tryz.inf9:Tryz.tb.inf 9=some (1,16,.string ⟨#[]⟩):=by kernel_rfl
theorem Tryz.und22:Tryz.tb.und 22=some (.slice 43):=by kernel_rfl
theorem Tryz.inf22:Tryz.tb.inf 22=some (1,24,.slice none 0 0):=by kernel_rfl
theorem Tryz.und23:Tryz.tb.und 23=some (.slice 35):=by kernel_rfl
theorem Tryz.und26:Tryz.tb.und 26=some (.slice 62):=by kernel_rfl
theorem Tryz.inf26:Tryz.tb.inf 26=some (1,24,.slice none 0 0):=by kernel_rfl
theorem Tryz.und28 : Tryz.tb.und 28 = some (.struct #[⟨ "Readings", 22, 0, false, "", "", 0⟩, ⟨ "Decisions", 26, 1, false, "", "", 24⟩, ⟨ "State", 3, 2, false, "", "", 48⟩]) := by kernel_rfl
theorem Tryz.inf28:Tryz.tb.inf 28=some (3,56,.agg #[.slice none 0 0,.slice none 0 0,.int .i64 0]):=by kernel_rfl
theorem Tryz.und33 : Tryz.tb.und 33 = some (.struct #[⟨ "Kind", 3, 0, false, "", "", 0⟩, ⟨ "Name", 9, 1, false, "", "", 8⟩, ⟨ "From", 3, 2, false, "", "", 24⟩, ⟨ "To", 3, 3, false, "", "", 32⟩]) := by kernel_rfl
theorem Tryz.inf33:Tryz.tb.inf 33=some (4,40,.agg #[.int .i64 0,.string ⟨#[]⟩,.int .i64 0,.int .i64 0]):=by kernel_rfl
theorem Tryz.und35 : Tryz.tb.und 35 = some (.struct #[⟨ "Op", 5, 0, false, "", "", 0⟩, ⟨ "Prop", 33, 1, false, "", "", 8⟩, ⟨ "Yes", 4, 5, false, "", "", 48⟩]) := by kernel_rfl
theorem Tryz.inf35:Tryz.tb.inf 35=some (6,56,.agg #[.int .u8 0,.int .i64 0,.string ⟨#[]⟩,.int .i64 0,.int .i64 0,.bool false]):=by kernel_rfl
theorem Tryz.und43 : Tryz.tb.und 43 = some (.struct #[⟨ "Kind", 3, 0, false, "", "", 0⟩, ⟨ "Name", 9, 1, false, "", "", 8⟩, ⟨ "From", 3, 2, false, "", "", 24⟩, ⟨ "To", 3, 3, false, "", "", 32⟩, ⟨ "Kids", 22, 4, false, "", "", 40⟩]) := by kernel_rfl
theorem Tryz.inf43:Tryz.tb.inf 43=some (5,64,.agg #[.int .i64 0,.string ⟨#[]⟩,.int .i64 0,.int .i64 0,.slice none 0 0]):=by kernel_rfl
theorem Tryz.und53 : Tryz.tb.und 53 = some (.struct #[⟨ "Session", 28, 0, true, "", "", 0⟩]) := by kernel_rfl
theorem Tryz.inf53:Tryz.tb.inf 53=some (3,56,.agg #[.slice none 0 0,.slice none 0 0,.int .i64 0]):=by kernel_rfl
theorem Tryz.und55:Tryz.tb.und 55=some (.slice 3):=by kernel_rfl
theorem Tryz.und57:Tryz.tb.und 57=some (.slice 33):=by kernel_rfl
theorem Tryz.inf57:Tryz.tb.inf 57=some (1,24,.slice none 0 0):=by kernel_rfl
theorem Tryz.und62 : Tryz.tb.und 62 = some (.struct #[⟨ "Prop", 33, 0, false, "", "", 0⟩, ⟨ "Yes", 4, 4, false, "", "", 40⟩]) := by kernel_rfl
theorem Tryz.inf62:Tryz.tb.inf 62=some (5,48,.agg #[.int .i64 0,.string ⟨#[]⟩,.int .i64 0,.int .i64 0,.bool false]):=by kernel_rfl
theorem Tryz.und75:Tryz.tb.und 75=some (.int .u64):=by kernel_rfl
theorem Tryz.und80:Tryz.tb.und 80=some (.slice 57):=by kernel_rfl
theorem Tryz.und109:Tryz.tb.und 109=some (.slice 26):=by kernel_rfl
end Go.Proofs
end
section
namespace Go.Proofs
open Go Go.Rx
theorem Tryz.fn3:Tryz.tb.fn 3=some Tryz.f3:=by kernel_rfl
theorem Tryz.fn4:Tryz.tb.fn 4=some Tryz.f4:=by kernel_rfl
theorem Tryz.hb4:Tryz.f4.body.isSome=true:=rfl
theorem Tryz.fn5:Tryz.tb.fn 5=some Tryz.f5:=by kernel_rfl
theorem Tryz.hb5:Tryz.f5.body.isSome=true:=rfl
theorem Tryz.fn6:Tryz.tb.fn 6=some Tryz.f6:=by kernel_rfl
theorem Tryz.hb6:Tryz.f6.body.isSome=true:=rfl
theorem Tryz.fn7:Tryz.tb.fn 7=some Tryz.f7:=by kernel_rfl
theorem Tryz.hb7:Tryz.f7.body.isSome=true:=rfl
theorem Tryz.fn8:Tryz.tb.fn 8=some Tryz.f8:=by kernel_rfl
theorem Tryz.hb8:Tryz.f8.body.isSome=true:=rfl
theorem Tryz.fn9:Tryz.tb.fn 9=some Tryz.f9:=by kernel_rfl
theorem Tryz.hb9:Tryz.f9.body.isSome=true:=rfl
theorem Tryz.fn10:Tryz.tb.fn 10=some Tryz.f10:=by kernel_rfl
theorem Tryz.hb10:Tryz.f10.body.isSome=true:=rfl
theorem Tryz.fn11:Tryz.tb.fn 11=some Tryz.f11:=by kernel_rfl
theorem Tryz.hb11:Tryz.f11.body.isSome=true:=rfl
theorem Tryz.fn12:Tryz.tb.fn 12=some Tryz.f12:=by kernel_rfl
theorem Tryz.hb12:Tryz.f12.body.isSome=true:=rfl
theorem Tryz.fn13:Tryz.tb.fn 13=some Tryz.f13:=by kernel_rfl
theorem Tryz.hb13:Tryz.f13.body.isSome=true:=rfl
theorem Tryz.fn14:Tryz.tb.fn 14=some Tryz.f14:=by kernel_rfl
theorem Tryz.hb14:Tryz.f14.body.isSome=true:=rfl
theorem Tryz.fn15:Tryz.tb.fn 15=some Tryz.f15:=by kernel_rfl
theorem Tryz.hb15:Tryz.f15.body.isSome=true:=rfl
theorem Tryz.fn16:Tryz.tb.fn 16=some Tryz.f16:=by kernel_rfl
theorem Tryz.hb16:Tryz.f16.body.isSome=true:=rfl
theorem Tryz.fn17:Tryz.tb.fn 17=some Tryz.f17:=by kernel_rfl
theorem Tryz.hb17:Tryz.f17.body.isSome=true:=rfl
theorem Tryz.fn18:Tryz.tb.fn 18=some Tryz.f18:=by kernel_rfl
theorem Tryz.hb18:Tryz.f18.body.isSome=true:=rfl
theorem Tryz.fn19:Tryz.tb.fn 19=some Tryz.f19:=by kernel_rfl
theorem Tryz.hb19:Tryz.f19.body.isSome=true:=rfl
theorem Tryz.fn20:Tryz.tb.fn 20=some Tryz.f20:=by kernel_rfl
theorem Tryz.hb20:Tryz.f20.body.isSome=true:=rfl
theorem Tryz.fn21:Tryz.tb.fn 21=some Tryz.f21:=by kernel_rfl
theorem Tryz.hb21:Tryz.f21.body.isSome=true:=rfl
theorem Tryz.fn22:Tryz.tb.fn 22=some Tryz.f22:=by kernel_rfl
theorem Tryz.hb22:Tryz.f22.body.isSome=true:=rfl
theorem Tryz.fn23:Tryz.tb.fn 23=some Tryz.f23:=by kernel_rfl
theorem Tryz.hb23:Tryz.f23.body.isSome=true:=rfl
theorem Tryz.fn24:Tryz.tb.fn 24=some Tryz.f24:=by kernel_rfl
theorem Tryz.hb24:Tryz.f24.body.isSome=true:=rfl
theorem Tryz.fn25:Tryz.tb.fn 25=some Tryz.f25:=by kernel_rfl
theorem Tryz.hb25:Tryz.f25.body.isSome=true:=rfl
theorem Tryz.fn26:Tryz.tb.fn 26=some Tryz.f26:=by kernel_rfl
theorem Tryz.hb26:Tryz.f26.body.isSome=true:=rfl
theorem Tryz.fn27:Tryz.tb.fn 27=some Tryz.f27:=by kernel_rfl
theorem Tryz.hb27:Tryz.f27.body.isSome=true:=rfl
theorem Tryz.fn28:Tryz.tb.fn 28=some Tryz.f28:=by kernel_rfl
theorem Tryz.hb28:Tryz.f28.body.isSome=true:=rfl
theorem Tryz.fn29:Tryz.tb.fn 29=some Tryz.f29:=by kernel_rfl
theorem Tryz.hb29:Tryz.f29.body.isSome=true:=rfl
theorem Tryz.fn30:Tryz.tb.fn 30=some Tryz.f30:=by kernel_rfl
theorem Tryz.hb30:Tryz.f30.body.isSome=true:=rfl
theorem Tryz.fn31:Tryz.tb.fn 31=some Tryz.f31:=by kernel_rfl
theorem Tryz.hb31:Tryz.f31.body.isSome=true:=rfl
theorem Tryz.fn32:Tryz.tb.fn 32=some Tryz.f32:=by kernel_rfl
theorem Tryz.hb32:Tryz.f32.body.isSome=true:=rfl
theorem Tryz.fn33:Tryz.tb.fn 33=some Tryz.f33:=by kernel_rfl
theorem Tryz.hb33:Tryz.f33.body.isSome=true:=rfl
theorem Tryz.fn34:Tryz.tb.fn 34=some Tryz.f34:=by kernel_rfl
theorem Tryz.hb34:Tryz.f34.body.isSome=true:=rfl
theorem Tryz.fn35:Tryz.tb.fn 35=some Tryz.f35:=by kernel_rfl
theorem Tryz.hb35:Tryz.f35.body.isSome=true:=rfl
theorem Tryz.fn36:Tryz.tb.fn 36=some Tryz.f36:=by kernel_rfl
theorem Tryz.hb36:Tryz.f36.body.isSome=true:=rfl
theorem Tryz.fn37:Tryz.tb.fn 37=some Tryz.f37:=by kernel_rfl
theorem Tryz.hb37:Tryz.f37.body.isSome=true:=rfl
theorem Tryz.fn38:Tryz.tb.fn 38=some Tryz.f38:=by kernel_rfl
theorem Tryz.hb38:Tryz.f38.body.isSome=true:=rfl
theorem Tryz.fn39:Tryz.tb.fn 39=some Tryz.f39:=by kernel_rfl
theorem Tryz.hb39:Tryz.f39.body.isSome=true:=rfl
theorem Tryz.fn40:Tryz.tb.fn 40=some Tryz.f40:=by kernel_rfl
theorem Tryz.hb40:Tryz.f40.body.isSome=true:=rfl
theorem Tryz.fn41:Tryz.tb.fn 41=some Tryz.f41:=by kernel_rfl
theorem Tryz.hb41:Tryz.f41.body.isSome=true:=rfl
theorem Tryz.fn42:Tryz.tb.fn 42=some Tryz.f42:=by kernel_rfl
theorem Tryz.hb42:Tryz.f42.body.isSome=true:=rfl
theorem Tryz.fn43:Tryz.tb.fn 43=some Tryz.f43:=by kernel_rfl
theorem Tryz.hb43:Tryz.f43.body.isSome=true:=rfl
theorem Tryz.fn44:Tryz.tb.fn 44=some Tryz.f44:=by kernel_rfl
theorem Tryz.hb44:Tryz.f44.body.isSome=true:=rfl
theorem Tryz.fn45:Tryz.tb.fn 45=some Tryz.f45:=by kernel_rfl
theorem Tryz.hb45:Tryz.f45.body.isSome=true:=rfl
theorem Tryz.fn46:Tryz.tb.fn 46=some Tryz.f46:=by kernel_rfl
theorem Tryz.hb46:Tryz.f46.body.isSome=true:=rfl
theorem Tryz.fn47:Tryz.tb.fn 47=some Tryz.f47:=by kernel_rfl
theorem Tryz.hb47:Tryz.f47.body.isSome=true:=rfl
theorem Tryz.fn48:Tryz.tb.fn 48=some Tryz.f48:=by kernel_rfl
theorem Tryz.hb48:Tryz.f48.body.isSome=true:=rfl
theorem Tryz.fn49:Tryz.tb.fn 49=some Tryz.f49:=by kernel_rfl
theorem Tryz.hb49:Tryz.f49.body.isSome=true:=rfl
theorem Tryz.fn50:Tryz.tb.fn 50=some Tryz.f50:=by kernel_rfl
theorem Tryz.hb50:Tryz.f50.body.isSome=true:=rfl
theorem Tryz.fn51:Tryz.tb.fn 51=some Tryz.f51:=by kernel_rfl
theorem Tryz.hb51:Tryz.f51.body.isSome=true:=rfl
theorem Tryz.fn52:Tryz.tb.fn 52=some Tryz.f52:=by kernel_rfl
theorem Tryz.hb52:Tryz.f52.body.isSome=true:=rfl
theorem Tryz.fn53:Tryz.tb.fn 53=some Tryz.f53:=by kernel_rfl
theorem Tryz.hb53:Tryz.f53.body.isSome=true:=rfl
theorem Tryz.fn54:Tryz.tb.fn 54=some Tryz.f54:=by kernel_rfl
theorem Tryz.hb54:Tryz.f54.body.isSome=true:=rfl
theorem Tryz.fn55:Tryz.tb.fn 55=some Tryz.f55:=by kernel_rfl
theorem Tryz.hb55:Tryz.f55.body.isSome=true:=rfl
theorem Tryz.fn56:Tryz.tb.fn 56=some Tryz.f56:=by kernel_rfl
theorem Tryz.hb56:Tryz.f56.body.isSome=true:=rfl
theorem Tryz.fn57:Tryz.tb.fn 57=some Tryz.f57:=by kernel_rfl
theorem Tryz.hb57:Tryz.f57.body.isSome=true:=rfl
theorem Tryz.fn58:Tryz.tb.fn 58=some Tryz.f58:=by kernel_rfl
theorem Tryz.hb58:Tryz.f58.body.isSome=true:=rfl
theorem Tryz.fn59:Tryz.tb.fn 59=some Tryz.f59:=by kernel_rfl
theorem Tryz.hb59:Tryz.f59.body.isSome=true:=rfl
theorem Tryz.fn60:Tryz.tb.fn 60=some Tryz.f60:=by kernel_rfl
theorem Tryz.hb60:Tryz.f60.body.isSome=true:=rfl
theorem Tryz.fn61:Tryz.tb.fn 61=some Tryz.f61:=by kernel_rfl
theorem Tryz.hb61:Tryz.f61.body.isSome=true:=rfl
theorem Tryz.fn62:Tryz.tb.fn 62=some Tryz.f62:=by kernel_rfl
theorem Tryz.hb62:Tryz.f62.body.isSome=true:=rfl
theorem Tryz.fn63:Tryz.tb.fn 63=some Tryz.f63:=by kernel_rfl
theorem Tryz.hb63:Tryz.f63.body.isSome=true:=rfl
theorem Tryz.fn64:Tryz.tb.fn 64=some Tryz.f64:=by kernel_rfl
theorem Tryz.hb64:Tryz.f64.body.isSome=true:=rfl
theorem Tryz.fn65:Tryz.tb.fn 65=some Tryz.f65:=by kernel_rfl
theorem Tryz.hb65:Tryz.f65.body.isSome=true:=rfl
theorem Tryz.fn66:Tryz.tb.fn 66=some Tryz.f66:=by kernel_rfl
theorem Tryz.hb66:Tryz.f66.body.isSome=true:=rfl
theorem Tryz.fn67:Tryz.tb.fn 67=some Tryz.f67:=by kernel_rfl
theorem Tryz.hb67:Tryz.f67.body.isSome=true:=rfl
theorem Tryz.fn68:Tryz.tb.fn 68=some Tryz.f68:=by kernel_rfl
theorem Tryz.hb68:Tryz.f68.body.isSome=true:=rfl
theorem Tryz.fn78:Tryz.tb.fn 78=some Tryz.f78:=by kernel_rfl
theorem Tryz.hb78:Tryz.f78.body.isSome=true:=rfl
theorem Tryz.fn79:Tryz.tb.fn 79=some Tryz.f79:=by kernel_rfl
theorem Tryz.hb79:Tryz.f79.body.isSome=true:=rfl
theorem Tryz.fn80:Tryz.tb.fn 80=some Tryz.f80:=by kernel_rfl
theorem Tryz.hb80:Tryz.f80.body.isSome=true:=rfl
theorem Tryz.fn81:Tryz.tb.fn 81=some Tryz.f81:=by kernel_rfl
theorem Tryz.hb81:Tryz.f81.body.isSome=true:=rfl
theorem Tryz.fn82:Tryz.tb.fn 82=some Tryz.f82:=by kernel_rfl
theorem Tryz.hb82:Tryz.f82.body.isSome=true:=rfl
theorem Tryz.fn83:Tryz.tb.fn 83=some Tryz.f83:=by kernel_rfl
theorem Tryz.hb83:Tryz.f83.body.isSome=true:=rfl
theorem Tryz.fn84:Tryz.tb.fn 84=some Tryz.f84:=by kernel_rfl
theorem Tryz.hb84:Tryz.f84.body.isSome=true:=rfl
theorem Tryz.fn85:Tryz.tb.fn 85=some Tryz.f85:=by kernel_rfl
theorem Tryz.hb85:Tryz.f85.body.isSome=true:=rfl
theorem Tryz.fn86:Tryz.tb.fn 86=some Tryz.f86:=by kernel_rfl
theorem Tryz.hb86:Tryz.f86.body.isSome=true:=rfl
theorem Tryz.fn87:Tryz.tb.fn 87=some Tryz.f87:=by kernel_rfl
theorem Tryz.hb87:Tryz.f87.body.isSome=true:=rfl
theorem Tryz.fn88:Tryz.tb.fn 88=some Tryz.f88:=by kernel_rfl
theorem Tryz.hb88:Tryz.f88.body.isSome=true:=rfl
theorem Tryz.fn94:Tryz.tb.fn 94=some Tryz.f94:=by kernel_rfl
theorem Tryz.hb94:Tryz.f94.body.isSome=true:=rfl
theorem Tryz.fn95:Tryz.tb.fn 95=some Tryz.f95:=by kernel_rfl
theorem Tryz.hb95:Tryz.f95.body.isSome=true:=rfl
theorem Tryz.fn96:Tryz.tb.fn 96=some Tryz.f96:=by kernel_rfl
theorem Tryz.hb96:Tryz.f96.body.isSome=true:=rfl
theorem Tryz.fn97:Tryz.tb.fn 97=some Tryz.f97:=by kernel_rfl
theorem Tryz.hb97:Tryz.f97.body.isSome=true:=rfl
theorem Tryz.fn98:Tryz.tb.fn 98=some Tryz.f98:=by kernel_rfl
theorem Tryz.hb98:Tryz.f98.body.isSome=true:=rfl
theorem Tryz.fn100:Tryz.tb.fn 100=some Tryz.f100:=by kernel_rfl
theorem Tryz.hb100:Tryz.f100.body.isSome=true:=rfl
theorem Tryz.fn108:Tryz.tb.fn 108=some Tryz.f108:=by kernel_rfl
theorem Tryz.hb108:Tryz.f108.body.isSome=true:=rfl
end Go.Proofs
end
