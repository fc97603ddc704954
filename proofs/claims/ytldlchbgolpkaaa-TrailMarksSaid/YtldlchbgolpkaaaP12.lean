/-
  Texts of the walk: Tab12 Ins12 MpS MpC MpD MpE MpF MpT MpU MpV Fn12.
-/
import Derived.Test.YtldlchbgolpkaaaProg
import Derived.Test.YtldlchbgolpkaaaP11
set_option linter.unusedSimpArgs false
set_option linter.unusedVariables false
section
namespace Go.Proofs
open Go Go.Rx
noncomputable def Try.tb:Tb:=tbOf Try.prog []
theorem Try.mixed:Try.prog.follows .mixedOrders=true:=by kernel_rfl
theorem Try.eqs_ok:∀ t∈([]:List TypeId),Try.prog.stoodInHeld t=false∧Try.prog.eqGuardType Try.prog.depth t=false:=by
 intro t ht
 cases ht
theorem Try.names_ok : (Try.prog.funcs.toList.all fun f => !(f.name == "runtime.NumGoroutine")) = true := by kernel_rfl
theorem Try.tb_ok:TbOk Try.prog Try.tb:=tbOf_ok Try.prog [] Try.mixed (fun f hf _=>by
 have:=List.all_eq_true.1 Try.names_ok f hf
 simpa using this) Try.eqs_ok
theorem Try.und3:Try.tb.und 3=some (.int .i64):=by kernel_rfl
theorem Try.inf3:Try.tb.inf 3=some (1,8,.int .i64 0):=by kernel_rfl
theorem Try.und4:Try.tb.und 4=some (.bool):=by kernel_rfl
theorem Try.inf4:Try.tb.inf 4=some (1,1,.bool false):=by kernel_rfl
theorem Try.und9:Try.tb.und 9=some (.string):=by kernel_rfl
theorem Try.inf9:Try.tb.inf 9=some (1,16,.string ⟨#[]⟩):=by kernel_rfl
theorem Try.und22:Try.tb.und 22=some (.slice 3):=by kernel_rfl
theorem Try.und24:Try.tb.und 24=some (.pointer 52):=by kernel_rfl
theorem Try.und26:Try.tb.und 26=some (.slice 93):=by kernel_rfl
theorem Try.inf26:Try.tb.inf 26=some (1,24,.slice none 0 0):=by kernel_rfl
theorem Try.und27:Try.tb.und 27=some (.slice 124):=by kernel_rfl
theorem Try.inf27:Try.tb.inf 27=some (1,24,.slice none 0 0):=by kernel_rfl
theorem Try.und29 : Try.tb.und 29 = some (.struct #[⟨ "Types", 26, 0, false, "", "", 0⟩, ⟨ "Feats", 27, 1, false, "", "", 24⟩]) := by kernel_rfl
theorem Try.inf29:Try.tb.inf 29=some (2,48,.agg #[.slice none 0 0,.slice none 0 0]):=by kernel_rfl
theorem Try.und33:Try.tb.und 33=some (.slice 42):=by kernel_rfl
theorem Try.inf33:Try.tb.inf 33=some (1,24,.slice none 0 0):=by kernel_rfl
theorem Try.und35 : Try.tb.und 35 = some (.struct #[⟨ "Nodes", 33, 0, false, "", "", 0⟩]) := by kernel_rfl
theorem Try.inf35:Try.tb.inf 35=some (1,24,.agg #[.slice none 0 0]):=by kernel_rfl
theorem Try.und40:Try.tb.und 40=some (.slice 68):=by kernel_rfl
theorem Try.inf40:Try.tb.inf 40=some (1,24,.slice none 0 0):=by kernel_rfl
theorem Try.und42 : Try.tb.und 42 = some (.struct #[⟨ "Type", 3, 0, false, "", "", 0⟩, ⟨ "Arcs", 40, 1, false, "", "", 8⟩]) := by kernel_rfl
theorem Try.inf42:Try.tb.inf 42=some (2,32,.agg #[.int .i64 0,.slice none 0 0]):=by kernel_rfl
theorem Try.und48:Try.tb.und 48=some (.slice 66):=by kernel_rfl
theorem Try.inf48:Try.tb.inf 48=some (1,24,.slice none 0 0):=by kernel_rfl
theorem Try.und49:Try.tb.und 49=some (.slice 97):=by kernel_rfl
theorem Try.inf49:Try.tb.inf 49=some (1,24,.slice none 0 0):=by kernel_rfl
theorem Try.und50:Try.tb.und 50=some (.slice 64):=by kernel_rfl
theorem Try.inf50:Try.tb.inf 50=some (1,24,.slice none 0 0):=by kernel_rfl
theorem Try.und52 : Try.tb.und 52 = some (.struct #[⟨ "h", 29, 0, false, "", "grammarlab/trail", 0⟩, ⟨ "cells", 48, 2, false, "", "grammarlab/trail", 48⟩, ⟨ "trail", 49, 3, false, "", "grammarlab/trail", 72⟩, ⟨ "marks", 50, 4, false, "", "grammarlab/trail", 96⟩]) := by kernel_rfl
theorem Try.inf52:Try.tb.inf 52=some (5,120,.agg #[.slice none 0 0,.slice none 0 0,.slice none 0 0,.slice none 0 0,.slice none 0 0]):=by kernel_rfl
theorem Try.und57 : Try.tb.und 57 = some (.struct #[⟨ "Feat", 9, 0, false, "", "", 0⟩, ⟨ "Value", 9, 1, false, "", "", 16⟩]) := by kernel_rfl
theorem Try.inf57:Try.tb.inf 57=some (2,32,.agg #[.string ⟨#[]⟩,.string ⟨#[]⟩]):=by kernel_rfl
theorem Try.und58:Try.tb.und 58=some (.slice 57):=by kernel_rfl
theorem Try.inf58:Try.tb.inf 58=some (1,24,.slice none 0 0):=by kernel_rfl
theorem Try.und59:Try.tb.und 59=some (.slice 9):=by kernel_rfl
theorem Try.inf59:Try.tb.inf 59=some (1,24,.slice none 0 0):=by kernel_rfl
theorem Try.und61 : Try.tb.und 61 = some (.struct #[⟨ "Name", 9, 0, false, "", "", 0⟩, ⟨ "Supers", 59, 1, false, "", "", 16⟩, ⟨ "Feats", 58, 2, false, "", "", 40⟩]) := by kernel_rfl
theorem Try.inf61:Try.tb.inf 61=some (3,64,.agg #[.string ⟨#[]⟩,.slice none 0 0,.slice none 0 0]):=by kernel_rfl
theorem Try.und62:Try.tb.und 62=some (.slice 61):=by kernel_rfl
theorem Try.und64 : Try.tb.und 64 = some (.struct #[⟨ "cells", 3, 0, false, "", "grammarlab/trail", 0⟩, ⟨ "changes", 3, 1, false, "", "grammarlab/trail", 8⟩]) := by kernel_rfl
theorem Try.inf64:Try.tb.inf 64=some (2,16,.agg #[.int .i64 0,.int .i64 0]):=by kernel_rfl
theorem Try.und66 : Try.tb.und 66 = some (.struct #[⟨ "forward", 3, 0, false, "", "grammarlab/trail", 0⟩, ⟨ "kind", 3, 1, false, "", "grammarlab/trail", 8⟩, ⟨ "arcs", 40, 2, false, "", "grammarlab/trail", 16⟩]) := by kernel_rfl
theorem Try.inf66:Try.tb.inf 66=some (3,40,.agg #[.int .i64 0,.int .i64 0,.slice none 0 0]):=by kernel_rfl
theorem Try.und68 : Try.tb.und 68 = some (.struct #[⟨ "Feat", 3, 0, false, "", "", 0⟩, ⟨ "To", 3, 1, false, "", "", 8⟩]) := by kernel_rfl
theorem Try.inf68:Try.tb.inf 68=some (2,16,.agg #[.int .i64 0,.int .i64 0]):=by kernel_rfl
theorem Try.und70:Try.tb.und 70=some (.array 2 3):=by kernel_rfl
theorem Try.inf70:Try.tb.inf 70=some (2,16,.agg #[.int .i64 0,.int .i64 0]):=by kernel_rfl
theorem Try.und71:Try.tb.und 71=some (.slice 70):=by kernel_rfl
theorem Try.und72:Try.tb.und 72=some (.func #[3] #[3] false):=by kernel_rfl
theorem Try.inf72:Try.tb.inf 72=some (1,8,.nilFunc):=by kernel_rfl
theorem Try.und78:Try.tb.und 78=some (.map 3 3):=by kernel_rfl
theorem Try.inf78:Try.tb.inf 78=some (1,8,.map none):=by kernel_rfl
theorem Try.und80:Try.tb.und 80=some (.slice 91):=by kernel_rfl
theorem Try.und83:Try.tb.und 83=some (.slice 89):=by kernel_rfl
theorem Try.und87:Try.tb.und 87=some (.slice 125):=by kernel_rfl
theorem Try.inf87:Try.tb.inf 87=some (1,24,.slice none 0 0):=by kernel_rfl
theorem Try.und89 : Try.tb.und 89 = some (.struct #[⟨ "Name", 9, 0, false, "", "", 0⟩, ⟨ "Code", 87, 1, false, "", "", 16⟩]) := by kernel_rfl
theorem Try.inf89:Try.tb.inf 89=some (2,40,.agg #[.string ⟨#[]⟩,.slice none 0 0]):=by kernel_rfl
theorem Try.und91:Try.tb.und 91=some (.slice 113):=by kernel_rfl
theorem Try.inf91:Try.tb.inf 91=some (1,24,.slice none 0 0):=by kernel_rfl
theorem Try.und93 : Try.tb.und 93 = some (.struct #[⟨ "Name", 9, 0, false, "", "", 0⟩, ⟨ "Code", 87, 1, false, "", "", 16⟩, ⟨ "Supers", 22, 2, false, "", "", 40⟩, ⟨ "Feats", 91, 3, false, "", "", 64⟩]) := by kernel_rfl
theorem Try.inf93:Try.tb.inf 93=some (4,88,.agg #[.string ⟨#[]⟩,.slice none 0 0,.slice none 0 0,.slice none 0 0]):=by kernel_rfl
theorem Try.und97 : Try.tb.und 97 = some (.struct #[⟨ "at", 3, 0, false, "", "grammarlab/trail", 0⟩, ⟨ "old", 66, 1, false, "", "grammarlab/trail", 8⟩]) := by kernel_rfl
theorem Try.inf97:Try.tb.inf 97=some (4,48,.agg #[.int .i64 0,.int .i64 0,.int .i64 0,.slice none 0 0]):=by kernel_rfl
theorem Try.und113 : Try.tb.und 113 = some (.struct #[⟨ "Feat", 3, 0, false, "", "", 0⟩, ⟨ "Value", 3, 1, false, "", "", 8⟩]) := by kernel_rfl
theorem Try.inf113:Try.tb.inf 113=some (2,16,.agg #[.int .i64 0,.int .i64 0]):=by kernel_rfl
theorem Try.und114:Try.tb.und 114=some (.slice 87):=by kernel_rfl
theorem Try.und124 : Try.tb.und 124 = some (.struct #[⟨ "Name", 9, 0, false, "", "", 0⟩, ⟨ "Intro", 3, 1, false, "", "", 16⟩]) := by kernel_rfl
theorem Try.inf124:Try.tb.inf 124=some (2,24,.agg #[.string ⟨#[]⟩,.int .i64 0]):=by kernel_rfl
theorem Try.und125:Try.tb.und 125=some (.int .u64):=by kernel_rfl
theorem Try.inf125:Try.tb.inf 125=some (1,8,.int .u64 0):=by kernel_rfl
theorem Try.und127:Try.tb.und 127=some (.int .u64):=by kernel_rfl
end Go.Proofs
end
section
namespace Go.Proofs
open Go Go.Rx Go.Vx
instance Try.un3:UnC Try.tb 3 (.int .i64):=⟨Try.und3⟩
instance Try.un4:UnC Try.tb 4 (.bool):=⟨Try.und4⟩
instance Try.un9:UnC Try.tb 9 (.string):=⟨Try.und9⟩
instance Try.un22:UnC Try.tb 22 (.slice 3):=⟨Try.und22⟩
instance Try.un24:UnC Try.tb 24 (.pointer 52):=⟨Try.und24⟩
instance Try.un26:UnC Try.tb 26 (.slice 93):=⟨Try.und26⟩
instance Try.un27:UnC Try.tb 27 (.slice 124):=⟨Try.und27⟩
instance Try.un29 : UnC Try.tb 29 (.struct #[⟨ "Types", 26, 0, false, "", "", 0⟩, ⟨ "Feats", 27, 1, false, "", "", 24⟩]) := ⟨Try.und29⟩
instance Try.un33:UnC Try.tb 33 (.slice 42):=⟨Try.und33⟩
instance Try.un35 : UnC Try.tb 35 (.struct #[⟨ "Nodes", 33, 0, false, "", "", 0⟩]) := ⟨Try.und35⟩
instance Try.un40:UnC Try.tb 40 (.slice 68):=⟨Try.und40⟩
instance Try.un42 : UnC Try.tb 42 (.struct #[⟨ "Type", 3, 0, false, "", "", 0⟩, ⟨ "Arcs", 40, 1, false, "", "", 8⟩]) := ⟨Try.und42⟩
instance Try.un48:UnC Try.tb 48 (.slice 66):=⟨Try.und48⟩
instance Try.un49:UnC Try.tb 49 (.slice 97):=⟨Try.und49⟩
instance Try.un50:UnC Try.tb 50 (.slice 64):=⟨Try.und50⟩
instance Try.un52 : UnC Try.tb 52 (.struct #[⟨ "h", 29, 0, false, "", "grammarlab/trail", 0⟩, ⟨ "cells", 48, 2, false, "", "grammarlab/trail", 48⟩, ⟨ "trail", 49, 3, false, "", "grammarlab/trail", 72⟩, ⟨ "marks", 50, 4, false, "", "grammarlab/trail", 96⟩]) := ⟨Try.und52⟩
instance Try.un57 : UnC Try.tb 57 (.struct #[⟨ "Feat", 9, 0, false, "", "", 0⟩, ⟨ "Value", 9, 1, false, "", "", 16⟩]) := ⟨Try.und57⟩
instance Try.un58:UnC Try.tb 58 (.slice 57):=⟨Try.und58⟩
instance Try.un59:UnC Try.tb 59 (.slice 9):=⟨Try.und59⟩
instance Try.un61 : UnC Try.tb 61 (.struct #[⟨ "Name", 9, 0, false, "", "", 0⟩, ⟨ "Supers", 59, 1, false, "", "", 16⟩, ⟨ "Feats", 58, 2, false, "", "", 40⟩]) := ⟨Try.und61⟩
instance Try.un62:UnC Try.tb 62 (.slice 61):=⟨Try.und62⟩
instance Try.un64 : UnC Try.tb 64 (.struct #[⟨ "cells", 3, 0, false, "", "grammarlab/trail", 0⟩, ⟨ "changes", 3, 1, false, "", "grammarlab/trail", 8⟩]) := ⟨Try.und64⟩
instance Try.un66 : UnC Try.tb 66 (.struct #[⟨ "forward", 3, 0, false, "", "grammarlab/trail", 0⟩, ⟨ "kind", 3, 1, false, "", "grammarlab/trail", 8⟩, ⟨ "arcs", 40, 2, false, "", "grammarlab/trail", 16⟩]) := ⟨Try.und66⟩
instance Try.un68 : UnC Try.tb 68 (.struct #[⟨ "Feat", 3, 0, false, "", "", 0⟩, ⟨ "To", 3, 1, false, "", "", 8⟩]) := ⟨Try.und68⟩
instance Try.un70:UnC Try.tb 70 (.array 2 3):=⟨Try.und70⟩
instance Try.un71:UnC Try.tb 71 (.slice 70):=⟨Try.und71⟩
instance Try.un72:UnC Try.tb 72 (.func #[3] #[3] false):=⟨Try.und72⟩
instance Try.un78:UnC Try.tb 78 (.map 3 3):=⟨Try.und78⟩
instance Try.un80:UnC Try.tb 80 (.slice 91):=⟨Try.und80⟩
instance Try.un83:UnC Try.tb 83 (.slice 89):=⟨Try.und83⟩
instance Try.un87:UnC Try.tb 87 (.slice 125):=⟨Try.und87⟩
instance Try.un89 : UnC Try.tb 89 (.struct #[⟨ "Name", 9, 0, false, "", "", 0⟩, ⟨ "Code", 87, 1, false, "", "", 16⟩]) := ⟨Try.und89⟩
instance Try.un91:UnC Try.tb 91 (.slice 113):=⟨Try.und91⟩
instance Try.un93 : UnC Try.tb 93 (.struct #[⟨ "Name", 9, 0, false, "", "", 0⟩, ⟨ "Code", 87, 1, false, "", "", 16⟩, ⟨ "Supers", 22, 2, false, "", "", 40⟩, ⟨ "Feats", 91, 3, false, "", "", 64⟩]) := ⟨Try.und93⟩
instance Try.un97 : UnC Try.tb 97 (.struct #[⟨ "at", 3, 0, false, "", "grammarlab/trail", 0⟩, ⟨ "old", 66, 1, false, "", "grammarlab/trail", 8⟩]) := ⟨Try.und97⟩
instance Try.un113 : UnC Try.tb 113 (.struct #[⟨ "Feat", 3, 0, false, "", "", 0⟩, ⟨ "Value", 3, 1, false, "", "", 8⟩]) := ⟨Try.und113⟩
instance Try.un114:UnC Try.tb 114 (.slice 87):=⟨Try.und114⟩
instance Try.un124 : UnC Try.tb 124 (.struct #[⟨ "Name", 9, 0, false, "", "", 0⟩, ⟨ "Intro", 3, 1, false, "", "", 16⟩]) := ⟨Try.und124⟩
instance Try.un125:UnC Try.tb 125 (.int .u64):=⟨Try.und125⟩
instance Try.un127:UnC Try.tb 127 (.int .u64):=⟨Try.und127⟩
instance Try.if3:InC Try.tb 3 1 8 (.int .i64 0):=⟨Try.inf3⟩
instance Try.ze3:ZeC Try.tb 3 [.int .i64 0]:=⟨_,_,_,Try.inf3,rfl,rfl⟩
instance Try.if4:InC Try.tb 4 1 1 (.bool false):=⟨Try.inf4⟩
instance Try.ze4:ZeC Try.tb 4 [.bool false]:=⟨_,_,_,Try.inf4,rfl,rfl⟩
instance Try.if9:InC Try.tb 9 1 16 (.string ⟨#[]⟩):=⟨Try.inf9⟩
instance Try.ze9:ZeC Try.tb 9 [.str []]:=⟨_,_,_,Try.inf9,rfl,rfl⟩
instance Try.if26:InC Try.tb 26 1 24 (.slice none 0 0):=⟨Try.inf26⟩
instance Try.if27:InC Try.tb 27 1 24 (.slice none 0 0):=⟨Try.inf27⟩
instance Try.if29:InC Try.tb 29 2 48 (.agg #[.slice none 0 0,.slice none 0 0]):=⟨Try.inf29⟩
instance Try.ze29:ZeC Try.tb 29 [.nils,.nils]:=⟨_,_,_,Try.inf29,rfl,rfl⟩
instance Try.if33:InC Try.tb 33 1 24 (.slice none 0 0):=⟨Try.inf33⟩
instance Try.if35:InC Try.tb 35 1 24 (.agg #[.slice none 0 0]):=⟨Try.inf35⟩
instance Try.ze35:ZeC Try.tb 35 [.nils]:=⟨_,_,_,Try.inf35,rfl,rfl⟩
instance Try.if40:InC Try.tb 40 1 24 (.slice none 0 0):=⟨Try.inf40⟩
instance Try.if42:InC Try.tb 42 2 32 (.agg #[.int .i64 0,.slice none 0 0]):=⟨Try.inf42⟩
instance Try.ze42:ZeC Try.tb 42 [.int .i64 0,.nils]:=⟨_,_,_,Try.inf42,rfl,rfl⟩
instance Try.if48:InC Try.tb 48 1 24 (.slice none 0 0):=⟨Try.inf48⟩
instance Try.if49:InC Try.tb 49 1 24 (.slice none 0 0):=⟨Try.inf49⟩
instance Try.if50:InC Try.tb 50 1 24 (.slice none 0 0):=⟨Try.inf50⟩
instance Try.if52:InC Try.tb 52 5 120 (.agg #[.slice none 0 0,.slice none 0 0,.slice none 0 0,.slice none 0 0,.slice none 0 0]):=⟨Try.inf52⟩
instance Try.if57:InC Try.tb 57 2 32 (.agg #[.string ⟨#[]⟩,.string ⟨#[]⟩]):=⟨Try.inf57⟩
instance Try.if58:InC Try.tb 58 1 24 (.slice none 0 0):=⟨Try.inf58⟩
instance Try.if59:InC Try.tb 59 1 24 (.slice none 0 0):=⟨Try.inf59⟩
instance Try.if61:InC Try.tb 61 3 64 (.agg #[.string ⟨#[]⟩,.slice none 0 0,.slice none 0 0]):=⟨Try.inf61⟩
instance Try.if64:InC Try.tb 64 2 16 (.agg #[.int .i64 0,.int .i64 0]):=⟨Try.inf64⟩
instance Try.ze64:ZeC Try.tb 64 [.int .i64 0,.int .i64 0]:=⟨_,_,_,Try.inf64,rfl,rfl⟩
instance Try.if66:InC Try.tb 66 3 40 (.agg #[.int .i64 0,.int .i64 0,.slice none 0 0]):=⟨Try.inf66⟩
instance Try.ze66:ZeC Try.tb 66 [.int .i64 0,.int .i64 0,.nils]:=⟨_,_,_,Try.inf66,rfl,rfl⟩
instance Try.if68:InC Try.tb 68 2 16 (.agg #[.int .i64 0,.int .i64 0]):=⟨Try.inf68⟩
instance Try.ze68:ZeC Try.tb 68 [.int .i64 0,.int .i64 0]:=⟨_,_,_,Try.inf68,rfl,rfl⟩
instance Try.if70:InC Try.tb 70 2 16 (.agg #[.int .i64 0,.int .i64 0]):=⟨Try.inf70⟩
instance Try.ze70:ZeC Try.tb 70 [.int .i64 0,.int .i64 0]:=⟨_,_,_,Try.inf70,rfl,rfl⟩
instance Try.if72:InC Try.tb 72 1 8 (.nilFunc):=⟨Try.inf72⟩
instance Try.ze72:ZeC Try.tb 72 [.nilf]:=⟨_,_,_,Try.inf72,rfl,rfl⟩
instance Try.if78:InC Try.tb 78 1 8 (.map none):=⟨Try.inf78⟩
instance Try.ze78:ZeC Try.tb 78 [.nilm]:=⟨_,_,_,Try.inf78,rfl,rfl⟩
instance Try.if87:InC Try.tb 87 1 24 (.slice none 0 0):=⟨Try.inf87⟩
instance Try.ze87:ZeC Try.tb 87 [.nils]:=⟨_,_,_,Try.inf87,rfl,rfl⟩
instance Try.if89:InC Try.tb 89 2 40 (.agg #[.string ⟨#[]⟩,.slice none 0 0]):=⟨Try.inf89⟩
instance Try.ze89:ZeC Try.tb 89 [.str [],.nils]:=⟨_,_,_,Try.inf89,rfl,rfl⟩
instance Try.if91:InC Try.tb 91 1 24 (.slice none 0 0):=⟨Try.inf91⟩
instance Try.ze91:ZeC Try.tb 91 [.nils]:=⟨_,_,_,Try.inf91,rfl,rfl⟩
instance Try.if93:InC Try.tb 93 4 88 (.agg #[.string ⟨#[]⟩,.slice none 0 0,.slice none 0 0,.slice none 0 0]):=⟨Try.inf93⟩
instance Try.ze93:ZeC Try.tb 93 [.str [],.nils,.nils,.nils]:=⟨_,_,_,Try.inf93,rfl,rfl⟩
instance Try.if97:InC Try.tb 97 4 48 (.agg #[.int .i64 0,.int .i64 0,.int .i64 0,.slice none 0 0]):=⟨Try.inf97⟩
instance Try.ze97:ZeC Try.tb 97 [.int .i64 0,.int .i64 0,.int .i64 0,.nils]:=⟨_,_,_,Try.inf97,rfl,rfl⟩
instance Try.if113:InC Try.tb 113 2 16 (.agg #[.int .i64 0,.int .i64 0]):=⟨Try.inf113⟩
instance Try.ze113:ZeC Try.tb 113 [.int .i64 0,.int .i64 0]:=⟨_,_,_,Try.inf113,rfl,rfl⟩
instance Try.if124:InC Try.tb 124 2 24 (.agg #[.string ⟨#[]⟩,.int .i64 0]):=⟨Try.inf124⟩
instance Try.ze124:ZeC Try.tb 124 [.str [],.int .i64 0]:=⟨_,_,_,Try.inf124,rfl,rfl⟩
instance Try.if125:InC Try.tb 125 1 8 (.int .u64 0):=⟨Try.inf125⟩
instance Try.ze125:ZeC Try.tb 125 [.int .u64 0]:=⟨_,_,_,Try.inf125,rfl,rfl⟩
end Go.Proofs
end
section
namespace Go.Vx
open Go Go.Rx
theorem seg_spec {q p:List U} {a n:Nat} (h:segU q a n=some p):a+n≤q.length∧(q.drop a).take n=p:=by
 unfold segU at h
 split at h
 ·rename_i hj; exact ⟨hj,Option.some.inj h⟩
 ·cases h
theorem nth_in {q p:List U} {a sz fo:Nat} {u:U} (h:segU q a sz=some p) (h2:nth p fo=some u):nth q (a+fo)=some u:=by
 obtain ⟨h1,rfl⟩:=seg_spec h
 rw [nth_eq] at h2 ⊢
 have hl:=(List.getElem?_eq_some_iff.1 h2).1
 rw [List.length_take] at hl
 rw [List.getElem?_take_of_lt (by omega),List.getElem?_drop] at h2
 exact h2
theorem put_in {q p p' cs:List U} {a sz fo:Nat} (h:segU q a sz=some p) (h2:putU p fo cs=some p'):putU q (a+fo) cs=putU q a p':=by
 obtain ⟨h1,rfl⟩:=seg_spec h
 unfold putU at h2
 split at h2
 ·rename_i hj
  have hp:=Option.some.inj h2
  rw [List.length_take,List.length_drop] at hj
  have hl:p'.length=sz:=by
   rw [← hp]; simp; omega
  unfold putU
  rw [if_pos (by omega),if_pos (by omega),← hp]
  congr 1
  have e1:List.take fo (List.take sz (List.drop a q))=List.take fo (List.drop a q):=by rw [List.take_take,Nat.min_eq_left (by omega)]
  have e2:List.take (a+fo) q=List.take a q++List.take fo (List.drop a q):=List.take_add
  have e3:List.drop (a+fo+cs.length) q=List.drop (fo+cs.length) (List.take sz (List.drop a q))++List.drop (a+sz) q:=by
   have:List.drop a q=List.take sz (List.drop a q)++List.drop (a+sz) q:=by rw [← List.drop_drop,List.take_append_drop]
   rw [Nat.add_assoc,← List.drop_drop]
   conv=>lhs; rw [this]
   rw [List.drop_append_of_le_length (by rw [List.length_take,List.length_drop]; omega)]
  rw [e1,e2,e3]
  simp [List.append_assoc,hl]
  omega
 ·cases h2
section
variable {T:Tb} {σ σ':Sg} {n:Nat} {l:List (Nat×U)} {u v w:U}
theorem ld_vf {α:Type} (c:α→List U) {t e':TypeId} {d:TypeDesc} {sz K st off m fo:Nat} {xs:List α} {i:Int} {x:α} {o:Operand} (hd:T.und t=some d) (ha:isAggD d=false) (hc:∀ x,(c x).length=sz) (ho:evS n l o=some (.ptr K st (off*sz+i.toNat*sz+fo))) (hv:gt σ.h K=some (.vec (xs.map c).flatten e' sz st)) (hx:idxV xs off m i=some x) (hu:nth (c x) fo=some u):opU T σ (fr n l) (.load t o)=some (u,σ):=by
 refine op_r rfl ?_
 have hb:Nat.beq st st=true:=by simp [beq_eq]
 have hg:=flat_at hc (idxV_get hx).2.2
 rw [Nat.add_mul] at hg
 simp only [readU,ev_fr ho,cellsOf,hv,hb,cond_true,loadU,hd,ha,cond_false,nth_in hg hu]
theorem st_vf {α:Type} (c:α→List U) {t e':TypeId} {sz s K st off m fo:Nat} {xs:List α} {i:Int} {x y:α} {o z:Operand} {cs:List U} {h':List (Nat×B)} (hs:sizeX T t=some s) (hc:∀ x,(c x).length=sz) (ho:evS n l o=some (.ptr K st (off*sz+i.toNat*sz+fo))) (hz:evS n l z=some v) (hcs:cellsO v=some cs) (hk:okL cs=true) (hl:Nat.beq cs.length s=true) (hv:gt σ.h K=some (.vec (xs.map c).flatten e' sz st)) (hx:idxV xs off m i=some x) (hy:putU (c x) fo (wkZ cs)=some (c y)) (hσ:ug σ.h K (.vec ((xs.set (off+i.toNat) y).map c).flatten e' sz st)=h'):opU T σ (fr n l) (.store t o z)=some (.junk,⟨h',σ.nx⟩):=by
 subst hσ
 have hb:Nat.beq st st=true:=by simp
 have hj:=(List.getElem?_eq_some_iff.1 (idxV_get hx).2.2).1
 have hg:=flat_at hc (idxV_get hx).2.2
 have hp:=put_in hg hy
 rw [flat_put hc hj y,Nat.add_mul] at hp
 exact op_e rfl rfl (by simp only [effU,ev_fr ho,ev_fr hz,storeU,hs,hcs,hl,hk,cond_true,cellsOf,hv,hb,wkB,hp,putOf])
end
theorem live_v {σ:Sg} {k t e sz:Nat} {l:List U} (h:gt σ.h k=some (.vec l e sz t)):live σ k t=true:=by
 simp only [live,h,B.st,beq_eq,decide_true]
theorem fz_mE {A V:Type} (K:Nat) (b:B) (sz:Nat) (kU:A→U) (vU:V→U) [p:BFU vU] (es:List (A×V×Nat)) :
  (es.map (mE kU vU)).map (fun e=>{ e with val:=fz K b sz e.val })=es.map (mE kU vU):=by
 rw [List.map_map]
 refine List.map_congr_left fun e _=>?_
 simp only [Function.comp,mE,fz_bel b sz _ (p.h K e.2.1)]
end Go.Vx
end
section
namespace Go.Vx
open Go Go.Rx
def SubH (σ τ:Sg):Prop:=∀ k b,gt σ.h k=some b→gt τ.h k=some b
section
variable {σ τ:Sg} (hs:SubH σ τ)
include hs
variable {T:Tb} {tm:List U}
def noEff:Op→Bool
 | .alloc _ | .box _ _ | .store _ _ _ | .buildSlice _ _ _ | .makeSlice _ _ _ | .makeMap _ _ | .mapUpdate _ _ _ _ | .insert _ _ _ _ | .mapEntry _ _ _ | .entryStore _ _ _ _=>false
 | .call c=>(match c.callee with
  | .builtin .append=>false
  | .builtin .copy=>false
  | .builtin .delete=>false
  | .builtin .clear=>false
  | _=>true)
 | _=>true
end
end Go.Vx
end
section
namespace Go.Vx
open Go Go.Rx
def alU:Option Nat→Nat→U
 | none,k=>.ptr k 0 0
 | some n,k=>.sl k 0 n n
structure Al where
 i:Nat
 k:Nat
 o:Option Nat
 l:List U
 e:TypeId
structure Loc (T:Tb) (ops:List Oper) (als:List Al) (i:Nat) (r:RecU) (K:Nat) (q q':List U) (e:TypeId):Prop where
 name:∃ al∈als,al.k=K
 row:gt r.s.h K=some (.row q e)
 out:r.s'=⟨ug r.s.h K (.row q' e),r.s.nx⟩
 dst:r.o.dst=none
 run:∀ τ:Sg,gt τ.h K=some (.row q e)→opU T τ r.tm r.o.op=some (r.u,⟨ug τ.h K (.row q' e),τ.nx⟩)
 pre:∀ al∈als,Pre ops i al.i∨(al.k≠K∧BelL al.k q')
 want:wantedU ops r.tm r.o=some true
structure ChA (P:Program) (T:Tb) (ops:List Oper) (tm₀:List U) (σb σ1:Sg) (rs:List RecU) (als:List Al):Prop where
 some:als≠[]
 names:∀ al∈als,σb.nx≤al.k∧al.k<σ1.nx
 nodup:∀ a∈als,∀ b∈als,a.k=b.k→a.i=b.i
 le:σb.nx≤σ1.nx
 at_:∀ al∈als,∃ r d,rs[al.i]? = .some r∧r.u=alU al.o al.k∧r.act=false∧r.mv=true∧(∀ σ,opU T σ r.tm r.o.op = .some (alU al.o σ.nx,newU σ (.row al.l al.e)))∧r.o.guard=none∧r.o.dst = .some d
 row:∀ al∈als,BelL 0 al.l
 all:∀ (i:Nat) (r:RecU),rs[i]? = .some r→r.act=false→r.mv=true→∃ al∈als,al.i=i
 own:∀ al∈als,gt σ1.h al.k = .some (.row al.l al.e)
 oth:∀ j,(∀ al∈als,al.k≠j)→gt σ1.h j=gt σb.h j
 acts:∀ (i:Nat) (r:RecU),rs[i]? = .some r→r.act=true→(∀ al∈als,Pre ops i al.i)∨∃ K q q' e,Loc T ops als i r K q q' e
 early:∀ (i:Nat) (r:RecU),rs[i]? = .some r→r.act=false→r.mv=false→(∀ al∈als,Pre ops i al.i)∨(Bel σb.nx r.u∧(wantedU ops r.tm r.o = .some true→opU T r.s r.tm r.o.op = .some (r.u,r.s')→noEff r.o.op=true∧opU T ⟨σb.h,σ1.nx⟩ r.tm r.o.op = .some (r.u,⟨σb.h,σ1.nx⟩)))
section
variable {P:Program} {T:Tb} (hT:TbOk P T) (ops:Array Oper) {tm₀:List U} {σb σ1:Sg} {rs:List RecU} {tm':List U} {σ':Sg} {als:List Al}
 (htr:TrU P T ops.toList tm₀ σ1 rs tm' σ') (hst:staticOk ops.toList=true) (hch:ChU T ops.toList rs) (hal:ChA P T ops.toList tm₀ σb σ1 rs als)
include htr hal
include hT hst hch
end
end Go.Vx
end
section
namespace Go.Vx
open Go Go.Rx
def locP (mk K:Nat) (q':List U):List Al→Prop
 | []=>True
 | al::r=>(Nat.testBit mk al.i=true∨(al.k≠K∧BelL al.k q'))∧locP mk K q' r
def RA (P:Program) (T:Tb) (ops:List Oper) (nb:Nat) (σe:Sg) (qa:List Al):List Oper→List U→Sg→List RK→List Al→(List RK→List U→Sg→Prop)→Prop
 | [],tm,σ,acc,q,K=>q=[]∧K acc tm σ
 | o::r,tm,σ,acc,q,K =>
  (wantedU ops tm o=some true∧∃ u,opU T σ tm o.op=some (u,σ)∧RA P T ops nb σe qa r (putW tm o.dst u) σ ((1,⟨tm,o,u,false,false,σ,σ⟩)::acc) q K) ∨
  (wantedU ops tm o=some true∧∃ u σ',opU T σ tm o.op=some (u,σ')∧RA P T ops nb σe qa r (putW tm o.dst u) σ' ((3,⟨tm,o,u,true,true,σ,σ'⟩)::acc) q K) ∨
  (wantedU ops tm o=some true∧∃ f args u,callU T tm o.op=some (f,args)∧EvU P f args σ (fun u' σ'=>u'=u∧σ'=σ)∧RA P T ops nb σe qa r (putW tm o.dst u) σ ((2,⟨tm,o,u,true,false,σ,σ⟩)::acc) q K) ∨
  (wantedU ops tm o=some true∧∃ f args u σ',callU T tm o.op=some (f,args)∧EvU P f args σ (fun u' s'=>u'=u∧s'=σ')∧RA P T ops nb σe qa r (putW tm o.dst u) σ' ((3,⟨tm,o,u,true,true,σ,σ'⟩)::acc) q K) ∨
  (wantedU ops tm o=some false∧RA P T ops nb σe qa r (putW tm o.dst (.tup [])) σ ((0,⟨tm,o,.tup [],false,false,σ,σ⟩)::acc) q K) ∨
  (wantedU ops tm o=some true∧∃ u,FreeO P T tm o.op u∧Bel nb u∧RA P T ops nb σe qa r (putW tm o.dst u) σ ((6,⟨tm,o,u,false,false,σ,σ⟩)::acc) q K) ∨
  (wantedU ops tm o=some true∧∃ u,opU T σ tm o.op=some (u,σ)∧opU T σe tm o.op=some (u,σe)∧noEff o.op=true∧Bel nb u∧RA P T ops nb σe qa r (putW tm o.dst u) σ ((5,⟨tm,o,u,false,false,σ,σ⟩)::acc) q K) ∨
  (∃ al q' d,q=al::q'∧al.i=acc.length∧(∀ s,opU T s tm o.op=some (alU al.o s.nx,newU s (.row al.l al.e)))∧o.guard=none∧o.dst=some d∧RA P T ops nb σe qa r (putW tm o.dst (alU al.o al.k)) σ ((4,⟨tm,o,alU al.o al.k,false,true,σ,σ⟩)::acc) q' K) ∨
  (wantedU ops tm o=some true∧∃ u KK c c' e mk,(masks ops [])[acc.length]? = some mk∧o.dst=none∧gt σ.h KK=some (.row c e)∧(∀ τ:Sg,gt τ.h KK=some (.row c e)→opU T τ tm o.op=some (u,⟨ug τ.h KK (.row c' e),τ.nx⟩))∧(∃ al∈qa,al.k=KK)∧locP mk KK c' qa ∧
   RA P T ops nb σe qa r (putW tm o.dst u) ⟨ug σ.h KK (.row c' e),σ.nx⟩ ((7,⟨tm,o,u,true,true,σ,⟨ug σ.h KK (.row c' e),σ.nx⟩⟩)::acc) q K)
section
variable {P:Program} {T:Tb}
end
section
variable {C:PG} {T:Tb} (hT:TbOk C.prog T) {n0:Nat} {Q:Exit→List U→Sg→Prop} {tm:List U} {σ:Sg}
include hT
end
end Go.Vx
end
section
namespace Go.Vx
open Go Go.Rx
section
variable {P:Program} {T:Tb} {ops r:List Oper} {o:Oper} {n nb:Nat} {σe:Sg} {l:List (Nat×U)} {σ σ':Sg} {acc:List RK} {q qa:List Al} {K:List RK→List U→Sg→Prop} {u:U}
theorem RQ.act (hw:wantedU ops (fr n l) o=some true) (h:opU T σ (fr n l) o.op=some (u,σ')) {d:Tmp} (he:o.dst=some d) (hd:Nat.blt d n=true) (hk:RA P T ops nb σe qa r (fr n ((d,u)::l)) σ' ((3,⟨fr n l,o,u,true,true,σ,σ'⟩)::acc) q K):RA P T ops nb σe qa (o::r) (fr n l) σ acc q K :=
 .inr (.inl ⟨hw,u,σ',h,by rw [he,put_fr (d:=some d) u hd]; exact hk⟩)
theorem RQ.call {f:FuncId} {args:List U} (hw:wantedU ops (fr n l) o=some true) (hc:callU T (fr n l) o.op=some (f,args)) (hev:EvU P f args σ (fun u' σ'=>u'=u∧σ'=σ)) {d:Tmp} (he:o.dst=some d) (hd:Nat.blt d n=true) (hk:RA P T ops nb σe qa r (fr n ((d,u)::l)) σ ((2,⟨fr n l,o,u,true,false,σ,σ⟩)::acc) q K):RA P T ops nb σe qa (o::r) (fr n l) σ acc q K :=
 .inr (.inr (.inl ⟨hw,f,args,u,hc,hev,by rw [he,put_fr (d:=some d) u hd]; exact hk⟩))
theorem RQ.alloc {al:Al} (hi:al.i=acc.length) (ho:∀ s,opU T s (fr n l) o.op=some (alU al.o s.nx,newU s (.row al.l al.e))) (hg:o.guard=none) {d:Tmp} (he:o.dst=some d) (hd:Nat.blt d n=true) (hk:RA P T ops nb σe qa r (fr n ((d,alU al.o al.k)::l)) σ ((4,⟨fr n l,o,alU al.o al.k,false,true,σ,σ⟩)::acc) q K):RA P T ops nb σe qa (o::r) (fr n l) σ acc (al::q) K :=
 .inr (.inr (.inr (.inr (.inr (.inr (.inr (.inl ⟨al,q,d,rfl,hi,ho,hg,he,by rw [he,put_fr (d:=some d) _ hd]; exact hk⟩)))))))
end
section
variable {C:PG} {T:Tb} (hT:TbOk C.prog T) {n0:Nat} {Q:Exit→List U→Sg→Prop} {tm:List U} {σ:Sg}
include hT
end
end Go.Vx
end
section
namespace Go.Vx
open Go Go.Rx
theorem makeList_run {P:Program} {T:Tb} (hT:TbOk P T) {m:Nm} {s:S} (w:World) {t e:TypeId} {sz by_ n:Nat} {z:Value} {ps:List (Nat×Value)} {cps:List (Nat×Value)} {cs:List Value}
  (hps:∀ m',Agree s.nx m m'→ps.map (fun p=>(p.1,ren m' p.2))=cps) (hd:T.und t=some (.slice e)) (hi:T.inf e=some (sz,by_,z)) (h1:Nat.ble (n*sz) 16777216=true) (h2:z.cells.toList.length=sz)
  (h3:fillX (fun i=>some (i*sz,sz)) (zeros z.cells.toList n) ps=some cs) :
  ∃ cl,RelL m s.nx cs cl∧(Instr.buildSlice t n cps.toArray).run P w = .ok (.slice (some ⟨w.heap.size,0,none⟩) n n) (w.alloc (.cells ⟨cl⟩ e)):=by
 have hsz:sizeX T e=some sz:=by simp [sizeX,hi]
 have hz:=fun m'=>run_zero hT m' w hi
 have hzc:=zero_cells hT hi
 simp only at hz hzc
 have h1':n*sz≤16777216:=by simpa [Nat.ble_eq] using h1
 have hfill:∀ m',Agree s.nx m m'→Instr.fill (fun i=>some (i*sz,sz)) ⟨zeros z.cells.toList n⟩ cps=some ⟨renL m' cs⟩:=fun m' ha=>by
  have:=fill_ok m' _ ps _ _ h3
  rw [hps m' ha,zeros_ren hzc] at this
  exact this
 have hcl:RelL m s.nx cs (renL m cs):=fun m' ha=>by
  have e1:=hfill m' ha
  have e2:=hfill m (Agree.refl _ _)
  rw [e1] at e2
  simpa using e2
 have hcells:z.cells.size=sz:=by simpa using h2
 refine ⟨renL m cs,hcl,?_⟩
 have hzeros:(Array.range (n*sz)).map (fun i=>(if n*sz=0 then (#[]:Array Value) else z.cells)[i % (if n*sz=0 then (#[]:Array Value) else z.cells).size]!)=⟨zeros z.cells.toList n⟩:=by
  by_cases h0:n*sz=0
  ·rw [h0]
   apply Array.ext'
   have:(zeros z.cells.toList n).length=0:=by rw [zeros_len,h2,h0]
   simp [List.length_eq_zero_iff.1 this]
  ·simp only [if_neg h0]
   have:=zeros_eq z.cells n
   rw [hcells] at this
   rw [← this]
   simp [hcells]
 have hf2:=hfill m (Agree.refl _ _)
 have hnot:¬ n*sz > 2 ^ 24:=by omega
 have hzz:=(hz m).1
 by_cases h0:n*sz=0
 ·simp only [if_pos h0] at hzeros
  simp only [Instr.buildSlice,Sem.run_bind,run_und hT w hd,Result.andThen_ok,run_size hT w hsz,Sem.run_ite,if_neg hnot,Sem.run_pure,if_pos h0]
  rw [hzeros,hf2]
  simp [Go.newRow]
 ·simp only [if_neg h0] at hzeros
  simp only [Instr.buildSlice,Sem.run_bind,run_und hT w hd,Result.andThen_ok,run_size hT w hsz,Sem.run_ite,if_neg hnot,Sem.run_pure,if_neg h0,hzz]
  rw [hzeros,hf2]
  simp [Go.newRow]
theorem StepU.bslw {C:PG} {T:Tb} (hT:TbOk C.prog T) {σ:Sg} {tm:List U} {o:Oper} {t e:TypeId} {k sz b:Nat} {z:Value} {zu cs0 cs:List U} {ps:Array (Nat×Operand)} {qs:List (Nat×U)} (ho:o.op = .buildSlice t k ps) (hd:T.und t=some (.slice e)) (hi:T.inf e=some (sz,b,z))
  (h:evalUP tm ps.toList=some qs) (h1:Nat.ble (k*sz) 16777216=true) (h3:Nat.beq z.cells.toList.length sz=true) (hz:ofVL z.cells.toList=some zu) (hf:fillU (fun i=>some (i*sz,sz)) (zerosU zu k) qs=some cs0) (hw:WkL cs0 cs) (hk:okL cs=true) (hl:Nat.beq cs.length (k*sz)=true) (hs:Nat.blt 0 sz=true) :
  StepU C σ tm o (fun u σ'=>u = .vl σ.nx 0 0 k∧σ'=newU σ (.vec cs e sz 0)):=fun F x tv m w a next Q hxσ st hG hn ro hro=>by
 subst hxσ
 obtain ⟨vs,ev,hp⟩:=evalUP_ok st.e h
 have hzr:=(ofVL_ok _ _ hz).2 x
 obtain ⟨rv,f1,f2⟩:=fill_sim hp (zeros_sim hzr k) hf
 have f2:RelE x cs rv:=⟨hw.rel f2.1,by rw [hw.len]; exact f2.2⟩
 have h2:z.cells.toList.length=sz:=by simpa [beq_eq] using h3
 obtain ⟨cl,g1,g2⟩:=makeList_run hT (m:=m) (s:=x.s) w (cps:=ps.toList.map fun p=>(p.1,a.eval p.2)) (fun m' hm'=>(evalP_ok (st.act m' hm') ev).symm) hd hi h1 h2 f1
 have e1:(ps.map fun (i,x)=>(i,a.eval x))=(ps.toList.map fun p=>(p.1,a.eval p.2)).toArray:=by cases ps; simp
 have hrun:(execOp a.eval o).run C.prog w = .ok (.value (.slice (some ⟨w.heap.size,0,none⟩) k k)) (w.alloc (.cells ⟨cl⟩ e)):=by
  simp only [execOp,ho]
  rw [e1]
  simp only [Sem.run_bind,g2,Result.andThen_ok,Sem.run_pure]
 have hlen:rv.length=k*sz:=by
  have h5:=f2.2
  have h6:cs.length=k*sz:=by simpa [beq_eq] using hl
  rw [← h5,h6]
 have hadv:Adv m x.s w (m.set x.s.nx w.heap.size 0 k) (Rx.newRow x.s rv e (sz+2)) (w.alloc (.cells ⟨cl⟩ e)):=by
  have:=new_row_more st.fits (rest:=[]) g1 e k sz (by simpa using hlen)
  simpa using this
 have hsz:0<sz:=by simpa [Nat.blt_eq] using hs
 have hout:=newvec_sim st.h f2 hk e hsz
 have hrel:RelS (m.set x.s.nx w.heap.size 0 k) (x.s.nx+1) (.slice (some ⟨x.s.nx,0,none⟩) k capBase) (.slice (some ⟨w.heap.size,0,none⟩) k k):=fun m' ha=>by
  obtain ⟨q1,q2,q3⟩:=ha x.s.nx (Nat.lt_succ_self _)
  obtain ⟨r1,r2,r3⟩:=set_blk m x.s.nx w.heap.size 0 k
  simp [ren,q1,q2,r1,r2,capOf,capD,q3,r3]
 refine wpIn_op (by rw [ho]; intro c hc; cases hc) ?_
 unfold Oper.wp
 rw [hrun]
 exact hn _ ⟨setρ x.ρ x.σ.nx (some x.s.nx),newU x.σ (.vec cs e sz 0),Rx.newRow x.s rv e (sz+2)⟩ (putT tv o.dst (.slice (some ⟨x.s.nx,0,none⟩) k capBase)) _ _ _ ⟨rfl,rfl⟩
  ⟨hout.h,hout.fr F st.fr,putW_ok (hout.mo.ke.E st.e.bel st.e) rel_newvec _,hadv.fits,(st.act.ext hadv.agree hadv.nx).put hrel o.dst⟩ hadv hout.mo.ke hout.mo.nx (put_defers _ _ _)
theorem StepU.bslv {C:PG} {T:Tb} (hT:TbOk C.prog T) {σ:Sg} {tm:List U} {o:Oper} {t e:TypeId} {k sz b:Nat} {z:Value} {zu cs:List U} {ps:Array (Nat×Operand)} {qs:List (Nat×U)} (ho:o.op = .buildSlice t k ps) (hd:T.und t=some (.slice e)) (hi:T.inf e=some (sz,b,z))
  (h:evalUP tm ps.toList=some qs) (h1:Nat.ble (k*sz) 16777216=true) (h3:Nat.beq z.cells.toList.length sz=true) (hz:ofVL z.cells.toList=some zu) (hf:fillU (fun i=>some (i*sz,sz)) (zerosU zu k) qs=some cs) (hk:okL cs=true) (hl:Nat.beq cs.length (k*sz)=true) (hs:Nat.blt 0 sz=true) :
  StepU C σ tm o (fun u σ'=>u = .vl σ.nx 0 0 k∧σ'=newU σ (.vec cs e sz 0)):=StepU.bslw hT ho hd hi h h1 h3 hz hf (WkL.refl _) hk hl hs
end Go.Vx
end
section
namespace Go.Vx
open Go Go.Rx
def mvN (K K2 k:Nat):Nat:=cond (Nat.beq k K) K2 k
def mvH (K K2:Nat):List (Nat×B)→List (Nat×B)
 | []=>[]
 | (k,b)::h=>cond (Nat.beq k K) (mvH K K2 h) (cond (Nat.beq k K2) ((K,b)::mvH K K2 h) ((k,b)::mvH K K2 h))
theorem gt_mvH {K K2:Nat} (hne:K≠K2):∀ (h:List (Nat×B)) (j:Nat),gt (mvH K K2 h) j=if j=K then gt h K2 else if j=K2 then none else gt h j
 | [],j=>by simp [mvH,gt]
 | (k,b)::h,j=>by
  have ih:=gt_mvH hne h j
  simp only [mvH,beq_eq]
  by_cases e1:k=K
  ·subst e1
   simp only [decide_true,cond_true,ih,gt_cons]
   by_cases e2:j=k
   ·subst e2; simp [hne]
   ·simp [e2,Ne.symm e2]
  ·by_cases e2:k=K2
   ·subst e2
    simp only [e1,decide_false,cond_false,decide_true,cond_true,gt_cons,ih]
    by_cases e3:j=K
    ·subst e3; simp
    ·by_cases e4:j=k
     ·simp [e4,e1,Ne.symm e3]
      intro h; exact absurd h.symm e1
     ·simp [e3,e4,Ne.symm e3,Ne.symm e4]
   ·simp only [e1,e2,decide_false,cond_false,gt_cons,ih]
    by_cases e3:j=K
    ·subst e3; simp [e1,e2]
    ·by_cases e4:j=K2
     ·subst e4; simp [e3,e2]
     ·simp [e3,e4]
def rS (π:Nat→Nat):List (Nat×U)→List (Nat×U)
 | []=>[]
 | (i,u)::l=>(i,rU π u)::rS π l
theorem lookS_rS (π:Nat→Nat):∀ (l:List (Nat×U)) (i:Nat),lookS (rS π l) i=(lookS l i).map (rU π)
 | [],i=>rfl
 | (j,u)::l,i=>by
  simp only [rS,lookS,beq_eq,lookS_rS π l i]
  by_cases e:j=i<;>simp [e]
theorem rUL_get (π:Nat→Nat):∀ (l:List U) (i:Nat),(rUL π l)[i]? = (l[i]?).map (rU π)
 | [],i=>by simp [rUL]
 | u::l,0=>by simp [rUL]
 | u::l,i+1=>by simp [rUL,rUL_get π l i]
theorem rUL_fr (π:Nat→Nat) (n:Nat) (l:List (Nat×U)):rUL π (fr n l)=fr n (rS π l):=by
 apply List.ext_getElem?
 intro k
 rw [rUL_get]
 by_cases hk:k<n
 ·rw [fr_get n l hk,fr_get n _ hk,lookS_rS]
  cases lookS l k with
  | none=>simp [rU]
  | some w=>rfl
 ·rw [List.getElem?_eq_none (by simp [fr_len]; omega),List.getElem?_eq_none (by simp [fr_len]; omega)]
  rfl
def avH (π:Nat→Nat):List (Nat×B)→Prop
 | []=>True
 | (_,b)::h=>rB π b=b∧avH π h
theorem avH_at {π:Nat→Nat}:∀ {h:List (Nat×B)},avH π h→∀ k b,gt h k=some b→rB π b=b
 | [],_,k,b,hg=>by cases hg
 | (j,c)::h,ha,k,b,hg=>by
  rw [gt_cons] at hg
  by_cases e:j=k
  ·rw [if_pos e] at hg; cases hg; exact ha.1
  ·rw [if_neg e] at hg; exact avH_at ha.2 k b hg
theorem Gh.mv {n0 n:Nat} {l l':List (Nat×U)} {σ:Sg} {h':List (Nat×B)} (K K2:Nat) (h0:n0≤K) (hK:Nat.blt K σ.nx=true) (hne:Nat.beq K K2=false) (hl:rS (mvN K K2) l'=l) (hm:mvH K K2 σ.h=h') (ha:avH (mvN K K2) h') [hb:BS σ.nx l']:Gh n0 (fr n l) σ (fr n l') ⟨h',σ.nx⟩:=fun F x tv hx hr hf he=>by
 subst hx; subst hl; subst hm
 have hK':K<x.σ.nx:=by simpa [Nat.blt_eq] using hK
 have hne':K≠K2:=by simpa [beq_eq] using hne
 have key:∀ k b,gt (mvH K K2 x.σ.h) k=some b→gt x.σ.h (mvN K K2 k)=some b:=fun k b hg=>by
  rw [gt_mvH hne'] at hg
  simp only [mvN,beq_eq]
  by_cases e:k=K
  ·rw [if_pos e] at hg; simpa [e] using hg
  ·rw [if_neg e] at hg
   by_cases e2:k=K2
   ·rw [if_pos e2] at hg; cases hg
   ·rw [if_neg e2] at hg; simpa [e] using hg
 let y:Cx:=⟨fun k=>x.ρ (mvN K K2 k),⟨mvH K K2 x.σ.h,x.σ.nx⟩,x.s⟩
 have hU:Unleaf x.σ.nx (mvN K K2) x y:=⟨fun k st off v hk h=>by
   simp only [Rel,Ref] at h ⊢
   exact ⟨h.1,hk,fun b hb=>h.2.2 b (key k b hb)⟩,fun k off m c v hk h=>by
   simp only [Rel,Ref] at h ⊢
   exact ⟨h.1,hk,fun b hb=>h.2.2 b (key k b hb)⟩,fun k st off m v hk h=>by
   simp only [Rel] at h ⊢
   exact ⟨h.1,hk,fun b hb=>h.2.2 b (key k b hb)⟩,fun k v hk h=>by
   simp only [Rel,Ref] at h ⊢
   exact ⟨h.1,hk,fun b hb=>h.2.2 b (key k b hb)⟩,fun _ _ _ h=>h⟩
 have hback:∀ u,Bel n0 u→rU (mvN K K2) u=u:=fun u hbu=>by
  have:=rU_back (π:=id) (κ:=mvN K K2) (n:=n0) (fun k hk=>by
   have:¬ k=K:=by omega
   simp [mvN,beq_eq,this]) u hbu
  rwa [rid] at this
 refine ⟨y,fun m w hf=>Adv.refl hf,rfl,⟨fun k b hb=>?_,fun k k' b b' i hb hb' h1 h2=>?_,hr.bd⟩,fun i b hF=>?_,?_,fun u v hbu hv=>?_⟩
 ·have hg:=key k b hb
  obtain ⟨g1,g2⟩:=hr.ok _ _ hg
  have hkl:k<x.σ.nx:=by
   by_cases e:k=K
   ·omega
   ·have e2:mvN K K2 k=k:=by simp [mvN,beq_eq,e]
    rw [e2] at g1; exact g1
  refine ⟨hkl,BOk.unleaf hU g2.belB rfl (fun _ _ _ h=>h) ?_⟩
  rw [avH_at ha k b hb]; exact g2
 ·have e:=hr.inj _ _ b b' i (key k b hb) (key k' b' hb') h1 h2
  have hn2:∀ k b,gt (mvH K K2 x.σ.h) k=some b→k≠K2:=fun k b hb h=>by
   subst h
   rw [gt_mvH hne',if_neg (Ne.symm hne'),if_pos rfl] at hb
   cases hb
  have q1:=hn2 k b hb
  have q2:=hn2 k' b' hb'
  simp only [mvN,beq_eq] at e
  by_cases e1:k=K
  ·by_cases e2:k'=K
   ·rw [e1,e2]
   ·simp [e1,e2] at e; exact absurd e.symm q2
  ·by_cases e2:k'=K
   ·simp [e1,e2] at e; exact absurd e q1
   ·simpa [e1,e2] using e
 ·obtain ⟨h1,h2⟩:=hf i b hF
  exact ⟨h1,fun k c hc=>h2 _ c (key k c hc)⟩
 ·refine RelE.unleaf hU (belL_fr hb.h) ?_
  rw [rUL_fr]; exact he
 ·exact Rel.unleaf hU u v (Bel.le (by omega) u hbu) (by rw [hback u hbu]; exact hv)
end Go.Vx
end
section
namespace Go.Vx
open Go Go.Rx
variable {T:Tb} {σ:Sg}
theorem ia_ar {t e:TypeId} {m sz k st off:Nat} {i:Int} {kd:IntKind} (hd:T.und t=some (.array m e)) (hs:sizeX T e=some sz) (hl:live σ k st=true) (hi:0≤i∧i<m) {off':Nat} (ho:off+i.toNat*sz=off'):indexAtU T σ t (.ptr k st off) (.int kd i)=some (.ptr k st off'):=by
 subst ho
 simp only [indexAtU,hd,hs,hl,cond_true,if_pos hi]
theorem nc_pn {t e:TypeId} {k st off:Nat} {op:BinOp} {u:U} (hd:T.und t=some (.pointer e)) (hl:live σ k st=true) (hu:cmpB op=some u):nilCmp T σ op t (.ptr k st off) .nilp=some u:=by
 simp only [nilCmp,kindT,hd,there,hl,nilKind,hu,cond_true,Nat.beq,cond_false]
theorem Gh.truncE {α:Type} (c:α→List U) {n0 n:Nat} {l l':List (Nat×U)} {σ σ':Sg} {K:Nat} {xs:List α} {e:TypeId} {sz st:Nat} (hc:∀ x,(c x).length=sz) (hg:gt σ.h K=some (.vec (xs.map c).flatten e sz st)) (j:Nat) (ht:subS l l') (hs:(⟨ug σ.h K (.vec ((xs.take j).map c).flatten e sz st),σ.nx⟩:Sg)=σ'):Gh n0 (fr n l) σ (fr n l') σ' :=
 Gh.trans (Gh.truncL c hc hg j) (Gh.eqS ht hs)
end Go.Vx
end
section
namespace Go.Proofs
open Go Go.Rx
theorem Try.fn3:Try.tb.fn 3=some Try.f3:=by kernel_rfl
theorem Try.fn4:Try.tb.fn 4=some Try.f4:=by kernel_rfl
theorem Try.fn5:Try.tb.fn 5=some Try.f5:=by kernel_rfl
theorem Try.hb5:Try.f5.body.isSome=true:=rfl
theorem Try.fn6:Try.tb.fn 6=some Try.f6:=by kernel_rfl
theorem Try.fn7:Try.tb.fn 7=some Try.f7:=by kernel_rfl
theorem Try.hb7:Try.f7.body.isSome=true:=rfl
theorem Try.fn8:Try.tb.fn 8=some Try.f8:=by kernel_rfl
theorem Try.hb8:Try.f8.body.isSome=true:=rfl
theorem Try.fn9:Try.tb.fn 9=some Try.f9:=by kernel_rfl
theorem Try.hb9:Try.f9.body.isSome=true:=rfl
theorem Try.fn10:Try.tb.fn 10=some Try.f10:=by kernel_rfl
theorem Try.fn11:Try.tb.fn 11=some Try.f11:=by kernel_rfl
theorem Try.hb11:Try.f11.body.isSome=true:=rfl
theorem Try.fn12:Try.tb.fn 12=some Try.f12:=by kernel_rfl
theorem Try.fn13:Try.tb.fn 13=some Try.f13:=by kernel_rfl
theorem Try.fn14:Try.tb.fn 14=some Try.f14:=by kernel_rfl
theorem Try.hb14:Try.f14.body.isSome=true:=rfl
theorem Try.fn15:Try.tb.fn 15=some Try.f15:=by kernel_rfl
theorem Try.hb15:Try.f15.body.isSome=true:=rfl
theorem Try.fn16:Try.tb.fn 16=some Try.f16:=by kernel_rfl
theorem Try.fn17:Try.tb.fn 17=some Try.f17:=by kernel_rfl
theorem Try.fn18:Try.tb.fn 18=some Try.f18:=by kernel_rfl
theorem Try.hb18:Try.f18.body.isSome=true:=rfl
theorem Try.fn19:Try.tb.fn 19=some Try.f19:=by kernel_rfl
theorem Try.hb19:Try.f19.body.isSome=true:=rfl
theorem Try.fn20:Try.tb.fn 20=some Try.f20:=by kernel_rfl
theorem Try.hb20:Try.f20.body.isSome=true:=rfl
theorem Try.fn21:Try.tb.fn 21=some Try.f21:=by kernel_rfl
theorem Try.fn22:Try.tb.fn 22=some Try.f22:=by kernel_rfl
theorem Try.fn23:Try.tb.fn 23=some Try.f23:=by kernel_rfl
theorem Try.hb23:Try.f23.body.isSome=true:=rfl
theorem Try.fn24:Try.tb.fn 24=some Try.f24:=by kernel_rfl
theorem Try.hb24:Try.f24.body.isSome=true:=rfl
theorem Try.fn25:Try.tb.fn 25=some Try.f25:=by kernel_rfl
theorem Try.fn26:Try.tb.fn 26=some Try.f26:=by kernel_rfl
theorem Try.fn27:Try.tb.fn 27=some Try.f27:=by kernel_rfl
theorem Try.fn28:Try.tb.fn 28=some Try.f28:=by kernel_rfl
theorem Try.fn29:Try.tb.fn 29=some Try.f29:=by kernel_rfl
theorem Try.fn30:Try.tb.fn 30=some Try.f30:=by kernel_rfl
theorem Try.fn31:Try.tb.fn 31=some Try.f31:=by kernel_rfl
theorem Try.fn32:Try.tb.fn 32=some Try.f32:=by kernel_rfl
theorem Try.hb32:Try.f32.body.isSome=true:=rfl
theorem Try.fn33:Try.tb.fn 33=some Try.f33:=by kernel_rfl
theorem Try.fn34:Try.tb.fn 34=some Try.f34:=by kernel_rfl
theorem Try.hb34:Try.f34.body.isSome=true:=rfl
theorem Try.fn35:Try.tb.fn 35=some Try.f35:=by kernel_rfl
theorem Try.fn36:Try.tb.fn 36=some Try.f36:=by kernel_rfl
theorem Try.fn38:Try.tb.fn 38=some Try.f38:=by kernel_rfl
theorem Try.fn39:Try.tb.fn 39=some Try.f39:=by kernel_rfl
theorem Try.fn40:Try.tb.fn 40=some Try.f40:=by kernel_rfl
theorem Try.fn41:Try.tb.fn 41=some Try.f41:=by kernel_rfl
theorem Try.fn42:Try.tb.fn 42=some Try.f42:=by kernel_rfl
theorem Try.fn43:Try.tb.fn 43=some Try.f43:=by kernel_rfl
theorem Try.fn44:Try.tb.fn 44=some Try.f44:=by kernel_rfl
theorem Try.fn45:Try.tb.fn 45=some Try.f45:=by kernel_rfl
theorem Try.fn46:Try.tb.fn 46=some Try.f46:=by kernel_rfl
theorem Try.fn47:Try.tb.fn 47=some Try.f47:=by kernel_rfl
theorem Try.fn48:Try.tb.fn 48=some Try.f48:=by kernel_rfl
theorem Try.fn49:Try.tb.fn 49=some Try.f49:=by kernel_rfl
theorem Try.fn50:Try.tb.fn 50=some Try.f50:=by kernel_rfl
theorem Try.fn51:Try.tb.fn 51=some Try.f51:=by kernel_rfl
theorem Try.fn52:Try.tb.fn 52=some Try.f52:=by kernel_rfl
theorem Try.fn53:Try.tb.fn 53=some Try.f53:=by kernel_rfl
theorem Try.fn56:Try.tb.fn 56=some Try.f56:=by kernel_rfl
theorem Try.fn57:Try.tb.fn 57=some Try.f57:=by kernel_rfl
theorem Try.fn58:Try.tb.fn 58=some Try.f58:=by kernel_rfl
theorem Try.fn59:Try.tb.fn 59=some Try.f59:=by kernel_rfl
theorem Try.fn60:Try.tb.fn 60=some Try.f60:=by kernel_rfl
theorem Try.fn61:Try.tb.fn 61=some Try.f61:=by kernel_rfl
theorem Try.fn62:Try.tb.fn 62=some Try.f62:=by kernel_rfl
theorem Try.fn63:Try.tb.fn 63=some Try.f63:=by kernel_rfl
theorem Try.fn64:Try.tb.fn 64=some Try.f64:=by kernel_rfl
theorem Try.fn65:Try.tb.fn 65=some Try.f65:=by kernel_rfl
theorem Try.fn66:Try.tb.fn 66=some Try.f66:=by kernel_rfl
theorem Try.fn67:Try.tb.fn 67=some Try.f67:=by kernel_rfl
theorem Try.hb67:Try.f67.body.isSome=true:=rfl
theorem Try.fn68:Try.tb.fn 68=some Try.f68:=by kernel_rfl
theorem Try.fn69:Try.tb.fn 69=some Try.f69:=by kernel_rfl
theorem Try.fn70:Try.tb.fn 70=some Try.f70:=by kernel_rfl
theorem Try.fn71:Try.tb.fn 71=some Try.f71:=by kernel_rfl
theorem Try.fn72:Try.tb.fn 72=some Try.f72:=by kernel_rfl
theorem Try.fn73:Try.tb.fn 73=some Try.f73:=by kernel_rfl
theorem Try.fn74:Try.tb.fn 74=some Try.f74:=by kernel_rfl
theorem Try.fn75:Try.tb.fn 75=some Try.f75:=by kernel_rfl
theorem Try.fn77:Try.tb.fn 77=some Try.f77:=by kernel_rfl
theorem Try.fn78:Try.tb.fn 78=some Try.f78:=by kernel_rfl
theorem Try.fn79:Try.tb.fn 79=some Try.f79:=by kernel_rfl
theorem Try.fn80:Try.tb.fn 80=some Try.f80:=by kernel_rfl
theorem Try.fn81:Try.tb.fn 81=some Try.f81:=by kernel_rfl
theorem Try.fn82:Try.tb.fn 82=some Try.f82:=by kernel_rfl
theorem Try.fn83:Try.tb.fn 83=some Try.f83:=by kernel_rfl
theorem Try.fn84:Try.tb.fn 84=some Try.f84:=by kernel_rfl
theorem Try.fn85:Try.tb.fn 85=some Try.f85:=by kernel_rfl
theorem Try.fn87:Try.tb.fn 87=some Try.f87:=by kernel_rfl
theorem Try.fn88:Try.tb.fn 88=some Try.f88:=by kernel_rfl
theorem Try.fn89:Try.tb.fn 89=some Try.f89:=by kernel_rfl
theorem Try.fn90:Try.tb.fn 90=some Try.f90:=by kernel_rfl
theorem Try.fn91:Try.tb.fn 91=some Try.f91:=by kernel_rfl
end Go.Proofs
end
