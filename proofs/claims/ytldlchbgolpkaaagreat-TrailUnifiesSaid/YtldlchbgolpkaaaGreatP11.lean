/-
  Texts of the walk: Tab12z Ins12z MpS Fn12z.
-/
import Derived.Test.YtldlchbgolpkaaaGreatProg
import Derived.Test.YtldlchbgolpkaaaGreatP10
set_option linter.unusedSimpArgs false
set_option linter.unusedVariables false
section
namespace Go.Proofs
open Go Go.Rx
noncomputable def Tryz.tb:Tb:=tbOf Tryz.prog []
theorem Tryz.mixed:Tryz.prog.follows .mixedOrders=true:=by kernel_rfl
theorem Tryz.eqs_ok:∀ t∈([]:List TypeId),Tryz.prog.stoodInHeld t=false∧Tryz.prog.eqGuardType Tryz.prog.depth t=false:=by
 intro t ht
 cases ht
theorem Tryz.names_ok : (Tryz.prog.funcs.toList.all fun f => !(f.name == "runtime.NumGoroutine")) = true := by kernel_rfl
theorem Tryz.tb_ok:qfp Tryz.prog Tryz.tb:=z6v Tryz.prog [] Tryz.mixed (fun f hf _=>by
 have:=List.all_eq_true.1 Tryz.names_ok f hf
 simpa using this) Tryz.eqs_ok
theorem Tryz.und3:Tryz.tb.und 3=some (.int .i64):=by kernel_rfl
theorem Tryz.inf3:Tryz.tb.inf 3=some (1,8,.int .i64 0):=by kernel_rfl
theorem Tryz.und4:Tryz.tb.und 4=some (.bool):=by kernel_rfl
theorem Tryz.inf4:Tryz.tb.inf 4=some (1,1,.bool false):=by kernel_rfl
theorem Tryz.und9:Tryz.tb.und 9=some (.string):=by kernel_rfl
theorem Tryz.inf9:Tryz.tb.inf 9=some (1,16,.string ⟨#[]⟩):=by kernel_rfl
theorem Tryz.und22:Tryz.tb.und 22=some (.slice 138):=by kernel_rfl
theorem Tryz.und24:Tryz.tb.und 24=some (.slice 132):=by kernel_rfl
theorem Tryz.inf24:Tryz.tb.inf 24=some (1,24,.slice none 0 0):=by kernel_rfl
theorem Tryz.und25:Tryz.tb.und 25=some (.slice 187):=by kernel_rfl
theorem Tryz.inf25:Tryz.tb.inf 25=some (1,24,.slice none 0 0):=by kernel_rfl
theorem Tryz.und27 : Tryz.tb.und 27 = some (.struct #[⟨ "Types", 24, 0, false, "", "", 0⟩, ⟨ "Feats", 25, 1, false, "", "", 24⟩]) := by kernel_rfl
theorem Tryz.inf27:Tryz.tb.inf 27=some (2,48,.agg #[.slice none 0 0,.slice none 0 0]):=by kernel_rfl
theorem Tryz.und31:Tryz.tb.und 31=some (.pointer 85):=by kernel_rfl
theorem Tryz.und33:Tryz.tb.und 33=some (.slice 78):=by kernel_rfl
theorem Tryz.inf33:Tryz.tb.inf 33=some (1,24,.slice none 0 0):=by kernel_rfl
theorem Tryz.und34:Tryz.tb.und 34=some (.slice 3):=by kernel_rfl
theorem Tryz.inf34:Tryz.tb.inf 34=some (1,24,.slice none 0 0):=by kernel_rfl
theorem Tryz.und40 : Tryz.tb.und 40 = some (.struct #[⟨ "Nodes", 33, 0, false, "", "", 0⟩]) := by kernel_rfl
theorem Tryz.inf40:Tryz.tb.inf 40=some (1,24,.agg #[.slice none 0 0]):=by kernel_rfl
theorem Tryz.und48:Tryz.tb.und 48=some (.slice 40):=by kernel_rfl
theorem Tryz.und76:Tryz.tb.und 76=some (.slice 98):=by kernel_rfl
theorem Tryz.inf76:Tryz.tb.inf 76=some (1,24,.slice none 0 0):=by kernel_rfl
theorem Tryz.und78 : Tryz.tb.und 78 = some (.struct #[⟨ "Type", 3, 0, false, "", "", 0⟩, ⟨ "Arcs", 76, 1, false, "", "", 8⟩]) := by kernel_rfl
theorem Tryz.inf78:Tryz.tb.inf 78=some (2,32,.agg #[.int .i64 0,.slice none 0 0]):=by kernel_rfl
theorem Tryz.und81:Tryz.tb.und 81=some (.slice 96):=by kernel_rfl
theorem Tryz.inf81:Tryz.tb.inf 81=some (1,24,.slice none 0 0):=by kernel_rfl
theorem Tryz.und82:Tryz.tb.und 82=some (.slice 151):=by kernel_rfl
theorem Tryz.inf82:Tryz.tb.inf 82=some (1,24,.slice none 0 0):=by kernel_rfl
theorem Tryz.und83:Tryz.tb.und 83=some (.slice 94):=by kernel_rfl
theorem Tryz.inf83:Tryz.tb.inf 83=some (1,24,.slice none 0 0):=by kernel_rfl
theorem Tryz.und85 : Tryz.tb.und 85 = some (.struct #[⟨ "h", 27, 0, false, "", "grammarlab/trail", 0⟩, ⟨ "cells", 81, 2, false, "", "grammarlab/trail", 48⟩, ⟨ "trail", 82, 3, false, "", "grammarlab/trail", 72⟩, ⟨ "marks", 83, 4, false, "", "grammarlab/trail", 96⟩]) := by kernel_rfl
theorem Tryz.inf85:Tryz.tb.inf 85=some (5,120,.agg #[.slice none 0 0,.slice none 0 0,.slice none 0 0,.slice none 0 0,.slice none 0 0]):=by kernel_rfl
theorem Tryz.und94 : Tryz.tb.und 94 = some (.struct #[⟨ "cells", 3, 0, false, "", "grammarlab/trail", 0⟩, ⟨ "changes", 3, 1, false, "", "grammarlab/trail", 8⟩]) := by kernel_rfl
theorem Tryz.inf94:Tryz.tb.inf 94=some (2,16,.agg #[.int .i64 0,.int .i64 0]):=by kernel_rfl
theorem Tryz.und96 : Tryz.tb.und 96 = some (.struct #[⟨ "forward", 3, 0, false, "", "grammarlab/trail", 0⟩, ⟨ "kind", 3, 1, false, "", "grammarlab/trail", 8⟩, ⟨ "arcs", 76, 2, false, "", "grammarlab/trail", 16⟩]) := by kernel_rfl
theorem Tryz.inf96:Tryz.tb.inf 96=some (3,40,.agg #[.int .i64 0,.int .i64 0,.slice none 0 0]):=by kernel_rfl
theorem Tryz.und98 : Tryz.tb.und 98 = some (.struct #[⟨ "Feat", 3, 0, false, "", "", 0⟩, ⟨ "To", 3, 1, false, "", "", 8⟩]) := by kernel_rfl
theorem Tryz.inf98:Tryz.tb.inf 98=some (2,16,.agg #[.int .i64 0,.int .i64 0]):=by kernel_rfl
theorem Tryz.und100:Tryz.tb.und 100=some (.array 2 3):=by kernel_rfl
theorem Tryz.inf100:Tryz.tb.inf 100=some (2,16,.agg #[.int .i64 0,.int .i64 0]):=by kernel_rfl
theorem Tryz.und101:Tryz.tb.und 101=some (.slice 100):=by kernel_rfl
theorem Tryz.inf101:Tryz.tb.inf 101=some (1,24,.slice none 0 0):=by kernel_rfl
theorem Tryz.und102:Tryz.tb.und 102=some (.func #[3] #[3] false):=by kernel_rfl
theorem Tryz.inf102:Tryz.tb.inf 102=some (1,8,.nilFunc):=by kernel_rfl
theorem Tryz.und113:Tryz.tb.und 113=some (.pointer 116):=by kernel_rfl
theorem Tryz.und114:Tryz.tb.und 114=some (.slice 76):=by kernel_rfl
theorem Tryz.inf114:Tryz.tb.inf 114=some (1,24,.slice none 0 0):=by kernel_rfl
theorem Tryz.und116 : Tryz.tb.und 116 = some (.struct #[⟨ "h", 27, 0, false, "", "grammarlab/unify", 0⟩, ⟨ "parent", 34, 2, false, "", "grammarlab/unify", 48⟩, ⟨ "types", 34, 3, false, "", "grammarlab/unify", 72⟩, ⟨ "arcs", 114, 4, false, "", "grammarlab/unify", 96⟩]) := by kernel_rfl
theorem Tryz.inf116:Tryz.tb.inf 116=some (5,120,.agg #[.slice none 0 0,.slice none 0 0,.slice none 0 0,.slice none 0 0,.slice none 0 0]):=by kernel_rfl
theorem Tryz.und118:Tryz.tb.und 118=some (.map 3 3):=by kernel_rfl
theorem Tryz.inf118:Tryz.tb.inf 118=some (1,8,.map none):=by kernel_rfl
theorem Tryz.und119:Tryz.tb.und 119=some (.slice 130):=by kernel_rfl
theorem Tryz.und122:Tryz.tb.und 122=some (.slice 128):=by kernel_rfl
theorem Tryz.und126:Tryz.tb.und 126=some (.slice 191):=by kernel_rfl
theorem Tryz.inf126:Tryz.tb.inf 126=some (1,24,.slice none 0 0):=by kernel_rfl
theorem Tryz.und128 : Tryz.tb.und 128 = some (.struct #[⟨ "Name", 9, 0, false, "", "", 0⟩, ⟨ "Code", 126, 1, false, "", "", 16⟩]) := by kernel_rfl
theorem Tryz.inf128:Tryz.tb.inf 128=some (2,40,.agg #[.string ⟨#[]⟩,.slice none 0 0]):=by kernel_rfl
theorem Tryz.und130:Tryz.tb.und 130=some (.slice 176):=by kernel_rfl
theorem Tryz.inf130:Tryz.tb.inf 130=some (1,24,.slice none 0 0):=by kernel_rfl
theorem Tryz.und132 : Tryz.tb.und 132 = some (.struct #[⟨ "Name", 9, 0, false, "", "", 0⟩, ⟨ "Code", 126, 1, false, "", "", 16⟩, ⟨ "Supers", 34, 2, false, "", "", 40⟩, ⟨ "Feats", 130, 3, false, "", "", 64⟩]) := by kernel_rfl
theorem Tryz.inf132:Tryz.tb.inf 132=some (4,88,.agg #[.string ⟨#[]⟩,.slice none 0 0,.slice none 0 0,.slice none 0 0]):=by kernel_rfl
theorem Tryz.und135:Tryz.tb.und 135=some (.slice 9):=by kernel_rfl
theorem Tryz.inf135:Tryz.tb.inf 135=some (1,24,.slice none 0 0):=by kernel_rfl
theorem Tryz.und136:Tryz.tb.und 136=some (.slice 141):=by kernel_rfl
theorem Tryz.inf136:Tryz.tb.inf 136=some (1,24,.slice none 0 0):=by kernel_rfl
theorem Tryz.und138 : Tryz.tb.und 138 = some (.struct #[⟨ "Name", 9, 0, false, "", "", 0⟩, ⟨ "Supers", 135, 1, false, "", "", 16⟩, ⟨ "Feats", 136, 2, false, "", "", 40⟩]) := by kernel_rfl
theorem Tryz.inf138:Tryz.tb.inf 138=some (3,64,.agg #[.string ⟨#[]⟩,.slice none 0 0,.slice none 0 0]):=by kernel_rfl
theorem Tryz.und141 : Tryz.tb.und 141 = some (.struct #[⟨ "Feat", 9, 0, false, "", "", 0⟩, ⟨ "Value", 9, 1, false, "", "", 16⟩]) := by kernel_rfl
theorem Tryz.inf141:Tryz.tb.inf 141=some (2,32,.agg #[.string ⟨#[]⟩,.string ⟨#[]⟩]):=by kernel_rfl
theorem Tryz.und151 : Tryz.tb.und 151 = some (.struct #[⟨ "at", 3, 0, false, "", "grammarlab/trail", 0⟩, ⟨ "old", 96, 1, false, "", "grammarlab/trail", 8⟩]) := by kernel_rfl
theorem Tryz.inf151:Tryz.tb.inf 151=some (4,48,.agg #[.int .i64 0,.int .i64 0,.int .i64 0,.slice none 0 0]):=by kernel_rfl
theorem Tryz.und176 : Tryz.tb.und 176 = some (.struct #[⟨ "Feat", 3, 0, false, "", "", 0⟩, ⟨ "Value", 3, 1, false, "", "", 8⟩]) := by kernel_rfl
theorem Tryz.inf176:Tryz.tb.inf 176=some (2,16,.agg #[.int .i64 0,.int .i64 0]):=by kernel_rfl
theorem Tryz.und177:Tryz.tb.und 177=some (.slice 126):=by kernel_rfl
theorem Tryz.und187 : Tryz.tb.und 187 = some (.struct #[⟨ "Name", 9, 0, false, "", "", 0⟩, ⟨ "Intro", 3, 1, false, "", "", 16⟩]) := by kernel_rfl
theorem Tryz.inf187:Tryz.tb.inf 187=some (2,24,.agg #[.string ⟨#[]⟩,.int .i64 0]):=by kernel_rfl
theorem Tryz.und191:Tryz.tb.und 191=some (.int .u64):=by kernel_rfl
theorem Tryz.inf191:Tryz.tb.inf 191=some (1,8,.int .u64 0):=by kernel_rfl
theorem Tryz.und193:Tryz.tb.und 193=some (.int .u64):=by kernel_rfl
theorem Tryz.und214 : Tryz.tb.und 214 = some (.struct #[⟨ "f", 40, 0, false, "", "grammarlab/grammarlabref07", 0⟩, ⟨ "number", 34, 1, false, "", "grammarlab/grammarlabref07", 24⟩, ⟨ "order", 34, 2, false, "", "grammarlab/grammarlabref07", 48⟩]) := by kernel_rfl
theorem Tryz.inf214:Tryz.tb.inf 214=some (3,72,.agg #[.slice none 0 0,.slice none 0 0,.slice none 0 0]):=by kernel_rfl
end Go.Proofs
end
section
namespace Go.Proofs
open Go Go.Rx Go.Vx
instance Tryz.un3:UnC Tryz.tb 3 (.int .i64):=⟨Tryz.und3⟩
instance Tryz.un4:UnC Tryz.tb 4 (.bool):=⟨Tryz.und4⟩
instance Tryz.un9:UnC Tryz.tb 9 (.string):=⟨Tryz.und9⟩
instance Tryz.un22:UnC Tryz.tb 22 (.slice 138):=⟨Tryz.und22⟩
instance Tryz.un24:UnC Tryz.tb 24 (.slice 132):=⟨Tryz.und24⟩
instance Tryz.un25:UnC Tryz.tb 25 (.slice 187):=⟨Tryz.und25⟩
instance Tryz.un27 : UnC Tryz.tb 27 (.struct #[⟨ "Types", 24, 0, false, "", "", 0⟩, ⟨ "Feats", 25, 1, false, "", "", 24⟩]) := ⟨Tryz.und27⟩
instance Tryz.un31:UnC Tryz.tb 31 (.pointer 85):=⟨Tryz.und31⟩
instance Tryz.un33:UnC Tryz.tb 33 (.slice 78):=⟨Tryz.und33⟩
instance Tryz.un34:UnC Tryz.tb 34 (.slice 3):=⟨Tryz.und34⟩
instance Tryz.un40 : UnC Tryz.tb 40 (.struct #[⟨ "Nodes", 33, 0, false, "", "", 0⟩]) := ⟨Tryz.und40⟩
instance Tryz.un48:UnC Tryz.tb 48 (.slice 40):=⟨Tryz.und48⟩
instance Tryz.un76:UnC Tryz.tb 76 (.slice 98):=⟨Tryz.und76⟩
instance Tryz.un78 : UnC Tryz.tb 78 (.struct #[⟨ "Type", 3, 0, false, "", "", 0⟩, ⟨ "Arcs", 76, 1, false, "", "", 8⟩]) := ⟨Tryz.und78⟩
instance Tryz.un81:UnC Tryz.tb 81 (.slice 96):=⟨Tryz.und81⟩
instance Tryz.un82:UnC Tryz.tb 82 (.slice 151):=⟨Tryz.und82⟩
instance Tryz.un83:UnC Tryz.tb 83 (.slice 94):=⟨Tryz.und83⟩
instance Tryz.un85 : UnC Tryz.tb 85 (.struct #[⟨ "h", 27, 0, false, "", "grammarlab/trail", 0⟩, ⟨ "cells", 81, 2, false, "", "grammarlab/trail", 48⟩, ⟨ "trail", 82, 3, false, "", "grammarlab/trail", 72⟩, ⟨ "marks", 83, 4, false, "", "grammarlab/trail", 96⟩]) := ⟨Tryz.und85⟩
instance Tryz.un94 : UnC Tryz.tb 94 (.struct #[⟨ "cells", 3, 0, false, "", "grammarlab/trail", 0⟩, ⟨ "changes", 3, 1, false, "", "grammarlab/trail", 8⟩]) := ⟨Tryz.und94⟩
instance Tryz.un96 : UnC Tryz.tb 96 (.struct #[⟨ "forward", 3, 0, false, "", "grammarlab/trail", 0⟩, ⟨ "kind", 3, 1, false, "", "grammarlab/trail", 8⟩, ⟨ "arcs", 76, 2, false, "", "grammarlab/trail", 16⟩]) := ⟨Tryz.und96⟩
instance Tryz.un98 : UnC Tryz.tb 98 (.struct #[⟨ "Feat", 3, 0, false, "", "", 0⟩, ⟨ "To", 3, 1, false, "", "", 8⟩]) := ⟨Tryz.und98⟩
instance Tryz.un100:UnC Tryz.tb 100 (.array 2 3):=⟨Tryz.und100⟩
instance Tryz.un101:UnC Tryz.tb 101 (.slice 100):=⟨Tryz.und101⟩
instance Tryz.un102:UnC Tryz.tb 102 (.func #[3] #[3] false):=⟨Tryz.und102⟩
instance Tryz.un113:UnC Tryz.tb 113 (.pointer 116):=⟨Tryz.und113⟩
instance Tryz.un114:UnC Tryz.tb 114 (.slice 76):=⟨Tryz.und114⟩
instance Tryz.un116 : UnC Tryz.tb 116 (.struct #[⟨ "h", 27, 0, false, "", "grammarlab/unify", 0⟩, ⟨ "parent", 34, 2, false, "", "grammarlab/unify", 48⟩, ⟨ "types", 34, 3, false, "", "grammarlab/unify", 72⟩, ⟨ "arcs", 114, 4, false, "", "grammarlab/unify", 96⟩]) := ⟨Tryz.und116⟩
instance Tryz.un118:UnC Tryz.tb 118 (.map 3 3):=⟨Tryz.und118⟩
instance Tryz.un119:UnC Tryz.tb 119 (.slice 130):=⟨Tryz.und119⟩
instance Tryz.un122:UnC Tryz.tb 122 (.slice 128):=⟨Tryz.und122⟩
instance Tryz.un126:UnC Tryz.tb 126 (.slice 191):=⟨Tryz.und126⟩
instance Tryz.un128 : UnC Tryz.tb 128 (.struct #[⟨ "Name", 9, 0, false, "", "", 0⟩, ⟨ "Code", 126, 1, false, "", "", 16⟩]) := ⟨Tryz.und128⟩
instance Tryz.un130:UnC Tryz.tb 130 (.slice 176):=⟨Tryz.und130⟩
instance Tryz.un132 : UnC Tryz.tb 132 (.struct #[⟨ "Name", 9, 0, false, "", "", 0⟩, ⟨ "Code", 126, 1, false, "", "", 16⟩, ⟨ "Supers", 34, 2, false, "", "", 40⟩, ⟨ "Feats", 130, 3, false, "", "", 64⟩]) := ⟨Tryz.und132⟩
instance Tryz.un135:UnC Tryz.tb 135 (.slice 9):=⟨Tryz.und135⟩
instance Tryz.un136:UnC Tryz.tb 136 (.slice 141):=⟨Tryz.und136⟩
instance Tryz.un138 : UnC Tryz.tb 138 (.struct #[⟨ "Name", 9, 0, false, "", "", 0⟩, ⟨ "Supers", 135, 1, false, "", "", 16⟩, ⟨ "Feats", 136, 2, false, "", "", 40⟩]) := ⟨Tryz.und138⟩
instance Tryz.un141 : UnC Tryz.tb 141 (.struct #[⟨ "Feat", 9, 0, false, "", "", 0⟩, ⟨ "Value", 9, 1, false, "", "", 16⟩]) := ⟨Tryz.und141⟩
instance Tryz.un151 : UnC Tryz.tb 151 (.struct #[⟨ "at", 3, 0, false, "", "grammarlab/trail", 0⟩, ⟨ "old", 96, 1, false, "", "grammarlab/trail", 8⟩]) := ⟨Tryz.und151⟩
instance Tryz.un176 : UnC Tryz.tb 176 (.struct #[⟨ "Feat", 3, 0, false, "", "", 0⟩, ⟨ "Value", 3, 1, false, "", "", 8⟩]) := ⟨Tryz.und176⟩
instance Tryz.un177:UnC Tryz.tb 177 (.slice 126):=⟨Tryz.und177⟩
instance Tryz.un187 : UnC Tryz.tb 187 (.struct #[⟨ "Name", 9, 0, false, "", "", 0⟩, ⟨ "Intro", 3, 1, false, "", "", 16⟩]) := ⟨Tryz.und187⟩
instance Tryz.un191:UnC Tryz.tb 191 (.int .u64):=⟨Tryz.und191⟩
instance Tryz.un193:UnC Tryz.tb 193 (.int .u64):=⟨Tryz.und193⟩
instance Tryz.un214 : UnC Tryz.tb 214 (.struct #[⟨ "f", 40, 0, false, "", "grammarlab/grammarlabref07", 0⟩, ⟨ "number", 34, 1, false, "", "grammarlab/grammarlabref07", 24⟩, ⟨ "order", 34, 2, false, "", "grammarlab/grammarlabref07", 48⟩]) := ⟨Tryz.und214⟩
instance Tryz.if3:InC Tryz.tb 3 1 8 (.int .i64 0):=⟨Tryz.inf3⟩
instance Tryz.ze3:ZeC Tryz.tb 3 [.int .i64 0]:=⟨_,_,_,Tryz.inf3,rfl,rfl⟩
instance Tryz.if4:InC Tryz.tb 4 1 1 (.bool false):=⟨Tryz.inf4⟩
instance Tryz.ze4:ZeC Tryz.tb 4 [.bool false]:=⟨_,_,_,Tryz.inf4,rfl,rfl⟩
instance Tryz.if9:InC Tryz.tb 9 1 16 (.string ⟨#[]⟩):=⟨Tryz.inf9⟩
instance Tryz.ze9:ZeC Tryz.tb 9 [.str []]:=⟨_,_,_,Tryz.inf9,rfl,rfl⟩
instance Tryz.if24:InC Tryz.tb 24 1 24 (.slice none 0 0):=⟨Tryz.inf24⟩
instance Tryz.if25:InC Tryz.tb 25 1 24 (.slice none 0 0):=⟨Tryz.inf25⟩
instance Tryz.if27:InC Tryz.tb 27 2 48 (.agg #[.slice none 0 0,.slice none 0 0]):=⟨Tryz.inf27⟩
instance Tryz.ze27:ZeC Tryz.tb 27 [.nils,.nils]:=⟨_,_,_,Tryz.inf27,rfl,rfl⟩
instance Tryz.if33:InC Tryz.tb 33 1 24 (.slice none 0 0):=⟨Tryz.inf33⟩
instance Tryz.if34:InC Tryz.tb 34 1 24 (.slice none 0 0):=⟨Tryz.inf34⟩
instance Tryz.ze34:ZeC Tryz.tb 34 [.nils]:=⟨_,_,_,Tryz.inf34,rfl,rfl⟩
instance Tryz.if40:InC Tryz.tb 40 1 24 (.agg #[.slice none 0 0]):=⟨Tryz.inf40⟩
instance Tryz.ze40:ZeC Tryz.tb 40 [.nils]:=⟨_,_,_,Tryz.inf40,rfl,rfl⟩
instance Tryz.if76:InC Tryz.tb 76 1 24 (.slice none 0 0):=⟨Tryz.inf76⟩
instance Tryz.ze76:ZeC Tryz.tb 76 [.nils]:=⟨_,_,_,Tryz.inf76,rfl,rfl⟩
instance Tryz.if78:InC Tryz.tb 78 2 32 (.agg #[.int .i64 0,.slice none 0 0]):=⟨Tryz.inf78⟩
instance Tryz.ze78:ZeC Tryz.tb 78 [.int .i64 0,.nils]:=⟨_,_,_,Tryz.inf78,rfl,rfl⟩
instance Tryz.if81:InC Tryz.tb 81 1 24 (.slice none 0 0):=⟨Tryz.inf81⟩
instance Tryz.if82:InC Tryz.tb 82 1 24 (.slice none 0 0):=⟨Tryz.inf82⟩
instance Tryz.if83:InC Tryz.tb 83 1 24 (.slice none 0 0):=⟨Tryz.inf83⟩
instance Tryz.if85:InC Tryz.tb 85 5 120 (.agg #[.slice none 0 0,.slice none 0 0,.slice none 0 0,.slice none 0 0,.slice none 0 0]):=⟨Tryz.inf85⟩
instance Tryz.if94:InC Tryz.tb 94 2 16 (.agg #[.int .i64 0,.int .i64 0]):=⟨Tryz.inf94⟩
instance Tryz.ze94:ZeC Tryz.tb 94 [.int .i64 0,.int .i64 0]:=⟨_,_,_,Tryz.inf94,rfl,rfl⟩
instance Tryz.if96:InC Tryz.tb 96 3 40 (.agg #[.int .i64 0,.int .i64 0,.slice none 0 0]):=⟨Tryz.inf96⟩
instance Tryz.ze96:ZeC Tryz.tb 96 [.int .i64 0,.int .i64 0,.nils]:=⟨_,_,_,Tryz.inf96,rfl,rfl⟩
instance Tryz.if98:InC Tryz.tb 98 2 16 (.agg #[.int .i64 0,.int .i64 0]):=⟨Tryz.inf98⟩
instance Tryz.ze98:ZeC Tryz.tb 98 [.int .i64 0,.int .i64 0]:=⟨_,_,_,Tryz.inf98,rfl,rfl⟩
instance Tryz.if100:InC Tryz.tb 100 2 16 (.agg #[.int .i64 0,.int .i64 0]):=⟨Tryz.inf100⟩
instance Tryz.ze100:ZeC Tryz.tb 100 [.int .i64 0,.int .i64 0]:=⟨_,_,_,Tryz.inf100,rfl,rfl⟩
instance Tryz.if101:InC Tryz.tb 101 1 24 (.slice none 0 0):=⟨Tryz.inf101⟩
instance Tryz.ze101:ZeC Tryz.tb 101 [.nils]:=⟨_,_,_,Tryz.inf101,rfl,rfl⟩
instance Tryz.if102:InC Tryz.tb 102 1 8 (.nilFunc):=⟨Tryz.inf102⟩
instance Tryz.ze102:ZeC Tryz.tb 102 [.nilf]:=⟨_,_,_,Tryz.inf102,rfl,rfl⟩
instance Tryz.if114:InC Tryz.tb 114 1 24 (.slice none 0 0):=⟨Tryz.inf114⟩
instance Tryz.if116:InC Tryz.tb 116 5 120 (.agg #[.slice none 0 0,.slice none 0 0,.slice none 0 0,.slice none 0 0,.slice none 0 0]):=⟨Tryz.inf116⟩
instance Tryz.if118:InC Tryz.tb 118 1 8 (.map none):=⟨Tryz.inf118⟩
instance Tryz.ze118:ZeC Tryz.tb 118 [.nilm]:=⟨_,_,_,Tryz.inf118,rfl,rfl⟩
instance Tryz.if126:InC Tryz.tb 126 1 24 (.slice none 0 0):=⟨Tryz.inf126⟩
instance Tryz.ze126:ZeC Tryz.tb 126 [.nils]:=⟨_,_,_,Tryz.inf126,rfl,rfl⟩
instance Tryz.if128:InC Tryz.tb 128 2 40 (.agg #[.string ⟨#[]⟩,.slice none 0 0]):=⟨Tryz.inf128⟩
instance Tryz.ze128:ZeC Tryz.tb 128 [.str [],.nils]:=⟨_,_,_,Tryz.inf128,rfl,rfl⟩
instance Tryz.if130:InC Tryz.tb 130 1 24 (.slice none 0 0):=⟨Tryz.inf130⟩
instance Tryz.ze130:ZeC Tryz.tb 130 [.nils]:=⟨_,_,_,Tryz.inf130,rfl,rfl⟩
instance Tryz.if132:InC Tryz.tb 132 4 88 (.agg #[.string ⟨#[]⟩,.slice none 0 0,.slice none 0 0,.slice none 0 0]):=⟨Tryz.inf132⟩
instance Tryz.ze132:ZeC Tryz.tb 132 [.str [],.nils,.nils,.nils]:=⟨_,_,_,Tryz.inf132,rfl,rfl⟩
instance Tryz.if135:InC Tryz.tb 135 1 24 (.slice none 0 0):=⟨Tryz.inf135⟩
instance Tryz.if136:InC Tryz.tb 136 1 24 (.slice none 0 0):=⟨Tryz.inf136⟩
instance Tryz.if138:InC Tryz.tb 138 3 64 (.agg #[.string ⟨#[]⟩,.slice none 0 0,.slice none 0 0]):=⟨Tryz.inf138⟩
instance Tryz.ze138:ZeC Tryz.tb 138 [.str [],.nils,.nils]:=⟨_,_,_,Tryz.inf138,rfl,rfl⟩
instance Tryz.if141:InC Tryz.tb 141 2 32 (.agg #[.string ⟨#[]⟩,.string ⟨#[]⟩]):=⟨Tryz.inf141⟩
instance Tryz.ze141:ZeC Tryz.tb 141 [.str [],.str []]:=⟨_,_,_,Tryz.inf141,rfl,rfl⟩
instance Tryz.if151:InC Tryz.tb 151 4 48 (.agg #[.int .i64 0,.int .i64 0,.int .i64 0,.slice none 0 0]):=⟨Tryz.inf151⟩
instance Tryz.ze151:ZeC Tryz.tb 151 [.int .i64 0,.int .i64 0,.int .i64 0,.nils]:=⟨_,_,_,Tryz.inf151,rfl,rfl⟩
instance Tryz.if176:InC Tryz.tb 176 2 16 (.agg #[.int .i64 0,.int .i64 0]):=⟨Tryz.inf176⟩
instance Tryz.ze176:ZeC Tryz.tb 176 [.int .i64 0,.int .i64 0]:=⟨_,_,_,Tryz.inf176,rfl,rfl⟩
instance Tryz.if187:InC Tryz.tb 187 2 24 (.agg #[.string ⟨#[]⟩,.int .i64 0]):=⟨Tryz.inf187⟩
instance Tryz.ze187:ZeC Tryz.tb 187 [.str [],.int .i64 0]:=⟨_,_,_,Tryz.inf187,rfl,rfl⟩
instance Tryz.if191:InC Tryz.tb 191 1 8 (.int .u64 0):=⟨Tryz.inf191⟩
instance Tryz.ze191:ZeC Tryz.tb 191 [.int .u64 0]:=⟨_,_,_,Tryz.inf191,rfl,rfl⟩
instance Tryz.if214:InC Tryz.tb 214 3 72 (.agg #[.slice none 0 0,.slice none 0 0,.slice none 0 0]):=⟨Tryz.inf214⟩
end Go.Proofs
end
section
namespace Go.Vx
open Go Go.Rx
variable {q:List U}
variable {p:List U}
variable {a:Nat}
theorem qvx {n:Nat} (h:qfl q a n=some p):a+n≤q.length∧(q.drop a).take n=p:=by
 unfold qfl at h
 split at h
 ·rename_i hj; exact ⟨hj,Option.some.inj h⟩
 ·cases h
variable {sz:Nat}
variable {fo:Nat}
theorem nth_in {u:U} (h:qfl q a sz=some p) (h2:nth p fo=some u):nth q (a+fo)=some u:=by
 obtain ⟨h1,rfl⟩:=qvx h
 rw [q2o] at h2 ⊢
 have hl:=(zG.1 h2).1
 rw [List.length_take] at hl
 rw [List.getElem?_take_of_lt (by omega),List.getElem?_drop] at h2
 exact h2
theorem put_in {p' cs:List U} (h:qfl q a sz=some p) (h2:ql4 p fo cs=some p'):ql4 q (a+fo) cs=ql4 q a p':=by
 obtain ⟨h1,rfl⟩:=qvx h
 unfold ql4 at h2
 split at h2
 ·rename_i hj
  have hp:=Option.some.inj h2
  rw [List.length_take,List.length_drop] at hj
  have hl:p'.length=sz:=by
   rw [← hp]; simp; omega
  unfold ql4
  rw [if_pos (by omega),if_pos (by omega),← hp]
  congr 1
  have e1:List.take fo (List.take sz (List.drop a q))=List.take fo (List.drop a q):=by rw [List.take_take,Nat.min_eq_left (by omega)]
  have e2:List.take (a+fo) q=List.take a q++List.take fo (List.drop a q):=List.take_add
  have e3:List.drop (a+fo+cs.length) q=List.drop (fo+cs.length) (List.take sz (List.drop a q))++List.drop (a+sz) q:=by
   have:List.drop a q=List.take sz (List.drop a q)++List.drop (a+sz) q:=by rw [← List.drop_drop,List.take_append_drop]
   rw [Nat.add_assoc,← List.drop_drop]
   conv=>lhs; rw [this]
   rw [List.drop_append_of_le_length (by rw [List.length_take,List.length_drop]; omega)]
  rw [e1,e2,e3]
  simp [zT,hl]
  omega
 ·cases h2
section
variable {T:Tb} {σ σ':Sg} {n:Nat} {l:List (Nat×U)} {u v w:U}
theorem qk8 {α:Type} (c:α→List U) {t e':TypeId} {d:TypeDesc} {K st off m:Nat} {xs:List α} {i:Int} {x:α} {o:Operand} (hd:T.und t=some d) (ha:q72 d=false) (hc:∀ x,(c x).length=sz) (ho:evS n l o=some (.ptr K st (off*sz+i.toNat*sz+fo))) (hv:gt σ.h K=some (.vec (xs.map c).flatten e' sz st)) (hx:qnw xs off m i=some x) (hu:nth (c x) fo=some u):opU T σ (fr n l) (.load t o)=some (u,σ):=by
 refine z36 rfl ?_
 have hb:Nat.beq st st=true:=by simp [beq_eq]
 have hg:=qth hc (qet hx).2.2
 rw [Nat.add_mul] at hg
 simp only [qbw,q33 ho,cellsOf,hv,hb,zC,qlf,hd,ha,zD,nth_in hg hu]
theorem z6t {α:Type} (c:α→List U) {t e':TypeId} {s K st off m:Nat} {xs:List α} {i:Int} {x y:α} {o z:Operand} {cs:List U} {h':List (Nat×B)} (hs:q0x T t=some s) (hc:∀ x,(c x).length=sz) (ho:evS n l o=some (.ptr K st (off*sz+i.toNat*sz+fo))) (hz:evS n l z=some v) (hcs:qa2 v=some cs) (hk:okL cs=true) (hl:Nat.beq cs.length s=true) (hv:gt σ.h K=some (.vec (xs.map c).flatten e' sz st)) (hx:qnw xs off m i=some x) (hy:ql4 (c x) fo (wkZ cs)=some (c y)) (hσ:ug σ.h K (.vec ((xs.set (off+i.toNat) y).map c).flatten e' sz st)=h'):opU T σ (fr n l) (.store t o z)=some (.junk,⟨h',σ.nx⟩):=by
 subst hσ
 have hb:Nat.beq st st=true:=by simp
 have hj:=(zG.1 (qet hx).2.2).1
 have hg:=qth hc (qet hx).2.2
 have hp:=put_in hg hy
 rw [qpg hc hj y,Nat.add_mul] at hp
 exact qzp rfl rfl (by simp only [qjr,q33 ho,q33 hz,qnj,hs,hcs,hl,hk,zC,cellsOf,hv,hb,wkB,hp,qo3])
end
theorem qc2 {σ:Sg} {k t e:Nat} {l:List U} (h:gt σ.h k=some (.vec l e sz t)):live σ k t=true:=by
 simp only [live,h,B.st,beq_eq,yC]
theorem fz_mE {A V:Type} (K:Nat) (b:B) (sz:Nat) (kU:A→U) (vU:V→U) [p:BFU vU] (es:List (A×V×Nat)) :
  (es.map (mE kU vU)).map (fun e=>{ e with val:=fz K b sz e.val })=es.map (mE kU vU):=by
 rw [List.map_map]
 refine List.map_congr_left fun e _=>?_
 simp only [Function.comp,mE,qut b sz _ (p.h K e.2.1)]
def SubH (σ τ:Sg):Prop:=∀ k b,gt σ.h k=some b→gt τ.h k=some b
section
variable {σ τ:Sg} (hs:SubH σ τ)
include hs
variable {T:Tb} {tm:List U}
def noEff:Op→Bool
 | .alloc _ | .box _ _ | .store _ _ _ | .buildSlice _ _ _ | .makeSlice _ _ _ | .makeMap _ _ | .mapUpdate _ _ _ _ | .insert _ _ _ _ | .mapEntry _ _ _ | .entryStore _ _ _ _=>false
 | .call c=>(match c.callee with
  | .builtin .append=>false
  | .builtin .copy=>false
  | .builtin .delete=>false
  | .builtin .clear=>false
  | _=>true)
 | _=>true
end
def alU:Option Nat→Nat→U
 | none,k=>.ptr k 0 0
 | some n,k=>.sl k 0 n n
structure Al where
 i:Nat
 k:Nat
 o:Option Nat
 l:List U
 e:TypeId
structure Loc (T:Tb) (ops:List Oper) (als:List Al) (i:Nat) (r:q7l) (K:Nat) (q q':List U) (e:TypeId):Prop where
 name:∃ al∈als,al.k=K
 row:gt r.s.h K=some (.row q e)
 out:r.s'=⟨ug r.s.h K (.row q' e),r.s.nx⟩
 dst:r.o.dst=none
 run:∀ τ:Sg,gt τ.h K=some (.row q e)→opU T τ r.tm r.o.op=some (r.u,⟨ug τ.h K (.row q' e),τ.nx⟩)
 pre:∀ al∈als,Pre ops i al.i∨(al.k≠K∧BelL al.k q')
 want:q0c ops r.tm r.o=some true
structure ChA (P:Program) (T:Tb) (ops:List Oper) (tm₀:List U) (σb σ1:Sg) (rs:List q7l) (als:List Al):Prop where
 some:als≠[]
 names:∀ al∈als,σb.nx≤al.k∧al.k<σ1.nx
 nodup:∀ a∈als,∀ b∈als,a.k=b.k→a.i=b.i
 le:σb.nx≤σ1.nx
 at_:∀ al∈als,∃ r d,rs[al.i]? = .some r∧r.u=alU al.o al.k∧r.act=false∧r.mv=true∧(∀ σ,opU T σ r.tm r.o.op = .some (alU al.o σ.nx,q8k σ (.row al.l al.e)))∧r.o.guard=none∧r.o.dst = .some d
 row:∀ al∈als,BelL 0 al.l
 all:∀ (i:Nat) (r:q7l),rs[i]? = .some r→r.act=false→r.mv=true→∃ al∈als,al.i=i
 own:∀ al∈als,gt σ1.h al.k = .some (.row al.l al.e)
 oth:∀ j,(∀ al∈als,al.k≠j)→gt σ1.h j=gt σb.h j
 acts:∀ (i:Nat) (r:q7l),rs[i]? = .some r→r.act=true→(∀ al∈als,Pre ops i al.i)∨∃ K q q' e,Loc T ops als i r K q q' e
 early:∀ (i:Nat) (r:q7l),rs[i]? = .some r→r.act=false→r.mv=false→(∀ al∈als,Pre ops i al.i)∨(Bel σb.nx r.u∧(q0c ops r.tm r.o = .some true→opU T r.s r.tm r.o.op = .some (r.u,r.s')→noEff r.o.op=true∧opU T ⟨σb.h,σ1.nx⟩ r.tm r.o.op = .some (r.u,⟨σb.h,σ1.nx⟩)))
section
variable {P:Program} {T:Tb} (hT:qfp P T) (ops:Array Oper) {tm₀:List U} {σb σ1:Sg} {rs:List q7l} {tm':List U} {σ':Sg} {als:List Al}
 (htr:TrU P T ops.toList tm₀ σ1 rs tm' σ') (hst:qcs ops.toList=true) (hch:ChU T ops.toList rs) (hal:ChA P T ops.toList tm₀ σb σ1 rs als)
include htr hal
include hT hst hch
end
def locP (mk K:Nat) (q':List U):List Al→Prop
 | []=>True
 | al::r=>(Nat.testBit mk al.i=true∨(al.k≠K∧BelL al.k q'))∧locP mk K q' r
def RA (P:Program) (T:Tb) (ops:List Oper) (nb:Nat) (σe:Sg) (qa:List Al):List Oper→List U→Sg→List RK→List Al→(List RK→List U→Sg→Prop)→Prop
 | [],tm,σ,acc,q,K=>q=[]∧K acc tm σ
 | o::r,tm,σ,acc,q,K =>
  (q0c ops tm o=some true∧∃ u,opU T σ tm o.op=some (u,σ)∧RA P T ops nb σe qa r (q84 tm o.dst u) σ ((1,⟨tm,o,u,false,false,σ,σ⟩)::acc) q K) ∨
  (q0c ops tm o=some true∧∃ u σ',opU T σ tm o.op=some (u,σ')∧RA P T ops nb σe qa r (q84 tm o.dst u) σ' ((3,⟨tm,o,u,true,true,σ,σ'⟩)::acc) q K) ∨
  (q0c ops tm o=some true∧∃ f args u,q6z T tm o.op=some (f,args)∧EvU P f args σ (fun u' σ'=>u'=u∧σ'=σ)∧RA P T ops nb σe qa r (q84 tm o.dst u) σ ((2,⟨tm,o,u,true,false,σ,σ⟩)::acc) q K) ∨
  (q0c ops tm o=some true∧∃ f args u σ',q6z T tm o.op=some (f,args)∧EvU P f args σ (fun u' s'=>u'=u∧s'=σ')∧RA P T ops nb σe qa r (q84 tm o.dst u) σ' ((3,⟨tm,o,u,true,true,σ,σ'⟩)::acc) q K) ∨
  (q0c ops tm o=some false∧RA P T ops nb σe qa r (q84 tm o.dst (.tup [])) σ ((0,⟨tm,o,.tup [],false,false,σ,σ⟩)::acc) q K) ∨
  (q0c ops tm o=some true∧∃ u,qlc P T tm o.op u∧Bel nb u∧RA P T ops nb σe qa r (q84 tm o.dst u) σ ((6,⟨tm,o,u,false,false,σ,σ⟩)::acc) q K) ∨
  (q0c ops tm o=some true∧∃ u,opU T σ tm o.op=some (u,σ)∧opU T σe tm o.op=some (u,σe)∧noEff o.op=true∧Bel nb u∧RA P T ops nb σe qa r (q84 tm o.dst u) σ ((5,⟨tm,o,u,false,false,σ,σ⟩)::acc) q K) ∨
  (∃ al q' d,q=al::q'∧al.i=acc.length∧(∀ s,opU T s tm o.op=some (alU al.o s.nx,q8k s (.row al.l al.e)))∧o.guard=none∧o.dst=some d∧RA P T ops nb σe qa r (q84 tm o.dst (alU al.o al.k)) σ ((4,⟨tm,o,alU al.o al.k,false,true,σ,σ⟩)::acc) q' K) ∨
  (q0c ops tm o=some true∧∃ u KK c c' e mk,(masks ops [])[acc.length]? = some mk∧o.dst=none∧gt σ.h KK=some (.row c e)∧(∀ τ:Sg,gt τ.h KK=some (.row c e)→opU T τ tm o.op=some (u,⟨ug τ.h KK (.row c' e),τ.nx⟩))∧(∃ al∈qa,al.k=KK)∧locP mk KK c' qa ∧
   RA P T ops nb σe qa r (q84 tm o.dst u) ⟨ug σ.h KK (.row c' e),σ.nx⟩ ((7,⟨tm,o,u,true,true,σ,⟨ug σ.h KK (.row c' e),σ.nx⟩⟩)::acc) q K)
section
variable {P:Program} {T:Tb}
end
section
variable {C:PG} {T:Tb} (hT:qfp C.prog T) {n0:Nat} {Q:Exit→List U→Sg→Prop} {tm:List U} {σ:Sg}
include hT
end
section
variable {P:Program} {T:Tb} {ops r:List Oper} {o:Oper} {n nb:Nat} {σe:Sg} {l:List (Nat×U)} {σ σ':Sg} {acc:List RK} {q qa:List Al} {K:List RK→List U→Sg→Prop} {u:U}
variable {d:Tmp}
theorem RQ.act (hw:q0c ops (fr n l) o=some true) (h:opU T σ (fr n l) o.op=some (u,σ')) (he:o.dst=some d) (hd:Nat.blt d n=true) (hk:RA P T ops nb σe qa r (fr n ((d,u)::l)) σ' ((3,⟨fr n l,o,u,true,true,σ,σ'⟩)::acc) q K):RA P T ops nb σe qa (o::r) (fr n l) σ acc q K :=
 .inr (.inl ⟨hw,u,σ',h,by rw [he,qbh (d:=some d) u hd]; exact hk⟩)
theorem RQ.call {f:FuncId} {args:List U} (hw:q0c ops (fr n l) o=some true) (hc:q6z T (fr n l) o.op=some (f,args)) (hev:EvU P f args σ (fun u' σ'=>u'=u∧σ'=σ)) (he:o.dst=some d) (hd:Nat.blt d n=true) (hk:RA P T ops nb σe qa r (fr n ((d,u)::l)) σ ((2,⟨fr n l,o,u,true,false,σ,σ⟩)::acc) q K):RA P T ops nb σe qa (o::r) (fr n l) σ acc q K :=
 .inr (.inr (.inl ⟨hw,f,args,u,hc,hev,by rw [he,qbh (d:=some d) u hd]; exact hk⟩))
theorem RQ.alloc {al:Al} (hi:al.i=acc.length) (ho:∀ s,opU T s (fr n l) o.op=some (alU al.o s.nx,q8k s (.row al.l al.e))) (hg:o.guard=none) (he:o.dst=some d) (hd:Nat.blt d n=true) (hk:RA P T ops nb σe qa r (fr n ((d,alU al.o al.k)::l)) σ ((4,⟨fr n l,o,alU al.o al.k,false,true,σ,σ⟩)::acc) q K):RA P T ops nb σe qa (o::r) (fr n l) σ acc (al::q) K :=
 .inr (.inr (.inr (.inr (.inr (.inr (.inr (.inl ⟨al,q,d,rfl,hi,ho,hg,he,by rw [he,qbh (d:=some d) _ hd]; exact hk⟩)))))))
end
section
variable {C:PG} {T:Tb} (hT:qfp C.prog T) {n0:Nat} {Q:Exit→List U→Sg→Prop} {tm:List U} {σ:Sg}
include hT
end
variable {T:Tb}
variable {t:TypeId}
variable {e:TypeId}
variable {sz:Nat}
variable {z:Value}
theorem qrv {P:Program} (hT:qfp P T) {m:Nm} {s:S} (w:World) {by_ n:Nat} {ps:List (Nat×Value)} {cps:List (Nat×Value)} {cs:List Value}
  (hps:∀ m',Agree s.nx m m'→ps.map (fun p=>(p.1,ren m' p.2))=cps) (hd:T.und t=some (.slice e)) (hi:T.inf e=some (sz,by_,z)) (h1:Nat.ble (n*sz) 16777216=true) (h2:z.cells.toList.length=sz)
  (h3:qk3 (fun i=>some (i*sz,sz)) (zeros z.cells.toList n) ps=some cs) :
  ∃ cl,qi9 m s.nx cs cl∧(Instr.buildSlice t n cps.toArray).run P w = .ok (.slice (some ⟨w.heap.size,0,none⟩) n n) (w.alloc (.cells ⟨cl⟩ e)):=by
 have hsz:q0x T e=some sz:=by simp [q0x,hi]
 have hz:=fun m'=>q9w hT m' w hi
 have hzc:=qcv hT hi
 simp only at hz hzc
 have h1':n*sz≤16777216:=by simpa [Nat.ble_eq] using h1
 have hfill:∀ m',Agree s.nx m m'→Instr.fill (fun i=>some (i*sz,sz)) ⟨zeros z.cells.toList n⟩ cps=some ⟨renL m' cs⟩:=fun m' ha=>by
  have:=qmj m' _ ps _ _ h3
  rw [hps m' ha,qgf hzc] at this
  exact this
 have hcl:qi9 m s.nx cs (renL m cs):=fun m' ha=>by
  have e1:=hfill m' ha
  have e2:=hfill m (Agree.refl _ _)
  rw [e1] at e2
  simpa using e2
 have hcells:z.cells.size=sz:=by simpa using h2
 refine ⟨renL m cs,hcl,?_⟩
 have hzeros:(Array.range (n*sz)).map (fun i=>(if n*sz=0 then (#[]:Array Value) else z.cells)[i % (if n*sz=0 then (#[]:Array Value) else z.cells).size]!)=⟨zeros z.cells.toList n⟩:=by
  by_cases h0:n*sz=0
  ·rw [h0]
   apply Array.ext'
   have:(zeros z.cells.toList n).length=0:=by rw [qjq,h2,h0]
   simp [List.length_eq_zero_iff.1 this]
  ·simp only [if_neg h0]
   have:=qjp z.cells n
   rw [hcells] at this
   rw [← this]
   simp [hcells]
 have hf2:=hfill m (Agree.refl _ _)
 have hnot:¬ n*sz > 2 ^ 24:=by omega
 have hzz:=(hz m).1
 by_cases h0:n*sz=0
 ·simp only [if_pos h0] at hzeros
  simp only [Instr.buildSlice,zK,q14 hT w hd,zJ,q1y hT w hsz,Sem.run_ite,if_neg hnot,zL,if_pos h0]
  rw [hzeros,hf2]
  simp [Go.newRow]
 ·simp only [if_neg h0] at hzeros
  simp only [Instr.buildSlice,zK,q14 hT w hd,zJ,q1y hT w hsz,Sem.run_ite,if_neg hnot,zL,if_neg h0,hzz]
  rw [hzeros,hf2]
  simp [Go.newRow]
theorem qle.bslw {C:PG} (hT:qfp C.prog T) {σ:Sg} {tm:List U} {o:Oper} {k b:Nat} {zu cs0 cs:List U} {ps:Array (Nat×Operand)} {qs:List (Nat×U)} (ho:o.op = .buildSlice t k ps) (hd:T.und t=some (.slice e)) (hi:T.inf e=some (sz,b,z))
  (h:qc0 tm ps.toList=some qs) (h1:Nat.ble (k*sz) 16777216=true) (h3:Nat.beq z.cells.toList.length sz=true) (hz:qlg z.cells.toList=some zu) (hf:qe5 (fun i=>some (i*sz,sz)) (qa1 zu k) qs=some cs0) (hw:WkL cs0 cs) (hk:okL cs=true) (hl:Nat.beq cs.length (k*sz)=true) (hs:Nat.blt 0 sz=true) :
  qle C σ tm o (fun u σ'=>u = .vl σ.nx 0 0 k∧σ'=q8k σ (.vec cs e sz 0)):=fun F x tv m w a next Q hxσ st hG hn ro hro=>by
 subst hxσ
 obtain ⟨vs,ev,hp⟩:=qmi st.e h
 have hzr:=(qf0 _ _ hz).2 x
 obtain ⟨rv,f1,f2⟩:=qin hp (qel hzr k) hf
 have f2:q1o x cs rv:=⟨hw.rel f2.1,by rw [hw.len]; exact f2.2⟩
 have h2:z.cells.toList.length=sz:=by simpa [beq_eq] using h3
 obtain ⟨cl,g1,g2⟩:=qrv hT (m:=m) (s:=x.s) w (cps:=ps.toList.map fun p=>(p.1,a.eval p.2)) (fun m' hm'=>(qpc (st.act m' hm') ev).symm) hd hi h1 h2 f1
 have e1:(ps.map fun (i,x)=>(i,a.eval x))=(ps.toList.map fun p=>(p.1,a.eval p.2)).toArray:=by cases ps; simp
 have hrun:(execOp a.eval o).run C.prog w = .ok (.value (.slice (some ⟨w.heap.size,0,none⟩) k k)) (w.alloc (.cells ⟨cl⟩ e)):=by
  simp only [execOp,ho]
  rw [e1]
  simp only [zK,g2,zJ,zL]
 have hlen:rv.length=k*sz:=by
  have h5:=f2.2
  have h6:cs.length=k*sz:=by simpa [beq_eq] using hl
  rw [← h5,h6]
 have hadv:Adv m x.s w (m.set x.s.nx w.heap.size 0 k) (Rx.newRow x.s rv e (sz+2)) (w.alloc (.cells ⟨cl⟩ e)):=by
  have:=qdm st.fits (rest:=[]) g1 e k sz (by simpa using hlen)
  simpa using this
 have hsz:0<sz:=by simpa [Nat.blt_eq] using hs
 have hout:=qgt st.h f2 hk e hsz
 have hrel:q8f (m.set x.s.nx w.heap.size 0 k) (x.s.nx+1) (.slice (some ⟨x.s.nx,0,none⟩) k q05) (.slice (some ⟨w.heap.size,0,none⟩) k k):=fun m' ha=>by
  obtain ⟨q1,q2,q3⟩:=ha x.s.nx (zN _)
  obtain ⟨r1,r2,r3⟩:=q9x m x.s.nx w.heap.size 0 k
  simp [ren,q1,q2,r1,r2,capOf,capD,q3,r3]
 refine qby (by rw [ho]; intro c hc; cases hc) ?_
 unfold Oper.wp
 rw [hrun]
 exact hn _ ⟨qh9 x.ρ x.σ.nx (some x.s.nx),q8k x.σ (.vec cs e sz 0),Rx.newRow x.s rv e (sz+2)⟩ (z3a tv o.dst (.slice (some ⟨x.s.nx,0,none⟩) k q05)) _ _ _ ⟨rfl,rfl⟩
  ⟨hout.h,hout.fr F st.fr,qn5 (hout.mo.ke.E st.e.bel st.e) qgx _,hadv.fits,(st.act.ext hadv.agree hadv.nx).put hrel o.dst⟩ hadv hout.mo.ke hout.mo.nx (q8y _ _ _)
theorem qle.bslv {C:PG} (hT:qfp C.prog T) {σ:Sg} {tm:List U} {o:Oper} {k b:Nat} {zu cs:List U} {ps:Array (Nat×Operand)} {qs:List (Nat×U)} (ho:o.op = .buildSlice t k ps) (hd:T.und t=some (.slice e)) (hi:T.inf e=some (sz,b,z))
  (h:qc0 tm ps.toList=some qs) (h1:Nat.ble (k*sz) 16777216=true) (h3:Nat.beq z.cells.toList.length sz=true) (hz:qlg z.cells.toList=some zu) (hf:qe5 (fun i=>some (i*sz,sz)) (qa1 zu k) qs=some cs) (hk:okL cs=true) (hl:Nat.beq cs.length (k*sz)=true) (hs:Nat.blt 0 sz=true) :
  qle C σ tm o (fun u σ'=>u = .vl σ.nx 0 0 k∧σ'=q8k σ (.vec cs e sz 0)):=qle.bslw hT ho hd hi h h1 h3 hz hf (WkL.refl _) hk hl hs
def mvN (K K2 k:Nat):Nat:=cond (Nat.beq k K) K2 k
def mvH (K K2:Nat):List (Nat×B)→List (Nat×B)
 | []=>[]
 | (k,b)::h=>cond (Nat.beq k K) (mvH K K2 h) (cond (Nat.beq k K2) ((K,b)::mvH K K2 h) ((k,b)::mvH K K2 h))
theorem qyr {K K2:Nat} (hne:K≠K2):∀ (h:List (Nat×B)) (j:Nat),gt (mvH K K2 h) j=if j=K then gt h K2 else if j=K2 then none else gt h j
 | [],j=>by simp [mvH,gt]
 | (k,b)::h,j=>by
  have ih:=qyr hne h j
  simp only [mvH,beq_eq]
  by_cases e1:k=K
  ·subst e1
   simp only [yC,zC,ih,q2b]
   by_cases e2:j=k
   ·subst e2; simp [hne]
   ·simp [e2,Ne.symm e2]
  ·by_cases e2:k=K2
   ·subst e2
    simp only [e1,yB,zD,yC,zC,q2b,ih]
    by_cases e3:j=K
    ·subst e3; simp
    ·by_cases e4:j=k
     ·simp [e4,e1,Ne.symm e3]
      intro h; exact absurd h.symm e1
     ·simp [e3,e4,Ne.symm e3,Ne.symm e4]
   ·simp only [e1,e2,yB,zD,q2b,ih]
    by_cases e3:j=K
    ·subst e3; simp [e1,e2]
    ·by_cases e4:j=K2
     ·subst e4; simp [e3,e2]
     ·simp [e3,e4]
def rS (π:Nat→Nat):List (Nat×U)→List (Nat×U)
 | []=>[]
 | (i,u)::l=>(i,rU π u)::rS π l
theorem qv6 (π:Nat→Nat):∀ (l:List (Nat×U)) (i:Nat),q96 (rS π l) i=(q96 l i).map (rU π)
 | [],i=>rfl
 | (j,u)::l,i=>by
  simp only [rS,q96,beq_eq,qv6 π l i]
  by_cases e:j=i<;>simp [e]
theorem qzz (π:Nat→Nat):∀ (l:List U) (i:Nat),(rUL π l)[i]? = (l[i]?).map (rU π)
 | [],i=>by simp [rUL]
 | u::l,0=>by simp [rUL]
 | u::l,i+1=>by simp [rUL,qzz π l i]
theorem rUL_fr (π:Nat→Nat) (n:Nat) (l:List (Nat×U)):rUL π (fr n l)=fr n (rS π l):=by
 apply List.ext_getElem?
 intro k
 rw [qzz]
 by_cases hk:k<n
 ·rw [qir n l hk,qir n _ hk,qv6]
  cases q96 l k with
  | none=>simp [rU]
  | some w=>rfl
 ·rw [List.getElem?_eq_none (by simp [qfz]; omega),List.getElem?_eq_none (by simp [qfz]; omega)]
  rfl
def avH (π:Nat→Nat):List (Nat×B)→Prop
 | []=>True
 | (_,b)::h=>rB π b=b∧avH π h
theorem z3x {π:Nat→Nat}:∀ {h:List (Nat×B)},avH π h→∀ k b,gt h k=some b→rB π b=b
 | [],_,k,b,hg=>by cases hg
 | (j,c)::h,ha,k,b,hg=>by
  rw [q2b] at hg
  by_cases e:j=k
  ·rw [if_pos e] at hg; cases hg; exact ha.1
  ·rw [if_neg e] at hg; exact z3x ha.2 k b hg
theorem Gh.mv {n0 n:Nat} {l l':List (Nat×U)} {σ:Sg} {h':List (Nat×B)} (K K2:Nat) (h0:n0≤K) (hK:Nat.blt K σ.nx=true) (hne:Nat.beq K K2=false) (hl:rS (mvN K K2) l'=l) (hm:mvH K K2 σ.h=h') (ha:avH (mvN K K2) h') [hb:BS σ.nx l']:Gh n0 (fr n l) σ (fr n l') ⟨h',σ.nx⟩:=fun F x tv hx hr hf he=>by
 subst hx; subst hl; subst hm
 have hK':K<x.σ.nx:=by simpa [Nat.blt_eq] using hK
 have hne':K≠K2:=by simpa [beq_eq] using hne
 have key:∀ k b,gt (mvH K K2 x.σ.h) k=some b→gt x.σ.h (mvN K K2 k)=some b:=fun k b hg=>by
  rw [qyr hne'] at hg
  simp only [mvN,beq_eq]
  by_cases e:k=K
  ·rw [if_pos e] at hg; simpa [e] using hg
  ·rw [if_neg e] at hg
   by_cases e2:k=K2
   ·rw [if_pos e2] at hg; cases hg
   ·rw [if_neg e2] at hg; simpa [e] using hg
 let y:Cx:=⟨fun k=>x.ρ (mvN K K2 k),⟨mvH K K2 x.σ.h,x.σ.nx⟩,x.s⟩
 have hU:qm2 x.σ.nx (mvN K K2) x y:=⟨fun k st off v hk h=>by
   simp only [Rel,Ref] at h ⊢
   exact ⟨h.1,hk,fun b hb=>h.2.2 b (key k b hb)⟩,fun k off m c v hk h=>by
   simp only [Rel,Ref] at h ⊢
   exact ⟨h.1,hk,fun b hb=>h.2.2 b (key k b hb)⟩,fun k st off m v hk h=>by
   simp only [Rel] at h ⊢
   exact ⟨h.1,hk,fun b hb=>h.2.2 b (key k b hb)⟩,fun k v hk h=>by
   simp only [Rel,Ref] at h ⊢
   exact ⟨h.1,hk,fun b hb=>h.2.2 b (key k b hb)⟩,fun _ _ _ h=>h⟩
 have hback:∀ u,Bel n0 u→rU (mvN K K2) u=u:=fun u hbu=>by
  have:=z00 (π:=id) (κ:=mvN K K2) (n:=n0) (fun k hk=>by
   have:¬ k=K:=by omega
   simp [mvN,beq_eq,this]) u hbu
  rwa [rid] at this
 refine ⟨y,fun m w hf=>Adv.refl hf,rfl,⟨fun k b hb=>?_,fun k k' b b' i hb hb' h1 h2=>?_,hr.bd⟩,fun i b hF=>?_,?_,fun u v hbu hv=>?_⟩
 ·have hg:=key k b hb
  obtain ⟨g1,g2⟩:=hr.ok _ _ hg
  have hkl:k<x.σ.nx:=by
   by_cases e:k=K
   ·omega
   ·have e2:mvN K K2 k=k:=by simp [mvN,beq_eq,e]
    rw [e2] at g1; exact g1
  refine ⟨hkl,BOk.unleaf hU g2.belB rfl (fun _ _ _ h=>h) ?_⟩
  rw [z3x ha k b hb]; exact g2
 ·have e:=hr.inj _ _ b b' i (key k b hb) (key k' b' hb') h1 h2
  have hn2:∀ k b,gt (mvH K K2 x.σ.h) k=some b→k≠K2:=fun k b hb h=>by
   subst h
   rw [qyr hne',if_neg (Ne.symm hne'),if_pos rfl] at hb
   cases hb
  have q1:=hn2 k b hb
  have q2:=hn2 k' b' hb'
  simp only [mvN,beq_eq] at e
  by_cases e1:k=K
  ·by_cases e2:k'=K
   ·rw [e1,e2]
   ·simp [e1,e2] at e; exact absurd e.symm q2
  ·by_cases e2:k'=K
   ·simp [e1,e2] at e; exact absurd e q1
   ·simpa [e1,e2] using e
 ·obtain ⟨h1,h2⟩:=hf i b hF
  exact ⟨h1,fun k c hc=>h2 _ c (key k c hc)⟩
 ·refine q1o.unleaf hU (qxq hb.h) ?_
  rw [rUL_fr]; exact he
 ·exact Rel.unleaf hU u v (Bel.le (by omega) u hbu) (by rw [hback u hbu]; exact hv)
variable {T:Tb} {σ:Sg}
variable {e:TypeId}
theorem qws {t:TypeId} {m sz k st off:Nat} {i:Int} {kd:IntKind} (hd:T.und t=some (.array m e)) (hs:q0x T e=some sz) (hl:live σ k st=true) (hi:0≤i∧i<m) {off':Nat} (ho:off+i.toNat*sz=off'):q8j T σ t (.ptr k st off) (.int kd i)=some (.ptr k st off'):=by
 subst ho
 simp only [q8j,hd,hs,hl,zC,if_pos hi]
theorem nc_pn {t:TypeId} {k st off:Nat} {op:BinOp} {u:U} (hd:T.und t=some (.pointer e)) (hl:live σ k st=true) (hu:cmpB op=some u):qor T σ op t (.ptr k st off) .nilp=some u:=by
 simp only [qor,qh4,hd,there,hl,qdx,hu,zC,Nat.beq,zD]
theorem z7h {α:Type} (c:α→List U) {n0 n:Nat} {l l':List (Nat×U)} {σ σ':Sg} {K:Nat} {xs:List α} {sz st:Nat} (hc:∀ x,(c x).length=sz) (hg:gt σ.h K=some (.vec (xs.map c).flatten e sz st)) (j:Nat) (ht:z0o l l') (hs:(⟨ug σ.h K (.vec ((xs.take j).map c).flatten e sz st),σ.nx⟩:Sg)=σ'):Gh n0 (fr n l) σ (fr n l') σ' :=
 Gh.trans (Gh.truncL c hc hg j) (z75 ht hs)
end Go.Vx
end
section
namespace Go.Proofs
open Go Go.Rx
theorem Tryz.hb3:Tryz.f3.body.isSome=true:=rfl
theorem Tryz.hb4:Tryz.f4.body.isSome=true:=rfl
theorem Tryz.fn6:Tryz.tb.fn 6=some Tryz.f6:=by kernel_rfl
theorem Tryz.fn9:Tryz.tb.fn 9=some Tryz.f9:=by kernel_rfl
theorem Tryz.fn11:Tryz.tb.fn 11=some Tryz.f11:=by kernel_rfl
theorem Tryz.fn12:Tryz.tb.fn 12=some Tryz.f12:=by kernel_rfl
theorem Tryz.hb12:Tryz.f12.body.isSome=true:=rfl
theorem Tryz.fn17:Tryz.tb.fn 17=some Tryz.f17:=by kernel_rfl
theorem Tryz.hb17:Tryz.f17.body.isSome=true:=rfl
theorem Tryz.fn18:Tryz.tb.fn 18=some Tryz.f18:=by kernel_rfl
theorem Tryz.hb18:Tryz.f18.body.isSome=true:=rfl
theorem Tryz.fn19:Tryz.tb.fn 19=some Tryz.f19:=by kernel_rfl
theorem Tryz.hb19:Tryz.f19.body.isSome=true:=rfl
theorem Tryz.fn20:Tryz.tb.fn 20=some Tryz.f20:=by kernel_rfl
theorem Tryz.hb20:Tryz.f20.body.isSome=true:=rfl
theorem Tryz.fn21:Tryz.tb.fn 21=some Tryz.f21:=by kernel_rfl
theorem Tryz.hb21:Tryz.f21.body.isSome=true:=rfl
theorem Tryz.fn22:Tryz.tb.fn 22=some Tryz.f22:=by kernel_rfl
theorem Tryz.fn23:Tryz.tb.fn 23=some Tryz.f23:=by kernel_rfl
theorem Tryz.hb23:Tryz.f23.body.isSome=true:=rfl
theorem Tryz.fn25:Tryz.tb.fn 25=some Tryz.f25:=by kernel_rfl
theorem Tryz.fn26:Tryz.tb.fn 26=some Tryz.f26:=by kernel_rfl
theorem Tryz.fn27:Tryz.tb.fn 27=some Tryz.f27:=by kernel_rfl
theorem Tryz.fn28:Tryz.tb.fn 28=some Tryz.f28:=by kernel_rfl
theorem Tryz.hb28:Tryz.f28.body.isSome=true:=rfl
theorem Tryz.fn31:Tryz.tb.fn 31=some Tryz.f31:=by kernel_rfl
theorem Tryz.fn32:Tryz.tb.fn 32=some Tryz.f32:=by kernel_rfl
theorem Tryz.fn33:Tryz.tb.fn 33=some Tryz.f33:=by kernel_rfl
theorem Tryz.fn34:Tryz.tb.fn 34=some Tryz.f34:=by kernel_rfl
theorem Tryz.fn35:Tryz.tb.fn 35=some Tryz.f35:=by kernel_rfl
theorem Tryz.fn36:Tryz.tb.fn 36=some Tryz.f36:=by kernel_rfl
theorem Tryz.fn43:Tryz.tb.fn 43=some Tryz.f43:=by kernel_rfl
theorem Tryz.hb43:Tryz.f43.body.isSome=true:=rfl
theorem Tryz.fn44:Tryz.tb.fn 44=some Tryz.f44:=by kernel_rfl
theorem Tryz.hb44:Tryz.f44.body.isSome=true:=rfl
theorem Tryz.fn45:Tryz.tb.fn 45=some Tryz.f45:=by kernel_rfl
theorem Tryz.hb45:Tryz.f45.body.isSome=true:=rfl
theorem Tryz.fn46:Tryz.tb.fn 46=some Tryz.f46:=by kernel_rfl
theorem Tryz.fn47:Tryz.tb.fn 47=some Tryz.f47:=by kernel_rfl
theorem Tryz.fn48:Tryz.tb.fn 48=some Tryz.f48:=by kernel_rfl
theorem Tryz.hb48:Tryz.f48.body.isSome=true:=rfl
theorem Tryz.fn50:Tryz.tb.fn 50=some Tryz.f50:=by kernel_rfl
theorem Tryz.fn51:Tryz.tb.fn 51=some Tryz.f51:=by kernel_rfl
theorem Tryz.fn52:Tryz.tb.fn 52=some Tryz.f52:=by kernel_rfl
theorem Tryz.fn53:Tryz.tb.fn 53=some Tryz.f53:=by kernel_rfl
theorem Tryz.hb53:Tryz.f53.body.isSome=true:=rfl
theorem Tryz.fn54:Tryz.tb.fn 54=some Tryz.f54:=by kernel_rfl
theorem Tryz.hb54:Tryz.f54.body.isSome=true:=rfl
theorem Tryz.fn55:Tryz.tb.fn 55=some Tryz.f55:=by kernel_rfl
theorem Tryz.hb55:Tryz.f55.body.isSome=true:=rfl
theorem Tryz.fn56:Tryz.tb.fn 56=some Tryz.f56:=by kernel_rfl
theorem Tryz.hb56:Tryz.f56.body.isSome=true:=rfl
theorem Tryz.fn59:Tryz.tb.fn 59=some Tryz.f59:=by kernel_rfl
theorem Tryz.fn60:Tryz.tb.fn 60=some Tryz.f60:=by kernel_rfl
theorem Tryz.fn61:Tryz.tb.fn 61=some Tryz.f61:=by kernel_rfl
theorem Tryz.fn62:Tryz.tb.fn 62=some Tryz.f62:=by kernel_rfl
theorem Tryz.fn63:Tryz.tb.fn 63=some Tryz.f63:=by kernel_rfl
theorem Tryz.fn70:Tryz.tb.fn 70=some Tryz.f70:=by kernel_rfl
theorem Tryz.fn71:Tryz.tb.fn 71=some Tryz.f71:=by kernel_rfl
theorem Tryz.fn72:Tryz.tb.fn 72=some Tryz.f72:=by kernel_rfl
theorem Tryz.hb72:Tryz.f72.body.isSome=true:=rfl
theorem Tryz.fn73:Tryz.tb.fn 73=some Tryz.f73:=by kernel_rfl
theorem Tryz.fn74:Tryz.tb.fn 74=some Tryz.f74:=by kernel_rfl
theorem Tryz.hb74:Tryz.f74.body.isSome=true:=rfl
theorem Tryz.fn75:Tryz.tb.fn 75=some Tryz.f75:=by kernel_rfl
theorem Tryz.fn76:Tryz.tb.fn 76=some Tryz.f76:=by kernel_rfl
theorem Tryz.fn77:Tryz.tb.fn 77=some Tryz.f77:=by kernel_rfl
theorem Tryz.hb77:Tryz.f77.body.isSome=true:=rfl
theorem Tryz.fn80:Tryz.tb.fn 80=some Tryz.f80:=by kernel_rfl
theorem Tryz.fn81:Tryz.tb.fn 81=some Tryz.f81:=by kernel_rfl
theorem Tryz.fn82:Tryz.tb.fn 82=some Tryz.f82:=by kernel_rfl
theorem Tryz.hb82:Tryz.f82.body.isSome=true:=rfl
theorem Tryz.fn83:Tryz.tb.fn 83=some Tryz.f83:=by kernel_rfl
theorem Tryz.hb83:Tryz.f83.body.isSome=true:=rfl
theorem Tryz.fn84:Tryz.tb.fn 84=some Tryz.f84:=by kernel_rfl
theorem Tryz.hb84:Tryz.f84.body.isSome=true:=rfl
theorem Tryz.fn89:Tryz.tb.fn 89=some Tryz.f89:=by kernel_rfl
theorem Tryz.fn90:Tryz.tb.fn 90=some Tryz.f90:=by kernel_rfl
theorem Tryz.fn91:Tryz.tb.fn 91=some Tryz.f91:=by kernel_rfl
theorem Tryz.fn92:Tryz.tb.fn 92=some Tryz.f92:=by kernel_rfl
theorem Tryz.fn93:Tryz.tb.fn 93=some Tryz.f93:=by kernel_rfl
theorem Tryz.fn94:Tryz.tb.fn 94=some Tryz.f94:=by kernel_rfl
theorem Tryz.fn95:Tryz.tb.fn 95=some Tryz.f95:=by kernel_rfl
theorem Tryz.fn96:Tryz.tb.fn 96=some Tryz.f96:=by kernel_rfl
theorem Tryz.fn97:Tryz.tb.fn 97=some Tryz.f97:=by kernel_rfl
theorem Tryz.fn98:Tryz.tb.fn 98=some Tryz.f98:=by kernel_rfl
theorem Tryz.fn99:Tryz.tb.fn 99=some Tryz.f99:=by kernel_rfl
theorem Tryz.fn100:Tryz.tb.fn 100=some Tryz.f100:=by kernel_rfl
theorem Tryz.fn101:Tryz.tb.fn 101=some Tryz.f101:=by kernel_rfl
theorem Tryz.fn106:Tryz.tb.fn 106=some Tryz.f106:=by kernel_rfl
theorem Tryz.fn107:Tryz.tb.fn 107=some Tryz.f107:=by kernel_rfl
theorem Tryz.fn108:Tryz.tb.fn 108=some Tryz.f108:=by kernel_rfl
theorem Tryz.fn111:Tryz.tb.fn 111=some Tryz.f111:=by kernel_rfl
theorem Tryz.fn116:Tryz.tb.fn 116=some Tryz.f116:=by kernel_rfl
theorem Tryz.fn117:Tryz.tb.fn 117=some Tryz.f117:=by kernel_rfl
theorem Tryz.fn118:Tryz.tb.fn 118=some Tryz.f118:=by kernel_rfl
theorem Tryz.fn119:Tryz.tb.fn 119=some Tryz.f119:=by kernel_rfl
theorem Tryz.fn120:Tryz.tb.fn 120=some Tryz.f120:=by kernel_rfl
theorem Tryz.fn121:Tryz.tb.fn 121=some Tryz.f121:=by kernel_rfl
theorem Tryz.fn122:Tryz.tb.fn 122=some Tryz.f122:=by kernel_rfl
theorem Tryz.fn123:Tryz.tb.fn 123=some Tryz.f123:=by kernel_rfl
theorem Tryz.fn124:Tryz.tb.fn 124=some Tryz.f124:=by kernel_rfl
theorem Tryz.fn125:Tryz.tb.fn 125=some Tryz.f125:=by kernel_rfl
theorem Tryz.fn126:Tryz.tb.fn 126=some Tryz.f126:=by kernel_rfl
theorem Tryz.fn127:Tryz.tb.fn 127=some Tryz.f127:=by kernel_rfl
theorem Tryz.hb127:Tryz.f127.body.isSome=true:=rfl
theorem Tryz.fn128:Tryz.tb.fn 128=some Tryz.f128:=by kernel_rfl
theorem Tryz.fn129:Tryz.tb.fn 129=some Tryz.f129:=by kernel_rfl
theorem Tryz.fn130:Tryz.tb.fn 130=some Tryz.f130:=by kernel_rfl
theorem Tryz.fn131:Tryz.tb.fn 131=some Tryz.f131:=by kernel_rfl
theorem Tryz.fn132:Tryz.tb.fn 132=some Tryz.f132:=by kernel_rfl
theorem Tryz.fn133:Tryz.tb.fn 133=some Tryz.f133:=by kernel_rfl
theorem Tryz.fn134:Tryz.tb.fn 134=some Tryz.f134:=by kernel_rfl
theorem Tryz.fn136:Tryz.tb.fn 136=some Tryz.f136:=by kernel_rfl
theorem Tryz.hb136:Tryz.f136.body.isSome=true:=rfl
theorem Tryz.fn137:Tryz.tb.fn 137=some Tryz.f137:=by kernel_rfl
theorem Tryz.hb137:Tryz.f137.body.isSome=true:=rfl
theorem Tryz.fn138:Tryz.tb.fn 138=some Tryz.f138:=by kernel_rfl
theorem Tryz.fn140:Tryz.tb.fn 140=some Tryz.f140:=by kernel_rfl
theorem Tryz.fn145:Tryz.tb.fn 145=some Tryz.f145:=by kernel_rfl
theorem Tryz.fn146:Tryz.tb.fn 146=some Tryz.f146:=by kernel_rfl
theorem Tryz.fn147:Tryz.tb.fn 147=some Tryz.f147:=by kernel_rfl
theorem Tryz.fn148:Tryz.tb.fn 148=some Tryz.f148:=by kernel_rfl
theorem Tryz.fn149:Tryz.tb.fn 149=some Tryz.f149:=by kernel_rfl
theorem Tryz.fn150:Tryz.tb.fn 150=some Tryz.f150:=by kernel_rfl
theorem Tryz.fn151:Tryz.tb.fn 151=some Tryz.f151:=by kernel_rfl
theorem Tryz.fn152:Tryz.tb.fn 152=some Tryz.f152:=by kernel_rfl
theorem Tryz.fn153:Tryz.tb.fn 153=some Tryz.f153:=by kernel_rfl
theorem Tryz.fn165:Tryz.tb.fn 165=some Tryz.f165:=by kernel_rfl
theorem Tryz.fn171:Tryz.tb.fn 171=some Tryz.f171:=by kernel_rfl
theorem Tryz.fn172:Tryz.tb.fn 172=some Tryz.f172:=by kernel_rfl
theorem Tryz.fn174:Tryz.tb.fn 174=some Tryz.f174:=by kernel_rfl
theorem Tryz.fn175:Tryz.tb.fn 175=some Tryz.f175:=by kernel_rfl
end Go.Proofs
end
