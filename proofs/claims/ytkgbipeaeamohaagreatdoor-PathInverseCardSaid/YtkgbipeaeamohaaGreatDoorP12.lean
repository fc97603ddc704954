/-
  Texts of the walk: Tab08 Ins08 MpS MpC MpD MpE MpF MpT MpU Fn08 H1.
-/
import Derived.Test.YtkgbipeaeamohaaGreatDoorProg
import Derived.Test.YtkgbipeaeamohaaGreatDoorP11
set_option linter.unusedSimpArgs false
set_option linter.unusedVariables false
section
namespace Go.Proofs
open Go Go.Rx
noncomputable def Tryz.tb:Tb:=tbOf Tryz.prog [82]
theorem Tryz.mixed:Tryz.prog.follows .mixedOrders=true:=by kernel_rfl
theorem Tryz.eqs_ok:∀ t∈[82],Tryz.prog.stoodInHeld t=false∧Tryz.prog.eqGuardType Tryz.prog.depth t=false:=by
 intro t ht
 simp only [zI,List.not_mem_nil,or_false] at ht
 rcases ht with rfl<;>exact ⟨by kernel_rfl,by kernel_rfl⟩
theorem Tryz.names_ok : (Tryz.prog.funcs.toList.all fun f => !(f.name == "runtime.NumGoroutine")) = true := by kernel_rfl
theorem Tryz.tb_ok:qet Tryz.prog Tryz.tb:=z6h Tryz.prog [82] Tryz.mixed (fun f hf _=>by
 have:=List.all_eq_true.1 Tryz.names_ok f hf
 simpa using this) Tryz.eqs_ok
theorem Tryz.und3:Tryz.tb.und 3=some (.int .i64):=by kernel_rfl
theorem Tryz.inf3:Tryz.tb.inf 3=some (1,8,.int .i64 0):=by kernel_rfl
theorem Tryz.und4:Tryz.tb.und 4=some (.bool):=by kernel_rfl
theorem Tryz.inf4:Tryz.tb.inf 4=some (1,1,.bool false):=by kernel_rfl
theorem Tryz.und9:Tryz.tb.und 9=some (.string):=by kernel_rfl
theorem Tryz.inf9:Tryz.tb.inf 9=some (1,16,.string ⟨#[]⟩):=by kernel_rfl
theorem Tryz.und22:Tryz.tb.und 22=some (.slice 54):=by kernel_rfl
theorem Tryz.inf22:Tryz.tb.inf 22=some (1,24,.slice none 0 0):=by kernel_rfl
theorem Tryz.und24 : Tryz.tb.und 24 = some (.struct #[⟨ "Nodes", 22, 0, false, "", "", 0⟩]) := by kernel_rfl
theorem Tryz.inf24:Tryz.tb.inf 24=some (1,24,.agg #[.slice none 0 0]):=by kernel_rfl
theorem Tryz.und28:Tryz.tb.und 28=some (.slice 33):=by kernel_rfl
theorem Tryz.inf28:Tryz.tb.inf 28=some (1,24,.slice none 0 0):=by kernel_rfl
theorem Tryz.und31:Tryz.tb.und 31=some (.slice 56):=by kernel_rfl
theorem Tryz.und33:Tryz.tb.und 33=some (.slice 3):=by kernel_rfl
theorem Tryz.inf33:Tryz.tb.inf 33=some (1,24,.slice none 0 0):=by kernel_rfl
theorem Tryz.und38:Tryz.tb.und 38=some (.slice 127):=by kernel_rfl
theorem Tryz.und40:Tryz.tb.und 40=some (.slice 109):=by kernel_rfl
theorem Tryz.inf40:Tryz.tb.inf 40=some (1,24,.slice none 0 0):=by kernel_rfl
theorem Tryz.und41:Tryz.tb.und 41=some (.slice 82):=by kernel_rfl
theorem Tryz.inf41:Tryz.tb.inf 41=some (1,24,.slice none 0 0):=by kernel_rfl
theorem Tryz.und43 : Tryz.tb.und 43 = some (.struct #[⟨ "Types", 40, 0, false, "", "", 0⟩, ⟨ "Feats", 41, 1, false, "", "", 24⟩]) := by kernel_rfl
theorem Tryz.inf43:Tryz.tb.inf 43=some (2,48,.agg #[.slice none 0 0,.slice none 0 0]):=by kernel_rfl
theorem Tryz.und52:Tryz.tb.und 52=some (.slice 66):=by kernel_rfl
theorem Tryz.inf52:Tryz.tb.inf 52=some (1,24,.slice none 0 0):=by kernel_rfl
theorem Tryz.und54 : Tryz.tb.und 54 = some (.struct #[⟨ "Type", 3, 0, false, "", "", 0⟩, ⟨ "Arcs", 52, 1, false, "", "", 8⟩]) := by kernel_rfl
theorem Tryz.inf54:Tryz.tb.inf 54=some (2,32,.agg #[.int .i64 0,.slice none 0 0]):=by kernel_rfl
theorem Tryz.und56 : Tryz.tb.und 56 = some (.struct #[⟨ "A", 33, 0, false, "", "", 0⟩, ⟨ "B", 33, 1, false, "", "", 24⟩]) := by kernel_rfl
theorem Tryz.inf56:Tryz.tb.inf 56=some (2,48,.agg #[.slice none 0 0,.slice none 0 0]):=by kernel_rfl
theorem Tryz.und66 : Tryz.tb.und 66 = some (.struct #[⟨ "Feat", 3, 0, false, "", "", 0⟩, ⟨ "To", 3, 1, false, "", "", 8⟩]) := by kernel_rfl
theorem Tryz.inf66:Tryz.tb.inf 66=some (2,16,.agg #[.int .i64 0,.int .i64 0]):=by kernel_rfl
theorem Tryz.und75:Tryz.tb.und 75=some (.slice 4):=by kernel_rfl
theorem Tryz.inf75:Tryz.tb.inf 75=some (1,24,.slice none 0 0):=by kernel_rfl
theorem Tryz.und80:Tryz.tb.und 80=some (.slice 9):=by kernel_rfl
theorem Tryz.inf80:Tryz.tb.inf 80=some (1,24,.slice none 0 0):=by kernel_rfl
theorem Tryz.und82 : Tryz.tb.und 82 = some (.struct #[⟨ "Name", 9, 0, false, "", "", 0⟩, ⟨ "Intro", 3, 1, false, "", "", 16⟩]) := by kernel_rfl
theorem Tryz.inf82:Tryz.tb.inf 82=some (2,24,.agg #[.string ⟨#[]⟩,.int .i64 0]):=by kernel_rfl
theorem Tryz.und92:Tryz.tb.und 92=some (.func #[3] #[4] false):=by kernel_rfl
theorem Tryz.inf92:Tryz.tb.inf 92=some (1,8,.nilFunc):=by kernel_rfl
theorem Tryz.und96:Tryz.tb.und 96=some (.slice 107):=by kernel_rfl
theorem Tryz.und99:Tryz.tb.und 99=some (.slice 105):=by kernel_rfl
theorem Tryz.und103:Tryz.tb.und 103=some (.slice 191):=by kernel_rfl
theorem Tryz.inf103:Tryz.tb.inf 103=some (1,24,.slice none 0 0):=by kernel_rfl
theorem Tryz.und105 : Tryz.tb.und 105 = some (.struct #[⟨ "Name", 9, 0, false, "", "", 0⟩, ⟨ "Code", 103, 1, false, "", "", 16⟩]) := by kernel_rfl
theorem Tryz.inf105:Tryz.tb.inf 105=some (2,40,.agg #[.string ⟨#[]⟩,.slice none 0 0]):=by kernel_rfl
theorem Tryz.und107:Tryz.tb.und 107=some (.slice 147):=by kernel_rfl
theorem Tryz.inf107:Tryz.tb.inf 107=some (1,24,.slice none 0 0):=by kernel_rfl
theorem Tryz.und109 : Tryz.tb.und 109 = some (.struct #[⟨ "Name", 9, 0, false, "", "", 0⟩, ⟨ "Code", 103, 1, false, "", "", 16⟩, ⟨ "Supers", 33, 2, false, "", "", 40⟩, ⟨ "Feats", 107, 3, false, "", "", 64⟩]) := by kernel_rfl
theorem Tryz.inf109:Tryz.tb.inf 109=some (4,88,.agg #[.string ⟨#[]⟩,.slice none 0 0,.slice none 0 0,.slice none 0 0]):=by kernel_rfl
theorem Tryz.und115:Tryz.tb.und 115=some (.func #[3] #[] false):=by kernel_rfl
theorem Tryz.inf115:Tryz.tb.inf 115=some (1,8,.nilFunc):=by kernel_rfl
theorem Tryz.und125:Tryz.tb.und 125=some (.slice 162):=by kernel_rfl
theorem Tryz.inf125:Tryz.tb.inf 125=some (1,24,.slice none 0 0):=by kernel_rfl
theorem Tryz.und127 : Tryz.tb.und 127 = some (.struct #[⟨ "Name", 9, 0, false, "", "", 0⟩, ⟨ "Supers", 80, 1, false, "", "", 16⟩, ⟨ "Feats", 125, 2, false, "", "", 40⟩]) := by kernel_rfl
theorem Tryz.inf127:Tryz.tb.inf 127=some (3,64,.agg #[.string ⟨#[]⟩,.slice none 0 0,.slice none 0 0]):=by kernel_rfl
theorem Tryz.und129:Tryz.tb.und 129=some (.map 3 4):=by kernel_rfl
theorem Tryz.und130:Tryz.tb.und 130=some (.map 3 3):=by kernel_rfl
theorem Tryz.inf130:Tryz.tb.inf 130=some (1,8,.map none):=by kernel_rfl
theorem Tryz.und139 : Tryz.tb.und 139 = some (.struct #[⟨ "f", 24, 0, false, "", "grammarlab/grammarlabref07", 0⟩, ⟨ "number", 33, 1, false, "", "grammarlab/grammarlabref07", 24⟩, ⟨ "order", 33, 2, false, "", "grammarlab/grammarlabref07", 48⟩]) := by kernel_rfl
theorem Tryz.inf139:Tryz.tb.inf 139=some (3,72,.agg #[.slice none 0 0,.slice none 0 0,.slice none 0 0]):=by kernel_rfl
theorem Tryz.und147 : Tryz.tb.und 147 = some (.struct #[⟨ "Feat", 3, 0, false, "", "", 0⟩, ⟨ "Value", 3, 1, false, "", "", 8⟩]) := by kernel_rfl
theorem Tryz.inf147:Tryz.tb.inf 147=some (2,16,.agg #[.int .i64 0,.int .i64 0]):=by kernel_rfl
theorem Tryz.und148:Tryz.tb.und 148=some (.slice 103):=by kernel_rfl
theorem Tryz.und162 : Tryz.tb.und 162 = some (.struct #[⟨ "Feat", 9, 0, false, "", "", 0⟩, ⟨ "Value", 9, 1, false, "", "", 16⟩]) := by kernel_rfl
theorem Tryz.inf162:Tryz.tb.inf 162=some (2,32,.agg #[.string ⟨#[]⟩,.string ⟨#[]⟩]):=by kernel_rfl
theorem Tryz.und190:Tryz.tb.und 190=some (.int .u64):=by kernel_rfl
theorem Tryz.und191:Tryz.tb.und 191=some (.int .u64):=by kernel_rfl
theorem Tryz.inf191:Tryz.tb.inf 191=some (1,8,.int .u64 0):=by kernel_rfl
end Go.Proofs
end
section
namespace Go.Proofs
open Go Go.Rx Go.Vx
instance Tryz.un3:UnC Tryz.tb 3 (.int .i64):=⟨Tryz.und3⟩
instance Tryz.un4:UnC Tryz.tb 4 (.bool):=⟨Tryz.und4⟩
instance Tryz.un9:UnC Tryz.tb 9 (.string):=⟨Tryz.und9⟩
instance Tryz.un22:UnC Tryz.tb 22 (.slice 54):=⟨Tryz.und22⟩
instance Tryz.un24 : UnC Tryz.tb 24 (.struct #[⟨ "Nodes", 22, 0, false, "", "", 0⟩]) := ⟨Tryz.und24⟩
instance Tryz.un28:UnC Tryz.tb 28 (.slice 33):=⟨Tryz.und28⟩
instance Tryz.un31:UnC Tryz.tb 31 (.slice 56):=⟨Tryz.und31⟩
instance Tryz.un33:UnC Tryz.tb 33 (.slice 3):=⟨Tryz.und33⟩
instance Tryz.un38:UnC Tryz.tb 38 (.slice 127):=⟨Tryz.und38⟩
instance Tryz.un40:UnC Tryz.tb 40 (.slice 109):=⟨Tryz.und40⟩
instance Tryz.un41:UnC Tryz.tb 41 (.slice 82):=⟨Tryz.und41⟩
instance Tryz.un43 : UnC Tryz.tb 43 (.struct #[⟨ "Types", 40, 0, false, "", "", 0⟩, ⟨ "Feats", 41, 1, false, "", "", 24⟩]) := ⟨Tryz.und43⟩
instance Tryz.un52:UnC Tryz.tb 52 (.slice 66):=⟨Tryz.und52⟩
instance Tryz.un54 : UnC Tryz.tb 54 (.struct #[⟨ "Type", 3, 0, false, "", "", 0⟩, ⟨ "Arcs", 52, 1, false, "", "", 8⟩]) := ⟨Tryz.und54⟩
instance Tryz.un56 : UnC Tryz.tb 56 (.struct #[⟨ "A", 33, 0, false, "", "", 0⟩, ⟨ "B", 33, 1, false, "", "", 24⟩]) := ⟨Tryz.und56⟩
instance Tryz.un66 : UnC Tryz.tb 66 (.struct #[⟨ "Feat", 3, 0, false, "", "", 0⟩, ⟨ "To", 3, 1, false, "", "", 8⟩]) := ⟨Tryz.und66⟩
instance Tryz.un75:UnC Tryz.tb 75 (.slice 4):=⟨Tryz.und75⟩
instance Tryz.un80:UnC Tryz.tb 80 (.slice 9):=⟨Tryz.und80⟩
instance Tryz.un82 : UnC Tryz.tb 82 (.struct #[⟨ "Name", 9, 0, false, "", "", 0⟩, ⟨ "Intro", 3, 1, false, "", "", 16⟩]) := ⟨Tryz.und82⟩
instance Tryz.un92:UnC Tryz.tb 92 (.func #[3] #[4] false):=⟨Tryz.und92⟩
instance Tryz.un96:UnC Tryz.tb 96 (.slice 107):=⟨Tryz.und96⟩
instance Tryz.un99:UnC Tryz.tb 99 (.slice 105):=⟨Tryz.und99⟩
instance Tryz.un103:UnC Tryz.tb 103 (.slice 191):=⟨Tryz.und103⟩
instance Tryz.un105 : UnC Tryz.tb 105 (.struct #[⟨ "Name", 9, 0, false, "", "", 0⟩, ⟨ "Code", 103, 1, false, "", "", 16⟩]) := ⟨Tryz.und105⟩
instance Tryz.un107:UnC Tryz.tb 107 (.slice 147):=⟨Tryz.und107⟩
instance Tryz.un109 : UnC Tryz.tb 109 (.struct #[⟨ "Name", 9, 0, false, "", "", 0⟩, ⟨ "Code", 103, 1, false, "", "", 16⟩, ⟨ "Supers", 33, 2, false, "", "", 40⟩, ⟨ "Feats", 107, 3, false, "", "", 64⟩]) := ⟨Tryz.und109⟩
instance Tryz.un115:UnC Tryz.tb 115 (.func #[3] #[] false):=⟨Tryz.und115⟩
instance Tryz.un125:UnC Tryz.tb 125 (.slice 162):=⟨Tryz.und125⟩
instance Tryz.un127 : UnC Tryz.tb 127 (.struct #[⟨ "Name", 9, 0, false, "", "", 0⟩, ⟨ "Supers", 80, 1, false, "", "", 16⟩, ⟨ "Feats", 125, 2, false, "", "", 40⟩]) := ⟨Tryz.und127⟩
instance Tryz.un129:UnC Tryz.tb 129 (.map 3 4):=⟨Tryz.und129⟩
instance Tryz.un130:UnC Tryz.tb 130 (.map 3 3):=⟨Tryz.und130⟩
instance Tryz.un139 : UnC Tryz.tb 139 (.struct #[⟨ "f", 24, 0, false, "", "grammarlab/grammarlabref07", 0⟩, ⟨ "number", 33, 1, false, "", "grammarlab/grammarlabref07", 24⟩, ⟨ "order", 33, 2, false, "", "grammarlab/grammarlabref07", 48⟩]) := ⟨Tryz.und139⟩
instance Tryz.un147 : UnC Tryz.tb 147 (.struct #[⟨ "Feat", 3, 0, false, "", "", 0⟩, ⟨ "Value", 3, 1, false, "", "", 8⟩]) := ⟨Tryz.und147⟩
instance Tryz.un148:UnC Tryz.tb 148 (.slice 103):=⟨Tryz.und148⟩
instance Tryz.un162 : UnC Tryz.tb 162 (.struct #[⟨ "Feat", 9, 0, false, "", "", 0⟩, ⟨ "Value", 9, 1, false, "", "", 16⟩]) := ⟨Tryz.und162⟩
instance Tryz.un190:UnC Tryz.tb 190 (.int .u64):=⟨Tryz.und190⟩
instance Tryz.un191:UnC Tryz.tb 191 (.int .u64):=⟨Tryz.und191⟩
instance Tryz.if3:InC Tryz.tb 3 1 8 (.int .i64 0):=⟨Tryz.inf3⟩
instance Tryz.ze3:ZeC Tryz.tb 3 [.int .i64 0]:=⟨_,_,_,Tryz.inf3,rfl,rfl⟩
instance Tryz.if4:InC Tryz.tb 4 1 1 (.bool false):=⟨Tryz.inf4⟩
instance Tryz.if9:InC Tryz.tb 9 1 16 (.string ⟨#[]⟩):=⟨Tryz.inf9⟩
instance Tryz.ze9:ZeC Tryz.tb 9 [.str []]:=⟨_,_,_,Tryz.inf9,rfl,rfl⟩
instance Tryz.if22:InC Tryz.tb 22 1 24 (.slice none 0 0):=⟨Tryz.inf22⟩
instance Tryz.if24:InC Tryz.tb 24 1 24 (.agg #[.slice none 0 0]):=⟨Tryz.inf24⟩
instance Tryz.ze24:ZeC Tryz.tb 24 [.nils]:=⟨_,_,_,Tryz.inf24,rfl,rfl⟩
instance Tryz.if28:InC Tryz.tb 28 1 24 (.slice none 0 0):=⟨Tryz.inf28⟩
instance Tryz.ze28:ZeC Tryz.tb 28 [.nils]:=⟨_,_,_,Tryz.inf28,rfl,rfl⟩
instance Tryz.if33:InC Tryz.tb 33 1 24 (.slice none 0 0):=⟨Tryz.inf33⟩
instance Tryz.ze33:ZeC Tryz.tb 33 [.nils]:=⟨_,_,_,Tryz.inf33,rfl,rfl⟩
instance Tryz.if40:InC Tryz.tb 40 1 24 (.slice none 0 0):=⟨Tryz.inf40⟩
instance Tryz.if41:InC Tryz.tb 41 1 24 (.slice none 0 0):=⟨Tryz.inf41⟩
instance Tryz.if43:InC Tryz.tb 43 2 48 (.agg #[.slice none 0 0,.slice none 0 0]):=⟨Tryz.inf43⟩
instance Tryz.ze43:ZeC Tryz.tb 43 [.nils,.nils]:=⟨_,_,_,Tryz.inf43,rfl,rfl⟩
instance Tryz.if52:InC Tryz.tb 52 1 24 (.slice none 0 0):=⟨Tryz.inf52⟩
instance Tryz.if54:InC Tryz.tb 54 2 32 (.agg #[.int .i64 0,.slice none 0 0]):=⟨Tryz.inf54⟩
instance Tryz.ze54:ZeC Tryz.tb 54 [.int .i64 0,.nils]:=⟨_,_,_,Tryz.inf54,rfl,rfl⟩
instance Tryz.if56:InC Tryz.tb 56 2 48 (.agg #[.slice none 0 0,.slice none 0 0]):=⟨Tryz.inf56⟩
instance Tryz.ze56:ZeC Tryz.tb 56 [.nils,.nils]:=⟨_,_,_,Tryz.inf56,rfl,rfl⟩
instance Tryz.if66:InC Tryz.tb 66 2 16 (.agg #[.int .i64 0,.int .i64 0]):=⟨Tryz.inf66⟩
instance Tryz.ze66:ZeC Tryz.tb 66 [.int .i64 0,.int .i64 0]:=⟨_,_,_,Tryz.inf66,rfl,rfl⟩
instance Tryz.if75:InC Tryz.tb 75 1 24 (.slice none 0 0):=⟨Tryz.inf75⟩
instance Tryz.if80:InC Tryz.tb 80 1 24 (.slice none 0 0):=⟨Tryz.inf80⟩
instance Tryz.if82:InC Tryz.tb 82 2 24 (.agg #[.string ⟨#[]⟩,.int .i64 0]):=⟨Tryz.inf82⟩
instance Tryz.ze82:ZeC Tryz.tb 82 [.str [],.int .i64 0]:=⟨_,_,_,Tryz.inf82,rfl,rfl⟩
instance Tryz.if92:InC Tryz.tb 92 1 8 (.nilFunc):=⟨Tryz.inf92⟩
instance Tryz.ze92:ZeC Tryz.tb 92 [.nilf]:=⟨_,_,_,Tryz.inf92,rfl,rfl⟩
instance Tryz.if103:InC Tryz.tb 103 1 24 (.slice none 0 0):=⟨Tryz.inf103⟩
instance Tryz.ze103:ZeC Tryz.tb 103 [.nils]:=⟨_,_,_,Tryz.inf103,rfl,rfl⟩
instance Tryz.if105:InC Tryz.tb 105 2 40 (.agg #[.string ⟨#[]⟩,.slice none 0 0]):=⟨Tryz.inf105⟩
instance Tryz.ze105:ZeC Tryz.tb 105 [.str [],.nils]:=⟨_,_,_,Tryz.inf105,rfl,rfl⟩
instance Tryz.if107:InC Tryz.tb 107 1 24 (.slice none 0 0):=⟨Tryz.inf107⟩
instance Tryz.ze107:ZeC Tryz.tb 107 [.nils]:=⟨_,_,_,Tryz.inf107,rfl,rfl⟩
instance Tryz.if109:InC Tryz.tb 109 4 88 (.agg #[.string ⟨#[]⟩,.slice none 0 0,.slice none 0 0,.slice none 0 0]):=⟨Tryz.inf109⟩
instance Tryz.ze109:ZeC Tryz.tb 109 [.str [],.nils,.nils,.nils]:=⟨_,_,_,Tryz.inf109,rfl,rfl⟩
instance Tryz.if115:InC Tryz.tb 115 1 8 (.nilFunc):=⟨Tryz.inf115⟩
instance Tryz.ze115:ZeC Tryz.tb 115 [.nilf]:=⟨_,_,_,Tryz.inf115,rfl,rfl⟩
instance Tryz.if125:InC Tryz.tb 125 1 24 (.slice none 0 0):=⟨Tryz.inf125⟩
instance Tryz.if127:InC Tryz.tb 127 3 64 (.agg #[.string ⟨#[]⟩,.slice none 0 0,.slice none 0 0]):=⟨Tryz.inf127⟩
instance Tryz.ze127:ZeC Tryz.tb 127 [.str [],.nils,.nils]:=⟨_,_,_,Tryz.inf127,rfl,rfl⟩
instance Tryz.if130:InC Tryz.tb 130 1 8 (.map none):=⟨Tryz.inf130⟩
instance Tryz.ze130:ZeC Tryz.tb 130 [.nilm]:=⟨_,_,_,Tryz.inf130,rfl,rfl⟩
instance Tryz.if139:InC Tryz.tb 139 3 72 (.agg #[.slice none 0 0,.slice none 0 0,.slice none 0 0]):=⟨Tryz.inf139⟩
instance Tryz.if147:InC Tryz.tb 147 2 16 (.agg #[.int .i64 0,.int .i64 0]):=⟨Tryz.inf147⟩
instance Tryz.ze147:ZeC Tryz.tb 147 [.int .i64 0,.int .i64 0]:=⟨_,_,_,Tryz.inf147,rfl,rfl⟩
instance Tryz.if162:InC Tryz.tb 162 2 32 (.agg #[.string ⟨#[]⟩,.string ⟨#[]⟩]):=⟨Tryz.inf162⟩
instance Tryz.ze162:ZeC Tryz.tb 162 [.str [],.str []]:=⟨_,_,_,Tryz.inf162,rfl,rfl⟩
instance Tryz.if191:InC Tryz.tb 191 1 8 (.int .u64 0):=⟨Tryz.inf191⟩
instance Tryz.ze191:ZeC Tryz.tb 191 [.int .u64 0]:=⟨_,_,_,Tryz.inf191,rfl,rfl⟩
end Go.Proofs
end
section
namespace Go.Vx
open Go Go.Rx
theorem qvr {q p:List U} {a n:Nat} (h:qf0 q a n=some p):a+n≤q.length∧(q.drop a).take n=p:=by
 unfold qf0 at h
 split at h
 ·rename_i hj; exact ⟨hj,Option.some.inj h⟩
 ·cases h
theorem nth_in {q p:List U} {a sz fo:Nat} {u:U} (h:qf0 q a sz=some p) (h2:nth p fo=some u):nth q (a+fo)=some u:=by
 obtain ⟨h1,rfl⟩:=qvr h
 rw [q1k] at h2 ⊢
 have hl:=(zG.1 h2).1
 rw [List.length_take] at hl
 rw [List.getElem?_take_of_lt (by omega),List.getElem?_drop] at h2
 exact h2
theorem put_in {q p p' cs:List U} {a sz fo:Nat} (h:qf0 q a sz=some p) (h2:qk9 p fo cs=some p'):qk9 q (a+fo) cs=qk9 q a p':=by
 obtain ⟨h1,rfl⟩:=qvr h
 unfold qk9 at h2
 split at h2
 ·rename_i hj
  have hp:=Option.some.inj h2
  rw [List.length_take,List.length_drop] at hj
  have hl:p'.length=sz:=by
   rw [← hp]; simp; omega
  unfold qk9
  rw [if_pos (by omega),if_pos (by omega),← hp]
  congr 1
  have e1:List.take fo (List.take sz (List.drop a q))=List.take fo (List.drop a q):=by rw [List.take_take,Nat.min_eq_left (by omega)]
  have e2:List.take (a+fo) q=List.take a q++List.take fo (List.drop a q):=List.take_add
  have e3:List.drop (a+fo+cs.length) q=List.drop (fo+cs.length) (List.take sz (List.drop a q))++List.drop (a+sz) q:=by
   have:List.drop a q=List.take sz (List.drop a q)++List.drop (a+sz) q:=by rw [← List.drop_drop,List.take_append_drop]
   rw [Nat.add_assoc,← List.drop_drop]
   conv=>lhs; rw [this]
   rw [List.drop_append_of_le_length (by rw [List.length_take,List.length_drop]; omega)]
  rw [e1,e2,e3]
  simp [zT,hl]
  omega
 ·cases h2
section
variable {T:Tb} {σ σ':Sg} {n:Nat} {l:List (Nat×U)} {u v w:U}
theorem qz7 {α:Type} (c:α→List U) {t e':TypeId} {d:TypeDesc} {sz K st off m fo:Nat} {xs:List α} {i:Int} {x:α} {o:Operand} (hd:T.und t=some d) (ha:q45 d=false) (hc:∀ x,(c x).length=sz) (ho:evS n l o=some (.ptr K st (off*sz+i.toNat*sz+fo))) (hv:gt σ.h K=some (.vec (xs.map c).flatten e' sz st)) (hx:qjz xs off m i=some x) (hu:nth (c x) fo=some u):opU T σ (fr n l) (.load t o)=some (u,σ):=by
 refine z1g rfl ?_
 have hb:Nat.beq st st=true:=by simp [beq_eq]
 have hg:=qt9 hc (qdg hx).2.2
 rw [Nat.add_mul] at hg
 simp only [q62,q1s ho,cellsOf,hv,hb,zC,qlc,hd,ha,zD,nth_in hg hu]
theorem st_vf {α:Type} (c:α→List U) {t e':TypeId} {sz s K st off m fo:Nat} {xs:List α} {i:Int} {x y:α} {o z:Operand} {cs:List U} {h':List (Nat×B)} (hs:q0j T t=some s) (hc:∀ x,(c x).length=sz) (ho:evS n l o=some (.ptr K st (off*sz+i.toNat*sz+fo))) (hz:evS n l z=some v) (hcs:q6z v=some cs) (hk:okL cs=true) (hl:Nat.beq cs.length s=true) (hv:gt σ.h K=some (.vec (xs.map c).flatten e' sz st)) (hx:qjz xs off m i=some x) (hy:qk9 (c x) fo (wkZ cs)=some (c y)) (hσ:ug σ.h K (.vec ((xs.set (off+i.toNat) y).map c).flatten e' sz st)=h'):opU T σ (fr n l) (.store t o z)=some (.junk,⟨h',σ.nx⟩):=by
 subst hσ
 have hb:Nat.beq st st=true:=by simp
 have hj:=(zG.1 (qdg hx).2.2).1
 have hg:=qt9 hc (qdg hx).2.2
 have hp:=put_in hg hy
 rw [qpl hc hj y,Nat.add_mul] at hp
 exact qzt rfl rfl (by simp only [qi1,q1s ho,q1s hz,qnj,hs,hcs,hl,hk,zC,cellsOf,hv,hb,wkB,hp,qn7])
end
theorem qmx {σ:Sg} {k t e sz:Nat} {l:List U} (h:gt σ.h k=some (.vec l e sz t)):live σ k t=true:=by
 simp only [live,h,B.st,beq_eq,decide_true]
theorem z5v {A V:Type} (K:Nat) (b:B) (sz:Nat) (kU:A→U) (vU:V→U) [p:BFU vU] (es:List (A×V×Nat)) :
  (es.map (mE kU vU)).map (fun e=>{ e with val:=fz K b sz e.val })=es.map (mE kU vU):=by
 rw [List.map_map]
 refine List.map_congr_left fun e _=>?_
 simp only [Function.comp,mE,qus b sz _ (p.h K e.2.1)]
end Go.Vx
end
section
namespace Go.Vx
open Go Go.Rx
def SubH (σ τ:Sg):Prop:=∀ k b,gt σ.h k=some b→gt τ.h k=some b
section
variable {σ τ:Sg} (hs:SubH σ τ)
include hs
theorem qfe {k st:Nat} (h:live σ k st=true):live τ k st=true:=by
 unfold live at *
 cases hg:gt σ.h k with
 | none=>rw [hg] at h; cases h
 | some b=>rw [hg] at h; rw [hs k b hg]; exact h
theorem q8z {α:Type} {k st:Nat} {X:Option α} {u:α} (h:cond (live σ k st) X none=some u):cond (live τ k st) X none=some u:=by
 cases hl:live σ k st with
 | false=>rw [hl] at h; cases h
 | true=>rw [hl] at h; rw [qfe hs hl]; exact h
theorem qr3 {k st:Nat} {l:List U} (h:cellsOf σ k st=some l):cellsOf τ k st=some l:=by
 unfold cellsOf at *
 cases hg:gt σ.h k with
 | none=>rw [hg] at h; cases h
 | some b=>rw [hg] at h; rw [hs k b hg]; exact h
theorem qp5 {k st:Nat} {l:List U×TypeId×Nat} (h:qes σ k st=some l):qes τ k st=some l:=by
 unfold qes at *
 cases hg:gt σ.h k with
 | none=>rw [hg] at h; cases h
 | some b=>rw [hg] at h; rw [hs k b hg]; exact h
variable {T:Tb} {tm:List U}
theorem qwz {op:Op} {u:U} (h:q62 T σ tm op=some u):q62 T τ tm op=some u:=by
 cases op with
 | load t x =>
  simp only [q62] at *
  cases hx:q0c tm x with
  | none=>rw [hx] at h; exact h
  | some a =>
   rw [hx] at h
   cases a with
   | ptr k st off =>
    simp only [] at *
    cases hc:cellsOf σ k st with
    | none=>rw [hc] at h; cases h
    | some l=>rw [hc] at h; rw [qr3 hs hc]; exact h
   | _=>exact h
 | lookup t x k ok =>
  simp only [q62] at *
  cases hd:T.und t with
  | none=>rw [hd] at h; cases h
  | some d =>
   rw [hd] at h
   cases d with
   | map kt et =>
    cases hx:q0c tm x with
    | none=>rw [hx] at h; exact h
    | some a =>
     rw [hx] at h
     cases hk:q0c tm k with
     | none=>rw [hk] at h; cases h
     | some ku =>
      rw [hk] at h
      cases a with
      | map r =>
       simp only [] at *
       cases hg:gt σ.h r with
       | none =>
        rw [hg] at h
        cases hv:toV ku with
        | none=>rw [hv] at h; exact h
        | some kv =>
         rw [hv] at h
         simp only [] at h
         cases hkx:qjn T 50 kt kv<;>rw [hkx] at h<;>cases h
       | some b=>rw [hg] at h; rw [hs r b hg]; exact h
      | _=>exact h
   | _=>exact h
 | _=>exact h
theorem qp3 {u:U} {n:Nat} (hn:n≠0) (h:there σ u=n):there τ u=n:=by
 unfold there at *
 cases u with
 | ptr k st off =>
  simp only [] at *
  cases hl:live σ k st with
  | false=>rw [hl] at h; exact absurd h.symm hn
  | true=>rw [hl] at h; rw [qfe hs hl]; exact h
 | sl k a b c =>
  simp only [] at *
  cases hl:live σ k 0 with
  | false=>rw [hl] at h; exact absurd h.symm hn
  | true=>rw [hl] at h; rw [qfe hs hl]; exact h
 | map k =>
  simp only [] at *
  cases hl:live σ k 0 with
  | false=>rw [hl] at h; exact absurd h.symm hn
  | true=>rw [hl] at h; rw [qfe hs hl]; exact h
 | vl k st off m =>
  cases m with
  | zero=>exact h
  | succ m =>
   simp only [] at *
   cases hl:live σ k st with
   | false=>rw [hl] at h; exact absurd h.symm hn
   | true=>rw [hl] at h; rw [qfe hs hl]; exact h
 | isl t l=>cases l<;>exact h
 | _=>exact h
theorem qtn {op:BinOp} {t:TypeId} {x y u:U} (h:qot T σ op t x y=some u):qot T τ op t x y=some u:=by
 unfold qot at *
 by_cases hk:qbs T t=0
 ·simp only [beq_eq,hk,decide_true,zC] at h; cases h
 ·simp only [beq_eq,hk,decide_false,zD] at h ⊢
  by_cases hx:there σ x=qbs T t
  ·have:=qp3 hs hk hx
   simpa [hx,this] using h
  ·by_cases hy:there σ y=qbs T t
   ·have hy':=qp3 hs hk hy
    by_cases hn:q9h x=qbs T t
    ·have hxx:cmpB op=some u:=by simpa [hx,hy,hn] using h
     have hz:there τ x=0:=by
      cases x<;>simp [q9h] at hn<;>first | rfl | exact absurd hn.symm hk
     have hz':¬ there τ x=qbs T t:=by rw [hz]; exact fun h=>hk h.symm
     simpa [hz',hy',hn] using hxx
    ·simp [hx,hn] at h
   ·by_cases hn:q9h x=qbs T t
    ·simp [hx,hn,hy] at h
    ·simp [hx,hn] at h
theorem qxr {op:BinOp} {t:TypeId} {x y u:U} (h:z5g T σ op t x y=some u):z5g T τ op t x y=some u:=by
 unfold z5g at *
 cases hg:g2 (ql9 T op t) x y with
 | some r=>rw [hg] at h; exact h
 | none=>rw [hg] at h; exact qtn hs h
theorem qpi {t:TypeId} {x u:U} {f:Nat} (h:qbd T σ t x f=some u):qbd T τ t x f=some u:=by
 unfold qbd at *
 split at h
 ·split at h
  ·split at h
   ·split at h
    ·exact q8z hs h
    ·exact h
    ·cases h
   ·cases h
  ·cases h
 ·cases h
theorem qpo {t:TypeId} {x i u:U} (h:q59 T σ t x i=some u):q59 T τ t x i=some u:=by
 unfold q59 at *
 split at h
 ·split at h
  ·split at h
   ·split at h
    ·exact q8z hs h
    ·split at h
     ·rename_i hv; rw [qp5 hs hv]; exact h
     ·cases h
    ·exact h
    ·cases h
   ·cases h
  ·split at h
   ·split at h
    ·exact q8z hs h
    ·exact h
    ·cases h
   ·cases h
  ·cases h
 ·cases h
theorem qz8 {t:TypeId} {x u:U} (h:qpr T σ t x=some u):qpr T τ t x=some u:=by
 unfold qpr at *
 split at h
 ·split at h
  ·exact h
  ·exact q8z hs h
  ·exact q8z hs h
  ·exact h
  ·cases h
 ·exact h
 ·exact h
 ·split at h
  ·exact h
  ·split at h
   ·rename_i hv; rw [hs _ _ hv]; exact h
   ·cases h
  ·cases h
 ·cases h
theorem qxz {t:TypeId} {x u:U} (h:capU T σ t x=some u):capU T τ t x=some u:=by
 unfold capU at *
 split at h
 ·split at h
  ·exact h
  ·exact q8z hs h
  ·cases h
 ·cases h
theorem qu4 {t:TypeId} {x u:U} {a b c:Option Value} (h:qg1 T σ t x a b c=some u):qg1 T τ t x a b c=some u:=by
 unfold qg1 at *
 split at h
 ·exact h
 ·split at h
  ·split at h
   ·exact h
   ·exact q8z hs h
   ·split at h
    ·rename_i hv; rw [qp5 hs hv]; exact h
    ·cases h
   ·exact h
   ·cases h
  ·cases h
 ·cases h
theorem qwy {op:Op} {u:U} (h:q2d T σ tm op=some u):q2d T τ tm op=some u:=by
 cases op with
 | nilCheck x =>
  simp only [q2d] at *
  split at h
  ·exact q8z hs h
  ·exact h
  ·exact h
  ·cases h
 | binOp o t x y ty =>
  simp only [q2d] at *
  split at h
  ·exact qxr hs h
  ·cases h
 | slice t x lo hi mx =>
  simp only [q2d] at *
  split at h
  ·exact qu4 hs h
  ·cases h
 | fieldAddr t x f =>
  simp only [q2d] at *
  split at h
  ·exact qpi hs h
  ·cases h
 | indexAddr t x i =>
  simp only [q2d] at *
  split at h
  ·exact qpo hs h
  ·cases h
 | call c =>
  simp only [q2d] at *
  split at h
  ·split at h
   ·exact qz8 hs h
   ·cases h
  ·split at h
   ·exact qxz hs h
   ·cases h
  ·exact h
  ·exact h
  ·cases h
 | _=>exact h
def qto:Op→Bool
 | .alloc _ | .box _ _ | .store _ _ _ | .buildSlice _ _ _ | .makeSlice _ _ _ | .makeMap _ _ | .mapUpdate _ _ _ _ | .insert _ _ _ _ | .mapEntry _ _ _ | .entryStore _ _ _ _=>false
 | .call c=>(match c.callee with
  | .builtin .append=>false
  | .builtin .copy=>false
  | .builtin .delete=>false
  | .builtin .clear=>false
  | _=>true)
 | _=>true
omit hs in
theorem qy9 {op:Op} (h:qto op=true):qi1 T σ tm op=none:=by
 cases op<;>simp only [qto] at h<;>first | rfl | (cases h) | skip
 case call c =>
  simp only [qi1]
  split<;>simp_all
theorem qzd {op:Op} {u:U} (hn:qto op=true) (h:opU T σ tm op=some (u,σ)):opU T τ tm op=some (u,τ):=by
 unfold opU at *
 cases hp:q2d T σ tm op with
 | some v =>
  rw [hp] at h; simp only [zA,zB,and_true] at h; subst h
  rw [qwy hs hp]
 | none =>
  rw [hp] at h
  cases hr:q62 T σ tm op with
  | none=>rw [hr] at h; simp only [qy9 hn] at h; cases h
  | some v =>
   rw [hr] at h; simp only [zA,zB,and_true] at h; subst h
   have hpt:q2d T τ tm op=none:=by
    cases op<;>first | rfl | (simp [q62] at hr)
   rw [hpt,qwz hs hr]
end
end Go.Vx
end
section
namespace Go.Vx
open Go Go.Rx
theorem qkq.le {n k:Nat} (h:n≤k):(b:B)→qkq n b→qkq k b
 | .row l _,hb=>q1g.le h l hb
 | .vec l _ _ _,hb=>q1g.le h l hb
 | .map es _,hb=>fun e he=>⟨Bel.le h _ (hb e he).1,Bel.le h _ (hb e he).2⟩
def alU:Option Nat→Nat→U
 | none,k=>.ptr k 0 0
 | some n,k=>.sl k 0 n n
theorem z61 {F:Nat→Blk→Prop} {y:Cx} {σ:Sg} {nx0 k:Nat} {l:List U} {e:TypeId} (hy:y.σ=q3z σ (.row l e)) (hh:qcs y) (hf:Fr F y) (hk1:nx0≤k) (hk2:k<σ.nx) (hgk:gt σ.h k=none)
  (hlt:∀ j b,gt σ.h j=some b→j<σ.nx) (hl:q1g 0 l) (hrows:∀ j b,gt σ.h j=some b→qkq nx0 b) :
  ∃ y':Cx,y'.σ=⟨(k,.row l e)::σ.h,σ.nx⟩∧y'.s=y.s∧qcs y'∧Fr F y'∧Ke nx0 y y'∧(∀ o v,Rel y (alU o σ.nx) v→Rel y' (alU o k) v)∧(∀ o j v,j≠k→j<σ.nx→Rel y (alU o j) v→Rel y' (alU o j) v):=by
 have gy:∀ j,gt y.σ.h j=if σ.nx=j then some (.row l e) else gt σ.h j:=fun j=>by rw [hy]; simp only [q3z,q11]
 have gy':∀ j,gt ((k,B.row l e)::σ.h) j=if k=j then some (.row l e) else gt σ.h j:=fun j=>by rw [q11]
 have old:∀ j b,gt σ.h j=some b→gt y.σ.h j=some b:=fun j b hb=>by
  have:=hlt j b hb
  rw [gy,if_neg (by omega)]; exact hb
 have hnk:∀ j b,gt σ.h j=some b→j≠k:=fun j b hb h=>by subst h; rw [hgk] at hb; cases hb
 have hmo:Mo nx0 y ⟨fun j=>if j=k then y.ρ σ.nx else y.ρ j,⟨(k,.row l e)::σ.h,σ.nx⟩,y.s⟩:=by
  refine ⟨fun j h1 h2=>⟨by simp only; omega,fun b' hb'=>?_⟩,fun _ _ _ h=>h⟩
  simp only [gy'] at hb'
  rw [if_neg (by omega)] at hb'
  exact ⟨b',old j b' hb',zF _,fun _=>⟨by simp only; rw [if_neg (by omega)],fun l e sz st h=>⟨l,h⟩⟩⟩
 refine ⟨⟨fun j=>if j=k then y.ρ σ.nx else y.ρ j,⟨(k,.row l e)::σ.h,σ.nx⟩,y.s⟩,rfl,rfl,⟨fun j b hb=>?_,fun j j' b b' i hb hb' h1 h2=>?_,hh.bd⟩,fun i b hF=>?_,hmo.ke,fun o v hv=>?_,fun o j v hj hjl hv=>?_⟩
 ·simp only [gy'] at hb
  by_cases hjk:k=j
  ·subst hjk
   rw [if_pos rfl] at hb
   cases hb
   refine ⟨hk2,?_⟩
   obtain ⟨_,h2⟩:=hh.ok σ.nx (.row l e) (by rw [gy,if_pos rfl])
   obtain ⟨q1,i,l',q2,q3,q4⟩:=h2
   exact ⟨q1,i,l',by simp [q2],q3,hmo.ke.E (q1g.le (Nat.zero_le _) l hl) q4⟩
  ·rw [if_neg hjk] at hb
   refine ⟨hlt j b hb,?_⟩
   exact (hh.ok j b (old j b hb)).2.monoB (hrows j b hb) hmo (by simp only; rw [if_neg (fun h=>hjk h.symm)]) fun _ _ _ h=>h
 ·have key:∀ j b,gt ((k,B.row l e)::σ.h) j=some b→∀ i,(if j=k then y.ρ σ.nx else y.ρ j)=some i→∃ j0 b0,gt y.σ.h j0=some b0∧y.ρ j0=some i∧(j=k∧j0=σ.nx∨j≠k∧j0=j∧j<σ.nx):=fun j b hb i hi=>by
   rw [gy'] at hb
   by_cases hjk:j=k
   ·rw [if_pos hjk] at hi
    exact ⟨σ.nx,.row l e,by rw [gy,if_pos rfl],hi,.inl ⟨hjk,rfl⟩⟩
   ·rw [if_neg (fun h=>hjk h.symm)] at hb
    rw [if_neg hjk] at hi
    exact ⟨j,b,old j b hb,hi,.inr ⟨hjk,rfl,hlt j b hb⟩⟩
  obtain ⟨a,ba,g1,g2,g3⟩:=key j b hb i h1
  obtain ⟨c,bc,g4,g5,g6⟩:=key j' b' hb' i h2
  have:=hh.inj a c ba bc i g1 g4 g2 g5
  omega
 ·obtain ⟨h1,h2⟩:=hf i b hF
  refine ⟨h1,fun j c hc=>?_⟩
  simp only [gy'] at hc
  by_cases hjk:j=k
  ·simp only [hjk,if_true]
   exact h2 σ.nx (.row l e) (by rw [gy,if_pos rfl])
  ·rw [if_neg (fun h=>hjk h.symm)] at hc
   simp only [hjk,if_false]
   exact h2 j c (old j c hc)
 ·cases o<;>(
   simp only [alU,Rel,Ref] at hv ⊢
   refine ⟨hv.1,hk2,fun b hb=>?_⟩
   simp only [gy',if_true] at hb
   have:=hv.2.2 b (by rw [gy,if_pos rfl]; exact hb)
   simpa using this)
 ·cases o<;>(
   simp only [alU,Rel,Ref] at hv ⊢
   refine ⟨hv.1,hjl,fun b hb=>?_⟩
   simp only [gy',if_neg (fun h:k=j=>hj h.symm)] at hb
   have:=hv.2.2 b (old j b hb)
   simpa [hj] using this)
structure Al where
 i:Nat
 k:Nat
 o:Option Nat
 l:List U
 e:TypeId
structure Loc (T:Tb) (ops:List Oper) (als:List Al) (i:Nat) (r:q39) (K:Nat) (q q':List U) (e:TypeId):Prop where
 name:∃ al∈als,al.k=K
 row:gt r.s.h K=some (.row q e)
 out:r.s'=⟨ug r.s.h K (.row q' e),r.s.nx⟩
 dst:r.o.dst=none
 run:∀ τ:Sg,gt τ.h K=some (.row q e)→opU T τ r.tm r.o.op=some (r.u,⟨ug τ.h K (.row q' e),τ.nx⟩)
 pre:∀ al∈als,Pre ops i al.i∨(al.k≠K∧q1g al.k q')
 want:q07 ops r.tm r.o=some true
structure ChA (P:Program) (T:Tb) (ops:List Oper) (tm₀:List U) (σb σ1:Sg) (rs:List q39) (als:List Al):Prop where
 some:als≠[]
 names:∀ al∈als,σb.nx≤al.k∧al.k<σ1.nx
 nodup:∀ a∈als,∀ b∈als,a.k=b.k→a.i=b.i
 le:σb.nx≤σ1.nx
 at_:∀ al∈als,∃ r d,rs[al.i]? = .some r∧r.u=alU al.o al.k∧r.act=false∧r.mv=true∧(∀ σ,opU T σ r.tm r.o.op = .some (alU al.o σ.nx,q3z σ (.row al.l al.e)))∧r.o.guard=none∧r.o.dst = .some d
 row:∀ al∈als,q1g 0 al.l
 all:∀ (i:Nat) (r:q39),rs[i]? = .some r→r.act=false→r.mv=true→∃ al∈als,al.i=i
 own:∀ al∈als,gt σ1.h al.k = .some (.row al.l al.e)
 oth:∀ j,(∀ al∈als,al.k≠j)→gt σ1.h j=gt σb.h j
 acts:∀ (i:Nat) (r:q39),rs[i]? = .some r→r.act=true→(∀ al∈als,Pre ops i al.i)∨∃ K q q' e,Loc T ops als i r K q q' e
 early:∀ (i:Nat) (r:q39),rs[i]? = .some r→r.act=false→r.mv=false→(∀ al∈als,Pre ops i al.i)∨(Bel σb.nx r.u∧(q07 ops r.tm r.o = .some true→opU T r.s r.tm r.o.op = .some (r.u,r.s')→qto r.o.op=true∧opU T ⟨σb.h,σ1.nx⟩ r.tm r.o.op = .some (r.u,⟨σb.h,σ1.nx⟩)))
section
variable {P:Program} {T:Tb} (hT:qet P T) (ops:Array Oper) {tm₀:List U} {σb σ1:Sg} {rs:List q39} {tm':List U} {σ':Sg} {als:List Al}
 (htr:TrU P T ops.toList tm₀ σ1 rs tm' σ') (hst:q6g ops.toList=true) (hch:ChU T ops.toList rs) (hal:ChA P T ops.toList tm₀ σb σ1 rs als)
include htr hal
theorem factsA (hbr:∀ j b,gt σb.h j=some b→j<σb.nx∧qkq σb.nx b) {al:Al} (hm:al∈als):∀ p,p≤rs.length→(∀ (e:Nat) (q:q39),rs[e]? = some q→q.act=true→e<p→¬ Pre ops.toList e al.i) →
  gt (uAt rs σ' p).h al.k=some (.row al.l al.e)∧(∀ j b,gt (uAt rs σ' p).h j=some b→qkq al.k b)∧(∀ j,(∀ al∈als,al.k≠j)→gt (uAt rs σ' p).h j=gt σb.h j)∧(uAt rs σ' p).nx=σ1.nx:=by
 intro p
 induction p with
 | zero =>
  intro _ _
  rw [htr.s0]
  refine ⟨hal.own al hm,fun j b hb=>?_,hal.oth,rfl⟩
  by_cases hj:∀ al∈als,al.k≠j
  ·rw [hal.oth j hj] at hb
   exact qkq.le (hal.names al hm).1 _ (hbr j b hb).2
  ·have:∃ al∈als,al.k=j:=by
    apply Classical.byContradiction
    intro hc
    exact hj fun al hm h=>hc ⟨al,hm,h⟩
   obtain ⟨al',hm',rfl⟩:=this
   rw [hal.own al' hm'] at hb
   cases hb
   exact q1g.le (Nat.zero_le _) _ (hal.row al' hm')
 | succ p ih =>
  intro hp hno
  have hr:rs[p]? = some rs[p]:=by simp [show p<rs.length by omega]
  obtain ⟨f1,f2,f3,f4⟩:=ih (by omega) fun e q h1 h2 h3=>hno e q h1 h2 (by omega)
  obtain ⟨_,g2,g3,_⟩:=htr.all p _ hr
  have e1:uAt rs σ' p=rs[p].s:=by simp [uAt,hr]
  rw [g3]
  rw [e1] at f1 f2 f3 f4
  cases ha:rs[p].act with
  | false=>rw [g2.quiet ha]; exact ⟨f1,f2,f3,f4⟩
  | true =>
   rcases hal.acts p _ hr ha with h | ⟨K,q,q',e,hL⟩
   ·exact absurd (h al hm) (hno p _ hr ha (zN _))
   ·have hK:al.k≠K∧q1g al.k q':=by
     rcases hL.pre al hm with h | h
     ·exact absurd h (hno p _ hr ha (zN _))
     ·exact h
    obtain ⟨alK,hmK,hkK⟩:=hL.name
    rw [hL.out]
    refine ⟨?_,fun j b hb=>?_,fun j hj=>?_,f4⟩
    ·show gt (ug rs[p].s.h K _) al.k=_
     rw [qhf,if_neg fun h=>hK.1 h.symm]; exact f1
    ·simp only [qhf] at hb
     by_cases hj:K=j
     ·rw [if_pos hj,hL.row] at hb
      cases hb
      exact hK.2
     ·rw [if_neg hj] at hb; exact f2 j b hb
    ·show gt (ug rs[p].s.h K _) j=_
     rw [qhf,if_neg fun h=>hj alK hmK (hkK.trans h)]; exact f3 j hj
include hT hst hch
theorem z5d {ro:Option Nat} {n0:Nat} (hn0:n0≤σb.nx) (hb0:q1g σb.nx tm₀) (hbr:∀ j b,gt σb.h j=some b→j<σb.nx∧qkq σb.nx b) {F:Nat→Blk→Prop} {x0:Cx} {m0:Nm} {w0:World} {E:Exit→Act→World→Prop} {df:List Deferred} (hQ:∀ y tv m w a,y.σ=σ'→St F y tm' tv m w a→Adv m0 x0.s w0 m y.s w→Ke n0 x0 y→n0≤y.σ.nx→a.defers=df→E .normal a w) :
  ∀ (fuel:Nat) (listed:Array Bool) (a:Act) (w:World) (m:Nm) (tm:List U) (tv:List Value) (x:Cx) (p:Nat),p≤rs.length→(∀ (e:Nat) (r:q39),rs[e]? = some r→r.act=true→(listed.getD e false=true↔e<p))→listed.size=ops.size→listed.toList.count false=fuel →
   Closed ops.toList (fun k=>listed.getD k false=true)→qjo tm₀ rs (fun k=>listed.getD k false=true) tm→(∃ al∈als,¬ listed.getD al.i false=true) →
   x.σ.nx=σ1.nx→(∀ al∈als,gt x.σ.h al.k=if listed.getD al.i false=true then gt (uAt rs σ' p).h al.k else none)→(∀ j,(∀ al∈als,al.k≠j)→gt x.σ.h j=gt σb.h j) →
   St F x tm tv m w a→Adv m0 x0.s w0 m x.s w→Ke n0 x0 x→a.defers=df →
   wpAnyIn (qmn ro) 0 P .any ops E fuel listed a w:=by
 have hn:rs.length=ops.size:=by simpa using htr.len
 intro fuel
 induction fuel with
 | zero =>
  intro listed a w m tm tv x p hp hacts hsz hcnt hcl hsees hun hnx hrow hoth hstt hadv hke hdf
  exfalso
  obtain ⟨al,hm,hu⟩:=hun
  obtain ⟨r,d,h1,_⟩:=hal.at_ al hm
  have hlt:=(zG.1 h1).1
  have hk':al.i<listed.size:=by omega
  have:listed[al.i]≠false:=fun hf=>by
   have hm:false∈listed.toList:=by rw [← hf]; simp
   have:=List.count_pos_iff.2 hm
   omega
  have this':listed[al.i]=true:=by simpa using this
  exact hu (by simp [Array.getD,hk',this'])
 | succ fuel ih =>
  intro listed a w m tm tv x p hp hacts hsz hcnt hcl hsees hun hnx hrow hoth hstt hadv hke hdf
  have mem_ready:∀ i,i∈Region.ready .any ops listed↔i<ops.size∧listed.getD i true=false∧∃ o,ops[i]? = some o∧∀ e∈o.after.toList,Region.binds .any e=true→listed.getD e.on false=true:=by
   intro i
   unfold Region.ready
   rw [List.mem_filter,List.mem_range]
   refine and_congr_right fun hi=>?_
   have ho:ops[i]? = some ops[i]:=by simp [hi]
   simp only [ho,zM,Option.getD_some,Bool.and_eq_true,Bool.not_eq_true',Array.all_eq_true_iff_forall_mem,Bool.or_eq_true]
   refine and_congr_right fun _=>?_
   constructor
   ·intro h
    refine ⟨_,rfl,fun e he hb=>?_⟩
    rcases h e (by simpa using he) with h1 | h1
    ·simp [hb] at h1
    ·exact h1
   ·rintro ⟨o,ho',h⟩ e he
    cases ho'
    cases hb:Region.binds .any e with
    | false=>exact .inl rfl
    | true=>exact .inr (h e (by simpa using he) hb)
  refine ⟨fun hnil=>?_,fun i hi=>?_⟩
  ·exfalso
   have hex:∃ i,i<ops.size∧listed.getD i true=false:=by
    have hpos:0<listed.toList.count false:=by omega
    obtain ⟨i,hi,e⟩:=List.mem_iff_getElem.1 (List.count_pos_iff.1 hpos)
    simp at hi
    refine ⟨i,by omega,?_⟩
    simp only [Array.getElem_toList] at e
    simp [Array.getD,hi,e]
   have hmin:∀ n,n<ops.size→listed.getD n true=false→False:=by
    intro n
    induction n using Nat.strongRecOn with
    | _ n ihn =>
     intro hn1 hn2
     have:n∈Region.ready .any ops listed:=(mem_ready n).2 ⟨hn1,hn2,ops[n],by simp [hn1],fun e he hb=>by
      have hlt:=qx4 hst (i:=n) (o:=ops[n]) (by simp [hn1]) e he hb
      have hk':e.on<listed.size:=by omega
      cases hv:listed[e.on] with
      | true=>simp [Array.getD,hk',hv]
      | false=>exact (ihn e.on hlt (by omega) (by simp [Array.getD,hk',hv])).elim⟩
     rw [hnil] at this
     cases this
   obtain ⟨i,h1,h2⟩:=hex
   exact hmin i h1 h2
  ·obtain ⟨hilt,hil,o,ho,hedges⟩:=(mem_ready i).1 hi
   have hisz:i<listed.size:=by omega
   have hLi:¬ listed.getD i false=true:=by
    simp [Array.getD,hisz] at hil ⊢
    exact hil
   have hol:ops.toList[i]? = some o:=by simpa using ho
   obtain ⟨r,hr,hro⟩:=z0b ops htr hol
   subst hro
   have hrd:∀ q,ops.toList[i]? = some q→∀ e∈q.after.toList,Region.binds .any e=true→listed.getD e.on false=true:=fun q hq=>by
    rw [hol] at hq; cases hq; exact hedges
   have hlooks:=qhx ops htr hst hcl hsees hr hLi hrd
   obtain ⟨_,hgood,hs1,_⟩:=htr.all i r hr
   have hget:∀ k,((listed.setIfInBounds i true).getD k false=true)↔(listed.getD k false=true∨k=i):=fun k=>by
    by_cases hk:k=i
    ·subst hk; simp [Array.getD,hisz]
    ·by_cases hks:k<listed.size
     ·simp [Array.getD,hks,hk,Ne.symm hk]
     ·simp [Array.getD,hks,hk]
   have hcl':Closed ops.toList (fun k=>(listed.setIfInBounds i true).getD k false=true):=fun k q hk hq e he hb=>by
    refine (hget e.on).2 (.inl ?_)
    rcases (hget k).1 hk with hk | rfl
    ·exact hcl k q hk hq e he hb
    ·exact hrd q hq e he hb
   have hsees':qjo tm₀ rs (fun k=>(listed.setIfInBounds i true).getD k false=true) (q3t tm r.o.dst r.u):=by
    have:=qjd ops htr hst hsees hr
    exact ⟨this.len,fun k q d a b c hL=>this.yes k q d a b c ((hget k).1 hL),fun k q d a b hL=>this.no k q d a b fun x=>hL ((hget k).2 x),this.other⟩
   have hcnt':(listed.setIfInBounds i true).toList.count false=fuel:=by
    have hv:listed[i]=false:=by simpa [Array.getD,hisz] using hil
    rw [Array.toList_setIfInBounds,List.count_set (by simpa using hisz)]
    have hc2:Array.count false listed=fuel+1:=by simpa using hcnt
    simp [hv]
    omega
   obtain ⟨hopc,hwc⟩:=qze hlooks
   have notall:¬ (∀ al∈als,Pre ops.toList i al.i):=fun h=>by
    obtain ⟨al,hm,hu⟩:=hun
    exact hu (q63 hst hcl hrd (h al hm))
   by_cases hact:r.act=true
   ·rcases hal.acts i r hr hact with h | ⟨K,q,q',e,hL⟩
    ·exact absurd h notall
    ·obtain ⟨alK,hmK,hkK⟩:=hL.name
     have hpi:p≤i:=by
      rcases Nat.lt_or_ge i p with h | h
      ·exact absurd ((hacts i r hr hact).2 h) hLi
      ·exact h
     have hil':i<rs.length:=(zG.1 hr).1
     have hbetween:∀ (e:Nat) (q:q39),p≤e→e<i→rs[e]? = some q→q.act=false:=fun e q h1 h2 h3=>by
      cases hb:q.act with
      | false=>rfl
      | true =>
       have:=q63 hst hcl hrd (hch.acts i e r q hr h3 hact hb h2)
       have:=(hacts e q h3 hb).1 this
       omega
     have hsi:uAt rs σ' i=r.s:=by simp [uAt,hr]
     have hps:uAt rs σ' p=r.s:=(qer ops htr hpi (by omega) hbetween).trans hsi
     have hKl:listed.getD alK.i false=true:=by
      rcases hL.pre alK hmK with h | h
      ·exact q63 hst hcl hrd h
      ·exact absurd hkK h.1
     have hgK:gt x.σ.h K=some (.row q e):=by
      have:=hrow alK hmK
      rw [if_pos hKl,hkK,hps,hL.row] at this
      exact this
     have hop':opU T x.σ tm r.o.op=some (r.u,⟨ug x.σ.h K (.row q' e),x.σ.nx⟩):=by rw [q96 hopc]; exact hL.run _ hgK
     unfold wpOpIn
     simp only [ho]
     rw [qg2 (hstt.act m (Agree.refl _ _)) ops r.o,q1m hstt.e (hwc.trans hL.want)]
     simp only [if_true]
     refine q5x (qgy hop') (hstt.op hT r.o hop' fun y tv' m₁ w₁ a₁ e1 st' hadv' hke' hnx' hdf'=>?_)
     have hge:∀ al∈als,((listed.setIfInBounds i true).getD al.i false=true)↔listed.getD al.i false=true:=fun al hm=>by
      have:al.i≠i:=fun h=>by
       obtain ⟨q,d,q1,_,q3,_⟩:=hal.at_ al hm
       rw [h,hr] at q1; cases q1; rw [hact] at q3; cases q3
      rw [hget]; simp [this]
     refine ih _ _ _ m₁ _ tv' y (i+1) (by omega) (fun e' q1 hq hqk=>?_) (by simpa using hsz) hcnt' hcl' hsees' ?_ (by rw [e1]; exact hnx) (fun al hm=>?_) (fun j hj=>?_) st' (hadv.trans hadv') (hke.trans (hke'.le (by rw [hnx]; have:=hal.le; omega))) (hdf'.trans hdf)
     ·rw [hget]
      by_cases hei:e'=i
      ·subst hei; simp
      ·simp only [hei,or_false]
       constructor
       ·intro hLe
        have:=(hacts e' q1 hq hqk).1 hLe
        omega
       ·intro hlt
        exact q63 hst hcl hrd (hch.acts i e' r q1 hr hq hact hqk (by omega))
     ·obtain ⟨al,hm,hu⟩:=hun
      exact ⟨al,hm,fun h=>hu ((hge al hm).1 h)⟩
     ·rw [e1,hs1,hL.out]
      by_cases hl:listed.getD al.i false=true
      ·rw [if_pos ((hge al hm).2 hl)]
       show gt (ug x.σ.h K _) al.k=gt (ug r.s.h K _) al.k
       rw [qhf,qhf,hgK,hL.row,hrow al hm,if_pos hl,hps]
      ·rw [if_neg (fun h=>hl ((hge al hm).1 h))]
       show gt (ug x.σ.h K _) al.k=_
       rw [qhf]
       have hne:K≠al.k:=fun h=>by
        have:=hal.nodup alK hmK al hm (hkK.trans h)
        rw [← this] at hl
        exact hl hKl
       rw [if_neg hne,hrow al hm,if_neg hl]
     ·rw [e1]
      show gt (ug x.σ.h K _) j=_
      rw [qhf,if_neg (fun h=>hj alK hmK (hkK.trans h)),hoth j hj]
   have noact:r.act=false:=by simpa using hact
   have hacts':∀ (e:Nat) (q:q39),rs[e]? = some q→q.act=true→((listed.setIfInBounds i true).getD e false=true↔e<p):=fun e q hq hqk=>by
    rw [hget]
    by_cases hei:e=i
    ·subst hei; rw [hr] at hq; cases hq; rw [noact] at hqk; cases hqk
    ·simp only [hei,or_false]; exact hacts e q hq hqk
   have stay:r.mv=false→∀ y tv' m₁ w₁ a₁,y.σ=x.σ→St F y (q3t tm r.o.dst r.u) tv' m₁ w₁ a₁→Adv m0 x0.s w0 m₁ y.s w₁→Ke n0 x0 y→a₁.defers=df→wpAnyIn (qmn ro) 0 P .any ops E fuel (listed.setIfInBounds i true) a₁ w₁:=fun hmv y tv' m₁ w₁ a₁ h1 h2 h3 h4 h6=>by
    have hne:∀ al∈als,al.i≠i:=fun al hm h=>by
     obtain ⟨q,d,q1,_,_,q2,_⟩:=hal.at_ al hm
     rw [h,hr] at q1; cases q1; rw [hmv] at q2; cases q2
    have hge:∀ al∈als,((listed.setIfInBounds i true).getD al.i false=true)↔listed.getD al.i false=true:=fun al hm=>by
     rw [hget]; simp [hne al hm]
    refine ih _ _ _ m₁ _ tv' y p hp hacts' (by simpa using hsz) hcnt' hcl' hsees' ?_ (by rw [h1]; exact hnx) (fun al hm=>?_) (by rw [h1]; exact hoth) h2 h3 h4 h6
    ·obtain ⟨al,hm,hu⟩:=hun
     exact ⟨al,hm,fun h=>hu ((hge al hm).1 h)⟩
    ·rw [h1,hrow al hm]
     by_cases hL:listed.getD al.i false=true
     ·rw [if_pos hL,if_pos ((hge al hm).2 hL)]
     ·rw [if_neg hL,if_neg fun h=>hL ((hge al hm).1 h)]
   have hsub:SubH ⟨σb.h,σ1.nx⟩ x.σ:=fun k b hb=>by
    rw [hoth k fun al hm h=>?_]
    ·exact hb
    ·have:=(hbr k b hb).1
     have:=(hal.names al hm).1
     omega
   unfold wpOpIn
   simp only [ho]
   rw [qg2 (hstt.act m (Agree.refl _ _)) ops r.o]
   cases hmv:r.mv with
   | true =>
    obtain ⟨al,hm,hi'⟩:=hal.all i r hr noact hmv
    obtain ⟨q,d,q1,q2,q3,q4,q5,q6,q7⟩:=hal.at_ al hm
    rw [hi',hr] at q1; cases q1
    have r2:=hal.row al hm
    have hw:q07 ops.toList tm r.o=some true:=by unfold q07; rw [q6]
    rw [q1m hstt.e hw]
    simp only [if_true]
    have hop':opU T x.σ tm r.o.op=some (alU al.o x.σ.nx,q3z x.σ (.row al.l al.e)):=by rw [q96 hopc]; exact q5 _
    refine q5x (qgy hop') (hstt.op hT r.o hop' fun y tv' m₁ w₁ a₁ e1 st' hadv' hke' hnx' hdf'=>?_)
    have hnoact:∀ (e:Nat) (q:q39),rs[e]? = some q→q.act=true→e<p→¬ Pre ops.toList e al.i:=fun e q h1 h2 h3 h4=>by
     have:=qah hst hcl e al.i ((hacts e q h1 h2).2 h3) h4
     simp only [hi'] at this
     exact hLi this
    obtain ⟨F1,F2,F3,F4⟩:=factsA ops htr hal hbr hm p hp hnoact
    have hrows:∀ j b,gt x.σ.h j=some b→qkq al.k b:=fun j b hb=>by
     by_cases hj:∀ al∈als,al.k≠j
     ·rw [hoth j hj,← F3 j hj] at hb; exact F2 j b hb
     ·have:∃ al∈als,al.k=j:=by
       apply Classical.byContradiction
       intro hc
       exact hj fun al hm h=>hc ⟨al,hm,h⟩
      obtain ⟨al',hm',rfl⟩:=this
      rw [hrow al' hm'] at hb
      split at hb
      ·exact F2 _ b hb
      ·cases hb
    have hgk:gt x.σ.h al.k=none:=by rw [hrow al hm,if_neg (by rw [hi']; exact hLi)]
    obtain ⟨y',z1,z2,z3,z4,z5,z6,z7⟩:=z61 (F:=F) (nx0:=al.k) (k:=al.k) e1 st'.h st'.fr (zF _) (by rw [hnx]; exact (hal.names al hm).2) hgk (fun j b hb=>(hstt.h.ok j b hb).1) r2 hrows
    have hlen:tm.length=tm₀.length:=hsees.len
    have hslots:q0t y' (q3t tm r.o.dst r.u) tv':=by
     have he:=st'.e
     rw [q7] at he ⊢
     simp only [q3t] at he ⊢
     refine q0t.mk' (by have:=he.2; simpa using this) fun t u hu=>?_
     by_cases ht:t=d
     ·subst ht
      have htl:t<tm.length:=by have:=(zG.1 hu).1; simpa using this
      rw [List.getElem?_set_self htl] at hu
      obtain ⟨v,v1,v2⟩:=he.get (i:=t) (u:=alU al.o x.σ.nx) (by rw [List.getElem?_set_self htl])
      cases hu
      rw [q2]
      exact ⟨v,v1,z6 _ v v2⟩
     ·rw [List.getElem?_set_ne (fun h=>ht h.symm)] at hu
      obtain ⟨v,v1,v2⟩:=he.get (i:=t) (u:=u) (by rw [List.getElem?_set_ne (fun h=>ht h.symm)]; exact hu)
      refine ⟨v,v1,?_⟩
      have hold:tm₀[t]? = some u→Rel y' u v:=fun h=>z5 u v (Bel.le (hal.names al hm).1 u ((q9p _ _).1 hb0 u (List.mem_of_getElem? h))) v2
      by_cases hno:∀ (k:Nat) (q:q39),rs[k]? = some q→q.o.dst≠some t
      ·rw [hsees.other t hno] at hu; exact hold hu
      ·have:∃ (k:Nat) (q:q39),rs[k]? = some q∧q.o.dst=some t:=by
        apply Classical.byContradiction
        intro hn
        exact hno fun k r hr hd=>hn ⟨k,r,hr,hd⟩
       obtain ⟨k,q,hq,hd⟩:=this
       by_cases hL:listed.getD k false=true
       ·have htl:t<tm₀.length:=by rw [← hlen]; exact (zG.1 hu).1
        rw [hsees.yes k q t hq hd htl hL] at hu
        cases hu
        cases ha:q.act with
        | true =>
         exfalso
         rcases hal.acts k q hq ha with h | ⟨K,_,_,_,hLc⟩
         ·obtain ⟨al',hm',hu'⟩:=hun
          exact hu' (qah hst hcl k al'.i hL (h al' hm'))
         ·rw [hLc.dst] at hd; cases hd
        | false =>
         cases hm2:q.mv with
         | true =>
          obtain ⟨al',hm',hi2⟩:=hal.all k q hq ha hm2
          obtain ⟨q',d',p1,p2,_⟩:=hal.at_ al' hm'
          rw [hi2,hq] at p1; cases p1
          rw [p2] at v2 ⊢
          refine z7 _ _ v (fun h=>?_) (by rw [hnx]; exact (hal.names al' hm').2) v2
          have:=hal.nodup al' hm' al hm h
          rw [hi2,hi'] at this
          subst this
          exact hLi hL
         | false =>
          rcases hal.early k q hq ha hm2 with h | h
          ·exfalso
           obtain ⟨al',hm',hu'⟩:=hun
           exact hu' (qah hst hcl k al'.i hL (h al' hm'))
          ·exact z5 _ v (Bel.le (hal.names al hm).1 _ h.1) v2
       ·rw [hsees.no k q t hq hd hL] at hu; exact hold hu
    have st2:St F y' (q3t tm r.o.dst r.u) tv' m₁ w₁ a₁:=⟨z3,z4,hslots,by rw [z2]; exact st'.fits,by rw [z2]; exact st'.act⟩
    have hke2:Ke n0 x0 y':=(hke.trans (hke'.le (by rw [hnx]; have:=hal.le; omega))).trans (z5.le (Nat.le_trans hn0 (hal.names al hm).1))
    have hadv2:Adv m0 x0.s w0 m₁ y'.s w₁:=by rw [z2]; exact hadv.trans hadv'
    have hnx2:y'.σ.nx=σ1.nx:=by rw [z1]; exact hnx
    have hrow2:∀ al'∈als,gt y'.σ.h al'.k=if (listed.setIfInBounds i true).getD al'.i false=true then gt (uAt rs σ' p).h al'.k else none:=fun al' hm'=>by
     rw [z1]
     simp only [q11]
     by_cases hkk:al.k=al'.k
     ·have hii:=hal.nodup al hm al' hm' hkk
      rw [if_pos hkk,if_pos ((hget _).2 (.inr (by rw [← hii,hi'])))]
      rw [← hkk]; exact F1.symm
     ·rw [if_neg hkk,hrow al' hm']
      have hne:al'.i≠i:=fun h=>hkk (by
       obtain ⟨q',d',p1,p2,_⟩:=hal.at_ al' hm'
       rw [h,hr] at p1; cases p1
       rw [q2] at p2
       cases ho:al.o<;>cases ho':al'.o<;>rw [ho,ho'] at p2<;>simp only [alU] at p2<;>first | (cases p2; done) | (simp only [U.ptr.injEq,U.sl.injEq] at p2; exact p2.1))
      have:((listed.setIfInBounds i true).getD al'.i false=true)↔listed.getD al'.i false=true:=by rw [hget]; simp [hne]
      by_cases hL:listed.getD al'.i false=true
      ·rw [if_pos hL,if_pos (this.2 hL)]
      ·rw [if_neg hL,if_neg fun h=>hL (this.1 h)]
    have hoth2:∀ j,(∀ al∈als,al.k≠j)→gt y'.σ.h j=gt σb.h j:=fun j hj=>by
     rw [z1]; simp only [q11]
     rw [if_neg (hj al hm)]; exact hoth j hj
    by_cases hmore:∃ al∈als,¬ (listed.setIfInBounds i true).getD al.i false=true
    ·exact ih _ _ _ m₁ _ tv' y' p hp hacts' (by simpa using hsz) hcnt' hcl' hsees' hmore hnx2 hrow2 hoth2 st2 hadv2 hke2 (hdf'.trans hdf)
    ·-- all allocs have come
     have hdone:∀ al∈als,(listed.setIfInBounds i true).getD al.i false=true:=fun al hm=>by
      apply Classical.byContradiction
      intro h
      exact hmore ⟨al,hm,h⟩
     have hgt:∀ k,gt (uAt rs σ' p).h k=gt y'.σ.h k:=fun k=>by
      by_cases hj:∀ al∈als,al.k≠k
      ·rw [F3 k hj,hoth2 k hj]
      ·have:∃ al∈als,al.k=k:=by
        apply Classical.byContradiction
        intro hc
        exact hj fun al hm h=>hc ⟨al,hm,h⟩
       obtain ⟨al',hm',rfl⟩:=this
       rw [hrow2 al' hm',if_pos (hdone al' hm')]
     obtain ⟨y2,k1,k2,k3,k4,k5,k6⟩:=Gh.same (n0:=n0) (tm:=q3t tm r.o.dst r.u) (σ:=y'.σ) (uAt rs σ' p).h hgt F y' tv' rfl st2.h st2.fr st2.e
     have hσ2:y2.σ=uAt rs σ' p:=by rw [k2,hnx2,← F4]
     have hadv3:=k1 m₁ w₁ st2.fits
     refine qxj hT ops htr hst hch (n0:=n0) (F:=F) (x0:=x0) (m0:=m0) (w0:=w0) (df:=df) hQ fuel (listed.setIfInBounds i true) a₁ w₁ m₁ p (q3t tm r.o.dst r.u) tv' y2 (by simpa using hsz) hcnt' hcl' (fun e q h1 h2 h3=>?_) hsees' hp hacts' hσ2 ⟨k3,k4,k5,hadv3.fits,st2.act.ext hadv3.agree hadv3.nx⟩ (hadv2.trans hadv3) (hke2.trans k6) (by rw [hσ2,F4]; have:=hal.le; omega) (hdf'.trans hdf)
     ·obtain ⟨al',hm',hi2⟩:=hal.all e q h1 h2 h3
      rw [← hi2]; exact hdone al' hm'
   | false =>
    rcases hgood with ⟨hw,hu,ha,_⟩ | ⟨hw,hop,hqu⟩ | ⟨hw,ha,f,args,hcall,hev⟩ | ⟨hw,ha,_,hfree⟩ | ⟨ha,hm,_⟩ | ⟨hw,ha,_⟩
    ·rw [q1m hstt.e (hwc.trans hw)]
     simp only [Bool.false_eq_true,if_false]
     rw [hu] at stay
     exact ⟨fun _ _=>trivial,stay hmv x _ m w _ rfl (hstt.skip r.o.dst) hadv hke ((q5h _ _ _).trans hdf)⟩
    ·rw [q1m hstt.e (hwc.trans hw)]
     simp only [if_true]
     rcases hal.early i r hr noact hmv with h | h
     ·exact absurd h notall
     ·obtain ⟨g1,g2⟩:=h.2 hw hop
      have hop':opU T x.σ tm r.o.op=some (r.u,x.σ):=by
       rw [q96 hopc]; exact qzd hsub g1 g2
      exact q5x (qgy hop') (hstt.op hT r.o hop' fun y tv' m₁ w₁ a₁ e1 st' hadv' hke' hnx' hdf'=>stay hmv y tv' m₁ w₁ a₁ e1 st' (hadv.trans hadv') (hke.trans (hke'.le (by rw [hnx]; have:=hal.le; omega))) (hdf'.trans hdf))
    ·rw [noact] at ha; cases ha
    ·rw [q1m hstt.e (hwc.trans hw)]
     simp only [if_true]
     exact q5x (hfree.congr hopc).nd (hstt.free hT r.o (hfree.congr hopc) fun y tv' m₁ w₁ a₁ e1 st' hadv' hke' hnx' hdf'=>stay hmv y tv' m₁ w₁ a₁ e1 st' (hadv.trans hadv') (hke.trans (hke'.le (by rw [hnx]; have:=hal.le; omega))) (hdf'.trans hdf))
    ·rw [hmv] at hm; cases hm
    ·rw [noact] at ha; cases ha
end
end Go.Vx
end
section
namespace Go.Vx
open Go Go.Rx
def locP (mk K:Nat) (q':List U):List Al→Prop
 | []=>True
 | al::r=>(Nat.testBit mk al.i=true∨(al.k≠K∧q1g al.k q'))∧locP mk K q' r
theorem qzc {mk K:Nat} {q':List U}:∀ {l:List Al},locP mk K q' l→∀ al∈l,Nat.testBit mk al.i=true∨(al.k≠K∧q1g al.k q')
 | [],_,al,h=>by cases h
 | x::r,hl,al,h=>by
  rcases zI.1 h with rfl | h
  ·exact hl.1
  ·exact qzc hl.2 al h
def RA (P:Program) (T:Tb) (ops:List Oper) (nb:Nat) (σe:Sg) (qa:List Al):List Oper→List U→Sg→List RK→List Al→(List RK→List U→Sg→Prop)→Prop
 | [],tm,σ,acc,q,K=>q=[]∧K acc tm σ
 | o::r,tm,σ,acc,q,K =>
  (q07 ops tm o=some true∧∃ u,opU T σ tm o.op=some (u,σ)∧RA P T ops nb σe qa r (q3t tm o.dst u) σ ((1,⟨tm,o,u,false,false,σ,σ⟩)::acc) q K) ∨
  (q07 ops tm o=some true∧∃ u σ',opU T σ tm o.op=some (u,σ')∧RA P T ops nb σe qa r (q3t tm o.dst u) σ' ((3,⟨tm,o,u,true,true,σ,σ'⟩)::acc) q K) ∨
  (q07 ops tm o=some true∧∃ f args u,q4x T tm o.op=some (f,args)∧EvU P f args σ (fun u' σ'=>u'=u∧σ'=σ)∧RA P T ops nb σe qa r (q3t tm o.dst u) σ ((2,⟨tm,o,u,true,false,σ,σ⟩)::acc) q K) ∨
  (q07 ops tm o=some true∧∃ f args u σ',q4x T tm o.op=some (f,args)∧EvU P f args σ (fun u' s'=>u'=u∧s'=σ')∧RA P T ops nb σe qa r (q3t tm o.dst u) σ' ((3,⟨tm,o,u,true,true,σ,σ'⟩)::acc) q K) ∨
  (q07 ops tm o=some false∧RA P T ops nb σe qa r (q3t tm o.dst (.tup [])) σ ((0,⟨tm,o,.tup [],false,false,σ,σ⟩)::acc) q K) ∨
  (q07 ops tm o=some true∧∃ u,qf1 P T tm o.op u∧Bel nb u∧RA P T ops nb σe qa r (q3t tm o.dst u) σ ((6,⟨tm,o,u,false,false,σ,σ⟩)::acc) q K) ∨
  (q07 ops tm o=some true∧∃ u,opU T σ tm o.op=some (u,σ)∧opU T σe tm o.op=some (u,σe)∧qto o.op=true∧Bel nb u∧RA P T ops nb σe qa r (q3t tm o.dst u) σ ((5,⟨tm,o,u,false,false,σ,σ⟩)::acc) q K) ∨
  (∃ al q' d,q=al::q'∧al.i=acc.length∧(∀ s,opU T s tm o.op=some (alU al.o s.nx,q3z s (.row al.l al.e)))∧o.guard=none∧o.dst=some d∧RA P T ops nb σe qa r (q3t tm o.dst (alU al.o al.k)) σ ((4,⟨tm,o,alU al.o al.k,false,true,σ,σ⟩)::acc) q' K) ∨
  (q07 ops tm o=some true∧∃ u KK c c' e mk,(masks ops [])[acc.length]? = some mk∧o.dst=none∧gt σ.h KK=some (.row c e)∧(∀ τ:Sg,gt τ.h KK=some (.row c e)→opU T τ tm o.op=some (u,⟨ug τ.h KK (.row c' e),τ.nx⟩))∧(∃ al∈qa,al.k=KK)∧locP mk KK c' qa ∧
   RA P T ops nb σe qa r (q3t tm o.dst u) ⟨ug σ.h KK (.row c' e),σ.nx⟩ ((7,⟨tm,o,u,true,true,σ,⟨ug σ.h KK (.row c' e),σ.nx⟩⟩)::acc) q K)
theorem z1q {T:Tb} {σ:Sg} {tm:List U} {op:Op} {u u':U} {b:B} (h':opU T σ tm op=some (u',q3z σ b)) (h:opU T σ tm op=some (u,σ)):False:=by
 rw [h'] at h
 simp only [zA,zB] at h
 have:=congrArg Sg.nx h.2
 simp only [q3z] at this
 omega
structure KA (P:Program) (T:Tb) (ops:List Oper) (nb:Nat) (σe:Sg) (x:RK):Prop where
 good:Good P T ops x.2
 sm:x.1≠3→x.1≠7→x.2.s'=x.2.s
 act:x.2.act=true↔(x.1=2∨x.1=3∨x.1=7)
 mv:x.2.act=false→(x.2.mv=true↔x.1=4)
 lk:x.2.act=false→q07 ops x.2.tm x.2.o=some true→opU T x.2.s x.2.tm x.2.o.op=some (x.2.u,x.2.s')→x.1=1∨x.1=5
 ear:x.2.act=false→x.2.mv=false→x.1=1∨(Bel nb x.2.u∧(q07 ops x.2.tm x.2.o=some true→opU T x.2.s x.2.tm x.2.o.op=some (x.2.u,x.2.s')→qto x.2.o.op=true∧opU T σe x.2.tm x.2.o.op=some (x.2.u,σe)))
theorem ra_ok {P:Program} {T:Tb} {ops:List Oper} {nb:Nat} {σe:Sg} {qa:List Al}:∀ (rest:List Oper) (tm:List U) (σ:Sg) (acc:List RK) (q:List Al) (K:List RK→List U→Sg→Prop),RA P T ops nb σe qa rest tm σ acc q K →
  ∃ (ks:List RK) (tm':List U) (σ':Sg),K (ks.reverse++acc) tm' σ'∧ks.length=rest.length∧uAt (ks.map (·.2)) σ' 0=σ∧vAt (ks.map (·.2)) tm' 0=tm ∧
   (∀ (i:Nat) (x:RK),ks[i]? = some x→rest[i]? = some x.2.o∧KA P T ops nb σe x∧uAt (ks.map (·.2)) σ' (i+1)=x.2.s'∧vAt (ks.map (·.2)) tm' (i+1)=q3t x.2.tm x.2.o.dst x.2.u) ∧
   (∀ (i:Nat) (x:RK),ks[i]? = some x→x.1=7→∃ KK c c' e,Loc T ops qa (acc.length+i) x.2 KK c c' e) ∧
   (∀ (i:Nat) (x:RK),ks[i]? = some x→x.1=4→∃ al∈q,al.i=acc.length+i) ∧
   (∀ al∈q,∃ (i:Nat) (x:RK) (d:Tmp),al.i=acc.length+i∧ks[i]? = some x∧x.1=4∧x.2.u=alU al.o al.k∧(∀ s,opU T s x.2.tm x.2.o.op=some (alU al.o s.nx,q3z s (.row al.l al.e)))∧x.2.o.guard=none∧x.2.o.dst=some d)
 | [],tm,σ,acc,q,K,h=>by
  obtain ⟨rfl,h⟩:=h
  exact ⟨[],tm,σ,h,rfl,rfl,rfl,fun i x hx=>by simp at hx,fun i x hx=>by simp at hx,fun i x hx=>by simp at hx,fun al h=>by cases h⟩
 | o::rest,tm,σ,acc,q,K,h=>by
  have step:∀ (k:Nat) (u:U) (ac mv:Bool) (σ1:Sg) (q':List Al),RA P T ops nb σe qa rest (q3t tm o.dst u) σ1 ((k,⟨tm,o,u,ac,mv,σ,σ1⟩)::acc) q' K→KA P T ops nb σe (k,⟨tm,o,u,ac,mv,σ,σ1⟩) →
    (k=7→∃ KK c c' e,Loc T ops qa acc.length ⟨tm,o,u,ac,mv,σ,σ1⟩ KK c c' e) →
    (k≠4∧q=q'∨∃ al d,q=al::q'∧al.i=acc.length∧k=4∧u=alU al.o al.k∧(∀ s,opU T s tm o.op=some (alU al.o s.nx,q3z s (.row al.l al.e)))∧o.guard=none∧o.dst=some d) →
    ∃ (ks:List RK) (tm':List U) (σ':Sg),K (ks.reverse++acc) tm' σ'∧ks.length=(o::rest).length∧uAt (ks.map (·.2)) σ' 0=σ∧vAt (ks.map (·.2)) tm' 0=tm ∧
     (∀ (i:Nat) (x:RK),ks[i]? = some x→(o::rest)[i]? = some x.2.o∧KA P T ops nb σe x∧uAt (ks.map (·.2)) σ' (i+1)=x.2.s'∧vAt (ks.map (·.2)) tm' (i+1)=q3t x.2.tm x.2.o.dst x.2.u) ∧
     (∀ (i:Nat) (x:RK),ks[i]? = some x→x.1=7→∃ KK c c' e,Loc T ops qa (acc.length+i) x.2 KK c c' e) ∧
     (∀ (i:Nat) (x:RK),ks[i]? = some x→x.1=4→∃ al∈q,al.i=acc.length+i) ∧
     (∀ al∈q,∃ (i:Nat) (x:RK) (d:Tmp),al.i=acc.length+i∧ks[i]? = some x∧x.1=4∧x.2.u=alU al.o al.k∧(∀ s,opU T s x.2.tm x.2.o.op=some (alU al.o s.nx,q3z s (.row al.l al.e)))∧x.2.o.guard=none∧x.2.o.dst=some d):=by
   intro k u ac mv σ1 q' h hk hloc hq
   obtain ⟨ks,tm',σ',g1,g2,g3,g4,g5,g9,g6,g7⟩:=ra_ok rest _ _ _ _ _ h
   refine ⟨(k,⟨tm,o,u,ac,mv,σ,σ1⟩)::ks,tm',σ',by simpa using g1,by simp [g2],rfl,rfl,fun i x hx=>?_,fun i x hx h7=>?_,fun i x hx h4=>?_,fun al hal=>?_⟩
   ·cases i with
    | zero =>
     simp at hx; subst hx
     refine ⟨rfl,hk,?_,?_⟩
     ·simp only [uAt,zQ,zH]; exact g3
     ·simp only [vAt,zQ,zH]; exact g4
    | succ i =>
     simp only [zH] at hx
     obtain ⟨k1,k2,k3,k4⟩:=g5 i x hx
     refine ⟨by simpa using k1,k2,?_,?_⟩
     ·simp only [uAt,zQ,zH]; exact k3
     ·simp only [vAt,zQ,zH]; exact k4
   ·cases i with
    | zero =>
     simp at hx; subst hx
     exact hloc h7
    | succ i =>
     simp only [zH] at hx
     have:=g9 i x hx h7
     have e:((k,(⟨tm,o,u,ac,mv,σ,σ1⟩:q39))::acc).length+i=acc.length+(i+1):=by simp; omega
     rwa [e] at this
   ·cases i with
    | zero =>
     simp at hx; subst hx
     rcases hq with ⟨hne,_⟩ | ⟨al,d,rfl,hi,_⟩
     ·exact absurd h4 hne
     ·exact ⟨al,by simp,by omega⟩
    | succ i =>
     simp only [zH] at hx
     obtain ⟨al,h1,h2⟩:=g6 i x hx h4
     refine ⟨al,?_,by simp at h2; omega⟩
     rcases hq with ⟨_,rfl⟩ | ⟨al',d,rfl,_⟩
     ·exact h1
     ·exact List.mem_cons_of_mem _ h1
   ·have later:al∈q'→∃ (i:Nat) (x:RK) (d:Tmp),al.i=acc.length+i∧((k,(⟨tm,o,u,ac,mv,σ,σ1⟩:q39))::ks)[i]? = some x∧x.1=4∧x.2.u=alU al.o al.k∧(∀ s,opU T s x.2.tm x.2.o.op=some (alU al.o s.nx,q3z s (.row al.l al.e)))∧x.2.o.guard=none∧x.2.o.dst=some d:=fun hm=>by
     obtain ⟨i,x,d,h1,h2,h3⟩:=g7 al hm
     exact ⟨i+1,x,d,by simp at h1; omega,by simpa using h2,h3⟩
    rcases hq with ⟨_,rfl⟩ | ⟨al',d,rfl,hi,hk4,hu,ho,hg,hd⟩
    ·exact later hal
    ·rcases zI.1 hal with rfl | hal
     ·exact ⟨0,_,d,by omega,rfl,hk4,hu,ho,hg,hd⟩
     ·exact later hal
  simp only [RA] at h
  rcases h with ⟨hw,u,h1,h2⟩ | ⟨hw,u,σ1,h1,h2⟩ | ⟨hw,f,args,u,h1,h2,h3⟩ | ⟨hw,f,args,u,σ1,h1,h2,h3⟩ | ⟨hw,h1⟩ | ⟨hw,u,h1,hb,h3⟩ | ⟨hw,u,h1,h2,h3,hb,h4⟩ | ⟨al,q',d,hq,hi,ho,hg,hd,h1⟩ | ⟨hw,u,KK,c,c',e,mk,hmk,hd,hg,hrun,hnm,hlp,h1⟩
  ·exact step 1 u false false σ q h2 ⟨.inr (.inl ⟨hw,h1,fun _=>rfl⟩),fun _ _=>rfl,by simp,by simp,fun _ _ _=>.inl rfl,fun _ _=>.inl rfl⟩ (fun h=>by omega) (.inl ⟨by omega,rfl⟩)
  ·exact step 3 u true true σ1 q h2 ⟨.inr (.inl ⟨hw,h1,by simp⟩),by simp,by simp,by simp,by simp,by simp⟩ (fun h=>by omega) (.inl ⟨by omega,rfl⟩)
  ·exact step 2 u true false σ q h3 ⟨.inr (.inr (.inl ⟨hw,rfl,f,args,h1,h2⟩)),fun _ _=>rfl,by simp,by simp,by simp,by simp⟩ (fun h=>by omega) (.inl ⟨by omega,rfl⟩)
  ·exact step 3 u true true σ1 q h3 ⟨.inr (.inr (.inl ⟨hw,rfl,f,args,h1,h2⟩)),by simp,by simp,by simp,by simp,by simp⟩ (fun h=>by omega) (.inl ⟨by omega,rfl⟩)
  ·exact step 0 _ false false σ q h1 ⟨.inl ⟨hw,rfl,rfl,rfl⟩,fun _ _=>rfl,by simp,by simp,(fun _ h=>by rw [hw] at h; cases h),fun _ _=>.inr ⟨by simp [Bel,q1g],fun h=>by rw [hw] at h; cases h⟩⟩ (fun h=>by omega) (.inl ⟨by omega,rfl⟩)
  ·exact step 6 u false false σ q h3 ⟨.inr (.inr (.inr (.inl ⟨hw,rfl,rfl,h1⟩))),fun _ _=>rfl,by simp,by simp,(fun _ _ h=>absurd h (h1.noop _)),fun _ _=>.inr ⟨hb,fun _ h=>absurd h (h1.noop _)⟩⟩ (fun h=>by omega) (.inl ⟨by omega,rfl⟩)
  ·exact step 5 u false false σ q h4 ⟨.inr (.inl ⟨hw,h1,fun _=>rfl⟩),fun _ _=>rfl,by simp,by simp,fun _ _ _=>.inr rfl,fun _ _=>.inr ⟨hb,fun _ _=>⟨h3,h2⟩⟩⟩ (fun h=>by omega) (.inl ⟨by omega,rfl⟩)
  ·exact step 4 _ false true σ q' h1 ⟨.inr (.inr (.inr (.inr (.inl ⟨rfl,rfl,rfl⟩)))),fun _ _=>rfl,by simp,by simp,(fun _ _ h=>(z1q (ho _) h).elim),by simp⟩ (fun h=>by omega) (.inr ⟨al,d,hq,hi,rfl,rfl,ho,hg,hd⟩)
  ·exact step 7 u true true _ q h1 ⟨.inr (.inl ⟨hw,hrun σ hg,by simp⟩),by simp,by simp,by simp,by simp,by simp⟩ (fun _=>⟨KK,c,c',e,⟨hnm,hg,rfl,hd,hrun,fun al hm=>by
    rcases qzc hlp al hm with h | h
    ·exact .inl ⟨mk,hmk,h⟩
    ·exact .inr h,hw⟩⟩) (.inl ⟨by omega,rfl⟩)
def kf (k:Nat):Nat:=cond (Nat.beq k 4) 0 (cond (Nat.beq k 5) 1 (cond (Nat.beq k 6) 0 (cond (Nat.beq k 7) 3 k)))
def lateB (ai:List Nat) (m:Nat):Bool:=ai.all fun i=>Nat.testBit m i
def qwo (ai:List Nat):List Nat→List Nat→Bool
 | k::ks,m::ms=>cond (Nat.ble 1 k) (cond (Nat.ble k 3) (lateB ai m) true) true&&qwo ai ks ms
 | [],_=>true
 | _::_,[]=>false
theorem qv0 {ai:List Nat}:∀ {ks ms:List Nat},qwo ai ks ms=true→∀ {i k:Nat},ks[i]? = some k→1≤k→k≤3→∃ m,ms[i]? = some m∧∀ a∈ai,m.testBit a=true
 | [],ms,_,i,k,hk,_,_=>by simp at hk
 | _::_,[],h,_,_,_,_,_=>by simp [qwo] at h
 | k0::ks,m0::ms,h,i,k,hk,h1,h3=>by
  simp only [qwo,Bool.and_eq_true] at h
  cases i with
  | zero =>
   simp at hk; subst hk
   have a1:Nat.ble 1 k0=true:=by rw [Nat.ble_eq]; exact h1
   have a2:Nat.ble k0 3=true:=by rw [Nat.ble_eq]; exact h3
   have:=h.1
   rw [a1,a2] at this
   simp only [zC,lateB,List.all_eq_true] at this
   exact ⟨m0,rfl,this⟩
  | succ i =>
   simp only [zH] at hk ⊢
   exact qv0 h.2 hk h1 h3
section
variable {P:Program} {T:Tb}
theorem chU_of {ops : Array Oper} {nb : Nat} {σe : Sg} {tm : List U} {σ : Sg} {ks : List RK} {tm' : List U} {σ' : Sg} {pr : List (Nat × Nat)} (hst : q6g ops.toList = true) (htr : TrU P T ops.toList tm σ (ks.map (·.2)) tm' σ')
    (hkk : ∀ (i : Nat) (x : RK), ks[i]? = some x → KA P T ops.toList nb σe x) (hfl : flE ops.toList (ks.map fun x => kf x.1) pr = true) (hpr : qk4 T ks pr) : ChU T ops.toList (ks.map (·.2)) := by
  have hlen : (ks.map (·.2)).length = ops.toList.length := htr.len
  have same : ∀ (p q : Nat), p ≤ q → q ≤ ks.length → (∀ (e : Nat) (x : RK), p ≤ e → e < q → ks[e]? = some x → x.1 ≠ 3 ∧ x.1 ≠ 7) → uAt (ks.map (·.2)) σ' p = uAt (ks.map (·.2)) σ' q := by
    intro p q hpq hq hno
    induction q with
    | zero => have : p = 0 := by omega
              rw [this]
    | succ q ih =>
      rcases Nat.lt_or_ge q p with h | h
      · have : p = q + 1 := by omega
        rw [this]
      · rw [ih h (by omega) fun e r h1 h2 h3 => hno e r h1 (by omega) h3]
        have hr : ks[q]? = some ks[q] := by simp [show q < ks.length by omega]
        have hr2 : (ks.map (·.2))[q]? = some ks[q].2 := by simp [hr]
        have k3 := (htr.all q _ hr2).2.2.1
        rw [k3, (hkk q _ hr).sm (hno q _ h (zN _) hr).1 (hno q _ h (zN _) hr).2]
        simp [uAt, hr2]
  have at_ : ∀ (i : Nat) (r : q39), (ks.map (·.2))[i]? = some r → ∃ k, ks[i]? = some (k, r) := by
    intro i r hr
    simp only [List.getElem?_map] at hr
    cases hk : ks[i]? with
    | none => rw [hk] at hr; simp at hr
    | some x =>
      obtain ⟨k, r'⟩ := x
      rw [hk] at hr; simp at hr; subst hr
      exact ⟨k, rfl⟩
  have trp : ∀ (i k : Nat) (r : q39), ks[i]? = some (k, r) → ∃ m, (masks ops.toList [])[i]? = some m ∧ (trip 0 (ks.map fun x => kf x.1) (masks ops.toList []))[i]? = some (kf k, m, qez ((ks.map fun x => kf x.1).take i)) := by
    intro i k r hk
    obtain ⟨m1, _, _⟩ := qfi ops.toList []
    have hi : i < ops.toList.length := by rw [← hlen]; simp only [List.length_map]; exact (zG.1 hk).1
    have hm : i < (masks ops.toList []).length := by rw [m1]; simpa using hi
    refine ⟨(masks ops.toList [])[i], by simp [hm], ?_⟩
    have := qu7 (ks.map fun x => kf x.1) (masks ops.toList []) 0 i (kf k) _ (by simp [hk]) (show (masks ops.toList [])[i]? = some (masks ops.toList [])[i] by simp [hm])
    rwa [Nat.zero_add] at this
  have chk : ∀ (i k ki kk : Nat) (r q : q39), ks[i]? = some (ki, r) → ks[k]? = some (kk, q) → ∃ mi mk, (masks ops.toList [])[i]? = some mi ∧ (masks ops.toList [])[k]? = some mk ∧
      okE pr i (kf ki, mi, qez ((ks.map fun x => kf x.1).take i)) k (kf kk, mk, qez ((ks.map fun x => kf x.1).take k)) = true := by
    intro i k ki kk r q hi hk
    obtain ⟨mi, e1, e2⟩ := trp i ki r hi
    obtain ⟨mk, e3, e4⟩ := trp k kk q hk
    refine ⟨mi, mk, e1, e3, ?_⟩
    have h1 := qm2 hfl e2
    have h2 := qm2 h1 e4
    simpa using h2
  have nomv : ∀ (p q : Nat), p ≤ q → q ≤ ks.length → qez ((ks.map fun x => kf x.1).take p) = qez ((ks.map fun x => kf x.1).take q) → uAt (ks.map (·.2)) σ' p = uAt (ks.map (·.2)) σ' q := by
    intro p q hpq hq hc
    refine same p q hpq hq fun e x h1 h2 h3 => ?_
    have := quh hpq (by simp; omega) hc e (kf x.1) h1 h2 (by simp [h3])
    exact ⟨fun h4 => this (by rw [h4]; rfl), fun h4 => this (by rw [h4]; rfl)⟩
  have kact : ∀ (i : Nat) (r : q39), (ks.map (·.2))[i]? = some r → r.act = true → ∃ k, ks[i]? = some (k, r) ∧ Nat.ble 2 (kf k) = true ∧ (k = 2 ∨ k = 3 ∨ k = 7) := by
    intro i r hr ha
    obtain ⟨k, hk⟩ := at_ i r hr
    have := (hkk i _ hk).act.1 ha
    refine ⟨k, hk, ?_, this⟩
    rcases this with h | h | h <;> (simp only [] at h; subst h; rfl)
  have kqu : ∀ (i : Nat) (r : q39), (ks.map (·.2))[i]? = some r → r.act = false → q07 ops.toList r.tm r.o = some true → opU T r.s r.tm r.o.op = some (r.u, r.s') → ∃ k, ks[i]? = some (k, r) ∧ kf k = 1 := by
    intro i r hr ha hw hl
    obtain ⟨k, hk⟩ := at_ i r hr
    refine ⟨k, hk, ?_⟩
    rcases (hkk i _ hk).lk ha hw hl with h | h <;> (simp only [] at h; subst h; rfl)
  have succ : ∀ (l : List Nat) (a k : Nat), l[a]? = some k → qez (l.take (a + 1)) = qez (l.take a) + isM k := by
    intro l
    induction l with
    | nil => intro a k h; simp at h
    | cons x l ih =>
      intro a k h
      cases a with
      | zero => simp at h; subst h; simp [qez]
      | succ a => simp only [zH] at h; simp only [List.take_succ_cons, qez]; rw [ih a k h]; omega
  have hb1 : Nat.ble 2 1 = false := rfl
  have hb2 : Nat.beq 1 1 = true := rfl
  refine ⟨fun i k r q hr hq ha hb hlt => ?_, fun i k r q hr hq ha hw hl hb hlt => ?_, fun i k r q hr hq ha hw hl hb hlt => ?_⟩
  · obtain ⟨ki, h1, h2, _⟩ := kact i r hr ha
    obtain ⟨kk, h3, h4, _⟩ := kact k q hq hb
    obtain ⟨mi, mk, e1, e2, e3⟩ := chk i k ki kk r q h1 h3
    simp only [okE, h2, h4, zC, q3l hlt] at e3
    exact ⟨mi, e1, e3⟩
  · obtain ⟨ki, h1, hk1⟩ := kqu i r hr ha hw hl
    obtain ⟨kk, h3, h4, _⟩ := kact k q hq hb
    obtain ⟨mi, mk, e1, e2, e3⟩ := chk i k ki kk r q h1 h3
    simp only [okE, hk1, hb1, hb2, h4, zC, zD, q3l hlt, Bool.or_eq_true] at e3
    rcases e3 with e3 | e3 | e3
    · exact .inl ⟨mi, e1, e3⟩
    · have := nomv k i (by omega) (by have := (zG.1 h1).1; omega) (Nat.eq_of_beq_eq_true e3)
      exact .inr (.inl (by simpa [uAt, h1, h3] using this))
    · have := qas hpr _ (qmz e3)
      simp only [qoq, q1k, h1, h3, q3l hlt, zC] at this
      exact .inr (.inr this)
  · obtain ⟨ki, h1, hk1⟩ := kqu i r hr ha hw hl
    obtain ⟨kk, h3, h4, _⟩ := kact k q hq hb
    obtain ⟨mi, mk, e1, e2, e3⟩ := chk i k ki kk r q h1 h3
    simp only [okE, hk1, hb1, hb2, h4, zC, zD, q9f (show ¬ k < i by omega), Bool.or_eq_true] at e3
    rcases e3 with e3 | e3 | e3
    · exact .inl ⟨mk, e2, e3⟩
    · have hc : qez ((ks.map fun x => kf x.1).take i) = qez ((ks.map fun x => kf x.1).take (k + 1)) := by
        rw [succ _ k (kf kk) (by simp [h3])]; exact Nat.eq_of_beq_eq_true e3
      have := nomv i (k + 1) (by omega) (by have := (zG.1 h3).1; omega) hc
      have h2 := (htr.all k q hq).2.2.1
      rw [h2] at this
      exact .inr (.inl (by simpa [uAt, h1] using this.symm))
    · have := qas hpr _ (qmz e3)
      simp only [qoq, q1k, h1, h3, q9f (show ¬ k < i by omega), zD] at this
      exact .inr (.inr this)
end
def qw8:Sg→List (Nat×Option Nat×List U×TypeId)→Sg
 | σ,[]=>σ
 | σ,x::r=>qw8 (q3z σ (.row x.2.2.1 x.2.2.2)) r
def qqs:Nat→List (Nat×Option Nat×List U×TypeId)→List Al
 | _,[]=>[]
 | n,x::r=>⟨x.1,n,x.2.1,x.2.2.1,x.2.2.2⟩::qqs (n+1) r
theorem qjp:∀ (L:List (Nat×Option Nat×List U×TypeId)) (σ:Sg),(qw8 σ L).nx=σ.nx+L.length
 | [],σ=>rfl
 | x::r,σ=>by simp only [qw8,qjp r,q3z,zO]; omega
theorem qoc:∀ {L:List (Nat×Option Nat×List U×TypeId)} {n:Nat} {al:Al},al∈qqs n L→n≤al.k∧al.k<n+L.length
 | [],n,al,h=>by cases h
 | x::r,n,al,h=>by
  rcases zI.1 h with rfl | h
  ·simp
  ·have:=qoc h; simp only [zO]; omega
theorem qxi:∀ {L:List (Nat×Option Nat×List U×TypeId)} {n:Nat} {a b:Al},a∈qqs n L→b∈qqs n L→a.k=b.k→a=b
 | [],n,a,b,h,_,_=>by cases h
 | x::r,n,a,b,ha,hb,hk=>by
  rcases zI.1 ha with rfl | ha
  ·rcases zI.1 hb with rfl | hb
   ·rfl
   ·have:=qoc hb; simp only at hk; omega
  ·rcases zI.1 hb with rfl | hb
   ·have:=qoc ha; simp only at hk; omega
   ·exact qxi ha hb hk
theorem qp7:∀ (L:List (Nat×Option Nat×List U×TypeId)) (σ:Sg) {j:Nat},(∀ al∈qqs σ.nx L,al.k≠j)→gt (qw8 σ L).h j=gt σ.h j
 | [],σ,j,_=>rfl
 | x::r,σ,j,hj=>by
  have h1:=hj ⟨x.1,σ.nx,x.2.1,x.2.2.1,x.2.2.2⟩ (by simp [qqs])
  simp only [qw8]
  rw [qp7 r (q3z σ (.row x.2.2.1 x.2.2.2)) fun al hm=>hj al (by simp only [qqs,zI]; exact .inr hm)]
  simp only [q3z,q11]
  rw [if_neg h1]
theorem qu9:∀ {L:List (Nat×Option Nat×List U×TypeId)} {σ:Sg} {al:Al},al∈qqs σ.nx L→gt (qw8 σ L).h al.k=some (.row al.l al.e)
 | [],σ,al,h=>by cases h
 | x::r,σ,al,h=>by
  rcases zI.1 h with rfl | h
  ·simp only [qw8]
   rw [qp7 r (q3z σ (.row x.2.2.1 x.2.2.2)) fun al hm=>?_]
   ·simp [q3z,q11]
   ·have:=qoc hm; simp only [q3z] at this; omega
  ·exact qu9 (σ:=q3z σ (.row x.2.2.1 x.2.2.2)) h
def qw6:List (Nat×Option Nat×List U×TypeId)→Prop
 | []=>True
 | x::r=>q1g 0 x.2.2.1∧qw6 r
theorem qst:∀ {L:List (Nat×Option Nat×List U×TypeId)} {n:Nat},qw6 L→∀ al∈qqs n L,q1g 0 al.l
 | [],n,_,al,h=>by cases h
 | x::r,n,hz,al,h=>by
  rcases zI.1 h with rfl | h
  ·exact hz.1
  ·exact qst hz.2 al h
section
variable {C:PG} {T:Tb} (hT:qet C.prog T) {n0:Nat} {Q:Exit→List U→Sg→Prop} {tm:List U} {σ:Sg}
include hT
theorem WPU.drawA {id:Nat} {ops:Array Oper} (L:List (Nat×Option Nat×List U×TypeId)) (pr:List (Nat×Nat)) (hst:q6g ops.toList=true) (hL:L≠[]) (hz:qw6 L)
  (h:RA C.prog T ops.toList σ.nx ⟨σ.h,σ.nx+L.length⟩ (qqs σ.nx L) ops.toList tm (qw8 σ L) [] (qqs σ.nx L) (fun ks tm' σ'=>flE ops.toList (ks.reverse.map fun x=>kf x.1) pr=true∧qwo (L.map (·.1)) (ks.reverse.map (·.1)) (masks ops.toList [])=true∧qk4 T ks.reverse pr∧Q .normal tm' σ')):WPU C n0 (.region id ops true) tm σ Q:=fun hn F x tv m w a b0 hx st hG hd ro hro=>by
 obtain ⟨ks,tm',σ',⟨hfl,hlate,hpr,hQ⟩,g2,g3,g4,g5,g9,g6,g7⟩:=ra_ok _ _ _ _ _ _ h
 simp only [List.append_nil,List.reverse_reverse,zS,Nat.zero_add] at hfl hlate hpr g6 g7 g9
 have ati:∀ (i:Nat) (r:q39),(ks.map (·.2))[i]? = some r→∃ k,ks[i]? = some (k,r):=by
  intro i r hr
  simp only [List.getElem?_map] at hr
  cases hk:ks[i]? with
  | none=>rw [hk] at hr; simp at hr
  | some x =>
   obtain ⟨k,r'⟩:=x
   rw [hk] at hr; simp at hr; subst hr
   exact ⟨k,rfl⟩
 have htr:TrU C.prog T ops.toList tm (qw8 σ L) (ks.map (·.2)) tm' σ':=⟨by simpa using g2,g3,g4,fun i r hr=>by
  obtain ⟨k,hk⟩:=ati i r hr
  obtain ⟨a,b,c,d⟩:=g5 i _ hk
  exact ⟨a,b.good,c,d⟩⟩
 have hch:ChU T ops.toList (ks.map (·.2)):=chU_of hst htr (fun i x hx=>(g5 i x hx).2.1) hfl hpr
 have inai:∀ al∈qqs σ.nx L,al.i∈L.map (·.1):=by
  have:∀ (L:List (Nat×Option Nat×List U×TypeId)) (n:Nat),∀ al∈qqs n L,al.i∈L.map (·.1):=by
   intro L
   induction L with
   | nil=>intro n al h; cases h
   | cons x r ih =>
    intro n al h
    rcases zI.1 h with rfl | h
    ·simp
    ·simp only [zQ,zI]; exact .inr (ih _ al h)
  exact this L σ.nx
 have late:∀ (i k:Nat) (r:q39),ks[i]? = some (k,r)→1≤k→k≤3→∀ al∈qqs σ.nx L,Pre ops.toList i al.i:=fun i k r hk h1 h3 al hm=>by
  obtain ⟨mk,e1,e2⟩:=qv0 hlate (i:=i) (k:=k) (by simp [hk]) h1 h3
  exact ⟨mk,e1,e2 _ (inai al hm)⟩
 have hal:ChA C.prog T ops.toList tm σ (qw8 σ L) (ks.map (·.2)) (qqs σ.nx L):=by
  refine ⟨?_,fun al hm=>by rw [qjp]; exact qoc hm,fun a ha b hb hk=>by rw [qxi ha hb hk],by rw [qjp]; omega,fun al hm=>?_,qst hz,fun i r hr ha hv=>?_,fun al hm=>qu9 hm,fun j hj=>qp7 L σ hj,fun i r hr ha=>?_,fun i r hr ha hv=>?_⟩
  ·cases L with
   | nil=>exact absurd rfl hL
   | cons x r=>simp [qqs]
  ·obtain ⟨i,x,d,e1,e2,e3,e4,e5,e6,e7⟩:=g7 al hm
   have hk:=(g5 i x e2).2.1
   have hact:x.2.act=false:=by
    cases hb:x.2.act with
    | false=>rfl
    | true=>have:=hk.act.1 hb; omega
   exact ⟨x.2,d,by rw [e1]; simp [e2],e4,hact,(hk.mv hact).2 e3,e5,e6,e7⟩
  ·obtain ⟨k,hk⟩:=ati i r hr
   have:=((g5 i _ hk).2.1.mv ha).1 hv
   exact g6 i _ hk this
  ·obtain ⟨k,hk⟩:=ati i r hr
   have:=(g5 i _ hk).2.1.act.1 ha
   simp only [] at this
   by_cases h7:k=7
   ·exact .inr (g9 i _ hk h7)
   ·exact .inl (late i k r hk (by omega) (by omega))
  ·obtain ⟨k,hk⟩:=ati i r hr
   rcases (g5 i _ hk).2.1.ear ha hv with h | h
   ·simp only [] at h
    exact .inl (late i k r hk (by omega) (by omega))
   ·rw [qjp]; exact .inr h
 subst hx
 have hup:Mo x.σ.nx x ⟨x.ρ,⟨x.σ.h,(qw8 x.σ L).nx⟩,x.s⟩:=⟨fun k _ h2=>⟨by simp only [qjp]; omega,fun b hb=>⟨b,hb,zF _,fun _=>⟨rfl,fun l e sz st h=>⟨l,h⟩⟩⟩⟩,fun _ _ _ h=>h⟩
 have hbr:∀ j b,gt x.σ.h j=some b→j<x.σ.nx∧qkq x.σ.nx b:=fun j b hb=>⟨(st.h.ok j b hb).1,(st.h.ok j b hb).2.belB⟩
 have hno:∀ k,(Array.replicate ops.size false).getD k false=false:=fun k=>by
  by_cases hk:k<ops.size<;>simp [Array.getD,hk]
 refine wpIn_region_any hT.mixed ?_
 refine z5d (ro:=ro) hT ops htr hst hch hal hn st.e.bel hbr (F:=F) (x0:=x) (m0:=m) (w0:=w) (df:=a.defers) (fun y tv' m' w' a' h1 h2 h3 h4 h5 h6=>⟨y,tm',tv',m',h1 ▸ hQ,h2,h3,h4,h5,by rw [h6]; exact hd.adv st.fits h3⟩) ops.size (Array.replicate ops.size false) a _ m tm tv ⟨x.ρ,⟨x.σ.h,(qw8 x.σ L).nx⟩,x.s⟩ 0 (Nat.zero_le _) (fun e r _ _=>by rw [hno]; simp) (by simp) (by simp) ?_ ?_ ?_ rfl ?_ (fun _ _=>rfl) ?_ ?_ (hup.ke.le hn) rfl
 ·intro k q hk; rw [hno] at hk; cases hk
 ·have:=qgm (rs:=ks.map (·.2)) (tm₀:=tm)
  exact ⟨this.len,fun k r d _ _ _ hL=>(by rw [hno] at hL; cases hL),fun k r d g1 g2 _=>this.no k r d g1 g2 (fun x=>x),this.other⟩
 ·cases hA:qqs x.σ.nx L with
  | nil=>exact absurd hA hal.some
  | cons al r=>exact ⟨al,by simp,by rw [hno]; simp⟩
 ·intro al hm
  rw [hno]
  simp only [Bool.false_eq_true,if_false]
  cases hg:gt x.σ.h al.k with
  | none=>rfl
  | some b=>have:=(hbr _ _ hg).1; have:=(qoc hm).1; omega
 ·refine ⟨⟨fun k b hb=>?_,st.h.inj,st.h.bd⟩,st.fr,hup.ke.E st.e.bel st.e,(Adv.draw _ st.fits).fits,st.act⟩
  obtain ⟨h1,h2⟩:=st.h.ok k b hb
  exact ⟨by simp only [qjp]; omega,h2.mono hup rfl fun _ _ _ h=>h⟩
 ·exact Adv.draw _ st.fits
end
end Go.Vx
end
section
namespace Go.Vx
open Go Go.Rx
section
variable {P:Program} {T:Tb} {ops r:List Oper} {o:Oper} {n nb:Nat} {σe:Sg} {l:List (Nat×U)} {σ σ':Sg} {acc:List RK} {q qa:List Al} {K:List RK→List U→Sg→Prop} {u:U}
theorem RQ.act (hw:q07 ops (fr n l) o=some true) (h:opU T σ (fr n l) o.op=some (u,σ')) {d:Tmp} (he:o.dst=some d) (hd:Nat.blt d n=true) (hk:RA P T ops nb σe qa r (fr n ((d,u)::l)) σ' ((3,⟨fr n l,o,u,true,true,σ,σ'⟩)::acc) q K):RA P T ops nb σe qa (o::r) (fr n l) σ acc q K :=
 .inr (.inl ⟨hw,u,σ',h,by rw [he,q52 (d:=some d) u hd]; exact hk⟩)
theorem RQ.actn (hw:q07 ops (fr n l) o=some true) (h:opU T σ (fr n l) o.op=some (u,σ')) (he:o.dst=none) (hk:RA P T ops nb σe qa r (fr n l) σ' ((3,⟨fr n l,o,u,true,true,σ,σ'⟩)::acc) q K):RA P T ops nb σe qa (o::r) (fr n l) σ acc q K :=
 .inr (.inl ⟨hw,u,σ',h,by rw [he]; exact hk⟩)
theorem RQ.call {f:FuncId} {args:List U} (hw:q07 ops (fr n l) o=some true) (hc:q4x T (fr n l) o.op=some (f,args)) (hev:EvU P f args σ (fun u' σ'=>u'=u∧σ'=σ)) {d:Tmp} (he:o.dst=some d) (hd:Nat.blt d n=true) (hk:RA P T ops nb σe qa r (fr n ((d,u)::l)) σ ((2,⟨fr n l,o,u,true,false,σ,σ⟩)::acc) q K):RA P T ops nb σe qa (o::r) (fr n l) σ acc q K :=
 .inr (.inr (.inl ⟨hw,f,args,u,hc,hev,by rw [he,q52 (d:=some d) u hd]; exact hk⟩))
theorem RQ.early (hw:q07 ops (fr n l) o=some true) (h:opU T σ (fr n l) o.op=some (u,σ)) (h0:opU T σe (fr n l) o.op=some (u,σe)) (hn:qto o.op=true) (hb:Bel nb u) {d:Tmp} (he:o.dst=some d) (hd:Nat.blt d n=true) (hk:RA P T ops nb σe qa r (fr n ((d,u)::l)) σ ((5,⟨fr n l,o,u,false,false,σ,σ⟩)::acc) q K):RA P T ops nb σe qa (o::r) (fr n l) σ acc q K :=
 .inr (.inr (.inr (.inr (.inr (.inr (.inl ⟨hw,u,h,h0,hn,hb,by rw [he,q52 (d:=some d) u hd]; exact hk⟩))))))
theorem RQ.alloc {al:Al} (hi:al.i=acc.length) (ho:∀ s,opU T s (fr n l) o.op=some (alU al.o s.nx,q3z s (.row al.l al.e))) (hg:o.guard=none) {d:Tmp} (he:o.dst=some d) (hd:Nat.blt d n=true) (hk:RA P T ops nb σe qa r (fr n ((d,alU al.o al.k)::l)) σ ((4,⟨fr n l,o,alU al.o al.k,false,true,σ,σ⟩)::acc) q K):RA P T ops nb σe qa (o::r) (fr n l) σ acc (al::q) K :=
 .inr (.inr (.inr (.inr (.inr (.inr (.inr (.inl ⟨al,q,d,rfl,hi,ho,hg,he,by rw [he,q52 (d:=some d) _ hd]; exact hk⟩)))))))
theorem hasK {qa:List Al} {K:Nat} (h:(qa.any fun al=>Nat.beq al.k K)=true):∃ al∈qa,al.k=K:=by
 obtain ⟨al,h1,h2⟩:=List.any_eq_true.1 h
 exact ⟨al,h1,Nat.eq_of_beq_eq_true h2⟩
theorem RQ.loc {KK mk:Nat} {c c':List U} {e:TypeId} {σ':Sg} (hw:q07 ops (fr n l) o=some true) (hrun:∀ τ:Sg,gt τ.h KK=some (.row c e)→opU T τ (fr n l) o.op=some (u,⟨ug τ.h KK (.row c' e),τ.nx⟩)) (hmk:(masks ops [])[acc.length]? = some mk) (hd:o.dst=none) (hg:gt σ.h KK=some (.row c e)) (hs:(⟨ug σ.h KK (.row c' e),σ.nx⟩:Sg)=σ')
  (hn:(qa.any fun al=>Nat.beq al.k KK)=true) (hl:locP mk KK c' qa) (hk:RA P T ops nb σe qa r (fr n l) σ' ((7,⟨fr n l,o,u,true,true,σ,σ'⟩)::acc) q K):RA P T ops nb σe qa (o::r) (fr n l) σ acc q K:=by
 subst hs
 exact .inr (.inr (.inr (.inr (.inr (.inr (.inr (.inr ⟨hw,u,KK,c,c',e,mk,hmk,hd,hg,hrun,hasK hn,hl,by rw [hd]; exact hk⟩)))))))
theorem z0p {t:TypeId} {a x:Operand} {v:U} {k off sz:Nat} {cs c c':List U} {e:TypeId} (hs:q0j T t=some sz) (ha:evS n l a=some (.ptr k 0 off)) (hx:evS n l x=some v) (hc:q6z v=some cs) (hl:Nat.beq cs.length sz=true) (hk:okL cs=true) (hp:qk9 c off cs=some c') (τ:Sg) (hg:gt τ.h k=some (.row c e)) :
  opU T τ (fr n l) (.store t a x)=some (.junk,⟨ug τ.h k (.row c' e),τ.nx⟩):=by
 have hb:Nat.beq 0 0=true:=rfl
 exact qpz hs ha hx hc hl hk (q:=c) (q':=c') (by simp only [cellsOf,hg,hb,zC]) (by simp only [wkB,hg]; exact hp) (by simp only [qn7,hg])
theorem RQ.done (h:K acc (fr n l) σ):RA P T ops nb σe qa [] (fr n l) σ acc [] K:=⟨rfl,h⟩
end
section
variable {C:PG} {T:Tb} (hT:qet C.prog T) {n0:Nat} {Q:Exit→List U→Sg→Prop} {tm:List U} {σ:Sg}
include hT
theorem WPU.drawQ {id:Nat} {ops:Array Oper} (L:List (Nat×Option Nat×List U×TypeId)) (pr:List (Nat×Nat)) {nb:Nat} {σe σ1:Sg} {q:List Al} (hst:q6g ops.toList=true) (hL:L≠[]) (hz:qw6 L)
  (h1:σ.nx=nb) (h2:(⟨σ.h,σ.nx+L.length⟩:Sg)=σe) (h3:qw8 σ L=σ1) (h4:qqs σ.nx L=q)
  (h:RA C.prog T ops.toList nb σe q ops.toList tm σ1 [] q (fun ks tm' σ'=>flE ops.toList (ks.reverse.map fun x=>kf x.1) pr=true∧qwo (L.map (·.1)) (ks.reverse.map (·.1)) (masks ops.toList [])=true∧qk4 T ks.reverse pr∧Q .normal tm' σ')):WPU C n0 (.region id ops true) tm σ Q:=by
 subst h1 h2 h3 h4
 exact WPU.drawA hT L pr hst hL hz h
end
end Go.Vx
end
section
namespace Go.Vx
open Go Go.Rx
theorem qrr {P:Program} {T:Tb} (hT:qet P T) {m:Nm} {s:S} (w:World) {t e:TypeId} {sz by_ n:Nat} {z:Value} {ps:List (Nat×Value)} {cps:List (Nat×Value)} {cs:List Value}
  (hps:∀ m',Agree s.nx m m'→ps.map (fun p=>(p.1,ren m' p.2))=cps) (hd:T.und t=some (.slice e)) (hi:T.inf e=some (sz,by_,z)) (h1:Nat.ble (n*sz) 16777216=true) (h2:z.cells.toList.length=sz)
  (h3:qjv (fun i=>some (i*sz,sz)) (zeros z.cells.toList n) ps=some cs) :
  ∃ cl,qi3 m s.nx cs cl∧(Instr.buildSlice t n cps.toArray).run P w = .ok (.slice (some ⟨w.heap.size,0,none⟩) n n) (w.alloc (.cells ⟨cl⟩ e)):=by
 have hsz:q0j T e=some sz:=by simp [q0j,hi]
 have hz:=fun m'=>q7l hT m' w hi
 have hzc:=qak hT hi
 simp only at hz hzc
 have h1':n*sz≤16777216:=by simpa [Nat.ble_eq] using h1
 have hfill:∀ m',Agree s.nx m m'→Instr.fill (fun i=>some (i*sz,sz)) ⟨zeros z.cells.toList n⟩ cps=some ⟨q0m m' cs⟩:=fun m' ha=>by
  have:=qmo m' _ ps _ _ h3
  rw [hps m' ha,qg3 hzc] at this
  exact this
 have hcl:qi3 m s.nx cs (q0m m cs):=fun m' ha=>by
  have e1:=hfill m' ha
  have e2:=hfill m (Agree.refl _ _)
  rw [e1] at e2
  simpa using e2
 have hcells:z.cells.size=sz:=by simpa using h2
 refine ⟨q0m m cs,hcl,?_⟩
 have hzeros:(Array.range (n*sz)).map (fun i=>(if n*sz=0 then (#[]:Array Value) else z.cells)[i % (if n*sz=0 then (#[]:Array Value) else z.cells).size]!)=⟨zeros z.cells.toList n⟩:=by
  by_cases h0:n*sz=0
  ·rw [h0]
   apply Array.ext'
   have:(zeros z.cells.toList n).length=0:=by rw [qjl,h2,h0]
   simp [List.length_eq_zero_iff.1 this]
  ·simp only [if_neg h0]
   have:=qjk z.cells n
   rw [hcells] at this
   rw [← this]
   simp [hcells]
 have hf2:=hfill m (Agree.refl _ _)
 have hnot:¬ n*sz > 2 ^ 24:=by omega
 have hzz:=(hz m).1
 by_cases h0:n*sz=0
 ·simp only [if_pos h0] at hzeros
  simp only [Instr.buildSlice,zK,q0o hT w hd,zJ,q18 hT w hsz,Sem.run_ite,if_neg hnot,zL,if_pos h0]
  rw [hzeros,hf2]
  simp [Go.newRow]
 ·simp only [if_neg h0] at hzeros
  simp only [Instr.buildSlice,zK,q0o hT w hd,zJ,q18 hT w hsz,Sem.run_ite,if_neg hnot,zL,if_neg h0,hzz]
  rw [hzeros,hf2]
  simp [Go.newRow]
theorem qey.bslw {C:PG} {T:Tb} (hT:qet C.prog T) {σ:Sg} {tm:List U} {o:Oper} {t e:TypeId} {k sz b:Nat} {z:Value} {zu cs0 cs:List U} {ps:Array (Nat×Operand)} {qs:List (Nat×U)} (ho:o.op = .buildSlice t k ps) (hd:T.und t=some (.slice e)) (hi:T.inf e=some (sz,b,z))
  (h:q9m tm ps.toList=some qs) (h1:Nat.ble (k*sz) 16777216=true) (h3:Nat.beq z.cells.toList.length sz=true) (hz:qkz z.cells.toList=some zu) (hf:qbq (fun i=>some (i*sz,sz)) (q6u zu k) qs=some cs0) (hw:WkL cs0 cs) (hk:okL cs=true) (hl:Nat.beq cs.length (k*sz)=true) (hs:Nat.blt 0 sz=true) :
  qey C σ tm o (fun u σ'=>u = .vl σ.nx 0 0 k∧σ'=q3z σ (.vec cs e sz 0)):=fun F x tv m w a next Q hxσ st hG hn ro hro=>by
 subst hxσ
 obtain ⟨vs,ev,hp⟩:=qmk st.e h
 have hzr:=(qdp _ _ hz).2 x
 obtain ⟨rv,f1,f2⟩:=qia hp (qda hzr k) hf
 have f2:q0t x cs rv:=⟨hw.rel f2.1,by rw [hw.len]; exact f2.2⟩
 have h2:z.cells.toList.length=sz:=by simpa [beq_eq] using h3
 obtain ⟨cl,g1,g2⟩:=qrr hT (m:=m) (s:=x.s) w (cps:=ps.toList.map fun p=>(p.1,a.eval p.2)) (fun m' hm'=>(qpg (st.act m' hm') ev).symm) hd hi h1 h2 f1
 have e1:(ps.map fun (i,x)=>(i,a.eval x))=(ps.toList.map fun p=>(p.1,a.eval p.2)).toArray:=by cases ps; simp
 have hrun:(execOp a.eval o).run C.prog w = .ok (.value (.slice (some ⟨w.heap.size,0,none⟩) k k)) (w.alloc (.cells ⟨cl⟩ e)):=by
  simp only [execOp,ho]
  rw [e1]
  simp only [zK,g2,zJ,zL]
 have hlen:rv.length=k*sz:=by
  have h5:=f2.2
  have h6:cs.length=k*sz:=by simpa [beq_eq] using hl
  rw [← h5,h6]
 have hadv:Adv m x.s w (m.set x.s.nx w.heap.size 0 k) (Rx.newRow x.s rv e (sz+2)) (w.alloc (.cells ⟨cl⟩ e)):=by
  have:=qbe st.fits (rest:=[]) g1 e k sz (by simpa using hlen)
  simpa using this
 have hsz:0<sz:=by simpa [Nat.blt_eq] using hs
 have hout:=qgd st.h f2 hk e hsz
 have hrel:q5y (m.set x.s.nx w.heap.size 0 k) (x.s.nx+1) (.slice (some ⟨x.s.nx,0,none⟩) k q05) (.slice (some ⟨w.heap.size,0,none⟩) k k):=fun m' ha=>by
  obtain ⟨q1,q2,q3⟩:=ha x.s.nx (zN _)
  obtain ⟨r1,r2,r3⟩:=q7m m x.s.nx w.heap.size 0 k
  simp [ren,q1,q2,r1,r2,capOf,capD,q3,r3]
 refine q5x (by rw [ho]; intro c hc; cases hc) ?_
 unfold Oper.wp
 rw [hrun]
 exact hn _ ⟨qgt x.ρ x.σ.nx (some x.s.nx),q3z x.σ (.vec cs e sz 0),Rx.newRow x.s rv e (sz+2)⟩ (z1h tv o.dst (.slice (some ⟨x.s.nx,0,none⟩) k q05)) _ _ _ ⟨rfl,rfl⟩
  ⟨hout.h,hout.fr F st.fr,qka (hout.mo.ke.E st.e.bel st.e) qgl _,hadv.fits,(st.act.ext hadv.agree hadv.nx).put hrel o.dst⟩ hadv hout.mo.ke hout.mo.nx (q5h _ _ _)
theorem qey.bslv {C:PG} {T:Tb} (hT:qet C.prog T) {σ:Sg} {tm:List U} {o:Oper} {t e:TypeId} {k sz b:Nat} {z:Value} {zu cs:List U} {ps:Array (Nat×Operand)} {qs:List (Nat×U)} (ho:o.op = .buildSlice t k ps) (hd:T.und t=some (.slice e)) (hi:T.inf e=some (sz,b,z))
  (h:q9m tm ps.toList=some qs) (h1:Nat.ble (k*sz) 16777216=true) (h3:Nat.beq z.cells.toList.length sz=true) (hz:qkz z.cells.toList=some zu) (hf:qbq (fun i=>some (i*sz,sz)) (q6u zu k) qs=some cs) (hk:okL cs=true) (hl:Nat.beq cs.length (k*sz)=true) (hs:Nat.blt 0 sz=true) :
  qey C σ tm o (fun u σ'=>u = .vl σ.nx 0 0 k∧σ'=q3z σ (.vec cs e sz 0)):=qey.bslw hT ho hd hi h h1 h3 hz hf (WkL.refl _) hk hl hs
end Go.Vx
end
section
namespace Go.Vx
open Go Go.Rx
def mvN (K K2 k:Nat):Nat:=cond (Nat.beq k K) K2 k
def mvH (K K2:Nat):List (Nat×B)→List (Nat×B)
 | []=>[]
 | (k,b)::h=>cond (Nat.beq k K) (mvH K K2 h) (cond (Nat.beq k K2) ((K,b)::mvH K K2 h) ((k,b)::mvH K K2 h))
theorem qyz {K K2:Nat} (hne:K≠K2):∀ (h:List (Nat×B)) (j:Nat),gt (mvH K K2 h) j=if j=K then gt h K2 else if j=K2 then none else gt h j
 | [],j=>by simp [mvH,gt]
 | (k,b)::h,j=>by
  have ih:=qyz hne h j
  simp only [mvH,beq_eq]
  by_cases e1:k=K
  ·subst e1
   simp only [decide_true,zC,ih,q11]
   by_cases e2:j=k
   ·subst e2; simp [hne]
   ·simp [e2,Ne.symm e2]
  ·by_cases e2:k=K2
   ·subst e2
    simp only [e1,decide_false,zD,decide_true,zC,q11,ih]
    by_cases e3:j=K
    ·subst e3; simp
    ·by_cases e4:j=k
     ·simp [e4,e1,Ne.symm e3]
      intro h; exact absurd h.symm e1
     ·simp [e3,e4,Ne.symm e3,Ne.symm e4]
   ·simp only [e1,e2,decide_false,zD,q11,ih]
    by_cases e3:j=K
    ·subst e3; simp [e1,e2]
    ·by_cases e4:j=K2
     ·subst e4; simp [e3,e2]
     ·simp [e3,e4]
def rS (π:Nat→Nat):List (Nat×U)→List (Nat×U)
 | []=>[]
 | (i,u)::l=>(i,rU π u)::rS π l
theorem qv4 (π:Nat→Nat):∀ (l:List (Nat×U)) (i:Nat),q6v (rS π l) i=(q6v l i).map (rU π)
 | [],i=>rfl
 | (j,u)::l,i=>by
  simp only [rS,q6v,beq_eq,qv4 π l i]
  by_cases e:j=i<;>simp [e]
theorem z01 (π:Nat→Nat):∀ (l:List U) (i:Nat),(rUL π l)[i]? = (l[i]?).map (rU π)
 | [],i=>by simp [rUL]
 | u::l,0=>by simp [rUL]
 | u::l,i+1=>by simp [rUL,z01 π l i]
theorem rUL_fr (π:Nat→Nat) (n:Nat) (l:List (Nat×U)):rUL π (fr n l)=fr n (rS π l):=by
 apply List.ext_getElem?
 intro k
 rw [z01]
 by_cases hk:k<n
 ·rw [qif n l hk,qif n _ hk,qv4]
  cases q6v l k with
  | none=>simp [rU]
  | some w=>rfl
 ·rw [List.getElem?_eq_none (by simp [qcx]; omega),List.getElem?_eq_none (by simp [qcx]; omega)]
  rfl
def avH (π:Nat→Nat):List (Nat×B)→Prop
 | []=>True
 | (_,b)::h=>rB π b=b∧avH π h
theorem z3z {π:Nat→Nat}:∀ {h:List (Nat×B)},avH π h→∀ k b,gt h k=some b→rB π b=b
 | [],_,k,b,hg=>by cases hg
 | (j,c)::h,ha,k,b,hg=>by
  rw [q11] at hg
  by_cases e:j=k
  ·rw [if_pos e] at hg; cases hg; exact ha.1
  ·rw [if_neg e] at hg; exact z3z ha.2 k b hg
theorem Gh.mv {n0 n:Nat} {l l':List (Nat×U)} {σ:Sg} {h':List (Nat×B)} (K K2:Nat) (h0:n0≤K) (hK:Nat.blt K σ.nx=true) (hne:Nat.beq K K2=false) (hl:rS (mvN K K2) l'=l) (hm:mvH K K2 σ.h=h') (ha:avH (mvN K K2) h') [hb:BS σ.nx l']:Gh n0 (fr n l) σ (fr n l') ⟨h',σ.nx⟩:=fun F x tv hx hr hf he=>by
 subst hx; subst hl; subst hm
 have hK':K<x.σ.nx:=by simpa [Nat.blt_eq] using hK
 have hne':K≠K2:=by simpa [beq_eq] using hne
 have key:∀ k b,gt (mvH K K2 x.σ.h) k=some b→gt x.σ.h (mvN K K2 k)=some b:=fun k b hg=>by
  rw [qyz hne'] at hg
  simp only [mvN,beq_eq]
  by_cases e:k=K
  ·rw [if_pos e] at hg; simpa [e] using hg
  ·rw [if_neg e] at hg
   by_cases e2:k=K2
   ·rw [if_pos e2] at hg; cases hg
   ·rw [if_neg e2] at hg; simpa [e] using hg
 let y:Cx:=⟨fun k=>x.ρ (mvN K K2 k),⟨mvH K K2 x.σ.h,x.σ.nx⟩,x.s⟩
 have hU:qm1 x.σ.nx (mvN K K2) x y:=⟨fun k st off v hk h=>by
   simp only [Rel,Ref] at h ⊢
   exact ⟨h.1,hk,fun b hb=>h.2.2 b (key k b hb)⟩,fun k off m c v hk h=>by
   simp only [Rel,Ref] at h ⊢
   exact ⟨h.1,hk,fun b hb=>h.2.2 b (key k b hb)⟩,fun k st off m v hk h=>by
   simp only [Rel] at h ⊢
   exact ⟨h.1,hk,fun b hb=>h.2.2 b (key k b hb)⟩,fun k v hk h=>by
   simp only [Rel,Ref] at h ⊢
   exact ⟨h.1,hk,fun b hb=>h.2.2 b (key k b hb)⟩,fun _ _ _ h=>h⟩
 have hback:∀ u,Bel n0 u→rU (mvN K K2) u=u:=fun u hbu=>by
  have:=z02 (π:=id) (κ:=mvN K K2) (n:=n0) (fun k hk=>by
   have:¬ k=K:=by omega
   simp [mvN,beq_eq,this]) u hbu
  rwa [rid] at this
 refine ⟨y,fun m w hf=>Adv.refl hf,rfl,⟨fun k b hb=>?_,fun k k' b b' i hb hb' h1 h2=>?_,hr.bd⟩,fun i b hF=>?_,?_,fun u v hbu hv=>?_⟩
 ·have hg:=key k b hb
  obtain ⟨g1,g2⟩:=hr.ok _ _ hg
  have hkl:k<x.σ.nx:=by
   by_cases e:k=K
   ·omega
   ·have e2:mvN K K2 k=k:=by simp [mvN,beq_eq,e]
    rw [e2] at g1; exact g1
  refine ⟨hkl,BOk.unleaf hU g2.belB rfl (fun _ _ _ h=>h) ?_⟩
  rw [z3z ha k b hb]; exact g2
 ·have e:=hr.inj _ _ b b' i (key k b hb) (key k' b' hb') h1 h2
  have hn2:∀ k b,gt (mvH K K2 x.σ.h) k=some b→k≠K2:=fun k b hb h=>by
   subst h
   rw [qyz hne',if_neg (Ne.symm hne'),if_pos rfl] at hb
   cases hb
  have q1:=hn2 k b hb
  have q2:=hn2 k' b' hb'
  simp only [mvN,beq_eq] at e
  by_cases e1:k=K
  ·by_cases e2:k'=K
   ·rw [e1,e2]
   ·simp [e1,e2] at e; exact absurd e.symm q2
  ·by_cases e2:k'=K
   ·simp [e1,e2] at e; exact absurd e q1
   ·simpa [e1,e2] using e
 ·obtain ⟨h1,h2⟩:=hf i b hF
  exact ⟨h1,fun k c hc=>h2 _ c (key k c hc)⟩
 ·refine q0t.unleaf hU (qxp hb.h) ?_
  rw [rUL_fr]; exact he
 ·exact Rel.unleaf hU u v (Bel.le (by omega) u hbu) (by rw [hback u hbu]; exact hv)
end Go.Vx
end
section
namespace Go.Proofs
open Go Go.Rx
theorem Tryz.fn11:Tryz.tb.fn 11=some Tryz.f11:=by kernel_rfl
theorem Tryz.fn12:Tryz.tb.fn 12=some Tryz.f12:=by kernel_rfl
theorem Tryz.fn13:Tryz.tb.fn 13=some Tryz.f13:=by kernel_rfl
theorem Tryz.fn14:Tryz.tb.fn 14=some Tryz.f14:=by kernel_rfl
theorem Tryz.fn15:Tryz.tb.fn 15=some Tryz.f15:=by kernel_rfl
theorem Tryz.fn17:Tryz.tb.fn 17=some Tryz.f17:=by kernel_rfl
theorem Tryz.fn18:Tryz.tb.fn 18=some Tryz.f18:=by kernel_rfl
theorem Tryz.fn20:Tryz.tb.fn 20=some Tryz.f20:=by kernel_rfl
theorem Tryz.fn21:Tryz.tb.fn 21=some Tryz.f21:=by kernel_rfl
theorem Tryz.fn22:Tryz.tb.fn 22=some Tryz.f22:=by kernel_rfl
theorem Tryz.fn25:Tryz.tb.fn 25=some Tryz.f25:=by kernel_rfl
theorem Tryz.fn26:Tryz.tb.fn 26=some Tryz.f26:=by kernel_rfl
theorem Tryz.fn28:Tryz.tb.fn 28=some Tryz.f28:=by kernel_rfl
theorem Tryz.fn30:Tryz.tb.fn 30=some Tryz.f30:=by kernel_rfl
theorem Tryz.fn31:Tryz.tb.fn 31=some Tryz.f31:=by kernel_rfl
theorem Tryz.fn34:Tryz.tb.fn 34=some Tryz.f34:=by kernel_rfl
theorem Tryz.fn36:Tryz.tb.fn 36=some Tryz.f36:=by kernel_rfl
theorem Tryz.fn39:Tryz.tb.fn 39=some Tryz.f39:=by kernel_rfl
theorem Tryz.fn40:Tryz.tb.fn 40=some Tryz.f40:=by kernel_rfl
theorem Tryz.fn41:Tryz.tb.fn 41=some Tryz.f41:=by kernel_rfl
theorem Tryz.fn42:Tryz.tb.fn 42=some Tryz.f42:=by kernel_rfl
theorem Tryz.fn43:Tryz.tb.fn 43=some Tryz.f43:=by kernel_rfl
theorem Tryz.fn44:Tryz.tb.fn 44=some Tryz.f44:=by kernel_rfl
theorem Tryz.fn45:Tryz.tb.fn 45=some Tryz.f45:=by kernel_rfl
theorem Tryz.fn46:Tryz.tb.fn 46=some Tryz.f46:=by kernel_rfl
theorem Tryz.hb46:Tryz.f46.body.isSome=true:=rfl
theorem Tryz.fn47:Tryz.tb.fn 47=some Tryz.f47:=by kernel_rfl
theorem Tryz.fn48:Tryz.tb.fn 48=some Tryz.f48:=by kernel_rfl
theorem Tryz.hb48:Tryz.f48.body.isSome=true:=rfl
theorem Tryz.fn49:Tryz.tb.fn 49=some Tryz.f49:=by kernel_rfl
theorem Tryz.fn50:Tryz.tb.fn 50=some Tryz.f50:=by kernel_rfl
theorem Tryz.fn51:Tryz.tb.fn 51=some Tryz.f51:=by kernel_rfl
theorem Tryz.fn52:Tryz.tb.fn 52=some Tryz.f52:=by kernel_rfl
theorem Tryz.fn53:Tryz.tb.fn 53=some Tryz.f53:=by kernel_rfl
theorem Tryz.fn54:Tryz.tb.fn 54=some Tryz.f54:=by kernel_rfl
theorem Tryz.fn55:Tryz.tb.fn 55=some Tryz.f55:=by kernel_rfl
theorem Tryz.fn57:Tryz.tb.fn 57=some Tryz.f57:=by kernel_rfl
theorem Tryz.fn59:Tryz.tb.fn 59=some Tryz.f59:=by kernel_rfl
theorem Tryz.fn60:Tryz.tb.fn 60=some Tryz.f60:=by kernel_rfl
theorem Tryz.fn62:Tryz.tb.fn 62=some Tryz.f62:=by kernel_rfl
theorem Tryz.fn64:Tryz.tb.fn 64=some Tryz.f64:=by kernel_rfl
theorem Tryz.fn65:Tryz.tb.fn 65=some Tryz.f65:=by kernel_rfl
theorem Tryz.fn66:Tryz.tb.fn 66=some Tryz.f66:=by kernel_rfl
theorem Tryz.hb66:Tryz.f66.body.isSome=true:=rfl
theorem Tryz.fn67:Tryz.tb.fn 67=some Tryz.f67:=by kernel_rfl
theorem Tryz.fn68:Tryz.tb.fn 68=some Tryz.f68:=by kernel_rfl
theorem Tryz.fn69:Tryz.tb.fn 69=some Tryz.f69:=by kernel_rfl
theorem Tryz.fn70:Tryz.tb.fn 70=some Tryz.f70:=by kernel_rfl
theorem Tryz.fn71:Tryz.tb.fn 71=some Tryz.f71:=by kernel_rfl
theorem Tryz.fn72:Tryz.tb.fn 72=some Tryz.f72:=by kernel_rfl
theorem Tryz.fn73:Tryz.tb.fn 73=some Tryz.f73:=by kernel_rfl
theorem Tryz.fn74:Tryz.tb.fn 74=some Tryz.f74:=by kernel_rfl
theorem Tryz.fn81:Tryz.tb.fn 81=some Tryz.f81:=by kernel_rfl
theorem Tryz.fn82:Tryz.tb.fn 82=some Tryz.f82:=by kernel_rfl
theorem Tryz.fn83:Tryz.tb.fn 83=some Tryz.f83:=by kernel_rfl
theorem Tryz.hb83:Tryz.f83.body.isSome=true:=rfl
theorem Tryz.fn84:Tryz.tb.fn 84=some Tryz.f84:=by kernel_rfl
theorem Tryz.hb84:Tryz.f84.body.isSome=true:=rfl
theorem Tryz.fn85:Tryz.tb.fn 85=some Tryz.f85:=by kernel_rfl
theorem Tryz.hb85:Tryz.f85.body.isSome=true:=rfl
theorem Tryz.fn86:Tryz.tb.fn 86=some Tryz.f86:=by kernel_rfl
theorem Tryz.fn87:Tryz.tb.fn 87=some Tryz.f87:=by kernel_rfl
theorem Tryz.fn88:Tryz.tb.fn 88=some Tryz.f88:=by kernel_rfl
theorem Tryz.hb88:Tryz.f88.body.isSome=true:=rfl
theorem Tryz.fn89:Tryz.tb.fn 89=some Tryz.f89:=by kernel_rfl
theorem Tryz.hb89:Tryz.f89.body.isSome=true:=rfl
theorem Tryz.fn90:Tryz.tb.fn 90=some Tryz.f90:=by kernel_rfl
theorem Tryz.fn91:Tryz.tb.fn 91=some Tryz.f91:=by kernel_rfl
theorem Tryz.fn92:Tryz.tb.fn 92=some Tryz.f92:=by kernel_rfl
theorem Tryz.fn93:Tryz.tb.fn 93=some Tryz.f93:=by kernel_rfl
theorem Tryz.fn94:Tryz.tb.fn 94=some Tryz.f94:=by kernel_rfl
theorem Tryz.fn95:Tryz.tb.fn 95=some Tryz.f95:=by kernel_rfl
theorem Tryz.fn96:Tryz.tb.fn 96=some Tryz.f96:=by kernel_rfl
theorem Tryz.fn97:Tryz.tb.fn 97=some Tryz.f97:=by kernel_rfl
theorem Tryz.fn98:Tryz.tb.fn 98=some Tryz.f98:=by kernel_rfl
theorem Tryz.fn99:Tryz.tb.fn 99=some Tryz.f99:=by kernel_rfl
theorem Tryz.fn100:Tryz.tb.fn 100=some Tryz.f100:=by kernel_rfl
theorem Tryz.fn101:Tryz.tb.fn 101=some Tryz.f101:=by kernel_rfl
theorem Tryz.fn102:Tryz.tb.fn 102=some Tryz.f102:=by kernel_rfl
theorem Tryz.fn109:Tryz.tb.fn 109=some Tryz.f109:=by kernel_rfl
theorem Tryz.fn110:Tryz.tb.fn 110=some Tryz.f110:=by kernel_rfl
theorem Tryz.fn111:Tryz.tb.fn 111=some Tryz.f111:=by kernel_rfl
theorem Tryz.hb111:Tryz.f111.body.isSome=true:=rfl
theorem Tryz.fn112:Tryz.tb.fn 112=some Tryz.f112:=by kernel_rfl
theorem Tryz.hb112:Tryz.f112.body.isSome=true:=rfl
theorem Tryz.fn113:Tryz.tb.fn 113=some Tryz.f113:=by kernel_rfl
theorem Tryz.fn114:Tryz.tb.fn 114=some Tryz.f114:=by kernel_rfl
theorem Tryz.fn115:Tryz.tb.fn 115=some Tryz.f115:=by kernel_rfl
theorem Tryz.fn116:Tryz.tb.fn 116=some Tryz.f116:=by kernel_rfl
theorem Tryz.fn117:Tryz.tb.fn 117=some Tryz.f117:=by kernel_rfl
theorem Tryz.fn118:Tryz.tb.fn 118=some Tryz.f118:=by kernel_rfl
theorem Tryz.fn119:Tryz.tb.fn 119=some Tryz.f119:=by kernel_rfl
theorem Tryz.fn120:Tryz.tb.fn 120=some Tryz.f120:=by kernel_rfl
theorem Tryz.fn121:Tryz.tb.fn 121=some Tryz.f121:=by kernel_rfl
theorem Tryz.fn122:Tryz.tb.fn 122=some Tryz.f122:=by kernel_rfl
theorem Tryz.fn123:Tryz.tb.fn 123=some Tryz.f123:=by kernel_rfl
theorem Tryz.fn124:Tryz.tb.fn 124=some Tryz.f124:=by kernel_rfl
theorem Tryz.fn125:Tryz.tb.fn 125=some Tryz.f125:=by kernel_rfl
theorem Tryz.fn126:Tryz.tb.fn 126=some Tryz.f126:=by kernel_rfl
theorem Tryz.hb126:Tryz.f126.body.isSome=true:=rfl
theorem Tryz.fn127:Tryz.tb.fn 127=some Tryz.f127:=by kernel_rfl
theorem Tryz.fn128:Tryz.tb.fn 128=some Tryz.f128:=by kernel_rfl
theorem Tryz.fn129:Tryz.tb.fn 129=some Tryz.f129:=by kernel_rfl
theorem Tryz.fn130:Tryz.tb.fn 130=some Tryz.f130:=by kernel_rfl
theorem Tryz.fn131:Tryz.tb.fn 131=some Tryz.f131:=by kernel_rfl
theorem Tryz.fn132:Tryz.tb.fn 132=some Tryz.f132:=by kernel_rfl
theorem Tryz.fn133:Tryz.tb.fn 133=some Tryz.f133:=by kernel_rfl
theorem Tryz.fn140:Tryz.tb.fn 140=some Tryz.f140:=by kernel_rfl
theorem Tryz.fn141:Tryz.tb.fn 141=some Tryz.f141:=by kernel_rfl
theorem Tryz.fn142:Tryz.tb.fn 142=some Tryz.f142:=by kernel_rfl
theorem Tryz.hb142:Tryz.f142.body.isSome=true:=rfl
theorem Tryz.fn143:Tryz.tb.fn 143=some Tryz.f143:=by kernel_rfl
theorem Tryz.fn144:Tryz.tb.fn 144=some Tryz.f144:=by kernel_rfl
theorem Tryz.fn145:Tryz.tb.fn 145=some Tryz.f145:=by kernel_rfl
theorem Tryz.fn146:Tryz.tb.fn 146=some Tryz.f146:=by kernel_rfl
theorem Tryz.fn147:Tryz.tb.fn 147=some Tryz.f147:=by kernel_rfl
theorem Tryz.fn148:Tryz.tb.fn 148=some Tryz.f148:=by kernel_rfl
theorem Tryz.fn149:Tryz.tb.fn 149=some Tryz.f149:=by kernel_rfl
theorem Tryz.fn150:Tryz.tb.fn 150=some Tryz.f150:=by kernel_rfl
theorem Tryz.fn151:Tryz.tb.fn 151=some Tryz.f151:=by kernel_rfl
theorem Tryz.fn152:Tryz.tb.fn 152=some Tryz.f152:=by kernel_rfl
theorem Tryz.fn153:Tryz.tb.fn 153=some Tryz.f153:=by kernel_rfl
theorem Tryz.fn159:Tryz.tb.fn 159=some Tryz.f159:=by kernel_rfl
end Go.Proofs
end
section
namespace Go.Proofs
open Go Go.Rx Go.Vx Tryz
instance:TbP Tryz.prog Tryz.tb:=⟨Tryz.tb_ok⟩
set_option maxRecDepth 20000
structure q0f where
 Feat:Int
 To:Int
def q08 (x:q0f):List U:=[.int .i64 x.Feat,.int .i64 x.To]
theorem qi4 (n:Nat) (x:q0f):q1g n (q08 x):=by
 simp only [q08,q1g,Bel,true_and,and_true]
theorem q17 (x:q0f):(q08 x).length=2:=rfl
instance:qoa q08 2:=⟨q17⟩
instance:BF q08:=⟨qi4⟩
instance (n:Nat) (x:q0f):BUL n (q08 x):=⟨qi4 n x⟩
def q58 (n:Nat) (p1:Int):Option (Bool) :=
 some (p1 != p1)
theorem qf4 (n:Nat) (p1:Int) (r:Bool) (hF:q58 n p1=some r):EvU Tryz.prog 145 [.int .i64 p1] ⟨[],0⟩ (fun u _=>u = .bool r∧Bel 0 u):=by
 unfold q58 at hF
 refine bg1 6 fn145 ?_
 exact gx hF
def q3p (n:Nat) (p1:Int) (p2:Int):Option (Int) :=
 q03 (q58 n p1) fun r3 =>
 q03 (q58 n p2) fun r5 =>
 cond r3
  (cond r5
   (some 0)
   (some (-1)))
  (cond r5
   (some 1)
   (cond (decide (p1<p2))
    (some (-1))
    (cond (decide (p1 > p2))
     (some 1)
     (some 0))))
theorem qju (n:Nat) (p1:Int) (p2:Int) (r:Int) (hF:q3p n p1 p2=some r):EvU Tryz.prog 114 [.int .i64 p1,.int .i64 p2] ⟨[],0⟩ (fun u _=>u = .int .i64 r∧Bel 0 u):=by
 unfold q3p at hF
 refine bg2 20 fn114 ?_
 obtain ⟨r3,h4,hF⟩:=q00 hF
 refine go ?_
 refine RS.cl rfl (pC (qf4 n p1 r3 h4) _) fn145 ?_
 obtain ⟨r5,h6,hF⟩:=q00 hF
 refine go ?_
 refine RS.cl rfl (pC (qf4 n p2 r5 h6) _) fn145 ?_
 refine go ?_
 refine cF hF (fun h7 hF=>?_) (fun h7 hF=>?_)
 refine go ?_
 refine cF hF (fun h8 hF=>?_) (fun h8 hF=>?_)
 exact gx hF
 exact gx hF
 refine go ?_
 refine cF hF (fun h9 hF=>?_) (fun h9 hF=>?_)
 exact gx hF
 refine go ?_
 refine cF hF (fun h10 hF=>?_) (fun h10 hF=>?_)
 exact gx hF
 refine go ?_
 refine cF hF (fun h11 hF=>?_) (fun h11 hF=>?_)
 exact gx hF
 exact gx hF
def q1f (n:Nat) (p1:q0f) (p2:q0f):Option (Int) :=
 q03 (q3p n p1.Feat p2.Feat) fun r3 =>
 some r3
theorem qjx (n:Nat) (p1:q0f) (p2:q0f) (r:Int) (hF:q1f n p1 p2=some r):EvU Tryz.prog 86 [.agg (q08 p1),.agg (q08 p2)] ⟨[],0⟩ (fun u _=>u = .int .i64 r∧Bel 0 u):=by
 unfold q1f at hF
 refine bg2 10 fn86 ?_
 obtain ⟨r3,h4,hF⟩:=q00 hF
 refine go ?_
 refine RS.cl rfl (pC (qju n p1.Feat p2.Feat r3 h4) _) fn114 ?_
 exact gx hF
end Go.Proofs
end
