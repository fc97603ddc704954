/-
  Texts of the walk: Tab08 Ins08 MpS MpC MpD MpE MpF MpT MpU Fn08 H1.
-/
import Derived.Test.YtkgbipeaeamohaaGreatDoorProg
import Derived.Test.YtkgbipeaeamohaaGreatDoorP11
set_option linter.unusedSimpArgs false
set_option linter.unusedVariables false
section
namespace Go.Proofs
open Go Go.Rx
noncomputable def Tryz.tb:Tb:=tbOf Tryz.prog [82]
theorem Tryz.mixed:Tryz.prog.follows .mixedOrders=true:=by kernel_rfl
theorem Tryz.eqs_ok:∀ t∈[82],Tryz.prog.stoodInHeld t=false∧Tryz.prog.eqGuardType Tryz.prog.depth t=false:=by
 intro t ht
 simp only [List.mem_cons,List.not_mem_nil,or_false] at ht
 rcases ht with rfl<;>exact ⟨by kernel_rfl,by kernel_rfl⟩
theorem Tryz.names_ok : (Tryz.prog.funcs.toList.all fun f => !(f.name == "runtime.NumGoroutine")) = true := by kernel_rfl
theorem Tryz.tb_ok:qe2 Tryz.prog Tryz.tb:=z4y Tryz.prog [82] Tryz.mixed (fun f hf _=>by
 have:=List.all_eq_true.1 Tryz.names_ok f hf
 simpa using this) Tryz.eqs_ok
theorem Tryz.und3:Tryz.tb.und 3=some (.int .i64):=by kernel_rfl
theorem Tryz.inf3:Tryz.tb.inf 3=some (1,8,.int .i64 0):=by kernel_rfl
theorem Tryz.und4:Tryz.tb.und 4=some (.bool):=by kernel_rfl
theorem Tryz.inf4:Tryz.tb.inf 4=some (1,1,.bool false):=by kernel_rfl
theorem Tryz.und9:Tryz.tb.und 9=some (.string):=by kernel_rfl
theorem Tryz.inf9:Tryz.tb.inf 9=some (1,16,.string ⟨#[]⟩):=by kernel_rfl
theorem Tryz.und22:Tryz.tb.und 22=some (.slice 54):=by kernel_rfl
theorem Tryz.inf22:Tryz.tb.inf 22=some (1,24,.slice none 0 0):=by kernel_rfl
theorem Tryz.und24 : Tryz.tb.und 24 = some (.struct #[⟨ "Nodes", 22, 0, false, "", "", 0⟩]) := by kernel_rfl
theorem Tryz.inf24:Tryz.tb.inf 24=some (1,24,.agg #[.slice none 0 0]):=by kernel_rfl
theorem Tryz.und28:Tryz.tb.und 28=some (.slice 33):=by kernel_rfl
theorem Tryz.inf28:Tryz.tb.inf 28=some (1,24,.slice none 0 0):=by kernel_rfl
theorem Tryz.und31:Tryz.tb.und 31=some (.slice 56):=by kernel_rfl
theorem Tryz.und33:Tryz.tb.und 33=some (.slice 3):=by kernel_rfl
theorem Tryz.inf33:Tryz.tb.inf 33=some (1,24,.slice none 0 0):=by kernel_rfl
theorem Tryz.und38:Tryz.tb.und 38=some (.slice 127):=by kernel_rfl
theorem Tryz.und40:Tryz.tb.und 40=some (.slice 109):=by kernel_rfl
theorem Tryz.inf40:Tryz.tb.inf 40=some (1,24,.slice none 0 0):=by kernel_rfl
theorem Tryz.und41:Tryz.tb.und 41=some (.slice 82):=by kernel_rfl
theorem Tryz.inf41:Tryz.tb.inf 41=some (1,24,.slice none 0 0):=by kernel_rfl
theorem Tryz.und43 : Tryz.tb.und 43 = some (.struct #[⟨ "Types", 40, 0, false, "", "", 0⟩, ⟨ "Feats", 41, 1, false, "", "", 24⟩]) := by kernel_rfl
theorem Tryz.inf43:Tryz.tb.inf 43=some (2,48,.agg #[.slice none 0 0,.slice none 0 0]):=by kernel_rfl
theorem Tryz.und52:Tryz.tb.und 52=some (.slice 66):=by kernel_rfl
theorem Tryz.inf52:Tryz.tb.inf 52=some (1,24,.slice none 0 0):=by kernel_rfl
theorem Tryz.und54 : Tryz.tb.und 54 = some (.struct #[⟨ "Type", 3, 0, false, "", "", 0⟩, ⟨ "Arcs", 52, 1, false, "", "", 8⟩]) := by kernel_rfl
theorem Tryz.inf54:Tryz.tb.inf 54=some (2,32,.agg #[.int .i64 0,.slice none 0 0]):=by kernel_rfl
theorem Tryz.und56 : Tryz.tb.und 56 = some (.struct #[⟨ "A", 33, 0, false, "", "", 0⟩, ⟨ "B", 33, 1, false, "", "", 24⟩]) := by kernel_rfl
theorem Tryz.inf56:Tryz.tb.inf 56=some (2,48,.agg #[.slice none 0 0,.slice none 0 0]):=by kernel_rfl
theorem Tryz.und66 : Tryz.tb.und 66 = some (.struct #[⟨ "Feat", 3, 0, false, "", "", 0⟩, ⟨ "To", 3, 1, false, "", "", 8⟩]) := by kernel_rfl
theorem Tryz.inf66:Tryz.tb.inf 66=some (2,16,.agg #[.int .i64 0,.int .i64 0]):=by kernel_rfl
theorem Tryz.und75:Tryz.tb.und 75=some (.slice 4):=by kernel_rfl
theorem Tryz.und80:Tryz.tb.und 80=some (.slice 9):=by kernel_rfl
theorem Tryz.inf80:Tryz.tb.inf 80=some (1,24,.slice none 0 0):=by kernel_rfl
theorem Tryz.und82 : Tryz.tb.und 82 = some (.struct #[⟨ "Name", 9, 0, false, "", "", 0⟩, ⟨ "Intro", 3, 1, false, "", "", 16⟩]) := by kernel_rfl
theorem Tryz.inf82:Tryz.tb.inf 82=some (2,24,.agg #[.string ⟨#[]⟩,.int .i64 0]):=by kernel_rfl
theorem Tryz.und96:Tryz.tb.und 96=some (.slice 107):=by kernel_rfl
theorem Tryz.und99:Tryz.tb.und 99=some (.slice 105):=by kernel_rfl
theorem Tryz.und103:Tryz.tb.und 103=some (.slice 191):=by kernel_rfl
theorem Tryz.inf103:Tryz.tb.inf 103=some (1,24,.slice none 0 0):=by kernel_rfl
theorem Tryz.und105 : Tryz.tb.und 105 = some (.struct #[⟨ "Name", 9, 0, false, "", "", 0⟩, ⟨ "Code", 103, 1, false, "", "", 16⟩]) := by kernel_rfl
theorem Tryz.inf105:Tryz.tb.inf 105=some (2,40,.agg #[.string ⟨#[]⟩,.slice none 0 0]):=by kernel_rfl
theorem Tryz.und107:Tryz.tb.und 107=some (.slice 147):=by kernel_rfl
theorem Tryz.inf107:Tryz.tb.inf 107=some (1,24,.slice none 0 0):=by kernel_rfl
theorem Tryz.und109 : Tryz.tb.und 109 = some (.struct #[⟨ "Name", 9, 0, false, "", "", 0⟩, ⟨ "Code", 103, 1, false, "", "", 16⟩, ⟨ "Supers", 33, 2, false, "", "", 40⟩, ⟨ "Feats", 107, 3, false, "", "", 64⟩]) := by kernel_rfl
theorem Tryz.inf109:Tryz.tb.inf 109=some (4,88,.agg #[.string ⟨#[]⟩,.slice none 0 0,.slice none 0 0,.slice none 0 0]):=by kernel_rfl
theorem Tryz.und115:Tryz.tb.und 115=some (.func #[3] #[] false):=by kernel_rfl
theorem Tryz.inf115:Tryz.tb.inf 115=some (1,8,.nilFunc):=by kernel_rfl
theorem Tryz.und125:Tryz.tb.und 125=some (.slice 162):=by kernel_rfl
theorem Tryz.inf125:Tryz.tb.inf 125=some (1,24,.slice none 0 0):=by kernel_rfl
theorem Tryz.und127 : Tryz.tb.und 127 = some (.struct #[⟨ "Name", 9, 0, false, "", "", 0⟩, ⟨ "Supers", 80, 1, false, "", "", 16⟩, ⟨ "Feats", 125, 2, false, "", "", 40⟩]) := by kernel_rfl
theorem Tryz.inf127:Tryz.tb.inf 127=some (3,64,.agg #[.string ⟨#[]⟩,.slice none 0 0,.slice none 0 0]):=by kernel_rfl
theorem Tryz.und130:Tryz.tb.und 130=some (.map 3 3):=by kernel_rfl
theorem Tryz.inf130:Tryz.tb.inf 130=some (1,8,.map none):=by kernel_rfl
theorem Tryz.und139 : Tryz.tb.und 139 = some (.struct #[⟨ "f", 24, 0, false, "", "grammarlab/grammarlabref07", 0⟩, ⟨ "number", 33, 1, false, "", "grammarlab/grammarlabref07", 24⟩, ⟨ "order", 33, 2, false, "", "grammarlab/grammarlabref07", 48⟩]) := by kernel_rfl
theorem Tryz.inf139:Tryz.tb.inf 139=some (3,72,.agg #[.slice none 0 0,.slice none 0 0,.slice none 0 0]):=by kernel_rfl
theorem Tryz.und147 : Tryz.tb.und 147 = some (.struct #[⟨ "Feat", 3, 0, false, "", "", 0⟩, ⟨ "Value", 3, 1, false, "", "", 8⟩]) := by kernel_rfl
theorem Tryz.inf147:Tryz.tb.inf 147=some (2,16,.agg #[.int .i64 0,.int .i64 0]):=by kernel_rfl
theorem Tryz.und148:Tryz.tb.und 148=some (.slice 103):=by kernel_rfl
theorem Tryz.und162 : Tryz.tb.und 162 = some (.struct #[⟨ "Feat", 9, 0, false, "", "", 0⟩, ⟨ "Value", 9, 1, false, "", "", 16⟩]) := by kernel_rfl
theorem Tryz.inf162:Tryz.tb.inf 162=some (2,32,.agg #[.string ⟨#[]⟩,.string ⟨#[]⟩]):=by kernel_rfl
theorem Tryz.und190:Tryz.tb.und 190=some (.int .u64):=by kernel_rfl
theorem Tryz.und191:Tryz.tb.und 191=some (.int .u64):=by kernel_rfl
theorem Tryz.inf191:Tryz.tb.inf 191=some (1,8,.int .u64 0):=by kernel_rfl
end Go.Proofs
end
section
namespace Go.Proofs
open Go Go.Rx Go.Vx
instance Tryz.un3:UnC Tryz.tb 3 (.int .i64):=⟨Tryz.und3⟩
instance Tryz.un4:UnC Tryz.tb 4 (.bool):=⟨Tryz.und4⟩
instance Tryz.un9:UnC Tryz.tb 9 (.string):=⟨Tryz.und9⟩
instance Tryz.un22:UnC Tryz.tb 22 (.slice 54):=⟨Tryz.und22⟩
instance Tryz.un24 : UnC Tryz.tb 24 (.struct #[⟨ "Nodes", 22, 0, false, "", "", 0⟩]) := ⟨Tryz.und24⟩
instance Tryz.un28:UnC Tryz.tb 28 (.slice 33):=⟨Tryz.und28⟩
instance Tryz.un31:UnC Tryz.tb 31 (.slice 56):=⟨Tryz.und31⟩
instance Tryz.un33:UnC Tryz.tb 33 (.slice 3):=⟨Tryz.und33⟩
instance Tryz.un38:UnC Tryz.tb 38 (.slice 127):=⟨Tryz.und38⟩
instance Tryz.un40:UnC Tryz.tb 40 (.slice 109):=⟨Tryz.und40⟩
instance Tryz.un41:UnC Tryz.tb 41 (.slice 82):=⟨Tryz.und41⟩
instance Tryz.un43 : UnC Tryz.tb 43 (.struct #[⟨ "Types", 40, 0, false, "", "", 0⟩, ⟨ "Feats", 41, 1, false, "", "", 24⟩]) := ⟨Tryz.und43⟩
instance Tryz.un52:UnC Tryz.tb 52 (.slice 66):=⟨Tryz.und52⟩
instance Tryz.un54 : UnC Tryz.tb 54 (.struct #[⟨ "Type", 3, 0, false, "", "", 0⟩, ⟨ "Arcs", 52, 1, false, "", "", 8⟩]) := ⟨Tryz.und54⟩
instance Tryz.un56 : UnC Tryz.tb 56 (.struct #[⟨ "A", 33, 0, false, "", "", 0⟩, ⟨ "B", 33, 1, false, "", "", 24⟩]) := ⟨Tryz.und56⟩
instance Tryz.un66 : UnC Tryz.tb 66 (.struct #[⟨ "Feat", 3, 0, false, "", "", 0⟩, ⟨ "To", 3, 1, false, "", "", 8⟩]) := ⟨Tryz.und66⟩
instance Tryz.un75:UnC Tryz.tb 75 (.slice 4):=⟨Tryz.und75⟩
instance Tryz.un80:UnC Tryz.tb 80 (.slice 9):=⟨Tryz.und80⟩
instance Tryz.un82 : UnC Tryz.tb 82 (.struct #[⟨ "Name", 9, 0, false, "", "", 0⟩, ⟨ "Intro", 3, 1, false, "", "", 16⟩]) := ⟨Tryz.und82⟩
instance Tryz.un96:UnC Tryz.tb 96 (.slice 107):=⟨Tryz.und96⟩
instance Tryz.un99:UnC Tryz.tb 99 (.slice 105):=⟨Tryz.und99⟩
instance Tryz.un103:UnC Tryz.tb 103 (.slice 191):=⟨Tryz.und103⟩
instance Tryz.un105 : UnC Tryz.tb 105 (.struct #[⟨ "Name", 9, 0, false, "", "", 0⟩, ⟨ "Code", 103, 1, false, "", "", 16⟩]) := ⟨Tryz.und105⟩
instance Tryz.un107:UnC Tryz.tb 107 (.slice 147):=⟨Tryz.und107⟩
instance Tryz.un109 : UnC Tryz.tb 109 (.struct #[⟨ "Name", 9, 0, false, "", "", 0⟩, ⟨ "Code", 103, 1, false, "", "", 16⟩, ⟨ "Supers", 33, 2, false, "", "", 40⟩, ⟨ "Feats", 107, 3, false, "", "", 64⟩]) := ⟨Tryz.und109⟩
instance Tryz.un115:UnC Tryz.tb 115 (.func #[3] #[] false):=⟨Tryz.und115⟩
instance Tryz.un125:UnC Tryz.tb 125 (.slice 162):=⟨Tryz.und125⟩
instance Tryz.un127 : UnC Tryz.tb 127 (.struct #[⟨ "Name", 9, 0, false, "", "", 0⟩, ⟨ "Supers", 80, 1, false, "", "", 16⟩, ⟨ "Feats", 125, 2, false, "", "", 40⟩]) := ⟨Tryz.und127⟩
instance Tryz.un130:UnC Tryz.tb 130 (.map 3 3):=⟨Tryz.und130⟩
instance Tryz.un139 : UnC Tryz.tb 139 (.struct #[⟨ "f", 24, 0, false, "", "grammarlab/grammarlabref07", 0⟩, ⟨ "number", 33, 1, false, "", "grammarlab/grammarlabref07", 24⟩, ⟨ "order", 33, 2, false, "", "grammarlab/grammarlabref07", 48⟩]) := ⟨Tryz.und139⟩
instance Tryz.un147 : UnC Tryz.tb 147 (.struct #[⟨ "Feat", 3, 0, false, "", "", 0⟩, ⟨ "Value", 3, 1, false, "", "", 8⟩]) := ⟨Tryz.und147⟩
instance Tryz.un148:UnC Tryz.tb 148 (.slice 103):=⟨Tryz.und148⟩
instance Tryz.un162 : UnC Tryz.tb 162 (.struct #[⟨ "Feat", 9, 0, false, "", "", 0⟩, ⟨ "Value", 9, 1, false, "", "", 16⟩]) := ⟨Tryz.und162⟩
instance Tryz.un190:UnC Tryz.tb 190 (.int .u64):=⟨Tryz.und190⟩
instance Tryz.un191:UnC Tryz.tb 191 (.int .u64):=⟨Tryz.und191⟩
instance Tryz.if3:InC Tryz.tb 3 1 8 (.int .i64 0):=⟨Tryz.inf3⟩
instance Tryz.ze3:ZeC Tryz.tb 3 [.int .i64 0]:=⟨_,_,_,Tryz.inf3,rfl,rfl⟩
instance Tryz.if4:InC Tryz.tb 4 1 1 (.bool false):=⟨Tryz.inf4⟩
instance Tryz.if9:InC Tryz.tb 9 1 16 (.string ⟨#[]⟩):=⟨Tryz.inf9⟩
instance Tryz.ze9:ZeC Tryz.tb 9 [.str []]:=⟨_,_,_,Tryz.inf9,rfl,rfl⟩
instance Tryz.if22:InC Tryz.tb 22 1 24 (.slice none 0 0):=⟨Tryz.inf22⟩
instance Tryz.if24:InC Tryz.tb 24 1 24 (.agg #[.slice none 0 0]):=⟨Tryz.inf24⟩
instance Tryz.ze24:ZeC Tryz.tb 24 [.nils]:=⟨_,_,_,Tryz.inf24,rfl,rfl⟩
instance Tryz.if28:InC Tryz.tb 28 1 24 (.slice none 0 0):=⟨Tryz.inf28⟩
instance Tryz.ze28:ZeC Tryz.tb 28 [.nils]:=⟨_,_,_,Tryz.inf28,rfl,rfl⟩
instance Tryz.if33:InC Tryz.tb 33 1 24 (.slice none 0 0):=⟨Tryz.inf33⟩
instance Tryz.ze33:ZeC Tryz.tb 33 [.nils]:=⟨_,_,_,Tryz.inf33,rfl,rfl⟩
instance Tryz.if40:InC Tryz.tb 40 1 24 (.slice none 0 0):=⟨Tryz.inf40⟩
instance Tryz.if41:InC Tryz.tb 41 1 24 (.slice none 0 0):=⟨Tryz.inf41⟩
instance Tryz.if43:InC Tryz.tb 43 2 48 (.agg #[.slice none 0 0,.slice none 0 0]):=⟨Tryz.inf43⟩
instance Tryz.ze43:ZeC Tryz.tb 43 [.nils,.nils]:=⟨_,_,_,Tryz.inf43,rfl,rfl⟩
instance Tryz.if52:InC Tryz.tb 52 1 24 (.slice none 0 0):=⟨Tryz.inf52⟩
instance Tryz.if54:InC Tryz.tb 54 2 32 (.agg #[.int .i64 0,.slice none 0 0]):=⟨Tryz.inf54⟩
instance Tryz.ze54:ZeC Tryz.tb 54 [.int .i64 0,.nils]:=⟨_,_,_,Tryz.inf54,rfl,rfl⟩
instance Tryz.if56:InC Tryz.tb 56 2 48 (.agg #[.slice none 0 0,.slice none 0 0]):=⟨Tryz.inf56⟩
instance Tryz.ze56:ZeC Tryz.tb 56 [.nils,.nils]:=⟨_,_,_,Tryz.inf56,rfl,rfl⟩
instance Tryz.if66:InC Tryz.tb 66 2 16 (.agg #[.int .i64 0,.int .i64 0]):=⟨Tryz.inf66⟩
instance Tryz.ze66:ZeC Tryz.tb 66 [.int .i64 0,.int .i64 0]:=⟨_,_,_,Tryz.inf66,rfl,rfl⟩
instance Tryz.if80:InC Tryz.tb 80 1 24 (.slice none 0 0):=⟨Tryz.inf80⟩
instance Tryz.if82:InC Tryz.tb 82 2 24 (.agg #[.string ⟨#[]⟩,.int .i64 0]):=⟨Tryz.inf82⟩
instance Tryz.ze82:ZeC Tryz.tb 82 [.str [],.int .i64 0]:=⟨_,_,_,Tryz.inf82,rfl,rfl⟩
instance Tryz.if103:InC Tryz.tb 103 1 24 (.slice none 0 0):=⟨Tryz.inf103⟩
instance Tryz.ze103:ZeC Tryz.tb 103 [.nils]:=⟨_,_,_,Tryz.inf103,rfl,rfl⟩
instance Tryz.if105:InC Tryz.tb 105 2 40 (.agg #[.string ⟨#[]⟩,.slice none 0 0]):=⟨Tryz.inf105⟩
instance Tryz.ze105:ZeC Tryz.tb 105 [.str [],.nils]:=⟨_,_,_,Tryz.inf105,rfl,rfl⟩
instance Tryz.if107:InC Tryz.tb 107 1 24 (.slice none 0 0):=⟨Tryz.inf107⟩
instance Tryz.ze107:ZeC Tryz.tb 107 [.nils]:=⟨_,_,_,Tryz.inf107,rfl,rfl⟩
instance Tryz.if109:InC Tryz.tb 109 4 88 (.agg #[.string ⟨#[]⟩,.slice none 0 0,.slice none 0 0,.slice none 0 0]):=⟨Tryz.inf109⟩
instance Tryz.ze109:ZeC Tryz.tb 109 [.str [],.nils,.nils,.nils]:=⟨_,_,_,Tryz.inf109,rfl,rfl⟩
instance Tryz.if115:InC Tryz.tb 115 1 8 (.nilFunc):=⟨Tryz.inf115⟩
instance Tryz.ze115:ZeC Tryz.tb 115 [.nilf]:=⟨_,_,_,Tryz.inf115,rfl,rfl⟩
instance Tryz.if125:InC Tryz.tb 125 1 24 (.slice none 0 0):=⟨Tryz.inf125⟩
instance Tryz.if127:InC Tryz.tb 127 3 64 (.agg #[.string ⟨#[]⟩,.slice none 0 0,.slice none 0 0]):=⟨Tryz.inf127⟩
instance Tryz.ze127:ZeC Tryz.tb 127 [.str [],.nils,.nils]:=⟨_,_,_,Tryz.inf127,rfl,rfl⟩
instance Tryz.if130:InC Tryz.tb 130 1 8 (.map none):=⟨Tryz.inf130⟩
instance Tryz.ze130:ZeC Tryz.tb 130 [.nilm]:=⟨_,_,_,Tryz.inf130,rfl,rfl⟩
instance Tryz.if139:InC Tryz.tb 139 3 72 (.agg #[.slice none 0 0,.slice none 0 0,.slice none 0 0]):=⟨Tryz.inf139⟩
instance Tryz.if147:InC Tryz.tb 147 2 16 (.agg #[.int .i64 0,.int .i64 0]):=⟨Tryz.inf147⟩
instance Tryz.ze147:ZeC Tryz.tb 147 [.int .i64 0,.int .i64 0]:=⟨_,_,_,Tryz.inf147,rfl,rfl⟩
instance Tryz.if162:InC Tryz.tb 162 2 32 (.agg #[.string ⟨#[]⟩,.string ⟨#[]⟩]):=⟨Tryz.inf162⟩
instance Tryz.ze162:ZeC Tryz.tb 162 [.str [],.str []]:=⟨_,_,_,Tryz.inf162,rfl,rfl⟩
instance Tryz.if191:InC Tryz.tb 191 1 8 (.int .u64 0):=⟨Tryz.inf191⟩
instance Tryz.ze191:ZeC Tryz.tb 191 [.int .u64 0]:=⟨_,_,_,Tryz.inf191,rfl,rfl⟩
end Go.Proofs
end
section
namespace Go.Vx
open Go Go.Rx
theorem quk {q p:List U} {a n:Nat} (h:qec q a n=some p):a+n≤q.length∧(q.drop a).take n=p:=by
 unfold qec at h
 split at h
 ·rename_i hj; exact ⟨hj,Option.some.inj h⟩
 ·cases h
theorem nth_in {q p:List U} {a sz fo:Nat} {u:U} (h:qec q a sz=some p) (h2:nth p fo=some u):nth q (a+fo)=some u:=by
 obtain ⟨h1,rfl⟩:=quk h
 rw [q1m] at h2 ⊢
 have hl:=(List.getElem?_eq_some_iff.1 h2).1
 rw [List.length_take] at hl
 rw [List.getElem?_take_of_lt (by omega),List.getElem?_drop] at h2
 exact h2
theorem put_in {q p p' cs:List U} {a sz fo:Nat} (h:qec q a sz=some p) (h2:qk5 p fo cs=some p'):qk5 q (a+fo) cs=qk5 q a p':=by
 obtain ⟨h1,rfl⟩:=quk h
 unfold qk5 at h2
 split at h2
 ·rename_i hj
  have hp:=Option.some.inj h2
  rw [List.length_take,List.length_drop] at hj
  have hl:p'.length=sz:=by
   rw [← hp]; simp; omega
  unfold qk5
  rw [if_pos (by omega),if_pos (by omega),← hp]
  congr 1
  have e1:List.take fo (List.take sz (List.drop a q))=List.take fo (List.drop a q):=by rw [List.take_take,Nat.min_eq_left (by omega)]
  have e2:List.take (a+fo) q=List.take a q++List.take fo (List.drop a q):=List.take_add
  have e3:List.drop (a+fo+cs.length) q=List.drop (fo+cs.length) (List.take sz (List.drop a q))++List.drop (a+sz) q:=by
   have:List.drop a q=List.take sz (List.drop a q)++List.drop (a+sz) q:=by rw [← List.drop_drop,List.take_append_drop]
   rw [Nat.add_assoc,← List.drop_drop]
   conv=>lhs; rw [this]
   rw [List.drop_append_of_le_length (by rw [List.length_take,List.length_drop]; omega)]
  rw [e1,e2,e3]
  simp [List.append_assoc,hl]
  omega
 ·cases h2
section
variable {T:Tb} {σ σ':Sg} {n:Nat} {l:List (Nat×U)} {u v w:U}
theorem qxk {α:Type} (c:α→List U) {t e':TypeId} {d:TypeDesc} {sz K st off m fo:Nat} {xs:List α} {i:Int} {x:α} {o:Operand} (hd:T.und t=some d) (ha:q40 d=false) (hc:∀ x,(c x).length=sz) (ho:evS n l o=some (.ptr K st (off*sz+i.toNat*sz+fo))) (hv:gt σ.h K=some (.vec (xs.map c).flatten e' sz st)) (hx:qkg xs off m i=some x) (hu:nth (c x) fo=some u):opU T σ (fr n l) (.load t o)=some (u,σ):=by
 refine qzc rfl ?_
 have hb:Nat.beq st st=true:=by simp [beq_eq]
 have hg:=qs4 hc (qco hx).2.2
 rw [Nat.add_mul] at hg
 simp only [q8q,q1r ho,cellsOf,hv,hb,cond_true,qki,hd,ha,cond_false,nth_in hg hu]
theorem st_vf {α:Type} (c:α→List U) {t e':TypeId} {sz s K st off m fo:Nat} {xs:List α} {i:Int} {x y:α} {o z:Operand} {cs:List U} {h':List (Nat×B)} (hs:q0i T t=some s) (hc:∀ x,(c x).length=sz) (ho:evS n l o=some (.ptr K st (off*sz+i.toNat*sz+fo))) (hz:evS n l z=some v) (hcs:q75 v=some cs) (hk:okL cs=true) (hl:Nat.beq cs.length s=true) (hv:gt σ.h K=some (.vec (xs.map c).flatten e' sz st)) (hx:qkg xs off m i=some x) (hy:qk5 (c x) fo (wkZ cs)=some (c y)) (hσ:ug σ.h K (.vec ((xs.set (off+i.toNat) y).map c).flatten e' sz st)=h'):opU T σ (fr n l) (.store t o z)=some (.junk,⟨h',σ.nx⟩):=by
 subst hσ
 have hb:Nat.beq st st=true:=by simp
 have hj:=(List.getElem?_eq_some_iff.1 (qco hx).2.2).1
 have hg:=qs4 hc (qco hx).2.2
 have hp:=put_in hg hy
 rw [qok hc hj y,Nat.add_mul] at hp
 exact qy4 rfl rfl (by simp only [qit,q1r ho,q1r hz,qmk,hs,hcs,hl,hk,cond_true,cellsOf,hv,hb,wkB,hp,qn5])
end
theorem qlz {σ:Sg} {k t e sz:Nat} {l:List U} (h:gt σ.h k=some (.vec l e sz t)):live σ k t=true:=by
 simp only [live,h,B.st,beq_eq,decide_true]
theorem z43 {A V:Type} (K:Nat) (b:B) (sz:Nat) (kU:A→U) (vU:V→U) [p:BFU vU] (es:List (A×V×Nat)) :
  (es.map (mE kU vU)).map (fun e=>{ e with val:=fz K b sz e.val })=es.map (mE kU vU):=by
 rw [List.map_map]
 refine List.map_congr_left fun e _=>?_
 simp only [Function.comp,mE,qtj b sz _ (p.h K e.2.1)]
end Go.Vx
end
section
namespace Go.Vx
open Go Go.Rx
def SubH (σ τ:Sg):Prop:=∀ k b,gt σ.h k=some b→gt τ.h k=some b
section
variable {σ τ:Sg} (hs:SubH σ τ)
include hs
variable {T:Tb} {tm:List U}
def noEff:Op→Bool
 | .alloc _ | .box _ _ | .store _ _ _ | .buildSlice _ _ _ | .makeSlice _ _ _ | .makeMap _ _ | .mapUpdate _ _ _ _ | .insert _ _ _ _ | .mapEntry _ _ _ | .entryStore _ _ _ _=>false
 | .call c=>(match c.callee with
  | .builtin .append=>false
  | .builtin .copy=>false
  | .builtin .delete=>false
  | .builtin .clear=>false
  | _=>true)
 | _=>true
end
end Go.Vx
end
section
namespace Go.Vx
open Go Go.Rx
def alU:Option Nat→Nat→U
 | none,k=>.ptr k 0 0
 | some n,k=>.sl k 0 n n
structure Al where
 i:Nat
 k:Nat
 o:Option Nat
 l:List U
 e:TypeId
structure Loc (T:Tb) (ops:List Oper) (als:List Al) (i:Nat) (r:q4p) (K:Nat) (q q':List U) (e:TypeId):Prop where
 name:∃ al∈als,al.k=K
 row:gt r.s.h K=some (.row q e)
 out:r.s'=⟨ug r.s.h K (.row q' e),r.s.nx⟩
 dst:r.o.dst=none
 run:∀ τ:Sg,gt τ.h K=some (.row q e)→opU T τ r.tm r.o.op=some (r.u,⟨ug τ.h K (.row q' e),τ.nx⟩)
 pre:∀ al∈als,Pre ops i al.i∨(al.k≠K∧q1k al.k q')
 want:q08 ops r.tm r.o=some true
structure ChA (P:Program) (T:Tb) (ops:List Oper) (tm₀:List U) (σb σ1:Sg) (rs:List q4p) (als:List Al):Prop where
 some:als≠[]
 names:∀ al∈als,σb.nx≤al.k∧al.k<σ1.nx
 nodup:∀ a∈als,∀ b∈als,a.k=b.k→a.i=b.i
 le:σb.nx≤σ1.nx
 at_:∀ al∈als,∃ r d,rs[al.i]? = .some r∧r.u=alU al.o al.k∧r.act=false∧r.mv=true∧(∀ σ,opU T σ r.tm r.o.op = .some (alU al.o σ.nx,q5q σ (.row al.l al.e)))∧r.o.guard=none∧r.o.dst = .some d
 row:∀ al∈als,q1k 0 al.l
 all:∀ (i:Nat) (r:q4p),rs[i]? = .some r→r.act=false→r.mv=true→∃ al∈als,al.i=i
 own:∀ al∈als,gt σ1.h al.k = .some (.row al.l al.e)
 oth:∀ j,(∀ al∈als,al.k≠j)→gt σ1.h j=gt σb.h j
 acts:∀ (i:Nat) (r:q4p),rs[i]? = .some r→r.act=true→(∀ al∈als,Pre ops i al.i)∨∃ K q q' e,Loc T ops als i r K q q' e
 early:∀ (i:Nat) (r:q4p),rs[i]? = .some r→r.act=false→r.mv=false→(∀ al∈als,Pre ops i al.i)∨(Bel σb.nx r.u∧(q08 ops r.tm r.o = .some true→opU T r.s r.tm r.o.op = .some (r.u,r.s')→noEff r.o.op=true∧opU T ⟨σb.h,σ1.nx⟩ r.tm r.o.op = .some (r.u,⟨σb.h,σ1.nx⟩)))
section
variable {P:Program} {T:Tb} (hT:qe2 P T) (ops:Array Oper) {tm₀:List U} {σb σ1:Sg} {rs:List q4p} {tm':List U} {σ':Sg} {als:List Al}
 (htr:TrU P T ops.toList tm₀ σ1 rs tm' σ') (hst:q9y ops.toList=true) (hch:ChU T ops.toList rs) (hal:ChA P T ops.toList tm₀ σb σ1 rs als)
include htr hal
include hT hst hch
end
end Go.Vx
end
section
namespace Go.Vx
open Go Go.Rx
def locP (mk K:Nat) (q':List U):List Al→Prop
 | []=>True
 | al::r=>(Nat.testBit mk al.i=true∨(al.k≠K∧q1k al.k q'))∧locP mk K q' r
def RA (P:Program) (T:Tb) (ops:List Oper) (nb:Nat) (σe:Sg) (qa:List Al):List Oper→List U→Sg→List RK→List Al→(List RK→List U→Sg→Prop)→Prop
 | [],tm,σ,acc,q,K=>q=[]∧K acc tm σ
 | o::r,tm,σ,acc,q,K =>
  (q08 ops tm o=some true∧∃ u,opU T σ tm o.op=some (u,σ)∧RA P T ops nb σe qa r (q4r tm o.dst u) σ ((1,⟨tm,o,u,false,false,σ,σ⟩)::acc) q K) ∨
  (q08 ops tm o=some true∧∃ u σ',opU T σ tm o.op=some (u,σ')∧RA P T ops nb σe qa r (q4r tm o.dst u) σ' ((3,⟨tm,o,u,true,true,σ,σ'⟩)::acc) q K) ∨
  (q08 ops tm o=some true∧∃ f args u,q4q T tm o.op=some (f,args)∧EvU P f args σ (fun u' σ'=>u'=u∧σ'=σ)∧RA P T ops nb σe qa r (q4r tm o.dst u) σ ((2,⟨tm,o,u,true,false,σ,σ⟩)::acc) q K) ∨
  (q08 ops tm o=some true∧∃ f args u σ',q4q T tm o.op=some (f,args)∧EvU P f args σ (fun u' s'=>u'=u∧s'=σ')∧RA P T ops nb σe qa r (q4r tm o.dst u) σ' ((3,⟨tm,o,u,true,true,σ,σ'⟩)::acc) q K) ∨
  (q08 ops tm o=some false∧RA P T ops nb σe qa r (q4r tm o.dst (.tup [])) σ ((0,⟨tm,o,.tup [],false,false,σ,σ⟩)::acc) q K) ∨
  (q08 ops tm o=some true∧∃ u,qe7 P T tm o.op u∧Bel nb u∧RA P T ops nb σe qa r (q4r tm o.dst u) σ ((6,⟨tm,o,u,false,false,σ,σ⟩)::acc) q K) ∨
  (q08 ops tm o=some true∧∃ u,opU T σ tm o.op=some (u,σ)∧opU T σe tm o.op=some (u,σe)∧noEff o.op=true∧Bel nb u∧RA P T ops nb σe qa r (q4r tm o.dst u) σ ((5,⟨tm,o,u,false,false,σ,σ⟩)::acc) q K) ∨
  (∃ al q' d,q=al::q'∧al.i=acc.length∧(∀ s,opU T s tm o.op=some (alU al.o s.nx,q5q s (.row al.l al.e)))∧o.guard=none∧o.dst=some d∧RA P T ops nb σe qa r (q4r tm o.dst (alU al.o al.k)) σ ((4,⟨tm,o,alU al.o al.k,false,true,σ,σ⟩)::acc) q' K) ∨
  (q08 ops tm o=some true∧∃ u KK c c' e mk,(masks ops [])[acc.length]? = some mk∧o.dst=none∧gt σ.h KK=some (.row c e)∧(∀ τ:Sg,gt τ.h KK=some (.row c e)→opU T τ tm o.op=some (u,⟨ug τ.h KK (.row c' e),τ.nx⟩))∧(∃ al∈qa,al.k=KK)∧locP mk KK c' qa ∧
   RA P T ops nb σe qa r (q4r tm o.dst u) ⟨ug σ.h KK (.row c' e),σ.nx⟩ ((7,⟨tm,o,u,true,true,σ,⟨ug σ.h KK (.row c' e),σ.nx⟩⟩)::acc) q K)
section
variable {P:Program} {T:Tb}
end
section
variable {C:PG} {T:Tb} (hT:qe2 C.prog T) {n0:Nat} {Q:Exit→List U→Sg→Prop} {tm:List U} {σ:Sg}
include hT
end
end Go.Vx
end
section
namespace Go.Vx
open Go Go.Rx
section
variable {P:Program} {T:Tb} {ops r:List Oper} {o:Oper} {n nb:Nat} {σe:Sg} {l:List (Nat×U)} {σ σ':Sg} {acc:List RK} {q qa:List Al} {K:List RK→List U→Sg→Prop} {u:U}
theorem RQ.act (hw:q08 ops (fr n l) o=some true) (h:opU T σ (fr n l) o.op=some (u,σ')) {d:Tmp} (he:o.dst=some d) (hd:Nat.blt d n=true) (hk:RA P T ops nb σe qa r (fr n ((d,u)::l)) σ' ((3,⟨fr n l,o,u,true,true,σ,σ'⟩)::acc) q K):RA P T ops nb σe qa (o::r) (fr n l) σ acc q K :=
 .inr (.inl ⟨hw,u,σ',h,by rw [he,q5g (d:=some d) u hd]; exact hk⟩)
theorem RQ.call {f:FuncId} {args:List U} (hw:q08 ops (fr n l) o=some true) (hc:q4q T (fr n l) o.op=some (f,args)) (hev:EvU P f args σ (fun u' σ'=>u'=u∧σ'=σ)) {d:Tmp} (he:o.dst=some d) (hd:Nat.blt d n=true) (hk:RA P T ops nb σe qa r (fr n ((d,u)::l)) σ ((2,⟨fr n l,o,u,true,false,σ,σ⟩)::acc) q K):RA P T ops nb σe qa (o::r) (fr n l) σ acc q K :=
 .inr (.inr (.inl ⟨hw,f,args,u,hc,hev,by rw [he,q5g (d:=some d) u hd]; exact hk⟩))
theorem RQ.alloc {al:Al} (hi:al.i=acc.length) (ho:∀ s,opU T s (fr n l) o.op=some (alU al.o s.nx,q5q s (.row al.l al.e))) (hg:o.guard=none) {d:Tmp} (he:o.dst=some d) (hd:Nat.blt d n=true) (hk:RA P T ops nb σe qa r (fr n ((d,alU al.o al.k)::l)) σ ((4,⟨fr n l,o,alU al.o al.k,false,true,σ,σ⟩)::acc) q K):RA P T ops nb σe qa (o::r) (fr n l) σ acc (al::q) K :=
 .inr (.inr (.inr (.inr (.inr (.inr (.inr (.inl ⟨al,q,d,rfl,hi,ho,hg,he,by rw [he,q5g (d:=some d) _ hd]; exact hk⟩)))))))
end
section
variable {C:PG} {T:Tb} (hT:qe2 C.prog T) {n0:Nat} {Q:Exit→List U→Sg→Prop} {tm:List U} {σ:Sg}
include hT
end
end Go.Vx
end
section
namespace Go.Vx
open Go Go.Rx
theorem qqp {P:Program} {T:Tb} (hT:qe2 P T) {m:Nm} {s:S} (w:World) {t e:TypeId} {sz by_ n:Nat} {z:Value} {ps:List (Nat×Value)} {cps:List (Nat×Value)} {cs:List Value}
  (hps:∀ m',Agree s.nx m m'→ps.map (fun p=>(p.1,ren m' p.2))=cps) (hd:T.und t=some (.slice e)) (hi:T.inf e=some (sz,by_,z)) (h1:Nat.ble (n*sz) 16777216=true) (h2:z.cells.toList.length=sz)
  (h3:qj0 (fun i=>some (i*sz,sz)) (zeros z.cells.toList n) ps=some cs) :
  ∃ cl,qhc m s.nx cs cl∧(Instr.buildSlice t n cps.toArray).run P w = .ok (.slice (some ⟨w.heap.size,0,none⟩) n n) (w.alloc (.cells ⟨cl⟩ e)):=by
 have hsz:q0i T e=some sz:=by simp [q0i,hi]
 have hz:=fun m'=>q72 hT m' w hi
 have hzc:=qa1 hT hi
 simp only at hz hzc
 have h1':n*sz≤16777216:=by simpa [Nat.ble_eq] using h1
 have hfill:∀ m',Agree s.nx m m'→Instr.fill (fun i=>some (i*sz,sz)) ⟨zeros z.cells.toList n⟩ cps=some ⟨q0l m' cs⟩:=fun m' ha=>by
  have:=qlq m' _ ps _ _ h3
  rw [hps m' ha,qfc hzc] at this
  exact this
 have hcl:qhc m s.nx cs (q0l m cs):=fun m' ha=>by
  have e1:=hfill m' ha
  have e2:=hfill m (Agree.refl _ _)
  rw [e1] at e2
  simpa using e2
 have hcells:z.cells.size=sz:=by simpa using h2
 refine ⟨q0l m cs,hcl,?_⟩
 have hzeros:(Array.range (n*sz)).map (fun i=>(if n*sz=0 then (#[]:Array Value) else z.cells)[i % (if n*sz=0 then (#[]:Array Value) else z.cells).size]!)=⟨zeros z.cells.toList n⟩:=by
  by_cases h0:n*sz=0
  ·rw [h0]
   apply Array.ext'
   have:(zeros z.cells.toList n).length=0:=by rw [qis,h2,h0]
   simp [List.length_eq_zero_iff.1 this]
  ·simp only [if_neg h0]
   have:=qir z.cells n
   rw [hcells] at this
   rw [← this]
   simp [hcells]
 have hf2:=hfill m (Agree.refl _ _)
 have hnot:¬ n*sz > 2 ^ 24:=by omega
 have hzz:=(hz m).1
 by_cases h0:n*sz=0
 ·simp only [if_pos h0] at hzeros
  simp only [Instr.buildSlice,Sem.run_bind,q0n hT w hd,Result.andThen_ok,q17 hT w hsz,Sem.run_ite,if_neg hnot,Sem.run_pure,if_pos h0]
  rw [hzeros,hf2]
  simp [Go.newRow]
 ·simp only [if_neg h0] at hzeros
  simp only [Instr.buildSlice,Sem.run_bind,q0n hT w hd,Result.andThen_ok,q17 hT w hsz,Sem.run_ite,if_neg hnot,Sem.run_pure,if_neg h0,hzz]
  rw [hzeros,hf2]
  simp [Go.newRow]
theorem qe9.bslw {C:PG} {T:Tb} (hT:qe2 C.prog T) {σ:Sg} {tm:List U} {o:Oper} {t e:TypeId} {k sz b:Nat} {z:Value} {zu cs0 cs:List U} {ps:Array (Nat×Operand)} {qs:List (Nat×U)} (ho:o.op = .buildSlice t k ps) (hd:T.und t=some (.slice e)) (hi:T.inf e=some (sz,b,z))
  (h:q95 tm ps.toList=some qs) (h1:Nat.ble (k*sz) 16777216=true) (h3:Nat.beq z.cells.toList.length sz=true) (hz:qk2 z.cells.toList=some zu) (hf:qb5 (fun i=>some (i*sz,sz)) (q6b zu k) qs=some cs0) (hw:WkL cs0 cs) (hk:okL cs=true) (hl:Nat.beq cs.length (k*sz)=true) (hs:Nat.blt 0 sz=true) :
  qe9 C σ tm o (fun u σ'=>u = .vl σ.nx 0 0 k∧σ'=q5q σ (.vec cs e sz 0)):=fun F x tv m w a next Q hxσ st hG hn ro hro=>by
 subst hxσ
 obtain ⟨vs,ev,hp⟩:=qln st.e h
 have hzr:=(qcy _ _ hz).2 x
 obtain ⟨rv,f1,f2⟩:=qhk hp (qch hzr k) hf
 have f2:q0u x cs rv:=⟨hw.rel f2.1,by rw [hw.len]; exact f2.2⟩
 have h2:z.cells.toList.length=sz:=by simpa [beq_eq] using h3
 obtain ⟨cl,g1,g2⟩:=qqp hT (m:=m) (s:=x.s) w (cps:=ps.toList.map fun p=>(p.1,a.eval p.2)) (fun m' hm'=>(qog (st.act m' hm') ev).symm) hd hi h1 h2 f1
 have e1:(ps.map fun (i,x)=>(i,a.eval x))=(ps.toList.map fun p=>(p.1,a.eval p.2)).toArray:=by cases ps; simp
 have hrun:(execOp a.eval o).run C.prog w = .ok (.value (.slice (some ⟨w.heap.size,0,none⟩) k k)) (w.alloc (.cells ⟨cl⟩ e)):=by
  simp only [execOp,ho]
  rw [e1]
  simp only [Sem.run_bind,g2,Result.andThen_ok,Sem.run_pure]
 have hlen:rv.length=k*sz:=by
  have h5:=f2.2
  have h6:cs.length=k*sz:=by simpa [beq_eq] using hl
  rw [← h5,h6]
 have hadv:Adv m x.s w (m.set x.s.nx w.heap.size 0 k) (Rx.newRow x.s rv e (sz+2)) (w.alloc (.cells ⟨cl⟩ e)):=by
  have:=qas st.fits (rest:=[]) g1 e k sz (by simpa using hlen)
  simpa using this
 have hsz:0<sz:=by simpa [Nat.blt_eq] using hs
 have hout:=qfm st.h f2 hk e hsz
 have hrel:q5k (m.set x.s.nx w.heap.size 0 k) (x.s.nx+1) (.slice (some ⟨x.s.nx,0,none⟩) k q05) (.slice (some ⟨w.heap.size,0,none⟩) k k):=fun m' ha=>by
  obtain ⟨q1,q2,q3⟩:=ha x.s.nx (Nat.lt_succ_self _)
  obtain ⟨r1,r2,r3⟩:=q73 m x.s.nx w.heap.size 0 k
  simp [ren,q1,q2,r1,r2,capOf,capD,q3,r3]
 refine q94 (by rw [ho]; intro c hc; cases hc) ?_
 unfold Oper.wp
 rw [hrun]
 exact hn _ ⟨qg2 x.ρ x.σ.nx (some x.s.nx),q5q x.σ (.vec cs e sz 0),Rx.newRow x.s rv e (sz+2)⟩ (qzd tv o.dst (.slice (some ⟨x.s.nx,0,none⟩) k q05)) _ _ _ ⟨rfl,rfl⟩
  ⟨hout.h,hout.fr F st.fr,qje (hout.mo.ke.E st.e.bel st.e) qft _,hadv.fits,(st.act.ext hadv.agree hadv.nx).put hrel o.dst⟩ hadv hout.mo.ke hout.mo.nx (q65 _ _ _)
theorem qe9.bslv {C:PG} {T:Tb} (hT:qe2 C.prog T) {σ:Sg} {tm:List U} {o:Oper} {t e:TypeId} {k sz b:Nat} {z:Value} {zu cs:List U} {ps:Array (Nat×Operand)} {qs:List (Nat×U)} (ho:o.op = .buildSlice t k ps) (hd:T.und t=some (.slice e)) (hi:T.inf e=some (sz,b,z))
  (h:q95 tm ps.toList=some qs) (h1:Nat.ble (k*sz) 16777216=true) (h3:Nat.beq z.cells.toList.length sz=true) (hz:qk2 z.cells.toList=some zu) (hf:qb5 (fun i=>some (i*sz,sz)) (q6b zu k) qs=some cs) (hk:okL cs=true) (hl:Nat.beq cs.length (k*sz)=true) (hs:Nat.blt 0 sz=true) :
  qe9 C σ tm o (fun u σ'=>u = .vl σ.nx 0 0 k∧σ'=q5q σ (.vec cs e sz 0)):=qe9.bslw hT ho hd hi h h1 h3 hz hf (WkL.refl _) hk hl hs
end Go.Vx
end
section
namespace Go.Vx
open Go Go.Rx
def mvN (K K2 k:Nat):Nat:=cond (Nat.beq k K) K2 k
def mvH (K K2:Nat):List (Nat×B)→List (Nat×B)
 | []=>[]
 | (k,b)::h=>cond (Nat.beq k K) (mvH K K2 h) (cond (Nat.beq k K2) ((K,b)::mvH K K2 h) ((k,b)::mvH K K2 h))
theorem qxd {K K2:Nat} (hne:K≠K2):∀ (h:List (Nat×B)) (j:Nat),gt (mvH K K2 h) j=if j=K then gt h K2 else if j=K2 then none else gt h j
 | [],j=>by simp [mvH,gt]
 | (k,b)::h,j=>by
  have ih:=qxd hne h j
  simp only [mvH,beq_eq]
  by_cases e1:k=K
  ·subst e1
   simp only [decide_true,cond_true,ih,q1f]
   by_cases e2:j=k
   ·subst e2; simp [hne]
   ·simp [e2,Ne.symm e2]
  ·by_cases e2:k=K2
   ·subst e2
    simp only [e1,decide_false,cond_false,decide_true,cond_true,q1f,ih]
    by_cases e3:j=K
    ·subst e3; simp
    ·by_cases e4:j=k
     ·simp [e4,e1,Ne.symm e3]
      intro h; exact absurd h.symm e1
     ·simp [e3,e4,Ne.symm e3,Ne.symm e4]
   ·simp only [e1,e2,decide_false,cond_false,q1f,ih]
    by_cases e3:j=K
    ·subst e3; simp [e1,e2]
    ·by_cases e4:j=K2
     ·subst e4; simp [e3,e2]
     ·simp [e3,e4]
def rS (π:Nat→Nat):List (Nat×U)→List (Nat×U)
 | []=>[]
 | (i,u)::l=>(i,rU π u)::rS π l
theorem qtv (π:Nat→Nat):∀ (l:List (Nat×U)) (i:Nat),q6c (rS π l) i=(q6c l i).map (rU π)
 | [],i=>rfl
 | (j,u)::l,i=>by
  simp only [rS,q6c,beq_eq,qtv π l i]
  by_cases e:j=i<;>simp [e]
theorem qyb (π:Nat→Nat):∀ (l:List U) (i:Nat),(rUL π l)[i]? = (l[i]?).map (rU π)
 | [],i=>by simp [rUL]
 | u::l,0=>by simp [rUL]
 | u::l,i+1=>by simp [rUL,qyb π l i]
theorem rUL_fr (π:Nat→Nat) (n:Nat) (l:List (Nat×U)):rUL π (fr n l)=fr n (rS π l):=by
 apply List.ext_getElem?
 intro k
 rw [qyb]
 by_cases hk:k<n
 ·rw [qho n l hk,qho n _ hk,qtv]
  cases q6c l k with
  | none=>simp [rU]
  | some w=>rfl
 ·rw [List.getElem?_eq_none (by simp [qc6]; omega),List.getElem?_eq_none (by simp [qc6]; omega)]
  rfl
def avH (π:Nat→Nat):List (Nat×B)→Prop
 | []=>True
 | (_,b)::h=>rB π b=b∧avH π h
theorem z1u {π:Nat→Nat}:∀ {h:List (Nat×B)},avH π h→∀ k b,gt h k=some b→rB π b=b
 | [],_,k,b,hg=>by cases hg
 | (j,c)::h,ha,k,b,hg=>by
  rw [q1f] at hg
  by_cases e:j=k
  ·rw [if_pos e] at hg; cases hg; exact ha.1
  ·rw [if_neg e] at hg; exact z1u ha.2 k b hg
theorem Gh.mv {n0 n:Nat} {l l':List (Nat×U)} {σ:Sg} {h':List (Nat×B)} (K K2:Nat) (h0:n0≤K) (hK:Nat.blt K σ.nx=true) (hne:Nat.beq K K2=false) (hl:rS (mvN K K2) l'=l) (hm:mvH K K2 σ.h=h') (ha:avH (mvN K K2) h') [hb:BS σ.nx l']:Gh n0 (fr n l) σ (fr n l') ⟨h',σ.nx⟩:=fun F x tv hx hr hf he=>by
 subst hx; subst hl; subst hm
 have hK':K<x.σ.nx:=by simpa [Nat.blt_eq] using hK
 have hne':K≠K2:=by simpa [beq_eq] using hne
 have key:∀ k b,gt (mvH K K2 x.σ.h) k=some b→gt x.σ.h (mvN K K2 k)=some b:=fun k b hg=>by
  rw [qxd hne'] at hg
  simp only [mvN,beq_eq]
  by_cases e:k=K
  ·rw [if_pos e] at hg; simpa [e] using hg
  ·rw [if_neg e] at hg
   by_cases e2:k=K2
   ·rw [if_pos e2] at hg; cases hg
   ·rw [if_neg e2] at hg; simpa [e] using hg
 let y:Cx:=⟨fun k=>x.ρ (mvN K K2 k),⟨mvH K K2 x.σ.h,x.σ.nx⟩,x.s⟩
 have hU:ql7 x.σ.nx (mvN K K2) x y:=⟨fun k st off v hk h=>by
   simp only [Rel,Ref] at h ⊢
   exact ⟨h.1,hk,fun b hb=>h.2.2 b (key k b hb)⟩,fun k off m c v hk h=>by
   simp only [Rel,Ref] at h ⊢
   exact ⟨h.1,hk,fun b hb=>h.2.2 b (key k b hb)⟩,fun k st off m v hk h=>by
   simp only [Rel] at h ⊢
   exact ⟨h.1,hk,fun b hb=>h.2.2 b (key k b hb)⟩,fun k v hk h=>by
   simp only [Rel,Ref] at h ⊢
   exact ⟨h.1,hk,fun b hb=>h.2.2 b (key k b hb)⟩,fun _ _ _ h=>h⟩
 have hback:∀ u,Bel n0 u→rU (mvN K K2) u=u:=fun u hbu=>by
  have:=qyc (π:=id) (κ:=mvN K K2) (n:=n0) (fun k hk=>by
   have:¬ k=K:=by omega
   simp [mvN,beq_eq,this]) u hbu
  rwa [rid] at this
 refine ⟨y,fun m w hf=>Adv.refl hf,rfl,⟨fun k b hb=>?_,fun k k' b b' i hb hb' h1 h2=>?_,hr.bd⟩,fun i b hF=>?_,?_,fun u v hbu hv=>?_⟩
 ·have hg:=key k b hb
  obtain ⟨g1,g2⟩:=hr.ok _ _ hg
  have hkl:k<x.σ.nx:=by
   by_cases e:k=K
   ·omega
   ·have e2:mvN K K2 k=k:=by simp [mvN,beq_eq,e]
    rw [e2] at g1; exact g1
  refine ⟨hkl,BOk.unleaf hU g2.belB rfl (fun _ _ _ h=>h) ?_⟩
  rw [z1u ha k b hb]; exact g2
 ·have e:=hr.inj _ _ b b' i (key k b hb) (key k' b' hb') h1 h2
  have hn2:∀ k b,gt (mvH K K2 x.σ.h) k=some b→k≠K2:=fun k b hb h=>by
   subst h
   rw [qxd hne',if_neg (Ne.symm hne'),if_pos rfl] at hb
   cases hb
  have q1:=hn2 k b hb
  have q2:=hn2 k' b' hb'
  simp only [mvN,beq_eq] at e
  by_cases e1:k=K
  ·by_cases e2:k'=K
   ·rw [e1,e2]
   ·simp [e1,e2] at e; exact absurd e.symm q2
  ·by_cases e2:k'=K
   ·simp [e1,e2] at e; exact absurd e q1
   ·simpa [e1,e2] using e
 ·obtain ⟨h1,h2⟩:=hf i b hF
  exact ⟨h1,fun k c hc=>h2 _ c (key k c hc)⟩
 ·refine q0u.unleaf hU (qw3 hb.h) ?_
  rw [rUL_fr]; exact he
 ·exact Rel.unleaf hU u v (Bel.le (by omega) u hbu) (by rw [hback u hbu]; exact hv)
end Go.Vx
end
section
namespace Go.Proofs
open Go Go.Rx
theorem Tryz.fn10:Tryz.tb.fn 10=some Tryz.f10:=by kernel_rfl
theorem Tryz.fn12:Tryz.tb.fn 12=some Tryz.f12:=by kernel_rfl
theorem Tryz.fn13:Tryz.tb.fn 13=some Tryz.f13:=by kernel_rfl
theorem Tryz.fn14:Tryz.tb.fn 14=some Tryz.f14:=by kernel_rfl
theorem Tryz.fn15:Tryz.tb.fn 15=some Tryz.f15:=by kernel_rfl
theorem Tryz.fn17:Tryz.tb.fn 17=some Tryz.f17:=by kernel_rfl
theorem Tryz.fn18:Tryz.tb.fn 18=some Tryz.f18:=by kernel_rfl
theorem Tryz.fn21:Tryz.tb.fn 21=some Tryz.f21:=by kernel_rfl
theorem Tryz.fn22:Tryz.tb.fn 22=some Tryz.f22:=by kernel_rfl
theorem Tryz.fn25:Tryz.tb.fn 25=some Tryz.f25:=by kernel_rfl
theorem Tryz.fn26:Tryz.tb.fn 26=some Tryz.f26:=by kernel_rfl
theorem Tryz.fn28:Tryz.tb.fn 28=some Tryz.f28:=by kernel_rfl
theorem Tryz.fn30:Tryz.tb.fn 30=some Tryz.f30:=by kernel_rfl
theorem Tryz.fn31:Tryz.tb.fn 31=some Tryz.f31:=by kernel_rfl
theorem Tryz.fn34:Tryz.tb.fn 34=some Tryz.f34:=by kernel_rfl
theorem Tryz.fn36:Tryz.tb.fn 36=some Tryz.f36:=by kernel_rfl
theorem Tryz.fn38:Tryz.tb.fn 38=some Tryz.f38:=by kernel_rfl
theorem Tryz.fn41:Tryz.tb.fn 41=some Tryz.f41:=by kernel_rfl
theorem Tryz.fn42:Tryz.tb.fn 42=some Tryz.f42:=by kernel_rfl
theorem Tryz.fn43:Tryz.tb.fn 43=some Tryz.f43:=by kernel_rfl
theorem Tryz.fn44:Tryz.tb.fn 44=some Tryz.f44:=by kernel_rfl
theorem Tryz.fn45:Tryz.tb.fn 45=some Tryz.f45:=by kernel_rfl
theorem Tryz.fn46:Tryz.tb.fn 46=some Tryz.f46:=by kernel_rfl
theorem Tryz.hb46:Tryz.f46.body.isSome=true:=rfl
theorem Tryz.fn47:Tryz.tb.fn 47=some Tryz.f47:=by kernel_rfl
theorem Tryz.fn48:Tryz.tb.fn 48=some Tryz.f48:=by kernel_rfl
theorem Tryz.hb48:Tryz.f48.body.isSome=true:=rfl
theorem Tryz.fn49:Tryz.tb.fn 49=some Tryz.f49:=by kernel_rfl
theorem Tryz.fn50:Tryz.tb.fn 50=some Tryz.f50:=by kernel_rfl
theorem Tryz.fn51:Tryz.tb.fn 51=some Tryz.f51:=by kernel_rfl
theorem Tryz.fn52:Tryz.tb.fn 52=some Tryz.f52:=by kernel_rfl
theorem Tryz.fn53:Tryz.tb.fn 53=some Tryz.f53:=by kernel_rfl
theorem Tryz.fn54:Tryz.tb.fn 54=some Tryz.f54:=by kernel_rfl
theorem Tryz.fn55:Tryz.tb.fn 55=some Tryz.f55:=by kernel_rfl
theorem Tryz.fn57:Tryz.tb.fn 57=some Tryz.f57:=by kernel_rfl
theorem Tryz.fn59:Tryz.tb.fn 59=some Tryz.f59:=by kernel_rfl
theorem Tryz.fn60:Tryz.tb.fn 60=some Tryz.f60:=by kernel_rfl
theorem Tryz.fn62:Tryz.tb.fn 62=some Tryz.f62:=by kernel_rfl
theorem Tryz.fn65:Tryz.tb.fn 65=some Tryz.f65:=by kernel_rfl
theorem Tryz.fn67:Tryz.tb.fn 67=some Tryz.f67:=by kernel_rfl
theorem Tryz.fn68:Tryz.tb.fn 68=some Tryz.f68:=by kernel_rfl
theorem Tryz.fn69:Tryz.tb.fn 69=some Tryz.f69:=by kernel_rfl
theorem Tryz.fn70:Tryz.tb.fn 70=some Tryz.f70:=by kernel_rfl
theorem Tryz.fn71:Tryz.tb.fn 71=some Tryz.f71:=by kernel_rfl
theorem Tryz.fn72:Tryz.tb.fn 72=some Tryz.f72:=by kernel_rfl
theorem Tryz.fn73:Tryz.tb.fn 73=some Tryz.f73:=by kernel_rfl
theorem Tryz.fn74:Tryz.tb.fn 74=some Tryz.f74:=by kernel_rfl
theorem Tryz.fn81:Tryz.tb.fn 81=some Tryz.f81:=by kernel_rfl
theorem Tryz.fn82:Tryz.tb.fn 82=some Tryz.f82:=by kernel_rfl
theorem Tryz.fn83:Tryz.tb.fn 83=some Tryz.f83:=by kernel_rfl
theorem Tryz.hb83:Tryz.f83.body.isSome=true:=rfl
theorem Tryz.fn84:Tryz.tb.fn 84=some Tryz.f84:=by kernel_rfl
theorem Tryz.hb84:Tryz.f84.body.isSome=true:=rfl
theorem Tryz.fn85:Tryz.tb.fn 85=some Tryz.f85:=by kernel_rfl
theorem Tryz.hb85:Tryz.f85.body.isSome=true:=rfl
theorem Tryz.fn86:Tryz.tb.fn 86=some Tryz.f86:=by kernel_rfl
theorem Tryz.fn87:Tryz.tb.fn 87=some Tryz.f87:=by kernel_rfl
theorem Tryz.fn88:Tryz.tb.fn 88=some Tryz.f88:=by kernel_rfl
theorem Tryz.hb88:Tryz.f88.body.isSome=true:=rfl
theorem Tryz.fn89:Tryz.tb.fn 89=some Tryz.f89:=by kernel_rfl
theorem Tryz.hb89:Tryz.f89.body.isSome=true:=rfl
theorem Tryz.fn90:Tryz.tb.fn 90=some Tryz.f90:=by kernel_rfl
theorem Tryz.fn91:Tryz.tb.fn 91=some Tryz.f91:=by kernel_rfl
theorem Tryz.fn92:Tryz.tb.fn 92=some Tryz.f92:=by kernel_rfl
theorem Tryz.fn93:Tryz.tb.fn 93=some Tryz.f93:=by kernel_rfl
theorem Tryz.fn94:Tryz.tb.fn 94=some Tryz.f94:=by kernel_rfl
theorem Tryz.fn95:Tryz.tb.fn 95=some Tryz.f95:=by kernel_rfl
theorem Tryz.fn96:Tryz.tb.fn 96=some Tryz.f96:=by kernel_rfl
theorem Tryz.fn97:Tryz.tb.fn 97=some Tryz.f97:=by kernel_rfl
theorem Tryz.fn98:Tryz.tb.fn 98=some Tryz.f98:=by kernel_rfl
theorem Tryz.fn99:Tryz.tb.fn 99=some Tryz.f99:=by kernel_rfl
theorem Tryz.fn100:Tryz.tb.fn 100=some Tryz.f100:=by kernel_rfl
theorem Tryz.fn101:Tryz.tb.fn 101=some Tryz.f101:=by kernel_rfl
theorem Tryz.fn102:Tryz.tb.fn 102=some Tryz.f102:=by kernel_rfl
theorem Tryz.fn109:Tryz.tb.fn 109=some Tryz.f109:=by kernel_rfl
theorem Tryz.fn110:Tryz.tb.fn 110=some Tryz.f110:=by kernel_rfl
theorem Tryz.fn111:Tryz.tb.fn 111=some Tryz.f111:=by kernel_rfl
theorem Tryz.hb111:Tryz.f111.body.isSome=true:=rfl
theorem Tryz.fn112:Tryz.tb.fn 112=some Tryz.f112:=by kernel_rfl
theorem Tryz.hb112:Tryz.f112.body.isSome=true:=rfl
theorem Tryz.fn113:Tryz.tb.fn 113=some Tryz.f113:=by kernel_rfl
theorem Tryz.fn114:Tryz.tb.fn 114=some Tryz.f114:=by kernel_rfl
theorem Tryz.fn115:Tryz.tb.fn 115=some Tryz.f115:=by kernel_rfl
theorem Tryz.fn116:Tryz.tb.fn 116=some Tryz.f116:=by kernel_rfl
theorem Tryz.fn117:Tryz.tb.fn 117=some Tryz.f117:=by kernel_rfl
theorem Tryz.fn118:Tryz.tb.fn 118=some Tryz.f118:=by kernel_rfl
theorem Tryz.fn119:Tryz.tb.fn 119=some Tryz.f119:=by kernel_rfl
theorem Tryz.fn120:Tryz.tb.fn 120=some Tryz.f120:=by kernel_rfl
theorem Tryz.fn121:Tryz.tb.fn 121=some Tryz.f121:=by kernel_rfl
theorem Tryz.fn122:Tryz.tb.fn 122=some Tryz.f122:=by kernel_rfl
theorem Tryz.fn123:Tryz.tb.fn 123=some Tryz.f123:=by kernel_rfl
theorem Tryz.fn124:Tryz.tb.fn 124=some Tryz.f124:=by kernel_rfl
theorem Tryz.fn125:Tryz.tb.fn 125=some Tryz.f125:=by kernel_rfl
theorem Tryz.fn126:Tryz.tb.fn 126=some Tryz.f126:=by kernel_rfl
theorem Tryz.hb126:Tryz.f126.body.isSome=true:=rfl
theorem Tryz.fn127:Tryz.tb.fn 127=some Tryz.f127:=by kernel_rfl
theorem Tryz.fn128:Tryz.tb.fn 128=some Tryz.f128:=by kernel_rfl
theorem Tryz.fn129:Tryz.tb.fn 129=some Tryz.f129:=by kernel_rfl
theorem Tryz.fn130:Tryz.tb.fn 130=some Tryz.f130:=by kernel_rfl
theorem Tryz.fn131:Tryz.tb.fn 131=some Tryz.f131:=by kernel_rfl
theorem Tryz.fn132:Tryz.tb.fn 132=some Tryz.f132:=by kernel_rfl
theorem Tryz.fn133:Tryz.tb.fn 133=some Tryz.f133:=by kernel_rfl
theorem Tryz.fn140:Tryz.tb.fn 140=some Tryz.f140:=by kernel_rfl
theorem Tryz.fn141:Tryz.tb.fn 141=some Tryz.f141:=by kernel_rfl
theorem Tryz.fn142:Tryz.tb.fn 142=some Tryz.f142:=by kernel_rfl
theorem Tryz.hb142:Tryz.f142.body.isSome=true:=rfl
theorem Tryz.fn143:Tryz.tb.fn 143=some Tryz.f143:=by kernel_rfl
theorem Tryz.fn144:Tryz.tb.fn 144=some Tryz.f144:=by kernel_rfl
theorem Tryz.fn145:Tryz.tb.fn 145=some Tryz.f145:=by kernel_rfl
theorem Tryz.fn146:Tryz.tb.fn 146=some Tryz.f146:=by kernel_rfl
theorem Tryz.fn147:Tryz.tb.fn 147=some Tryz.f147:=by kernel_rfl
theorem Tryz.fn148:Tryz.tb.fn 148=some Tryz.f148:=by kernel_rfl
theorem Tryz.fn149:Tryz.tb.fn 149=some Tryz.f149:=by kernel_rfl
theorem Tryz.fn150:Tryz.tb.fn 150=some Tryz.f150:=by kernel_rfl
theorem Tryz.fn151:Tryz.tb.fn 151=some Tryz.f151:=by kernel_rfl
theorem Tryz.fn152:Tryz.tb.fn 152=some Tryz.f152:=by kernel_rfl
theorem Tryz.fn153:Tryz.tb.fn 153=some Tryz.f153:=by kernel_rfl
theorem Tryz.fn159:Tryz.tb.fn 159=some Tryz.f159:=by kernel_rfl
end Go.Proofs
end
section
namespace Go.Proofs
open Go Go.Rx Go.Vx Tryz
instance:TbP Tryz.prog Tryz.tb:=⟨Tryz.tb_ok⟩
set_option maxRecDepth 20000
structure q0c where
 Feat:Int
 To:Int
def q07 (x:q0c):List U:=[.int .i64 x.Feat,.int .i64 x.To]
theorem qhe (n:Nat) (x:q0c):q1k n (q07 x):=by
 simp only [q07,q1k,Bel,true_and,and_true]
theorem q16 (x:q0c):(q07 x).length=2:=rfl
instance:qni q07 2:=⟨q16⟩
instance:BF q07:=⟨qhe⟩
instance (n:Nat) (x:q0c):BUL n (q07 x):=⟨qhe n x⟩
def q4y (n:Nat) (p1:Int):Option (Bool) :=
 some (p1 != p1)
theorem qeg (n:Nat) (p1:Int) (r:Bool) (hF:q4y n p1=some r):EvU Tryz.prog 145 [.int .i64 p1] ⟨[],0⟩ (fun u _=>u = .bool r∧Bel 0 u):=by
 unfold q4y at hF
 refine bg1 6 fn145 ?_
 exact gx hF
def q3l (n:Nat) (p1:Int) (p2:Int):Option (Int) :=
 q02 (q4y n p1) fun r3 =>
 q02 (q4y n p2) fun r5 =>
 cond r3
  (cond r5
   (some 0)
   (some (-1)))
  (cond r5
   (some 1)
   (cond (decide (p1<p2))
    (some (-1))
    (cond (decide (p1 > p2))
     (some 1)
     (some 0))))
theorem qiz (n:Nat) (p1:Int) (p2:Int) (r:Int) (hF:q3l n p1 p2=some r):EvU Tryz.prog 114 [.int .i64 p1,.int .i64 p2] ⟨[],0⟩ (fun u _=>u = .int .i64 r∧Bel 0 u):=by
 unfold q3l at hF
 refine bg2 20 fn114 ?_
 obtain ⟨r3,h4,hF⟩:=q00 hF
 refine go ?_
 refine RS.cl rfl (pC (qeg n p1 r3 h4) _) fn145 ?_
 obtain ⟨r5,h6,hF⟩:=q00 hF
 refine go ?_
 refine RS.cl rfl (pC (qeg n p2 r5 h6) _) fn145 ?_
 refine go ?_
 refine cF hF (fun h7 hF=>?_) (fun h7 hF=>?_)
 refine go ?_
 refine cF hF (fun h8 hF=>?_) (fun h8 hF=>?_)
 exact gx hF
 exact gx hF
 refine go ?_
 refine cF hF (fun h9 hF=>?_) (fun h9 hF=>?_)
 exact gx hF
 refine go ?_
 refine cF hF (fun h10 hF=>?_) (fun h10 hF=>?_)
 exact gx hF
 refine go ?_
 refine cF hF (fun h11 hF=>?_) (fun h11 hF=>?_)
 exact gx hF
 exact gx hF
def q1d (n:Nat) (p1:q0c) (p2:q0c):Option (Int) :=
 q02 (q3l n p1.Feat p2.Feat) fun r3 =>
 some r3
theorem qj2 (n:Nat) (p1:q0c) (p2:q0c) (r:Int) (hF:q1d n p1 p2=some r):EvU Tryz.prog 86 [.agg (q07 p1),.agg (q07 p2)] ⟨[],0⟩ (fun u _=>u = .int .i64 r∧Bel 0 u):=by
 unfold q1d at hF
 refine bg2 10 fn86 ?_
 obtain ⟨r3,h4,hF⟩:=q00 hF
 refine go ?_
 refine RS.cl rfl (pC (qiz n p1.Feat p2.Feat r3 h4) _) fn114 ?_
 exact gx hF
end Go.Proofs
end
