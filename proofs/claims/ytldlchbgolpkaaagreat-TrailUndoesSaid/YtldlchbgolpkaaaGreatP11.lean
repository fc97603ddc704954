import Derived.Test.YtldlchbgolpkaaaGreatProg
import Derived.Test.YtldlchbgolpkaaaGreatP10
set_option linter.all false
namespace Go.Proofs
open Go Go.Rx
noncomputable def Tryz.tb:Tb:=EC Tryz.prog []
theorem Tryz.mixed:Tryz.prog.follows .mixedOrders=true:=by kernel_rfl
theorem Dk:∀t∈([]:List TypeId),Tryz.prog.stoodInHeld t=false/\Tryz.prog.eqGuardType Tryz.prog.depth t=false:=by
 intro t ht;cases ht
theorem Tryz.names_ok : (Tryz.prog.funcs.toList.all fun f => !(f.name == "runtime.NumGoroutine")) = true := by kernel_rfl
theorem tb_ok:lF Tryz.prog Tryz.tb:=zbw Tryz.prog [] Tryz.mixed (fun f hf _=>by
 have:=List.all_eq_true.1 Tryz.names_ok f hf;simpa using this) Dk
theorem tx:Tryz.tb.und 3=some (.int .i64):=by kernel_rfl
theorem Uq:Tryz.tb.inf 3=some (1,8,.int .i64 0):=by kernel_rfl
theorem tw:Tryz.tb.und 4=some (.bool):=by kernel_rfl
theorem Um:Tryz.tb.inf 4=some (1,1,.bool false):=by kernel_rfl
theorem tu:Tryz.tb.und 9=some (.string):=by kernel_rfl
theorem Ug:Tryz.tb.inf 9=some (1,16,.string ⟨#[]⟩):=by kernel_rfl
theorem Ml:Tryz.tb.und 22=some (.slice 138):=by kernel_rfl
theorem Mk:Tryz.tb.und 23=some (.slice 42):=by kernel_rfl
theorem Mj:Tryz.tb.und 24=some (.slice 132):=by kernel_rfl
theorem Us:Tryz.tb.inf 24=some (1,24,.slice none 0 0):=by kernel_rfl
theorem Mi:Tryz.tb.und 25=some (.slice 187):=by kernel_rfl
theorem Ur:Tryz.tb.inf 25=some (1,24,.slice none 0 0):=by kernel_rfl
theorem Mh : Tryz.tb.und 27 = some (.struct #[⟨ "Types", 24, 0, false, "", "", 0⟩, ⟨ "Feats", 25, 1, false, "", "", 24⟩]) := by kernel_rfl
theorem U2:Tryz.tb.inf 27=some (2,48,.agg #[.slice none 0 0,.slice none 0 0]):=by kernel_rfl
theorem Mf:Tryz.tb.und 31=some (.pointer 85):=by kernel_rfl
theorem Me:Tryz.tb.und 33=some (.slice 78):=by kernel_rfl
theorem Up:Tryz.tb.inf 33=some (1,24,.slice none 0 0):=by kernel_rfl
theorem Md:Tryz.tb.und 34=some (.slice 3):=by kernel_rfl
theorem Uo:Tryz.tb.inf 34=some (1,24,.slice none 0 0):=by kernel_rfl
theorem Mc:Tryz.tb.und 35=some (.slice 148):=by kernel_rfl
theorem Un:Tryz.tb.inf 35=some (1,24,.slice none 0 0):=by kernel_rfl
theorem Mb : Tryz.tb.und 37 = some (.struct #[⟨ "H", 27, 0, false, "", "", 0⟩, ⟨ "Cells", 33, 2, false, "", "", 48⟩, ⟨ "Class", 34, 3, false, "", "", 72⟩, ⟨ "Marks", 35, 4, false, "", "", 96⟩]) := by kernel_rfl
theorem TZ:Tryz.tb.inf 37=some (5,120,.agg #[.slice none 0 0,.slice none 0 0,.slice none 0 0,.slice none 0 0,.slice none 0 0]):=by kernel_rfl
theorem Ma : Tryz.tb.und 40 = some (.struct #[⟨ "Nodes", 33, 0, false, "", "", 0⟩]) := by kernel_rfl
theorem TY:Tryz.tb.inf 40=some (1,24,.agg #[.slice none 0 0]):=by kernel_rfl
theorem Lz : Tryz.tb.und 42 = some (.struct #[⟨ "Kind", 3, 0, false, "", "", 0⟩, ⟨ "A", 3, 1, false, "", "", 8⟩, ⟨ "B", 3, 2, false, "", "", 16⟩, ⟨ "F", 40, 3, false, "", "", 24⟩]) := by kernel_rfl
theorem TX:Tryz.tb.inf 42=some (4,48,.agg #[.int .i64 0,.int .i64 0,.int .i64 0,.slice none 0 0]):=by kernel_rfl
theorem Ly:Tryz.tb.und 48=some (.slice 40):=by kernel_rfl
theorem Lx:Tryz.tb.und 76=some (.slice 98):=by kernel_rfl
theorem Ul:Tryz.tb.inf 76=some (1,24,.slice none 0 0):=by kernel_rfl
theorem Lw : Tryz.tb.und 78 = some (.struct #[⟨ "Type", 3, 0, false, "", "", 0⟩, ⟨ "Arcs", 76, 1, false, "", "", 8⟩]) := by kernel_rfl
theorem TW:Tryz.tb.inf 78=some (2,32,.agg #[.int .i64 0,.slice none 0 0]):=by kernel_rfl
theorem Lv:Tryz.tb.und 81=some (.slice 96):=by kernel_rfl
theorem Uk:Tryz.tb.inf 81=some (1,24,.slice none 0 0):=by kernel_rfl
theorem Lu:Tryz.tb.und 82=some (.slice 151):=by kernel_rfl
theorem Uj:Tryz.tb.inf 82=some (1,24,.slice none 0 0):=by kernel_rfl
theorem Lt:Tryz.tb.und 83=some (.slice 94):=by kernel_rfl
theorem Ui:Tryz.tb.inf 83=some (1,24,.slice none 0 0):=by kernel_rfl
theorem Ls : Tryz.tb.und 85 = some (.struct #[⟨ "h", 27, 0, false, "", "grammarlab/trail", 0⟩, ⟨ "cells", 81, 2, false, "", "grammarlab/trail", 48⟩, ⟨ "trail", 82, 3, false, "", "grammarlab/trail", 72⟩, ⟨ "marks", 83, 4, false, "", "grammarlab/trail", 96⟩]) := by kernel_rfl
theorem Uh:Tryz.tb.inf 85=some (5,120,.agg #[.slice none 0 0,.slice none 0 0,.slice none 0 0,.slice none 0 0,.slice none 0 0]):=by kernel_rfl
theorem Lr : Tryz.tb.und 94 = some (.struct #[⟨ "cells", 3, 0, false, "", "grammarlab/trail", 0⟩, ⟨ "changes", 3, 1, false, "", "grammarlab/trail", 8⟩]) := by kernel_rfl
theorem TV:Tryz.tb.inf 94=some (2,16,.agg #[.int .i64 0,.int .i64 0]):=by kernel_rfl
theorem Lq : Tryz.tb.und 96 = some (.struct #[⟨ "forward", 3, 0, false, "", "grammarlab/trail", 0⟩, ⟨ "kind", 3, 1, false, "", "grammarlab/trail", 8⟩, ⟨ "arcs", 76, 2, false, "", "grammarlab/trail", 16⟩]) := by kernel_rfl
theorem TU:Tryz.tb.inf 96=some (3,40,.agg #[.int .i64 0,.int .i64 0,.slice none 0 0]):=by kernel_rfl
theorem Lp : Tryz.tb.und 98 = some (.struct #[⟨ "Feat", 3, 0, false, "", "", 0⟩, ⟨ "To", 3, 1, false, "", "", 8⟩]) := by kernel_rfl
theorem TT:Tryz.tb.inf 98=some (2,16,.agg #[.int .i64 0,.int .i64 0]):=by kernel_rfl
theorem XB:Tryz.tb.und 100=some (.array 2 3):=by kernel_rfl
theorem JU:Tryz.tb.inf 100=some (2,16,.agg #[.int .i64 0,.int .i64 0]):=by kernel_rfl
theorem XA:Tryz.tb.und 101=some (.slice 100):=by kernel_rfl
theorem X9:Tryz.tb.und 102=some (.func #[3] #[3] false):=by kernel_rfl
theorem JT:Tryz.tb.inf 102=some (1,8,.nilFunc):=by kernel_rfl
theorem X8:Tryz.tb.und 114=some (.slice 76):=by kernel_rfl
theorem X7:Tryz.tb.und 118=some (.map 3 3):=by kernel_rfl
theorem JS:Tryz.tb.inf 118=some (1,8,.map none):=by kernel_rfl
theorem X6:Tryz.tb.und 119=some (.slice 130):=by kernel_rfl
theorem X5:Tryz.tb.und 122=some (.slice 128):=by kernel_rfl
theorem X4:Tryz.tb.und 126=some (.slice 191):=by kernel_rfl
theorem JR:Tryz.tb.inf 126=some (1,24,.slice none 0 0):=by kernel_rfl
theorem X3 : Tryz.tb.und 128 = some (.struct #[⟨ "Name", 9, 0, false, "", "", 0⟩, ⟨ "Code", 126, 1, false, "", "", 16⟩]) := by kernel_rfl
theorem JQ:Tryz.tb.inf 128=some (2,40,.agg #[.string ⟨#[]⟩,.slice none 0 0]):=by kernel_rfl
theorem WZ:Tryz.tb.und 130=some (.slice 176):=by kernel_rfl
theorem JP:Tryz.tb.inf 130=some (1,24,.slice none 0 0):=by kernel_rfl
theorem WY : Tryz.tb.und 132 = some (.struct #[⟨ "Name", 9, 0, false, "", "", 0⟩, ⟨ "Code", 126, 1, false, "", "", 16⟩, ⟨ "Supers", 34, 2, false, "", "", 40⟩, ⟨ "Feats", 130, 3, false, "", "", 64⟩]) := by kernel_rfl
theorem JO:Tryz.tb.inf 132=some (4,88,.agg #[.string ⟨#[]⟩,.slice none 0 0,.slice none 0 0,.slice none 0 0]):=by kernel_rfl
theorem WX:Tryz.tb.und 135=some (.slice 9):=by kernel_rfl
theorem Av:Tryz.tb.inf 135=some (1,24,.slice none 0 0):=by kernel_rfl
theorem WW:Tryz.tb.und 136=some (.slice 141):=by kernel_rfl
theorem Au:Tryz.tb.inf 136=some (1,24,.slice none 0 0):=by kernel_rfl
theorem WV : Tryz.tb.und 138 = some (.struct #[⟨ "Name", 9, 0, false, "", "", 0⟩, ⟨ "Supers", 135, 1, false, "", "", 16⟩, ⟨ "Feats", 136, 2, false, "", "", 40⟩]) := by kernel_rfl
theorem JN:Tryz.tb.inf 138=some (3,64,.agg #[.string ⟨#[]⟩,.slice none 0 0,.slice none 0 0]):=by kernel_rfl
theorem WU : Tryz.tb.und 141 = some (.struct #[⟨ "Feat", 9, 0, false, "", "", 0⟩, ⟨ "Value", 9, 1, false, "", "", 16⟩]) := by kernel_rfl
theorem JM:Tryz.tb.inf 141=some (2,32,.agg #[.string ⟨#[]⟩,.string ⟨#[]⟩]):=by kernel_rfl
theorem WT : Tryz.tb.und 148 = some (.struct #[⟨ "Cells", 3, 0, false, "", "", 0⟩, ⟨ "Class", 34, 1, false, "", "", 8⟩]) := by kernel_rfl
theorem JL:Tryz.tb.inf 148=some (2,32,.agg #[.int .i64 0,.slice none 0 0]):=by kernel_rfl
theorem WS : Tryz.tb.und 151 = some (.struct #[⟨ "at", 3, 0, false, "", "grammarlab/trail", 0⟩, ⟨ "old", 96, 1, false, "", "grammarlab/trail", 8⟩]) := by kernel_rfl
theorem JK:Tryz.tb.inf 151=some (4,48,.agg #[.int .i64 0,.int .i64 0,.int .i64 0,.slice none 0 0]):=by kernel_rfl
theorem WR : Tryz.tb.und 176 = some (.struct #[⟨ "Feat", 3, 0, false, "", "", 0⟩, ⟨ "Value", 3, 1, false, "", "", 8⟩]) := by kernel_rfl
theorem JJ:Tryz.tb.inf 176=some (2,16,.agg #[.int .i64 0,.int .i64 0]):=by kernel_rfl
theorem WQ:Tryz.tb.und 177=some (.slice 126):=by kernel_rfl
theorem WO : Tryz.tb.und 187 = some (.struct #[⟨ "Name", 9, 0, false, "", "", 0⟩, ⟨ "Intro", 3, 1, false, "", "", 16⟩]) := by kernel_rfl
theorem JI:Tryz.tb.inf 187=some (2,24,.agg #[.string ⟨#[]⟩,.int .i64 0]):=by kernel_rfl
theorem WN:Tryz.tb.und 191=some (.int .u64):=by kernel_rfl
theorem JH:Tryz.tb.inf 191=some (1,8,.int .u64 0):=by kernel_rfl
theorem WM:Tryz.tb.und 193=some (.int .u64):=by kernel_rfl
theorem WK : Tryz.tb.und 214 = some (.struct #[⟨ "f", 40, 0, false, "", "grammarlab/grammarlabref07", 0⟩, ⟨ "number", 34, 1, false, "", "grammarlab/grammarlabref07", 24⟩, ⟨ "order", 34, 2, false, "", "grammarlab/grammarlabref07", 48⟩]) := by kernel_rfl
theorem As:Tryz.tb.inf 214=some (3,72,.agg #[.slice none 0 0,.slice none 0 0,.slice none 0 0]):=by kernel_rfl
end Go.Proofs
namespace Go.Proofs
open Go Go.Rx Go.Vx
instance lW:fI Tryz.tb 3 (.int .i64):=⟨tx⟩
instance RJ:fI Tryz.tb 4 (.bool):=⟨tw⟩
instance LW:fI Tryz.tb 9 (.string):=⟨tu⟩
instance Mq:fI Tryz.tb 22 (.slice 138):=⟨Ml⟩
instance:fI Tryz.tb 23 (.slice 42):=⟨Mk⟩
instance IB:fI Tryz.tb 24 (.slice 132):=⟨Mj⟩
instance:fI Tryz.tb 25 (.slice 187):=⟨Mi⟩
instance oY : fI Tryz.tb 27 (.struct #[⟨ "Types", 24, 0, false, "", "", 0⟩, ⟨ "Feats", 25, 1, false, "", "", 24⟩]) := ⟨Mh⟩
instance Mp:fI Tryz.tb 31 (.pointer 85):=⟨Mf⟩
instance jG:fI Tryz.tb 33 (.slice 78):=⟨Me⟩
instance fJ:fI Tryz.tb 34 (.slice 3):=⟨Md⟩
instance wE:fI Tryz.tb 35 (.slice 148):=⟨Mc⟩
instance kE : fI Tryz.tb 37 (.struct #[⟨ "H", 27, 0, false, "", "", 0⟩, ⟨ "Cells", 33, 2, false, "", "", 48⟩, ⟨ "Class", 34, 3, false, "", "", 72⟩, ⟨ "Marks", 35, 4, false, "", "", 96⟩]) := ⟨Mb⟩
instance jF : fI Tryz.tb 40 (.struct #[⟨ "Nodes", 33, 0, false, "", "", 0⟩]) := ⟨Ma⟩
instance : fI Tryz.tb 42 (.struct #[⟨ "Kind", 3, 0, false, "", "", 0⟩, ⟨ "A", 3, 1, false, "", "", 8⟩, ⟨ "B", 3, 2, false, "", "", 16⟩, ⟨ "F", 40, 3, false, "", "", 24⟩]) := ⟨Lz⟩
instance:fI Tryz.tb 48 (.slice 40):=⟨Ly⟩
instance eJ:fI Tryz.tb 76 (.slice 98):=⟨Lx⟩
instance wD : fI Tryz.tb 78 (.struct #[⟨ "Type", 3, 0, false, "", "", 0⟩, ⟨ "Arcs", 76, 1, false, "", "", 8⟩]) := ⟨Lw⟩
instance n8:fI Tryz.tb 81 (.slice 96):=⟨Lv⟩
instance qM:fI Tryz.tb 82 (.slice 151):=⟨Lu⟩
instance XC:fI Tryz.tb 83 (.slice 94):=⟨Lt⟩
instance BD : fI Tryz.tb 85 (.struct #[⟨ "h", 27, 0, false, "", "grammarlab/trail", 0⟩, ⟨ "cells", 81, 2, false, "", "grammarlab/trail", 48⟩, ⟨ "trail", 82, 3, false, "", "grammarlab/trail", 72⟩, ⟨ "marks", 83, 4, false, "", "grammarlab/trail", 96⟩]) := ⟨Ls⟩
instance Mn : fI Tryz.tb 94 (.struct #[⟨ "cells", 3, 0, false, "", "grammarlab/trail", 0⟩, ⟨ "changes", 3, 1, false, "", "grammarlab/trail", 8⟩]) := ⟨Lr⟩
instance qL : fI Tryz.tb 96 (.struct #[⟨ "forward", 3, 0, false, "", "grammarlab/trail", 0⟩, ⟨ "kind", 3, 1, false, "", "grammarlab/trail", 8⟩, ⟨ "arcs", 76, 2, false, "", "grammarlab/trail", 16⟩]) := ⟨Lq⟩
instance y9 : fI Tryz.tb 98 (.struct #[⟨ "Feat", 3, 0, false, "", "", 0⟩, ⟨ "To", 3, 1, false, "", "", 8⟩]) := ⟨Lp⟩
instance pQ:fI Tryz.tb 100 (.array 2 3):=⟨XB⟩
instance sK:fI Tryz.tb 101 (.slice 100):=⟨XA⟩
instance:fI Tryz.tb 102 (.func #[3] #[3] false):=⟨X9⟩
instance sJ:fI Tryz.tb 114 (.slice 76):=⟨X8⟩
instance RN:fI Tryz.tb 118 (.map 3 3):=⟨X7⟩
instance:fI Tryz.tb 119 (.slice 130):=⟨X6⟩
instance sH:fI Tryz.tb 122 (.slice 128):=⟨X5⟩
instance gQ:fI Tryz.tb 126 (.slice 191):=⟨X4⟩
instance RM : fI Tryz.tb 128 (.struct #[⟨ "Name", 9, 0, false, "", "", 0⟩, ⟨ "Code", 126, 1, false, "", "", 16⟩]) := ⟨X3⟩
instance:fI Tryz.tb 130 (.slice 176):=⟨WZ⟩
instance IF : fI Tryz.tb 132 (.struct #[⟨ "Name", 9, 0, false, "", "", 0⟩, ⟨ "Code", 126, 1, false, "", "", 16⟩, ⟨ "Supers", 34, 2, false, "", "", 40⟩, ⟨ "Feats", 130, 3, false, "", "", 64⟩]) := ⟨WY⟩
instance kK:fI Tryz.tb 135 (.slice 9):=⟨WX⟩
instance IE:fI Tryz.tb 136 (.slice 141):=⟨WW⟩
instance yE : fI Tryz.tb 138 (.struct #[⟨ "Name", 9, 0, false, "", "", 0⟩, ⟨ "Supers", 135, 1, false, "", "", 16⟩, ⟨ "Feats", 136, 2, false, "", "", 40⟩]) := ⟨WV⟩
instance Mu : fI Tryz.tb 141 (.struct #[⟨ "Feat", 9, 0, false, "", "", 0⟩, ⟨ "Value", 9, 1, false, "", "", 16⟩]) := ⟨WU⟩
instance ID : fI Tryz.tb 148 (.struct #[⟨ "Cells", 3, 0, false, "", "", 0⟩, ⟨ "Class", 34, 1, false, "", "", 8⟩]) := ⟨WT⟩
instance IC : fI Tryz.tb 151 (.struct #[⟨ "at", 3, 0, false, "", "grammarlab/trail", 0⟩, ⟨ "old", 96, 1, false, "", "grammarlab/trail", 8⟩]) := ⟨WS⟩
instance Mt : fI Tryz.tb 176 (.struct #[⟨ "Feat", 3, 0, false, "", "", 0⟩, ⟨ "Value", 3, 1, false, "", "", 8⟩]) := ⟨WR⟩
instance sG:fI Tryz.tb 177 (.slice 126):=⟨WQ⟩
instance Ms : fI Tryz.tb 187 (.struct #[⟨ "Name", 9, 0, false, "", "", 0⟩, ⟨ "Intro", 3, 1, false, "", "", 16⟩]) := ⟨WO⟩
instance Mr:fI Tryz.tb 191 (.int .u64):=⟨WN⟩
instance CZ:fI Tryz.tb 193 (.int .u64):=⟨WM⟩
instance RL : fI Tryz.tb 214 (.struct #[⟨ "f", 40, 0, false, "", "grammarlab/grammarlabref07", 0⟩, ⟨ "number", 34, 1, false, "", "grammarlab/grammarlabref07", 24⟩, ⟨ "order", 34, 2, false, "", "grammarlab/grammarlabref07", 48⟩]) := ⟨WK⟩
instance i5:jU Tryz.tb 3 1 8 (.int .i64 0):=⟨Uq⟩
instance:pP Tryz.tb 3 [.int .i64 0]:=⟨_,_,_,Uq,rfl,rfl⟩
instance:jU Tryz.tb 4 1 1 (.bool false):=⟨Um⟩
instance:pP Tryz.tb 4 [.bool false]:=⟨_,_,_,Um,rfl,rfl⟩
instance JV:jU Tryz.tb 9 1 16 (.string ⟨#[]⟩):=⟨Ug⟩
instance:pP Tryz.tb 9 [.str []]:=⟨_,_,_,Ug,rfl,rfl⟩
instance Aw:jU Tryz.tb 24 1 24 (.slice none 0 0):=⟨Us⟩
instance:jU Tryz.tb 25 1 24 (.slice none 0 0):=⟨Ur⟩
instance uY:jU Tryz.tb 27 2 48 (.agg #[.slice none 0 0,.slice none 0 0]):=⟨U2⟩
instance:pP Tryz.tb 27 [.nils,.nils]:=⟨_,_,_,U2,rfl,rfl⟩
instance FR:jU Tryz.tb 33 1 24 (.slice none 0 0):=⟨Up⟩
instance D_:jU Tryz.tb 34 1 24 (.slice none 0 0):=⟨Uo⟩
instance C_:jU Tryz.tb 35 1 24 (.slice none 0 0):=⟨Un⟩
instance jZ:jU Tryz.tb 37 5 120 (.agg #[.slice none 0 0,.slice none 0 0,.slice none 0 0,.slice none 0 0,.slice none 0 0]):=⟨TZ⟩
instance:pP Tryz.tb 37 [.nils,.nils,.nils,.nils,.nils]:=⟨_,_,_,TZ,rfl,rfl⟩
instance nG:jU Tryz.tb 40 1 24 (.agg #[.slice none 0 0]):=⟨TY⟩
instance:pP Tryz.tb 40 [.nils]:=⟨_,_,_,TY,rfl,rfl⟩
instance:jU Tryz.tb 42 4 48 (.agg #[.int .i64 0,.int .i64 0,.int .i64 0,.slice none 0 0]):=⟨TX⟩
instance:pP Tryz.tb 42 [.int .i64 0,.int .i64 0,.int .i64 0,.nils]:=⟨_,_,_,TX,rfl,rfl⟩
instance jY:jU Tryz.tb 76 1 24 (.slice none 0 0):=⟨Ul⟩
instance mD:jU Tryz.tb 78 2 32 (.agg #[.int .i64 0,.slice none 0 0]):=⟨TW⟩
instance:pP Tryz.tb 78 [.int .i64 0,.nils]:=⟨_,_,_,TW,rfl,rfl⟩
instance B_:jU Tryz.tb 81 1 24 (.slice none 0 0):=⟨Uk⟩
instance PW:jU Tryz.tb 82 1 24 (.slice none 0 0):=⟨Uj⟩
instance A_:jU Tryz.tb 83 1 24 (.slice none 0 0):=⟨Ui⟩
instance z_:jU Tryz.tb 85 5 120 (.agg #[.slice none 0 0,.slice none 0 0,.slice none 0 0,.slice none 0 0,.slice none 0 0]):=⟨Uh⟩
instance PV:jU Tryz.tb 94 2 16 (.agg #[.int .i64 0,.int .i64 0]):=⟨TV⟩
instance:pP Tryz.tb 94 [.int .i64 0,.int .i64 0]:=⟨_,_,_,TV,rfl,rfl⟩
instance jL:jU Tryz.tb 96 3 40 (.agg #[.int .i64 0,.int .i64 0,.slice none 0 0]):=⟨TU⟩
instance:pP Tryz.tb 96 [.int .i64 0,.int .i64 0,.nils]:=⟨_,_,_,TU,rfl,rfl⟩
instance kG:jU Tryz.tb 98 2 16 (.agg #[.int .i64 0,.int .i64 0]):=⟨TT⟩
instance:pP Tryz.tb 98 [.int .i64 0,.int .i64 0]:=⟨_,_,_,TT,rfl,rfl⟩
instance qB:jU Tryz.tb 100 2 16 (.agg #[.int .i64 0,.int .i64 0]):=⟨JU⟩
instance:pP Tryz.tb 100 [.int .i64 0,.int .i64 0]:=⟨_,_,_,JU,rfl,rfl⟩
instance:jU Tryz.tb 102 1 8 (.nilFunc):=⟨JT⟩
instance:pP Tryz.tb 102 [.nilf]:=⟨_,_,_,JT,rfl,rfl⟩
instance:jU Tryz.tb 118 1 8 (.map none):=⟨JS⟩
instance:pP Tryz.tb 118 [.nilm]:=⟨_,_,_,JS,rfl,rfl⟩
instance qA:jU Tryz.tb 126 1 24 (.slice none 0 0):=⟨JR⟩
instance:pP Tryz.tb 126 [.nils]:=⟨_,_,_,JR,rfl,rfl⟩
instance sZ:jU Tryz.tb 128 2 40 (.agg #[.string ⟨#[]⟩,.slice none 0 0]):=⟨JQ⟩
instance:pP Tryz.tb 128 [.str [],.nils]:=⟨_,_,_,JQ,rfl,rfl⟩
instance:jU Tryz.tb 130 1 24 (.slice none 0 0):=⟨JP⟩
instance:pP Tryz.tb 130 [.nils]:=⟨_,_,_,JP,rfl,rfl⟩
instance JW:jU Tryz.tb 132 4 88 (.agg #[.string ⟨#[]⟩,.slice none 0 0,.slice none 0 0,.slice none 0 0]):=⟨JO⟩
instance:pP Tryz.tb 132 [.str [],.nils,.nils,.nils]:=⟨_,_,_,JO,rfl,rfl⟩
instance:jU Tryz.tb 135 1 24 (.slice none 0 0):=⟨Av⟩
instance U4:jU Tryz.tb 136 1 24 (.slice none 0 0):=⟨Au⟩
instance yV:jU Tryz.tb 138 3 64 (.agg #[.string ⟨#[]⟩,.slice none 0 0,.slice none 0 0]):=⟨JN⟩
instance:pP Tryz.tb 138 [.str [],.nils,.nils]:=⟨_,_,_,JN,rfl,rfl⟩
instance U3:jU Tryz.tb 141 2 32 (.agg #[.string ⟨#[]⟩,.string ⟨#[]⟩]):=⟨JM⟩
instance:pP Tryz.tb 141 [.str [],.str []]:=⟨_,_,_,JM,rfl,rfl⟩
instance o9:jU Tryz.tb 148 2 32 (.agg #[.int .i64 0,.slice none 0 0]):=⟨JL⟩
instance:pP Tryz.tb 148 [.int .i64 0,.nils]:=⟨_,_,_,JL,rfl,rfl⟩
instance pZ:jU Tryz.tb 151 4 48 (.agg #[.int .i64 0,.int .i64 0,.int .i64 0,.slice none 0 0]):=⟨JK⟩
instance:pP Tryz.tb 151 [.int .i64 0,.int .i64 0,.int .i64 0,.nils]:=⟨_,_,_,JK,rfl,rfl⟩
instance Uy:jU Tryz.tb 176 2 16 (.agg #[.int .i64 0,.int .i64 0]):=⟨JJ⟩
instance:pP Tryz.tb 176 [.int .i64 0,.int .i64 0]:=⟨_,_,_,JJ,rfl,rfl⟩
instance Ux:jU Tryz.tb 187 2 24 (.agg #[.string ⟨#[]⟩,.int .i64 0]):=⟨JI⟩
instance:pP Tryz.tb 187 [.str [],.int .i64 0]:=⟨_,_,_,JI,rfl,rfl⟩
instance lP:jU Tryz.tb 191 1 8 (.int .u64 0):=⟨JH⟩
instance:pP Tryz.tb 191 [.int .u64 0]:=⟨_,_,_,JH,rfl,rfl⟩
instance Uw:jU Tryz.tb 214 3 72 (.agg #[.slice none 0 0,.slice none 0 0,.slice none 0 0]):=⟨As⟩
end Go.Proofs
