import Derived.Test.YtldlchbgolpkaaaGreatProg
import Derived.Test.YtldlchbgolpkaaaGreatP11
set_option linter.all false
namespace Go.Proofs
open Go Go.Rx
noncomputable def tb:Tb:=EU Tryz.prog []
def Tryz.mixed:Tryz.prog.follows .mixedOrders=true:=by kernel_rfl
def Cp:∀t∈([]:V TypeId),Tryz.prog.stoodInHeld t=false/\Tryz.prog.eqGuardType Tryz.prog.depth t=false:=by intro t ht;cases ht
def Tryz.names_ok : (Tryz.prog.funcs.toList.all fun f => !(f.name == "runtime.NumGoroutine")) = true := by kernel_rfl
def tb_ok:kT Tryz.prog tb:=ze6 Tryz.prog [] Tryz.mixed (fun f hf _=>by
 have:=List.all_eq_true.1 Tryz.names_ok f hf;simpa using this) Cp
def ti:tb.und 3=some (.int .i64):=by kernel_rfl
def Tt:tb.inf 3=some (1,8,.int .i64 0):=by kernel_rfl
def th:tb.und 4=some (.bool):=by kernel_rfl
def Tq:tb.inf 4=some (1,1,.bool false):=by kernel_rfl
def tg:tb.und 9=some (.string):=by kernel_rfl
def Tj:tb.inf 9=some (1,16,.string ⟨#[]⟩):=by kernel_rfl
def Lk:tb.und 22=some (.slice 138):=by kernel_rfl
def Lj:tb.und 23=some (.slice 42):=by kernel_rfl
def Li:tb.und 24=some (.slice 132):=by kernel_rfl
def Tv:tb.inf 24=some (1,24,.slice none 0 0):=by kernel_rfl
def Lh:tb.und 25=some (.slice 187):=by kernel_rfl
def Tu:tb.inf 25=some (1,24,.slice none 0 0):=by kernel_rfl
def Lg : tb.und 27 = some (.struct #[⟨ "Types", 24, 0, false, "", "", 0⟩, ⟨ "Feats", 25, 1, false, "", "", 24⟩]) := by kernel_rfl
def TF:tb.inf 27=some (2,48,.agg #[.slice none 0 0,.slice none 0 0]):=by kernel_rfl
def Lf:tb.und 31=some (.pointer 85):=by kernel_rfl
def Le:tb.und 33=some (.slice 78):=by kernel_rfl
def Ts:tb.inf 33=some (1,24,.slice none 0 0):=by kernel_rfl
def Ld:tb.und 34=some (.slice 3):=by kernel_rfl
def TE:tb.inf 34=some (1,24,.slice none 0 0):=by kernel_rfl
def Lc:tb.und 35=some (.slice 148):=by kernel_rfl
def Tr:tb.inf 35=some (1,24,.slice none 0 0):=by kernel_rfl
def Lb : tb.und 37 = some (.struct #[⟨ "H", 27, 0, false, "", "", 0⟩, ⟨ "Cells", 33, 2, false, "", "", 48⟩, ⟨ "Class", 34, 3, false, "", "", 72⟩, ⟨ "Marks", 35, 4, false, "", "", 96⟩]) := by kernel_rfl
def TD:tb.inf 37=some (5,120,.agg #[.slice none 0 0,.slice none 0 0,.slice none 0 0,.slice none 0 0,.slice none 0 0]):=by kernel_rfl
def La : tb.und 40 = some (.struct #[⟨ "Nodes", 33, 0, false, "", "", 0⟩]) := by kernel_rfl
def TA:tb.inf 40=some (1,24,.agg #[.slice none 0 0]):=by kernel_rfl
def Kz : tb.und 42 = some (.struct #[⟨ "Kind", 3, 0, false, "", "", 0⟩, ⟨ "A", 3, 1, false, "", "", 8⟩, ⟨ "B", 3, 2, false, "", "", 16⟩, ⟨ "F", 40, 3, false, "", "", 24⟩]) := by kernel_rfl
def T9:tb.inf 42=some (4,48,.agg #[.int .i64 0,.int .i64 0,.int .i64 0,.slice none 0 0]):=by kernel_rfl
def Ky:tb.und 48=some (.slice 40):=by kernel_rfl
def Kx:tb.und 76=some (.slice 98):=by kernel_rfl
def Tp:tb.inf 76=some (1,24,.slice none 0 0):=by kernel_rfl
def Kw : tb.und 78 = some (.struct #[⟨ "Type", 3, 0, false, "", "", 0⟩, ⟨ "Arcs", 76, 1, false, "", "", 8⟩]) := by kernel_rfl
def T8:tb.inf 78=some (2,32,.agg #[.int .i64 0,.slice none 0 0]):=by kernel_rfl
def Kv:tb.und 81=some (.slice 96):=by kernel_rfl
def Tn:tb.inf 81=some (1,24,.slice none 0 0):=by kernel_rfl
def Ku:tb.und 82=some (.slice 151):=by kernel_rfl
def Tm:tb.inf 82=some (1,24,.slice none 0 0):=by kernel_rfl
def Kt:tb.und 83=some (.slice 94):=by kernel_rfl
def Tl:tb.inf 83=some (1,24,.slice none 0 0):=by kernel_rfl
def Ks : tb.und 85 = some (.struct #[⟨ "h", 27, 0, false, "", "grammarlab/trail", 0⟩, ⟨ "cells", 81, 2, false, "", "grammarlab/trail", 48⟩, ⟨ "trail", 82, 3, false, "", "grammarlab/trail", 72⟩, ⟨ "marks", 83, 4, false, "", "grammarlab/trail", 96⟩]) := by kernel_rfl
def Tk:tb.inf 85=some (5,120,.agg #[.slice none 0 0,.slice none 0 0,.slice none 0 0,.slice none 0 0,.slice none 0 0]):=by kernel_rfl
def Kr : tb.und 94 = some (.struct #[⟨ "cells", 3, 0, false, "", "grammarlab/trail", 0⟩, ⟨ "changes", 3, 1, false, "", "grammarlab/trail", 8⟩]) := by kernel_rfl
def T7:tb.inf 94=some (2,16,.agg #[.int .i64 0,.int .i64 0]):=by kernel_rfl
def Kq : tb.und 96 = some (.struct #[⟨ "forward", 3, 0, false, "", "grammarlab/trail", 0⟩, ⟨ "kind", 3, 1, false, "", "grammarlab/trail", 8⟩, ⟨ "arcs", 76, 2, false, "", "grammarlab/trail", 16⟩]) := by kernel_rfl
def T6:tb.inf 96=some (3,40,.agg #[.int .i64 0,.int .i64 0,.slice none 0 0]):=by kernel_rfl
def Kp : tb.und 98 = some (.struct #[⟨ "Feat", 3, 0, false, "", "", 0⟩, ⟨ "To", 3, 1, false, "", "", 8⟩]) := by kernel_rfl
def T5:tb.inf 98=some (2,16,.agg #[.int .i64 0,.int .i64 0]):=by kernel_rfl
def Ko:tb.und 99=some (.func #[3] #[] false):=by kernel_rfl
def T4:tb.inf 99=some (1,8,.nilFunc):=by kernel_rfl
def WQ:tb.und 100=some (.array 2 3):=by kernel_rfl
def JT:tb.inf 100=some (2,16,.agg #[.int .i64 0,.int .i64 0]):=by kernel_rfl
def WO:tb.und 101=some (.slice 100):=by kernel_rfl
def WN:tb.und 102=some (.func #[3] #[3] false):=by kernel_rfl
def JS:tb.inf 102=some (1,8,.nilFunc):=by kernel_rfl
def WM:tb.und 114=some (.slice 76):=by kernel_rfl
def WK:tb.und 118=some (.map 3 3):=by kernel_rfl
def JR:tb.inf 118=some (1,8,.map none):=by kernel_rfl
def WJ:tb.und 119=some (.slice 130):=by kernel_rfl
def WI:tb.und 122=some (.slice 128):=by kernel_rfl
def WH:tb.und 126=some (.slice 191):=by kernel_rfl
def JQ:tb.inf 126=some (1,24,.slice none 0 0):=by kernel_rfl
def WG : tb.und 128 = some (.struct #[⟨ "Name", 9, 0, false, "", "", 0⟩, ⟨ "Code", 126, 1, false, "", "", 16⟩]) := by kernel_rfl
def JP:tb.inf 128=some (2,40,.agg #[.string ⟨#[]⟩,.slice none 0 0]):=by kernel_rfl
def WF:tb.und 130=some (.slice 176):=by kernel_rfl
def JO:tb.inf 130=some (1,24,.slice none 0 0):=by kernel_rfl
def WE : tb.und 132 = some (.struct #[⟨ "Name", 9, 0, false, "", "", 0⟩, ⟨ "Code", 126, 1, false, "", "", 16⟩, ⟨ "Supers", 34, 2, false, "", "", 40⟩, ⟨ "Feats", 130, 3, false, "", "", 64⟩]) := by kernel_rfl
def JN:tb.inf 132=some (4,88,.agg #[.string ⟨#[]⟩,.slice none 0 0,.slice none 0 0,.slice none 0 0]):=by kernel_rfl
def WD:tb.und 135=some (.slice 9):=by kernel_rfl
def ZX:tb.inf 135=some (1,24,.slice none 0 0):=by kernel_rfl
def WC:tb.und 136=some (.slice 141):=by kernel_rfl
def ZW:tb.inf 136=some (1,24,.slice none 0 0):=by kernel_rfl
def WB : tb.und 138 = some (.struct #[⟨ "Name", 9, 0, false, "", "", 0⟩, ⟨ "Supers", 135, 1, false, "", "", 16⟩, ⟨ "Feats", 136, 2, false, "", "", 40⟩]) := by kernel_rfl
def JM:tb.inf 138=some (3,64,.agg #[.string ⟨#[]⟩,.slice none 0 0,.slice none 0 0]):=by kernel_rfl
def WA : tb.und 141 = some (.struct #[⟨ "Feat", 9, 0, false, "", "", 0⟩, ⟨ "Value", 9, 1, false, "", "", 16⟩]) := by kernel_rfl
def JL:tb.inf 141=some (2,32,.agg #[.string ⟨#[]⟩,.string ⟨#[]⟩]):=by kernel_rfl
def W9 : tb.und 148 = some (.struct #[⟨ "Cells", 3, 0, false, "", "", 0⟩, ⟨ "Class", 34, 1, false, "", "", 8⟩]) := by kernel_rfl
def JK:tb.inf 148=some (2,32,.agg #[.int .i64 0,.slice none 0 0]):=by kernel_rfl
def W8 : tb.und 151 = some (.struct #[⟨ "at", 3, 0, false, "", "grammarlab/trail", 0⟩, ⟨ "old", 96, 1, false, "", "grammarlab/trail", 8⟩]) := by kernel_rfl
def JJ:tb.inf 151=some (4,48,.agg #[.int .i64 0,.int .i64 0,.int .i64 0,.slice none 0 0]):=by kernel_rfl
def W7 : tb.und 176 = some (.struct #[⟨ "Feat", 3, 0, false, "", "", 0⟩, ⟨ "Value", 3, 1, false, "", "", 8⟩]) := by kernel_rfl
def JI:tb.inf 176=some (2,16,.agg #[.int .i64 0,.int .i64 0]):=by kernel_rfl
def W6:tb.und 177=some (.slice 126):=by kernel_rfl
def W5 : tb.und 187 = some (.struct #[⟨ "Name", 9, 0, false, "", "", 0⟩, ⟨ "Intro", 3, 1, false, "", "", 16⟩]) := by kernel_rfl
def JH:tb.inf 187=some (2,24,.agg #[.string ⟨#[]⟩,.int .i64 0]):=by kernel_rfl
def W4:tb.und 191=some (.int .u64):=by kernel_rfl
def JG:tb.inf 191=some (1,8,.int .u64 0):=by kernel_rfl
def W3:tb.und 193=some (.int .u64):=by kernel_rfl
def W2 : tb.und 214 = some (.struct #[⟨ "f", 40, 0, false, "", "grammarlab/grammarlabref07", 0⟩, ⟨ "number", 34, 1, false, "", "grammarlab/grammarlabref07", 24⟩, ⟨ "order", 34, 2, false, "", "grammarlab/grammarlabref07", 48⟩]) := by kernel_rfl
def ZV:tb.inf 214=some (3,72,.agg #[.slice none 0 0,.slice none 0 0,.slice none 0 0]):=by kernel_rfl
end Go.Proofs
namespace Go.Proofs
open Go Go.Rx Go.Vx
instance kC:fM tb 3 (.int .i64):=⟨ti⟩
instance QL:fM tb 4 (.bool):=⟨th⟩
instance M2:fM tb 9 (.string):=⟨tg⟩
instance Lo:fM tb 22 (.slice 138):=⟨Lk⟩
instance:fM tb 23 (.slice 42):=⟨Lj⟩
instance IC:fM tb 24 (.slice 132):=⟨Li⟩
instance:fM tb 25 (.slice 187):=⟨Lh⟩
instance uU : fM tb 27 (.struct #[⟨ "Types", 24, 0, false, "", "", 0⟩, ⟨ "Feats", 25, 1, false, "", "", 24⟩]) := ⟨Lg⟩
instance Ln:fM tb 31 (.pointer 85):=⟨Lf⟩
instance g8:fM tb 33 (.slice 78):=⟨Le⟩
instance fJ:fM tb 34 (.slice 3):=⟨Ld⟩
instance wS:fM tb 35 (.slice 148):=⟨Lc⟩
instance kK : fM tb 37 (.struct #[⟨ "H", 27, 0, false, "", "", 0⟩, ⟨ "Cells", 33, 2, false, "", "", 48⟩, ⟨ "Class", 34, 3, false, "", "", 72⟩, ⟨ "Marks", 35, 4, false, "", "", 96⟩]) := ⟨Lb⟩
instance iA : fM tb 40 (.struct #[⟨ "Nodes", 33, 0, false, "", "", 0⟩]) := ⟨La⟩
instance : fM tb 42 (.struct #[⟨ "Kind", 3, 0, false, "", "", 0⟩, ⟨ "A", 3, 1, false, "", "", 8⟩, ⟨ "B", 3, 2, false, "", "", 16⟩, ⟨ "F", 40, 3, false, "", "", 24⟩]) := ⟨Kz⟩
instance WS:fM tb 48 (.slice 40):=⟨Ky⟩
instance dW:fM tb 76 (.slice 98):=⟨Kx⟩
instance wQ : fM tb 78 (.struct #[⟨ "Type", 3, 0, false, "", "", 0⟩, ⟨ "Arcs", 76, 1, false, "", "", 8⟩]) := ⟨Kw⟩
instance nJ:fM tb 81 (.slice 96):=⟨Kv⟩
instance qX:fM tb 82 (.slice 151):=⟨Ku⟩
instance WR:fM tb 83 (.slice 94):=⟨Kt⟩
instance BW : fM tb 85 (.struct #[⟨ "h", 27, 0, false, "", "grammarlab/trail", 0⟩, ⟨ "cells", 81, 2, false, "", "grammarlab/trail", 48⟩, ⟨ "trail", 82, 3, false, "", "grammarlab/trail", 72⟩, ⟨ "marks", 83, 4, false, "", "grammarlab/trail", 96⟩]) := ⟨Ks⟩
instance Lm : fM tb 94 (.struct #[⟨ "cells", 3, 0, false, "", "grammarlab/trail", 0⟩, ⟨ "changes", 3, 1, false, "", "grammarlab/trail", 8⟩]) := ⟨Kr⟩
instance qW : fM tb 96 (.struct #[⟨ "forward", 3, 0, false, "", "grammarlab/trail", 0⟩, ⟨ "kind", 3, 1, false, "", "grammarlab/trail", 8⟩, ⟨ "arcs", 76, 2, false, "", "grammarlab/trail", 16⟩]) := ⟨Kq⟩
instance sS : fM tb 98 (.struct #[⟨ "Feat", 3, 0, false, "", "", 0⟩, ⟨ "To", 3, 1, false, "", "", 8⟩]) := ⟨Kp⟩
instance:fM tb 99 (.func #[3] #[] false):=⟨Ko⟩
instance pX:fM tb 100 (.array 2 3):=⟨WQ⟩
instance sX:fM tb 101 (.slice 100):=⟨WO⟩
instance:fM tb 102 (.func #[3] #[3] false):=⟨WN⟩
instance sW:fM tb 114 (.slice 76):=⟨WM⟩
instance yH:fM tb 118 (.map 3 3):=⟨WK⟩
instance:fM tb 119 (.slice 130):=⟨WJ⟩
instance sV:fM tb 122 (.slice 128):=⟨WI⟩
instance gY:fM tb 126 (.slice 191):=⟨WH⟩
instance QO : fM tb 128 (.struct #[⟨ "Name", 9, 0, false, "", "", 0⟩, ⟨ "Code", 126, 1, false, "", "", 16⟩]) := ⟨WG⟩
instance:fM tb 130 (.slice 176):=⟨WF⟩
instance IG : fM tb 132 (.struct #[⟨ "Name", 9, 0, false, "", "", 0⟩, ⟨ "Code", 126, 1, false, "", "", 16⟩, ⟨ "Supers", 34, 2, false, "", "", 40⟩, ⟨ "Feats", 130, 3, false, "", "", 64⟩]) := ⟨WE⟩
instance kR:fM tb 135 (.slice 9):=⟨WD⟩
instance IF:fM tb 136 (.slice 141):=⟨WC⟩
instance yG : fM tb 138 (.struct #[⟨ "Name", 9, 0, false, "", "", 0⟩, ⟨ "Supers", 135, 1, false, "", "", 16⟩, ⟨ "Feats", 136, 2, false, "", "", 40⟩]) := ⟨WB⟩
instance Ls : fM tb 141 (.struct #[⟨ "Feat", 9, 0, false, "", "", 0⟩, ⟨ "Value", 9, 1, false, "", "", 16⟩]) := ⟨WA⟩
instance IE : fM tb 148 (.struct #[⟨ "Cells", 3, 0, false, "", "", 0⟩, ⟨ "Class", 34, 1, false, "", "", 8⟩]) := ⟨W9⟩
instance ID : fM tb 151 (.struct #[⟨ "at", 3, 0, false, "", "grammarlab/trail", 0⟩, ⟨ "old", 96, 1, false, "", "grammarlab/trail", 8⟩]) := ⟨W8⟩
instance Lr : fM tb 176 (.struct #[⟨ "Feat", 3, 0, false, "", "", 0⟩, ⟨ "Value", 3, 1, false, "", "", 8⟩]) := ⟨W7⟩
instance sU:fM tb 177 (.slice 126):=⟨W6⟩
instance Lq : fM tb 187 (.struct #[⟨ "Name", 9, 0, false, "", "", 0⟩, ⟨ "Intro", 3, 1, false, "", "", 16⟩]) := ⟨W5⟩
instance Lp:fM tb 191 (.int .u64):=⟨W4⟩
instance yF:fM tb 193 (.int .u64):=⟨W3⟩
instance QM : fM tb 214 (.struct #[⟨ "f", 40, 0, false, "", "grammarlab/grammarlabref07", 0⟩, ⟨ "number", 34, 1, false, "", "grammarlab/grammarlabref07", 24⟩, ⟨ "order", 34, 2, false, "", "grammarlab/grammarlabref07", 48⟩]) := ⟨W2⟩
instance gH:jP tb 3 1 8 (.int .i64 0):=⟨Tt⟩
instance:oT tb 3 [.int .i64 0]:=⟨_,_,_,Tt,rfl,rfl⟩
instance:jP tb 4 1 1 (.bool false):=⟨Tq⟩
instance:oT tb 4 [.bool false]:=⟨_,_,_,Tq,rfl,rfl⟩
instance JU:jP tb 9 1 16 (.string ⟨#[]⟩):=⟨Tj⟩
instance:oT tb 9 [.str []]:=⟨_,_,_,Tj,rfl,rfl⟩
instance ZY:jP tb 24 1 24 (.slice none 0 0):=⟨Tv⟩
instance:jP tb 25 1 24 (.slice none 0 0):=⟨Tu⟩
instance CC:jP tb 27 2 48 (.agg #[.slice none 0 0,.slice none 0 0]):=⟨TF⟩
instance:oT tb 27 [.nils,.nils]:=⟨_,_,_,TF,rfl,rfl⟩
instance xD:jP tb 33 1 24 (.slice none 0 0):=⟨Ts⟩
instance R?:jP tb 34 1 24 (.slice none 0 0):=⟨TE⟩
instance:oT tb 34 [.nils]:=⟨_,_,_,TE,rfl,rfl⟩
instance Q?:jP tb 35 1 24 (.slice none 0 0):=⟨Tr⟩
instance k7:jP tb 37 5 120 (.agg #[.slice none 0 0,.slice none 0 0,.slice none 0 0,.slice none 0 0,.slice none 0 0]):=⟨TD⟩
instance:oT tb 37 [.nils,.nils,.nils,.nils,.nils]:=⟨_,_,_,TD,rfl,rfl⟩
instance mB:jP tb 40 1 24 (.agg #[.slice none 0 0]):=⟨TA⟩
instance:oT tb 40 [.nils]:=⟨_,_,_,TA,rfl,rfl⟩
instance:jP tb 42 4 48 (.agg #[.int .i64 0,.int .i64 0,.int .i64 0,.slice none 0 0]):=⟨T9⟩
instance:oT tb 42 [.int .i64 0,.int .i64 0,.int .i64 0,.nils]:=⟨_,_,_,T9,rfl,rfl⟩
instance jZ:jP tb 76 1 24 (.slice none 0 0):=⟨Tp⟩
instance kP:jP tb 78 2 32 (.agg #[.int .i64 0,.slice none 0 0]):=⟨T8⟩
instance:oT tb 78 [.int .i64 0,.nils]:=⟨_,_,_,T8,rfl,rfl⟩
instance P?:jP tb 81 1 24 (.slice none 0 0):=⟨Tn⟩
instance OZ:jP tb 82 1 24 (.slice none 0 0):=⟨Tm⟩
instance O?:jP tb 83 1 24 (.slice none 0 0):=⟨Tl⟩
instance N?:jP tb 85 5 120 (.agg #[.slice none 0 0,.slice none 0 0,.slice none 0 0,.slice none 0 0,.slice none 0 0]):=⟨Tk⟩
instance OY:jP tb 94 2 16 (.agg #[.int .i64 0,.int .i64 0]):=⟨T7⟩
instance:oT tb 94 [.int .i64 0,.int .i64 0]:=⟨_,_,_,T7,rfl,rfl⟩
instance jM:jP tb 96 3 40 (.agg #[.int .i64 0,.int .i64 0,.slice none 0 0]):=⟨T6⟩
instance:oT tb 96 [.int .i64 0,.int .i64 0,.nils]:=⟨_,_,_,T6,rfl,rfl⟩
instance iO:jP tb 98 2 16 (.agg #[.int .i64 0,.int .i64 0]):=⟨T5⟩
instance:oT tb 98 [.int .i64 0,.int .i64 0]:=⟨_,_,_,T5,rfl,rfl⟩
instance:jP tb 99 1 8 (.nilFunc):=⟨T4⟩
instance:oT tb 99 [.nilf]:=⟨_,_,_,T4,rfl,rfl⟩
instance qK:jP tb 100 2 16 (.agg #[.int .i64 0,.int .i64 0]):=⟨JT⟩
instance:oT tb 100 [.int .i64 0,.int .i64 0]:=⟨_,_,_,JT,rfl,rfl⟩
instance:jP tb 102 1 8 (.nilFunc):=⟨JS⟩
instance:oT tb 102 [.nilf]:=⟨_,_,_,JS,rfl,rfl⟩
instance:jP tb 118 1 8 (.map none):=⟨JR⟩
instance:oT tb 118 [.nilm]:=⟨_,_,_,JR,rfl,rfl⟩
instance qJ:jP tb 126 1 24 (.slice none 0 0):=⟨JQ⟩
instance:oT tb 126 [.nils]:=⟨_,_,_,JQ,rfl,rfl⟩
instance tJ:jP tb 128 2 40 (.agg #[.string ⟨#[]⟩,.slice none 0 0]):=⟨JP⟩
instance:oT tb 128 [.str [],.nils]:=⟨_,_,_,JP,rfl,rfl⟩
instance:jP tb 130 1 24 (.slice none 0 0):=⟨JO⟩
instance:oT tb 130 [.nils]:=⟨_,_,_,JO,rfl,rfl⟩
instance JV:jP tb 132 4 88 (.agg #[.string ⟨#[]⟩,.slice none 0 0,.slice none 0 0,.slice none 0 0]):=⟨JN⟩
instance:oT tb 132 [.str [],.nils,.nils,.nils]:=⟨_,_,_,JN,rfl,rfl⟩
instance:jP tb 135 1 24 (.slice none 0 0):=⟨ZX⟩
instance TH:jP tb 136 1 24 (.slice none 0 0):=⟨ZW⟩
instance zP:jP tb 138 3 64 (.agg #[.string ⟨#[]⟩,.slice none 0 0,.slice none 0 0]):=⟨JM⟩
instance:oT tb 138 [.str [],.nils,.nils]:=⟨_,_,_,JM,rfl,rfl⟩
instance TG:jP tb 141 2 32 (.agg #[.string ⟨#[]⟩,.string ⟨#[]⟩]):=⟨JL⟩
instance:oT tb 141 [.str [],.str []]:=⟨_,_,_,JL,rfl,rfl⟩
instance oM:jP tb 148 2 32 (.agg #[.int .i64 0,.slice none 0 0]):=⟨JK⟩
instance:oT tb 148 [.int .i64 0,.nils]:=⟨_,_,_,JK,rfl,rfl⟩
instance qI:jP tb 151 4 48 (.agg #[.int .i64 0,.int .i64 0,.int .i64 0,.slice none 0 0]):=⟨JJ⟩
instance:oT tb 151 [.int .i64 0,.int .i64 0,.int .i64 0,.nils]:=⟨_,_,_,JJ,rfl,rfl⟩
instance Uc:jP tb 176 2 16 (.agg #[.int .i64 0,.int .i64 0]):=⟨JI⟩
instance:oT tb 176 [.int .i64 0,.int .i64 0]:=⟨_,_,_,JI,rfl,rfl⟩
instance Ub:jP tb 187 2 24 (.agg #[.string ⟨#[]⟩,.int .i64 0]):=⟨JH⟩
instance:oT tb 187 [.str [],.int .i64 0]:=⟨_,_,_,JH,rfl,rfl⟩
instance mC:jP tb 191 1 8 (.int .u64 0):=⟨JG⟩
instance:oT tb 191 [.int .u64 0]:=⟨_,_,_,JG,rfl,rfl⟩
instance Ua:jP tb 214 3 72 (.agg #[.slice none 0 0,.slice none 0 0,.slice none 0 0]):=⟨ZV⟩
end Go.Proofs
