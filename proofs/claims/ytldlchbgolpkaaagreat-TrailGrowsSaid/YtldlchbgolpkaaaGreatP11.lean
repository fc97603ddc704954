import Derived.Test.YtldlchbgolpkaaaGreatProg
import Derived.Test.YtldlchbgolpkaaaGreatP10
set_option linter.all false
namespace Go.Proofs
open Go Go.Rx
noncomputable def tb:Tb:=ED Tryz.prog []
def Tryz.mixed:Tryz.prog.follows .mixedOrders=true:=by kernel_rfl
def Dy:∀t∈([]:I X),Tryz.prog.stoodInHeld t=false/\Tryz.prog.eqGuardType Tryz.prog.depth t=false:=by intro t ht;cases ht
def Tryz.names_ok : (Tryz.prog.funcs.toList.all fun f => !(f.name == "runtime.NumGoroutine")) = true := by kernel_rfl
def tb_ok:lP Tryz.prog tb:=zcp Tryz.prog [] Tryz.mixed (fun f hf _=>by
 have:=List.all_eq_true.1 Tryz.names_ok f hf;simpa using this) Dy
def dq:tb.und 3=some (.int .i64):=by kernel_rfl
def Vk:tb.inf 3=some (1,8,.int .i64 0):=by kernel_rfl
def dp:tb.und 4=some (.bool):=by kernel_rfl
def Vg:tb.inf 4=some (1,1,.bool false):=by kernel_rfl
def dj:tb.und 5=some (.int .u8):=by kernel_rfl
def s?:tb.inf 5=some (1,1,.int .u8 0):=by kernel_rfl
def dh:tb.und 9=some (.string):=by kernel_rfl
def Va:tb.inf 9=some (1,16,.string ⟨#[]⟩):=by kernel_rfl
def Nc:tb.und 22=some (.slice 138):=by kernel_rfl
def Nb:tb.und 23=some (.slice 42):=by kernel_rfl
def Na:tb.und 24=some (.slice 132):=by kernel_rfl
def Vm:tb.inf 24=some (1,24,.slice none 0 0):=by kernel_rfl
def Mz:tb.und 25=some (.slice 187):=by kernel_rfl
def Vl:tb.inf 25=some (1,24,.slice none 0 0):=by kernel_rfl
def My : tb.und 27 = some (.struct #[⟨ "Types", 24, 0, false, "", "", 0⟩, ⟨ "Feats", 25, 1, false, "", "", 24⟩]) := by kernel_rfl
def UB:tb.inf 27=some (2,48,.agg #[.slice none 0 0,.slice none 0 0]):=by kernel_rfl
def Mx:tb.und 31=some (.pointer 85):=by kernel_rfl
def Mw:tb.und 33=some (.slice 78):=by kernel_rfl
def Vj:tb.inf 33=some (1,24,.slice none 0 0):=by kernel_rfl
def Mv:tb.und 34=some (.slice 3):=by kernel_rfl
def Vi:tb.inf 34=some (1,24,.slice none 0 0):=by kernel_rfl
def Mu:tb.und 35=some (.slice 148):=by kernel_rfl
def Vh:tb.inf 35=some (1,24,.slice none 0 0):=by kernel_rfl
def Mt : tb.und 37 = some (.struct #[⟨ "H", 27, 0, false, "", "", 0⟩, ⟨ "Cells", 33, 2, false, "", "", 48⟩, ⟨ "Class", 34, 3, false, "", "", 72⟩, ⟨ "Marks", 35, 4, false, "", "", 96⟩]) := by kernel_rfl
def UA:tb.inf 37=some (5,120,.agg #[.slice none 0 0,.slice none 0 0,.slice none 0 0,.slice none 0 0,.slice none 0 0]):=by kernel_rfl
def Ms : tb.und 40 = some (.struct #[⟨ "Nodes", 33, 0, false, "", "", 0⟩]) := by kernel_rfl
def U9:tb.inf 40=some (1,24,.agg #[.slice none 0 0]):=by kernel_rfl
def Mr : tb.und 42 = some (.struct #[⟨ "Kind", 3, 0, false, "", "", 0⟩, ⟨ "A", 3, 1, false, "", "", 8⟩, ⟨ "B", 3, 2, false, "", "", 16⟩, ⟨ "F", 40, 3, false, "", "", 24⟩]) := by kernel_rfl
def U8:tb.inf 42=some (4,48,.agg #[.int .i64 0,.int .i64 0,.int .i64 0,.slice none 0 0]):=by kernel_rfl
def Mq:tb.und 48=some (.slice 40):=by kernel_rfl
def Mp:tb.und 56=some (.array 2 5):=by kernel_rfl
def Mn:tb.und 76=some (.slice 98):=by kernel_rfl
def Vf:tb.inf 76=some (1,24,.slice none 0 0):=by kernel_rfl
def Mm : tb.und 78 = some (.struct #[⟨ "Type", 3, 0, false, "", "", 0⟩, ⟨ "Arcs", 76, 1, false, "", "", 8⟩]) := by kernel_rfl
def U7:tb.inf 78=some (2,32,.agg #[.int .i64 0,.slice none 0 0]):=by kernel_rfl
def Ml:tb.und 81=some (.slice 96):=by kernel_rfl
def Ve:tb.inf 81=some (1,24,.slice none 0 0):=by kernel_rfl
def Mk:tb.und 82=some (.slice 151):=by kernel_rfl
def Vd:tb.inf 82=some (1,24,.slice none 0 0):=by kernel_rfl
def Mj:tb.und 83=some (.slice 94):=by kernel_rfl
def Vc:tb.inf 83=some (1,24,.slice none 0 0):=by kernel_rfl
def Mi : tb.und 85 = some (.struct #[⟨ "h", 27, 0, false, "", "grammarlab/trail", 0⟩, ⟨ "cells", 81, 2, false, "", "grammarlab/trail", 48⟩, ⟨ "trail", 82, 3, false, "", "grammarlab/trail", 72⟩, ⟨ "marks", 83, 4, false, "", "grammarlab/trail", 96⟩]) := by kernel_rfl
def Vb:tb.inf 85=some (5,120,.agg #[.slice none 0 0,.slice none 0 0,.slice none 0 0,.slice none 0 0,.slice none 0 0]):=by kernel_rfl
def Mh : tb.und 94 = some (.struct #[⟨ "cells", 3, 0, false, "", "grammarlab/trail", 0⟩, ⟨ "changes", 3, 1, false, "", "grammarlab/trail", 8⟩]) := by kernel_rfl
def U6:tb.inf 94=some (2,16,.agg #[.int .i64 0,.int .i64 0]):=by kernel_rfl
def Mf : tb.und 96 = some (.struct #[⟨ "forward", 3, 0, false, "", "grammarlab/trail", 0⟩, ⟨ "kind", 3, 1, false, "", "grammarlab/trail", 8⟩, ⟨ "arcs", 76, 2, false, "", "grammarlab/trail", 16⟩]) := by kernel_rfl
def U5:tb.inf 96=some (3,40,.agg #[.int .i64 0,.int .i64 0,.slice none 0 0]):=by kernel_rfl
def Me : tb.und 98 = some (.struct #[⟨ "Feat", 3, 0, false, "", "", 0⟩, ⟨ "To", 3, 1, false, "", "", 8⟩]) := by kernel_rfl
def U4:tb.inf 98=some (2,16,.agg #[.int .i64 0,.int .i64 0]):=by kernel_rfl
def XL:tb.und 100=some (.array 2 3):=by kernel_rfl
def JX:tb.inf 100=some (2,16,.agg #[.int .i64 0,.int .i64 0]):=by kernel_rfl
def XK:tb.und 101=some (.slice 100):=by kernel_rfl
def XJ:tb.und 102=some (.func #[3] #[3] false):=by kernel_rfl
def JW:tb.inf 102=some (1,8,.nilFunc):=by kernel_rfl
def XI:tb.und 114=some (.slice 76):=by kernel_rfl
def XH:tb.und 118=some (.map 3 3):=by kernel_rfl
def JV:tb.inf 118=some (1,8,.map none):=by kernel_rfl
def XG:tb.und 119=some (.slice 130):=by kernel_rfl
def XF:tb.und 122=some (.slice 128):=by kernel_rfl
def XE:tb.und 126=some (.slice 191):=by kernel_rfl
def JU:tb.inf 126=some (1,24,.slice none 0 0):=by kernel_rfl
def XD : tb.und 128 = some (.struct #[⟨ "Name", 9, 0, false, "", "", 0⟩, ⟨ "Code", 126, 1, false, "", "", 16⟩]) := by kernel_rfl
def JT:tb.inf 128=some (2,40,.agg #[.string ⟨#[]⟩,.slice none 0 0]):=by kernel_rfl
def XC:tb.und 130=some (.slice 176):=by kernel_rfl
def JS:tb.inf 130=some (1,24,.slice none 0 0):=by kernel_rfl
def XB : tb.und 132 = some (.struct #[⟨ "Name", 9, 0, false, "", "", 0⟩, ⟨ "Code", 126, 1, false, "", "", 16⟩, ⟨ "Supers", 34, 2, false, "", "", 40⟩, ⟨ "Feats", 130, 3, false, "", "", 64⟩]) := by kernel_rfl
def JR:tb.inf 132=some (4,88,.agg #[.string ⟨#[]⟩,.slice none 0 0,.slice none 0 0,.slice none 0 0]):=by kernel_rfl
def XA:tb.und 135=some (.slice 9):=by kernel_rfl
def Bj:tb.inf 135=some (1,24,.slice none 0 0):=by kernel_rfl
def X9:tb.und 136=some (.slice 141):=by kernel_rfl
def Bi:tb.inf 136=some (1,24,.slice none 0 0):=by kernel_rfl
def X8 : tb.und 138 = some (.struct #[⟨ "Name", 9, 0, false, "", "", 0⟩, ⟨ "Supers", 135, 1, false, "", "", 16⟩, ⟨ "Feats", 136, 2, false, "", "", 40⟩]) := by kernel_rfl
def JQ:tb.inf 138=some (3,64,.agg #[.string ⟨#[]⟩,.slice none 0 0,.slice none 0 0]):=by kernel_rfl
def X7 : tb.und 141 = some (.struct #[⟨ "Feat", 9, 0, false, "", "", 0⟩, ⟨ "Value", 9, 1, false, "", "", 16⟩]) := by kernel_rfl
def JP:tb.inf 141=some (2,32,.agg #[.string ⟨#[]⟩,.string ⟨#[]⟩]):=by kernel_rfl
def X6 : tb.und 148 = some (.struct #[⟨ "Cells", 3, 0, false, "", "", 0⟩, ⟨ "Class", 34, 1, false, "", "", 8⟩]) := by kernel_rfl
def JO:tb.inf 148=some (2,32,.agg #[.int .i64 0,.slice none 0 0]):=by kernel_rfl
def X5 : tb.und 151 = some (.struct #[⟨ "at", 3, 0, false, "", "grammarlab/trail", 0⟩, ⟨ "old", 96, 1, false, "", "grammarlab/trail", 8⟩]) := by kernel_rfl
def JN:tb.inf 151=some (4,48,.agg #[.int .i64 0,.int .i64 0,.int .i64 0,.slice none 0 0]):=by kernel_rfl
def X4 : tb.und 176 = some (.struct #[⟨ "Feat", 3, 0, false, "", "", 0⟩, ⟨ "Value", 3, 1, false, "", "", 8⟩]) := by kernel_rfl
def JM:tb.inf 176=some (2,16,.agg #[.int .i64 0,.int .i64 0]):=by kernel_rfl
def X3:tb.und 177=some (.slice 126):=by kernel_rfl
def WZ : tb.und 187 = some (.struct #[⟨ "Name", 9, 0, false, "", "", 0⟩, ⟨ "Intro", 3, 1, false, "", "", 16⟩]) := by kernel_rfl
def JL:tb.inf 187=some (2,24,.agg #[.string ⟨#[]⟩,.int .i64 0]):=by kernel_rfl
def WY:tb.und 191=some (.int .u64):=by kernel_rfl
def JK:tb.inf 191=some (1,8,.int .u64 0):=by kernel_rfl
def WX:tb.und 193=some (.int .u64):=by kernel_rfl
def WW : tb.und 214 = some (.struct #[⟨ "f", 40, 0, false, "", "grammarlab/grammarlabref07", 0⟩, ⟨ "number", 34, 1, false, "", "grammarlab/grammarlabref07", 24⟩, ⟨ "order", 34, 2, false, "", "grammarlab/grammarlabref07", 48⟩]) := by kernel_rfl
def Bh:tb.inf 214=some (3,72,.agg #[.slice none 0 0,.slice none 0 0,.slice none 0 0]):=by kernel_rfl
end Go.Proofs
namespace Go.Proofs
open Go Go.Rx Go.Vx
instance jN:fJ tb 3 (.int .i64):=⟨dq⟩
instance RR:fJ tb 4 (.bool):=⟨dp⟩
instance M5:fJ tb 5 (.int .u8):=⟨dj⟩
instance M4:fJ tb 9 (.string):=⟨dh⟩
instance Nh:fJ tb 22 (.slice 138):=⟨Nc⟩
instance:fJ tb 23 (.slice 42):=⟨Nb⟩
instance IB:fJ tb 24 (.slice 132):=⟨Na⟩
instance:fJ tb 25 (.slice 187):=⟨Mz⟩
instance pN : fJ tb 27 (.struct #[⟨ "Types", 24, 0, false, "", "", 0⟩, ⟨ "Feats", 25, 1, false, "", "", 24⟩]) := ⟨My⟩
instance Ng:fJ tb 31 (.pointer 85):=⟨Mx⟩
instance jM:fJ tb 33 (.slice 78):=⟨Mw⟩
instance dY:fJ tb 34 (.slice 3):=⟨Mv⟩
instance wC:fJ tb 35 (.slice 148):=⟨Mu⟩
instance kL : fJ tb 37 (.struct #[⟨ "H", 27, 0, false, "", "", 0⟩, ⟨ "Cells", 33, 2, false, "", "", 48⟩, ⟨ "Class", 34, 3, false, "", "", 72⟩, ⟨ "Marks", 35, 4, false, "", "", 96⟩]) := ⟨Mt⟩
instance k9 : fJ tb 40 (.struct #[⟨ "Nodes", 33, 0, false, "", "", 0⟩]) := ⟨Ms⟩
instance : fJ tb 42 (.struct #[⟨ "Kind", 3, 0, false, "", "", 0⟩, ⟨ "A", 3, 1, false, "", "", 8⟩, ⟨ "B", 3, 2, false, "", "", 16⟩, ⟨ "F", 40, 3, false, "", "", 24⟩]) := ⟨Mr⟩
instance:fJ tb 48 (.slice 40):=⟨Mq⟩
instance EB:fJ tb 56 (.array 2 5):=⟨Mp⟩
instance eT:fJ tb 76 (.slice 98):=⟨Mn⟩
instance wB : fJ tb 78 (.struct #[⟨ "Type", 3, 0, false, "", "", 0⟩, ⟨ "Arcs", 76, 1, false, "", "", 8⟩]) := ⟨Mm⟩
instance nF:fJ tb 81 (.slice 96):=⟨Ml⟩
instance qY:fJ tb 82 (.slice 151):=⟨Mk⟩
instance XM:fJ tb 83 (.slice 94):=⟨Mj⟩
instance BG : fJ tb 85 (.struct #[⟨ "h", 27, 0, false, "", "grammarlab/trail", 0⟩, ⟨ "cells", 81, 2, false, "", "grammarlab/trail", 48⟩, ⟨ "trail", 82, 3, false, "", "grammarlab/trail", 72⟩, ⟨ "marks", 83, 4, false, "", "grammarlab/trail", 96⟩]) := ⟨Mi⟩
instance Nf : fJ tb 94 (.struct #[⟨ "cells", 3, 0, false, "", "grammarlab/trail", 0⟩, ⟨ "changes", 3, 1, false, "", "grammarlab/trail", 8⟩]) := ⟨Mh⟩
instance qX : fJ tb 96 (.struct #[⟨ "forward", 3, 0, false, "", "grammarlab/trail", 0⟩, ⟨ "kind", 3, 1, false, "", "grammarlab/trail", 8⟩, ⟨ "arcs", 76, 2, false, "", "grammarlab/trail", 16⟩]) := ⟨Mf⟩
instance xY : fJ tb 98 (.struct #[⟨ "Feat", 3, 0, false, "", "", 0⟩, ⟨ "To", 3, 1, false, "", "", 8⟩]) := ⟨Me⟩
instance qF:fJ tb 100 (.array 2 3):=⟨XL⟩
instance sR:fJ tb 101 (.slice 100):=⟨XK⟩
instance:fJ tb 102 (.func #[3] #[3] false):=⟨XJ⟩
instance sQ:fJ tb 114 (.slice 76):=⟨XI⟩
instance RW:fJ tb 118 (.map 3 3):=⟨XH⟩
instance:fJ tb 119 (.slice 130):=⟨XG⟩
instance sP:fJ tb 122 (.slice 128):=⟨XF⟩
instance gZ:fJ tb 126 (.slice 191):=⟨XE⟩
instance RV : fJ tb 128 (.struct #[⟨ "Name", 9, 0, false, "", "", 0⟩, ⟨ "Code", 126, 1, false, "", "", 16⟩]) := ⟨XD⟩
instance:fJ tb 130 (.slice 176):=⟨XC⟩
instance IF : fJ tb 132 (.struct #[⟨ "Name", 9, 0, false, "", "", 0⟩, ⟨ "Code", 126, 1, false, "", "", 16⟩, ⟨ "Supers", 34, 2, false, "", "", 40⟩, ⟨ "Feats", 130, 3, false, "", "", 64⟩]) := ⟨XB⟩
instance kQ:fJ tb 135 (.slice 9):=⟨XA⟩
instance IE:fJ tb 136 (.slice 141):=⟨X9⟩
instance xZ : fJ tb 138 (.struct #[⟨ "Name", 9, 0, false, "", "", 0⟩, ⟨ "Supers", 135, 1, false, "", "", 16⟩, ⟨ "Feats", 136, 2, false, "", "", 40⟩]) := ⟨X8⟩
instance Nl : fJ tb 141 (.struct #[⟨ "Feat", 9, 0, false, "", "", 0⟩, ⟨ "Value", 9, 1, false, "", "", 16⟩]) := ⟨X7⟩
instance ID : fJ tb 148 (.struct #[⟨ "Cells", 3, 0, false, "", "", 0⟩, ⟨ "Class", 34, 1, false, "", "", 8⟩]) := ⟨X6⟩
instance IC : fJ tb 151 (.struct #[⟨ "at", 3, 0, false, "", "grammarlab/trail", 0⟩, ⟨ "old", 96, 1, false, "", "grammarlab/trail", 8⟩]) := ⟨X5⟩
instance Nk : fJ tb 176 (.struct #[⟨ "Feat", 3, 0, false, "", "", 0⟩, ⟨ "Value", 3, 1, false, "", "", 8⟩]) := ⟨X4⟩
instance sO:fJ tb 177 (.slice 126):=⟨X3⟩
instance Nj : fJ tb 187 (.struct #[⟨ "Name", 9, 0, false, "", "", 0⟩, ⟨ "Intro", 3, 1, false, "", "", 16⟩]) := ⟨WZ⟩
instance Ni:fJ tb 191 (.int .u64):=⟨WY⟩
instance CW:fJ tb 193 (.int .u64):=⟨WX⟩
instance RT : fJ tb 214 (.struct #[⟨ "f", 40, 0, false, "", "grammarlab/grammarlabref07", 0⟩, ⟨ "number", 34, 1, false, "", "grammarlab/grammarlabref07", 24⟩, ⟨ "order", 34, 2, false, "", "grammarlab/grammarlabref07", 48⟩]) := ⟨WW⟩
instance fQ:jV tb 3 1 8 (.int .i64 0):=⟨Vk⟩
instance:qE tb 3 [.int .i64 0]:=⟨_,_,_,Vk,rfl,rfl⟩
instance:jV tb 4 1 1 (.bool false):=⟨Vg⟩
instance:qE tb 4 [.bool false]:=⟨_,_,_,Vg,rfl,rfl⟩
instance Kk:jV tb 5 1 1 (.int .u8 0):=⟨s?⟩
instance JY:jV tb 9 1 16 (.string ⟨#[]⟩):=⟨Va⟩
instance:qE tb 9 [.str []]:=⟨_,_,_,Va,rfl,rfl⟩
instance Bk:jV tb 24 1 24 (.slice none 0 0):=⟨Vm⟩
instance:jV tb 25 1 24 (.slice none 0 0):=⟨Vl⟩
instance v4:jV tb 27 2 48 (.agg #[.slice none 0 0,.slice none 0 0]):=⟨UB⟩
instance:qE tb 27 [.nils,.nils]:=⟨_,_,_,UB,rfl,rfl⟩
instance FG:jV tb 33 1 24 (.slice none 0 0):=⟨Vj⟩
instance x?:jV tb 34 1 24 (.slice none 0 0):=⟨Vi⟩
instance w?:jV tb 35 1 24 (.slice none 0 0):=⟨Vh⟩
instance kE:jV tb 37 5 120 (.agg #[.slice none 0 0,.slice none 0 0,.slice none 0 0,.slice none 0 0,.slice none 0 0]):=⟨UA⟩
instance:qE tb 37 [.nils,.nils,.nils,.nils,.nils]:=⟨_,_,_,UA,rfl,rfl⟩
instance oK:jV tb 40 1 24 (.agg #[.slice none 0 0]):=⟨U9⟩
instance:qE tb 40 [.nils]:=⟨_,_,_,U9,rfl,rfl⟩
instance:jV tb 42 4 48 (.agg #[.int .i64 0,.int .i64 0,.int .i64 0,.slice none 0 0]):=⟨U8⟩
instance:qE tb 42 [.int .i64 0,.int .i64 0,.int .i64 0,.nils]:=⟨_,_,_,U8,rfl,rfl⟩
instance kD:jV tb 76 1 24 (.slice none 0 0):=⟨Vf⟩
instance mO:jV tb 78 2 32 (.agg #[.int .i64 0,.slice none 0 0]):=⟨U7⟩
instance:qE tb 78 [.int .i64 0,.nils]:=⟨_,_,_,U7,rfl,rfl⟩
instance v?:jV tb 81 1 24 (.slice none 0 0):=⟨Ve⟩
instance PZ:jV tb 82 1 24 (.slice none 0 0):=⟨Vd⟩
instance u?:jV tb 83 1 24 (.slice none 0 0):=⟨Vc⟩
instance t?:jV tb 85 5 120 (.agg #[.slice none 0 0,.slice none 0 0,.slice none 0 0,.slice none 0 0,.slice none 0 0]):=⟨Vb⟩
instance PY:jV tb 94 2 16 (.agg #[.int .i64 0,.int .i64 0]):=⟨U6⟩
instance:qE tb 94 [.int .i64 0,.int .i64 0]:=⟨_,_,_,U6,rfl,rfl⟩
instance jS:jV tb 96 3 40 (.agg #[.int .i64 0,.int .i64 0,.slice none 0 0]):=⟨U5⟩
instance:qE tb 96 [.int .i64 0,.int .i64 0,.nils]:=⟨_,_,_,U5,rfl,rfl⟩
instance kO:jV tb 98 2 16 (.agg #[.int .i64 0,.int .i64 0]):=⟨U4⟩
instance:qE tb 98 [.int .i64 0,.int .i64 0]:=⟨_,_,_,U4,rfl,rfl⟩
instance qO:jV tb 100 2 16 (.agg #[.int .i64 0,.int .i64 0]):=⟨JX⟩
instance:qE tb 100 [.int .i64 0,.int .i64 0]:=⟨_,_,_,JX,rfl,rfl⟩
instance:jV tb 102 1 8 (.nilFunc):=⟨JW⟩
instance:qE tb 102 [.nilf]:=⟨_,_,_,JW,rfl,rfl⟩
instance:jV tb 118 1 8 (.map none):=⟨JV⟩
instance:qE tb 118 [.nilm]:=⟨_,_,_,JV,rfl,rfl⟩
instance qN:jV tb 126 1 24 (.slice none 0 0):=⟨JU⟩
instance:qE tb 126 [.nils]:=⟨_,_,_,JU,rfl,rfl⟩
instance tG:jV tb 128 2 40 (.agg #[.string ⟨#[]⟩,.slice none 0 0]):=⟨JT⟩
instance:qE tb 128 [.str [],.nils]:=⟨_,_,_,JT,rfl,rfl⟩
instance:jV tb 130 1 24 (.slice none 0 0):=⟨JS⟩
instance:qE tb 130 [.nils]:=⟨_,_,_,JS,rfl,rfl⟩
instance JZ:jV tb 132 4 88 (.agg #[.string ⟨#[]⟩,.slice none 0 0,.slice none 0 0,.slice none 0 0]):=⟨JR⟩
instance:qE tb 132 [.str [],.nils,.nils,.nils]:=⟨_,_,_,JR,rfl,rfl⟩
instance:jV tb 135 1 24 (.slice none 0 0):=⟨Bj⟩
instance UD:jV tb 136 1 24 (.slice none 0 0):=⟨Bi⟩
instance yN:jV tb 138 3 64 (.agg #[.string ⟨#[]⟩,.slice none 0 0,.slice none 0 0]):=⟨JQ⟩
instance:qE tb 138 [.str [],.nils,.nils]:=⟨_,_,_,JQ,rfl,rfl⟩
instance UC:jV tb 141 2 32 (.agg #[.string ⟨#[]⟩,.string ⟨#[]⟩]):=⟨JP⟩
instance:qE tb 141 [.str [],.str []]:=⟨_,_,_,JP,rfl,rfl⟩
instance oL:jV tb 148 2 32 (.agg #[.int .i64 0,.slice none 0 0]):=⟨JO⟩
instance:qE tb 148 [.int .i64 0,.nils]:=⟨_,_,_,JO,rfl,rfl⟩
instance qM:jV tb 151 4 48 (.agg #[.int .i64 0,.int .i64 0,.int .i64 0,.slice none 0 0]):=⟨JN⟩
instance:qE tb 151 [.int .i64 0,.int .i64 0,.int .i64 0,.nils]:=⟨_,_,_,JN,rfl,rfl⟩
instance Vs:jV tb 176 2 16 (.agg #[.int .i64 0,.int .i64 0]):=⟨JM⟩
instance:qE tb 176 [.int .i64 0,.int .i64 0]:=⟨_,_,_,JM,rfl,rfl⟩
instance Vr:jV tb 187 2 24 (.agg #[.string ⟨#[]⟩,.int .i64 0]):=⟨JL⟩
instance:qE tb 187 [.str [],.int .i64 0]:=⟨_,_,_,JL,rfl,rfl⟩
instance lZ:jV tb 191 1 8 (.int .u64 0):=⟨JK⟩
instance:qE tb 191 [.int .u64 0]:=⟨_,_,_,JK,rfl,rfl⟩
instance Vq:jV tb 214 3 72 (.agg #[.slice none 0 0,.slice none 0 0,.slice none 0 0]):=⟨Bh⟩
end Go.Proofs
