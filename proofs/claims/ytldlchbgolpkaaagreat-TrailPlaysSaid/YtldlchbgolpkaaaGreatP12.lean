import Derived.Test.YtldlchbgolpkaaaGreatProg
import Derived.Test.YtldlchbgolpkaaaGreatP11
set_option linter.all false
namespace Go.Proofs
open Go Go.Rx
noncomputable def Tryz.tb:Tb:=wL Tryz.prog []
theorem Tryz.mixed:Tryz.prog.follows .mixedOrders=true:=by kernel_rfl
theorem SO:∀t∈([]:List TypeId),Tryz.prog.stoodInHeld t=false/\Tryz.prog.eqGuardType Tryz.prog.depth t=false:=by
 intro t ht;cases ht
theorem lI : (Tryz.prog.funcs.toList.all fun f => !(f.name == "runtime.NumGoroutine")) = true := by kernel_rfl
theorem tb_ok:iW Tryz.prog Tryz.tb:=zba Tryz.prog [] Tryz.mixed (fun f hf _=>by
 have:=List.all_eq_true.1 lI f hf;simpa using this) SO
theorem Uz:Tryz.tb.und 3=some (.int .i64):=by kernel_rfl
theorem Fv:Tryz.tb.inf 3=some (1,8,.int .i64 0):=by kernel_rfl
theorem Uy:Tryz.tb.und 4=some (.bool):=by kernel_rfl
theorem Fq:Tryz.tb.inf 4=some (1,1,.bool false):=by kernel_rfl
theorem Ux:Tryz.tb.und 9=some (.string):=by kernel_rfl
theorem Fj:Tryz.tb.inf 9=some (1,16,.string ⟨#[]⟩):=by kernel_rfl
theorem YL:Tryz.tb.und 22=some (.slice 138):=by kernel_rfl
theorem YK:Tryz.tb.und 23=some (.slice 42):=by kernel_rfl
theorem YJ:Tryz.tb.und 24=some (.slice 132):=by kernel_rfl
theorem Fx:Tryz.tb.inf 24=some (1,24,.slice none 0 0):=by kernel_rfl
theorem YI:Tryz.tb.und 25=some (.slice 187):=by kernel_rfl
theorem Fw:Tryz.tb.inf 25=some (1,24,.slice none 0 0):=by kernel_rfl
theorem YH : Tryz.tb.und 27 = some (.struct #[⟨ "Types", 24, 0, false, "", "", 0⟩, ⟨ "Feats", 25, 1, false, "", "", 24⟩]) := by kernel_rfl
theorem LD:Tryz.tb.inf 27=some (2,48,.agg #[.slice none 0 0,.slice none 0 0]):=by kernel_rfl
theorem YG:Tryz.tb.und 31=some (.pointer 85):=by kernel_rfl
theorem YF:Tryz.tb.und 33=some (.slice 78):=by kernel_rfl
theorem Fu:Tryz.tb.inf 33=some (1,24,.slice none 0 0):=by kernel_rfl
theorem YE:Tryz.tb.und 34=some (.slice 3):=by kernel_rfl
theorem Ft:Tryz.tb.inf 34=some (1,24,.slice none 0 0):=by kernel_rfl
theorem YD:Tryz.tb.und 35=some (.slice 148):=by kernel_rfl
theorem Fs:Tryz.tb.inf 35=some (1,24,.slice none 0 0):=by kernel_rfl
theorem YC : Tryz.tb.und 37 = some (.struct #[⟨ "H", 27, 0, false, "", "", 0⟩, ⟨ "Cells", 33, 2, false, "", "", 48⟩, ⟨ "Class", 34, 3, false, "", "", 72⟩, ⟨ "Marks", 35, 4, false, "", "", 96⟩]) := by kernel_rfl
theorem LC:Tryz.tb.inf 37=some (5,120,.agg #[.slice none 0 0,.slice none 0 0,.slice none 0 0,.slice none 0 0,.slice none 0 0]):=by kernel_rfl
theorem YB : Tryz.tb.und 40 = some (.struct #[⟨ "Nodes", 33, 0, false, "", "", 0⟩]) := by kernel_rfl
theorem LB:Tryz.tb.inf 40=some (1,24,.agg #[.slice none 0 0]):=by kernel_rfl
theorem YA : Tryz.tb.und 42 = some (.struct #[⟨ "Kind", 3, 0, false, "", "", 0⟩, ⟨ "A", 3, 1, false, "", "", 8⟩, ⟨ "B", 3, 2, false, "", "", 16⟩, ⟨ "F", 40, 3, false, "", "", 24⟩]) := by kernel_rfl
theorem LA:Tryz.tb.inf 42=some (4,48,.agg #[.int .i64 0,.int .i64 0,.int .i64 0,.slice none 0 0]):=by kernel_rfl
theorem Y9:Tryz.tb.und 48=some (.slice 40):=by kernel_rfl
theorem Y8:Tryz.tb.und 76=some (.slice 98):=by kernel_rfl
theorem Fp:Tryz.tb.inf 76=some (1,24,.slice none 0 0):=by kernel_rfl
theorem Y7 : Tryz.tb.und 78 = some (.struct #[⟨ "Type", 3, 0, false, "", "", 0⟩, ⟨ "Arcs", 76, 1, false, "", "", 8⟩]) := by kernel_rfl
theorem L9:Tryz.tb.inf 78=some (2,32,.agg #[.int .i64 0,.slice none 0 0]):=by kernel_rfl
theorem Y6:Tryz.tb.und 81=some (.slice 96):=by kernel_rfl
theorem Fo:Tryz.tb.inf 81=some (1,24,.slice none 0 0):=by kernel_rfl
theorem Y5:Tryz.tb.und 82=some (.slice 151):=by kernel_rfl
theorem Fm:Tryz.tb.inf 82=some (1,24,.slice none 0 0):=by kernel_rfl
theorem Y4:Tryz.tb.und 83=some (.slice 94):=by kernel_rfl
theorem Fl:Tryz.tb.inf 83=some (1,24,.slice none 0 0):=by kernel_rfl
theorem Y3 : Tryz.tb.und 85 = some (.struct #[⟨ "h", 27, 0, false, "", "grammarlab/trail", 0⟩, ⟨ "cells", 81, 2, false, "", "grammarlab/trail", 48⟩, ⟨ "trail", 82, 3, false, "", "grammarlab/trail", 72⟩, ⟨ "marks", 83, 4, false, "", "grammarlab/trail", 96⟩]) := by kernel_rfl
theorem Fk:Tryz.tb.inf 85=some (5,120,.agg #[.slice none 0 0,.slice none 0 0,.slice none 0 0,.slice none 0 0,.slice none 0 0]):=by kernel_rfl
theorem Y2 : Tryz.tb.und 94 = some (.struct #[⟨ "cells", 3, 0, false, "", "grammarlab/trail", 0⟩, ⟨ "changes", 3, 1, false, "", "grammarlab/trail", 8⟩]) := by kernel_rfl
theorem L8:Tryz.tb.inf 94=some (2,16,.agg #[.int .i64 0,.int .i64 0]):=by kernel_rfl
theorem Y1 : Tryz.tb.und 96 = some (.struct #[⟨ "forward", 3, 0, false, "", "grammarlab/trail", 0⟩, ⟨ "kind", 3, 1, false, "", "grammarlab/trail", 8⟩, ⟨ "arcs", 76, 2, false, "", "grammarlab/trail", 16⟩]) := by kernel_rfl
theorem L7:Tryz.tb.inf 96=some (3,40,.agg #[.int .i64 0,.int .i64 0,.slice none 0 0]):=by kernel_rfl
theorem Y0 : Tryz.tb.und 98 = some (.struct #[⟨ "Feat", 3, 0, false, "", "", 0⟩, ⟨ "To", 3, 1, false, "", "", 8⟩]) := by kernel_rfl
theorem L6:Tryz.tb.inf 98=some (2,16,.agg #[.int .i64 0,.int .i64 0]):=by kernel_rfl
theorem O6:Tryz.tb.und 100=some (.array 2 3):=by kernel_rfl
theorem CM:Tryz.tb.inf 100=some (2,16,.agg #[.int .i64 0,.int .i64 0]):=by kernel_rfl
theorem O5:Tryz.tb.und 101=some (.slice 100):=by kernel_rfl
theorem O4:Tryz.tb.und 102=some (.func #[3] #[3] false):=by kernel_rfl
theorem CL:Tryz.tb.inf 102=some (1,8,.nilFunc):=by kernel_rfl
theorem O3:Tryz.tb.und 114=some (.slice 76):=by kernel_rfl
theorem O2:Tryz.tb.und 118=some (.map 3 3):=by kernel_rfl
theorem CJ:Tryz.tb.inf 118=some (1,8,.map none):=by kernel_rfl
theorem O1:Tryz.tb.und 119=some (.slice 130):=by kernel_rfl
theorem O0:Tryz.tb.und 122=some (.slice 128):=by kernel_rfl
theorem NY:Tryz.tb.und 126=some (.slice 191):=by kernel_rfl
theorem CH:Tryz.tb.inf 126=some (1,24,.slice none 0 0):=by kernel_rfl
theorem NX : Tryz.tb.und 128 = some (.struct #[⟨ "Name", 9, 0, false, "", "", 0⟩, ⟨ "Code", 126, 1, false, "", "", 16⟩]) := by kernel_rfl
theorem CG:Tryz.tb.inf 128=some (2,40,.agg #[.string ⟨#[]⟩,.slice none 0 0]):=by kernel_rfl
theorem NW:Tryz.tb.und 130=some (.slice 176):=by kernel_rfl
theorem CF:Tryz.tb.inf 130=some (1,24,.slice none 0 0):=by kernel_rfl
theorem NV : Tryz.tb.und 132 = some (.struct #[⟨ "Name", 9, 0, false, "", "", 0⟩, ⟨ "Code", 126, 1, false, "", "", 16⟩, ⟨ "Supers", 34, 2, false, "", "", 40⟩, ⟨ "Feats", 130, 3, false, "", "", 64⟩]) := by kernel_rfl
theorem CE:Tryz.tb.inf 132=some (4,88,.agg #[.string ⟨#[]⟩,.slice none 0 0,.slice none 0 0,.slice none 0 0]):=by kernel_rfl
theorem NU:Tryz.tb.und 135=some (.slice 9):=by kernel_rfl
theorem RL:Tryz.tb.inf 135=some (1,24,.slice none 0 0):=by kernel_rfl
theorem NT:Tryz.tb.und 136=some (.slice 141):=by kernel_rfl
theorem RJ:Tryz.tb.inf 136=some (1,24,.slice none 0 0):=by kernel_rfl
theorem NS : Tryz.tb.und 138 = some (.struct #[⟨ "Name", 9, 0, false, "", "", 0⟩, ⟨ "Supers", 135, 1, false, "", "", 16⟩, ⟨ "Feats", 136, 2, false, "", "", 40⟩]) := by kernel_rfl
theorem CC:Tryz.tb.inf 138=some (3,64,.agg #[.string ⟨#[]⟩,.slice none 0 0,.slice none 0 0]):=by kernel_rfl
theorem NR : Tryz.tb.und 141 = some (.struct #[⟨ "Feat", 9, 0, false, "", "", 0⟩, ⟨ "Value", 9, 1, false, "", "", 16⟩]) := by kernel_rfl
theorem CB:Tryz.tb.inf 141=some (2,32,.agg #[.string ⟨#[]⟩,.string ⟨#[]⟩]):=by kernel_rfl
theorem NQ : Tryz.tb.und 148 = some (.struct #[⟨ "Cells", 3, 0, false, "", "", 0⟩, ⟨ "Class", 34, 1, false, "", "", 8⟩]) := by kernel_rfl
theorem CA:Tryz.tb.inf 148=some (2,32,.agg #[.int .i64 0,.slice none 0 0]):=by kernel_rfl
theorem NP : Tryz.tb.und 151 = some (.struct #[⟨ "at", 3, 0, false, "", "grammarlab/trail", 0⟩, ⟨ "old", 96, 1, false, "", "grammarlab/trail", 8⟩]) := by kernel_rfl
theorem C9:Tryz.tb.inf 151=some (4,48,.agg #[.int .i64 0,.int .i64 0,.int .i64 0,.slice none 0 0]):=by kernel_rfl
theorem NO : Tryz.tb.und 176 = some (.struct #[⟨ "Feat", 3, 0, false, "", "", 0⟩, ⟨ "Value", 3, 1, false, "", "", 8⟩]) := by kernel_rfl
theorem C8:Tryz.tb.inf 176=some (2,16,.agg #[.int .i64 0,.int .i64 0]):=by kernel_rfl
theorem NN:Tryz.tb.und 177=some (.slice 126):=by kernel_rfl
theorem NM : Tryz.tb.und 187 = some (.struct #[⟨ "Name", 9, 0, false, "", "", 0⟩, ⟨ "Intro", 3, 1, false, "", "", 16⟩]) := by kernel_rfl
theorem C7:Tryz.tb.inf 187=some (2,24,.agg #[.string ⟨#[]⟩,.int .i64 0]):=by kernel_rfl
theorem NK:Tryz.tb.und 191=some (.int .u64):=by kernel_rfl
theorem C6:Tryz.tb.inf 191=some (1,8,.int .u64 0):=by kernel_rfl
theorem NJ:Tryz.tb.und 193=some (.int .u64):=by kernel_rfl
theorem NI : Tryz.tb.und 214 = some (.struct #[⟨ "f", 40, 0, false, "", "grammarlab/grammarlabref07", 0⟩, ⟨ "number", 34, 1, false, "", "grammarlab/grammarlabref07", 24⟩, ⟨ "order", 34, 2, false, "", "grammarlab/grammarlabref07", 48⟩]) := by kernel_rfl
theorem RI:Tryz.tb.inf 214=some (3,72,.agg #[.slice none 0 0,.slice none 0 0,.slice none 0 0]):=by kernel_rfl
end Go.Proofs
namespace Go.Proofs
open Go Go.Rx Go.Vx
instance j9:eA Tryz.tb 3 (.int .i64):=⟨Uz⟩
instance J5:eA Tryz.tb 4 (.bool):=⟨Uy⟩
instance E9:eA Tryz.tb 9 (.string):=⟨Ux⟩
instance YP:eA Tryz.tb 22 (.slice 138):=⟨YL⟩
instance:eA Tryz.tb 23 (.slice 42):=⟨YK⟩
instance AW:eA Tryz.tb 24 (.slice 132):=⟨YJ⟩
instance:eA Tryz.tb 25 (.slice 187):=⟨YI⟩
instance mA : eA Tryz.tb 27 (.struct #[⟨ "Types", 24, 0, false, "", "", 0⟩, ⟨ "Feats", 25, 1, false, "", "", 24⟩]) := ⟨YH⟩
instance YO:eA Tryz.tb 31 (.pointer 85):=⟨YG⟩
instance gP:eA Tryz.tb 33 (.slice 78):=⟨YF⟩
instance eB:eA Tryz.tb 34 (.slice 3):=⟨YE⟩
instance qX:eA Tryz.tb 35 (.slice 148):=⟨YD⟩
instance i4 : eA Tryz.tb 37 (.struct #[⟨ "H", 27, 0, false, "", "", 0⟩, ⟨ "Cells", 33, 2, false, "", "", 48⟩, ⟨ "Class", 34, 3, false, "", "", 72⟩, ⟨ "Marks", 35, 4, false, "", "", 96⟩]) := ⟨YC⟩
instance hZ : eA Tryz.tb 40 (.struct #[⟨ "Nodes", 33, 0, false, "", "", 0⟩]) := ⟨YB⟩
instance : eA Tryz.tb 42 (.struct #[⟨ "Kind", 3, 0, false, "", "", 0⟩, ⟨ "A", 3, 1, false, "", "", 8⟩, ⟨ "B", 3, 2, false, "", "", 16⟩, ⟨ "F", 40, 3, false, "", "", 24⟩]) := ⟨YA⟩
instance:eA Tryz.tb 48 (.slice 40):=⟨Y9⟩
instance dF:eA Tryz.tb 76 (.slice 98):=⟨Y8⟩
instance qW : eA Tryz.tb 78 (.struct #[⟨ "Type", 3, 0, false, "", "", 0⟩, ⟨ "Arcs", 76, 1, false, "", "", 8⟩]) := ⟨Y7⟩
instance kC:eA Tryz.tb 81 (.slice 96):=⟨Y6⟩
instance nB:eA Tryz.tb 82 (.slice 151):=⟨Y5⟩
instance O7:eA Tryz.tb 83 (.slice 94):=⟨Y4⟩
instance uL : eA Tryz.tb 85 (.struct #[⟨ "h", 27, 0, false, "", "grammarlab/trail", 0⟩, ⟨ "cells", 81, 2, false, "", "grammarlab/trail", 48⟩, ⟨ "trail", 82, 3, false, "", "grammarlab/trail", 72⟩, ⟨ "marks", 83, 4, false, "", "grammarlab/trail", 96⟩]) := ⟨Y3⟩
instance YN : eA Tryz.tb 94 (.struct #[⟨ "cells", 3, 0, false, "", "grammarlab/trail", 0⟩, ⟨ "changes", 3, 1, false, "", "grammarlab/trail", 8⟩]) := ⟨Y2⟩
instance nA : eA Tryz.tb 96 (.struct #[⟨ "forward", 3, 0, false, "", "grammarlab/trail", 0⟩, ⟨ "kind", 3, 1, false, "", "grammarlab/trail", 8⟩, ⟨ "arcs", 76, 2, false, "", "grammarlab/trail", 16⟩]) := ⟨Y1⟩
instance sN : eA Tryz.tb 98 (.struct #[⟨ "Feat", 3, 0, false, "", "", 0⟩, ⟨ "To", 3, 1, false, "", "", 8⟩]) := ⟨Y0⟩
instance mM:eA Tryz.tb 100 (.array 2 3):=⟨O6⟩
instance oE:eA Tryz.tb 101 (.slice 100):=⟨O5⟩
instance:eA Tryz.tb 102 (.func #[3] #[3] false):=⟨O4⟩
instance oD:eA Tryz.tb 114 (.slice 76):=⟨O3⟩
instance J8:eA Tryz.tb 118 (.map 3 3):=⟨O2⟩
instance:eA Tryz.tb 119 (.slice 130):=⟨O1⟩
instance oC:eA Tryz.tb 122 (.slice 128):=⟨O0⟩
instance eZ:eA Tryz.tb 126 (.slice 191):=⟨NY⟩
instance J7 : eA Tryz.tb 128 (.struct #[⟨ "Name", 9, 0, false, "", "", 0⟩, ⟨ "Code", 126, 1, false, "", "", 16⟩]) := ⟨NX⟩
instance:eA Tryz.tb 130 (.slice 176):=⟨NW⟩
instance B0 : eA Tryz.tb 132 (.struct #[⟨ "Name", 9, 0, false, "", "", 0⟩, ⟨ "Code", 126, 1, false, "", "", 16⟩, ⟨ "Supers", 34, 2, false, "", "", 40⟩, ⟨ "Feats", 130, 3, false, "", "", 64⟩]) := ⟨NV⟩
instance iF:eA Tryz.tb 135 (.slice 9):=⟨NU⟩
instance AZ:eA Tryz.tb 136 (.slice 141):=⟨NT⟩
instance sO : eA Tryz.tb 138 (.struct #[⟨ "Name", 9, 0, false, "", "", 0⟩, ⟨ "Supers", 135, 1, false, "", "", 16⟩, ⟨ "Feats", 136, 2, false, "", "", 40⟩]) := ⟨NS⟩
instance YT : eA Tryz.tb 141 (.struct #[⟨ "Feat", 9, 0, false, "", "", 0⟩, ⟨ "Value", 9, 1, false, "", "", 16⟩]) := ⟨NR⟩
instance AY : eA Tryz.tb 148 (.struct #[⟨ "Cells", 3, 0, false, "", "", 0⟩, ⟨ "Class", 34, 1, false, "", "", 8⟩]) := ⟨NQ⟩
instance AX : eA Tryz.tb 151 (.struct #[⟨ "at", 3, 0, false, "", "grammarlab/trail", 0⟩, ⟨ "old", 96, 1, false, "", "grammarlab/trail", 8⟩]) := ⟨NP⟩
instance YS : eA Tryz.tb 176 (.struct #[⟨ "Feat", 3, 0, false, "", "", 0⟩, ⟨ "Value", 3, 1, false, "", "", 8⟩]) := ⟨NO⟩
instance oB:eA Tryz.tb 177 (.slice 126):=⟨NN⟩
instance YR : eA Tryz.tb 187 (.struct #[⟨ "Name", 9, 0, false, "", "", 0⟩, ⟨ "Intro", 3, 1, false, "", "", 16⟩]) := ⟨NM⟩
instance YQ:eA Tryz.tb 191 (.int .u64):=⟨NK⟩
instance vI:eA Tryz.tb 193 (.int .u64):=⟨NJ⟩
instance J6 : eA Tryz.tb 214 (.struct #[⟨ "f", 40, 0, false, "", "grammarlab/grammarlabref07", 0⟩, ⟨ "number", 34, 1, false, "", "grammarlab/grammarlabref07", 24⟩, ⟨ "order", 34, 2, false, "", "grammarlab/grammarlabref07", 48⟩]) := ⟨NI⟩
instance fL:hO Tryz.tb 3 1 8 (.int .i64 0):=⟨Fv⟩
instance:mL Tryz.tb 3 [.int .i64 0]:=⟨_,_,_,Fv,rfl,rfl⟩
instance:hO Tryz.tb 4 1 1 (.bool false):=⟨Fq⟩
instance:mL Tryz.tb 4 [.bool false]:=⟨_,_,_,Fq,rfl,rfl⟩
instance CN:hO Tryz.tb 9 1 16 (.string ⟨#[]⟩):=⟨Fj⟩
instance:mL Tryz.tb 9 [.str []]:=⟨_,_,_,Fj,rfl,rfl⟩
instance RM:hO Tryz.tb 24 1 24 (.slice none 0 0):=⟨Fx⟩
instance:hO Tryz.tb 25 1 24 (.slice none 0 0):=⟨Fw⟩
instance pW:hO Tryz.tb 27 2 48 (.agg #[.slice none 0 0,.slice none 0 0]):=⟨LD⟩
instance:mL Tryz.tb 27 [.nils,.nils]:=⟨_,_,_,LD,rfl,rfl⟩
instance xU:hO Tryz.tb 33 1 24 (.slice none 0 0):=⟨Fu⟩
instance qt:hO Tryz.tb 34 1 24 (.slice none 0 0):=⟨Ft⟩
instance qr:hO Tryz.tb 35 1 24 (.slice none 0 0):=⟨Fs⟩
instance gW:hO Tryz.tb 37 5 120 (.agg #[.slice none 0 0,.slice none 0 0,.slice none 0 0,.slice none 0 0,.slice none 0 0]):=⟨LC⟩
instance:mL Tryz.tb 37 [.nils,.nils,.nils,.nils,.nils]:=⟨_,_,_,LC,rfl,rfl⟩
instance lK:hO Tryz.tb 40 1 24 (.agg #[.slice none 0 0]):=⟨LB⟩
instance:mL Tryz.tb 40 [.nils]:=⟨_,_,_,LB,rfl,rfl⟩
instance:hO Tryz.tb 42 4 48 (.agg #[.int .i64 0,.int .i64 0,.int .i64 0,.slice none 0 0]):=⟨LA⟩
instance:mL Tryz.tb 42 [.int .i64 0,.int .i64 0,.int .i64 0,.nils]:=⟨_,_,_,LA,rfl,rfl⟩
instance i7:hO Tryz.tb 76 1 24 (.slice none 0 0):=⟨Fp⟩
instance jP:hO Tryz.tb 78 2 32 (.agg #[.int .i64 0,.slice none 0 0]):=⟨L9⟩
instance:mL Tryz.tb 78 [.int .i64 0,.nils]:=⟨_,_,_,L9,rfl,rfl⟩
instance qp:hO Tryz.tb 81 1 24 (.slice none 0 0):=⟨Fo⟩
instance I4:hO Tryz.tb 82 1 24 (.slice none 0 0):=⟨Fm⟩
instance qo:hO Tryz.tb 83 1 24 (.slice none 0 0):=⟨Fl⟩
instance qn:hO Tryz.tb 85 5 120 (.agg #[.slice none 0 0,.slice none 0 0,.slice none 0 0,.slice none 0 0,.slice none 0 0]):=⟨Fk⟩
instance I3:hO Tryz.tb 94 2 16 (.agg #[.int .i64 0,.int .i64 0]):=⟨L8⟩
instance:mL Tryz.tb 94 [.int .i64 0,.int .i64 0]:=⟨_,_,_,L8,rfl,rfl⟩
instance gU:hO Tryz.tb 96 3 40 (.agg #[.int .i64 0,.int .i64 0,.slice none 0 0]):=⟨L7⟩
instance:mL Tryz.tb 96 [.int .i64 0,.int .i64 0,.nils]:=⟨_,_,_,L7,rfl,rfl⟩
instance iE:hO Tryz.tb 98 2 16 (.agg #[.int .i64 0,.int .i64 0]):=⟨L6⟩
instance:mL Tryz.tb 98 [.int .i64 0,.int .i64 0]:=⟨_,_,_,L6,rfl,rfl⟩
instance mW:hO Tryz.tb 100 2 16 (.agg #[.int .i64 0,.int .i64 0]):=⟨CM⟩
instance:mL Tryz.tb 100 [.int .i64 0,.int .i64 0]:=⟨_,_,_,CM,rfl,rfl⟩
instance:hO Tryz.tb 102 1 8 (.nilFunc):=⟨CL⟩
instance:mL Tryz.tb 102 [.nilf]:=⟨_,_,_,CL,rfl,rfl⟩
instance:hO Tryz.tb 118 1 8 (.map none):=⟨CJ⟩
instance:mL Tryz.tb 118 [.nilm]:=⟨_,_,_,CJ,rfl,rfl⟩
instance mV:hO Tryz.tb 126 1 24 (.slice none 0 0):=⟨CH⟩
instance:mL Tryz.tb 126 [.nils]:=⟨_,_,_,CH,rfl,rfl⟩
instance oO:hO Tryz.tb 128 2 40 (.agg #[.string ⟨#[]⟩,.slice none 0 0]):=⟨CG⟩
instance:mL Tryz.tb 128 [.str [],.nils]:=⟨_,_,_,CG,rfl,rfl⟩
instance:hO Tryz.tb 130 1 24 (.slice none 0 0):=⟨CF⟩
instance:mL Tryz.tb 130 [.nils]:=⟨_,_,_,CF,rfl,rfl⟩
instance CO:hO Tryz.tb 132 4 88 (.agg #[.string ⟨#[]⟩,.slice none 0 0,.slice none 0 0,.slice none 0 0]):=⟨CE⟩
instance:mL Tryz.tb 132 [.str [],.nils,.nils,.nils]:=⟨_,_,_,CE,rfl,rfl⟩
instance:hO Tryz.tb 135 1 24 (.slice none 0 0):=⟨RL⟩
instance LF:hO Tryz.tb 136 1 24 (.slice none 0 0):=⟨RJ⟩
instance tG:hO Tryz.tb 138 3 64 (.agg #[.string ⟨#[]⟩,.slice none 0 0,.slice none 0 0]):=⟨CC⟩
instance:mL Tryz.tb 138 [.str [],.nils,.nils]:=⟨_,_,_,CC,rfl,rfl⟩
instance LE:hO Tryz.tb 141 2 32 (.agg #[.string ⟨#[]⟩,.string ⟨#[]⟩]):=⟨CB⟩
instance:mL Tryz.tb 141 [.str [],.str []]:=⟨_,_,_,CB,rfl,rfl⟩
instance lL:hO Tryz.tb 148 2 32 (.agg #[.int .i64 0,.slice none 0 0]):=⟨CA⟩
instance:mL Tryz.tb 148 [.int .i64 0,.nils]:=⟨_,_,_,CA,rfl,rfl⟩
instance mU:hO Tryz.tb 151 4 48 (.agg #[.int .i64 0,.int .i64 0,.int .i64 0,.slice none 0 0]):=⟨C9⟩
instance:mL Tryz.tb 151 [.int .i64 0,.int .i64 0,.int .i64 0,.nils]:=⟨_,_,_,C9,rfl,rfl⟩
instance Gd:hO Tryz.tb 176 2 16 (.agg #[.int .i64 0,.int .i64 0]):=⟨C8⟩
instance:mL Tryz.tb 176 [.int .i64 0,.int .i64 0]:=⟨_,_,_,C8,rfl,rfl⟩
instance Gc:hO Tryz.tb 187 2 24 (.agg #[.string ⟨#[]⟩,.int .i64 0]):=⟨C7⟩
instance:mL Tryz.tb 187 [.str [],.int .i64 0]:=⟨_,_,_,C7,rfl,rfl⟩
instance j7:hO Tryz.tb 191 1 8 (.int .u64 0):=⟨C6⟩
instance:mL Tryz.tb 191 [.int .u64 0]:=⟨_,_,_,C6,rfl,rfl⟩
instance Gb:hO Tryz.tb 214 3 72 (.agg #[.slice none 0 0,.slice none 0 0,.slice none 0 0]):=⟨RI⟩
end Go.Proofs
namespace Go.Vx
open Go Go.Rx
variable{q:List U}
variable{p:List U}
variable{a:Nat}
theorem ph{n:Nat}(h:iO q a n=some p):a+n<=q.length/\(q.drop a).take n=p:=by
 unfold iO at h;split at h;rename_i hj;exact⟨hj,Option.some.inj h⟩;cases h
variable{sz:Nat}
variable{fo:Nat}
theorem QU{u:U}(h:iO q a sz=some p)(h2:nth p fo=some u):nth q (a+fo)=some u:=by
 obtain⟨h1,rfl⟩:=ph h;rw[gG]at h2 ⊢;have hl:=(zG.1 h2).1;rw[List.length_take]at hl;rw[List.getElem?_take_of_lt (by omega),List.getElem?_drop]at h2;exact h2
theorem QJ{p' cs:List U}(h:iO q a sz=some p)(h2:mQ p fo cs=some p'):mQ q (a+fo) cs=mQ q a p':=by
 obtain⟨h1,rfl⟩:=ph h;unfold mQ at h2;split at h2
 ·rename_i hj;have hp:=Option.some.inj h2;rw[List.length_take,List.length_drop]at hj;have hl:p'.length=sz:=by rw[<-hp];simp;omega
  unfold mQ;rw[if_pos (by omega),if_pos (by omega),<-hp];congr 1;have e1:List.take fo (List.take sz (List.drop a q))=List.take fo (List.drop a q):=by rw[List.take_take,Nat.min_eq_left (by omega)]
  have e2:List.take (a+fo) q=List.take a q++List.take fo (List.drop a q):=List.take_add;have e3:List.drop (a+fo+cs.length) q=List.drop (fo+cs.length) (List.take sz (List.drop a q))++List.drop (a+sz) q:=by
   have:List.drop a q=List.take sz (List.drop a q)++List.drop (a+sz) q:=by rw[<-List.drop_drop,List.take_append_drop]
   rw[Nat.add_assoc,<-List.drop_drop]
   conv=>lhs;rw[this]
   rw[List.drop_append_of_le_length (by rw[List.length_take,List.length_drop];omega)]
  rw[e1,e2,e3];simp[zT,hl];omega
 cases h2
section
variable{T:Tb}{σ σ':Sg}{n:Nat}{l:List (Nat×U)}{u v w:U}
theorem rE{α:Type}(c:α->List U){t e':TypeId}{d:TypeDesc}{K st off m:Nat}{xs:List α}{i:Int}{x:α}{o:Operand}(hd:T.und t=some d)(ha:nZ d=false)(hc:∀x,(c x).length=sz)(ho:bO n l o=some (.ptr K st (off*sz+i.toNat*sz+fo)))(hv:gt σ.h K=some (.vec (xs.map c).flatten e' sz st))(hx:jR xs off m i=some x)(hu:nth (c x) fo=some u):bB T σ (fr n l) (.load t o)=some (u,σ):=by
 refine FS rfl ?_;have hb:Nat.beq st st=true:=by simp[beq_eq]
 have hg:=Wc hc (PF hx).2.2;rw[Nat.add_mul]at hg;simp only[kI,dY ho,cellsOf,hv,hb,zC,yX,hd,ha,zD,QU hg hu]
theorem Tt{α:Type}(c:α->List U){t e':TypeId}{s K st off m:Nat}{xs:List α}{i:Int}{x y:α}{o z:Operand}{cs:List U}{h':List (Nat×B)}(hs:bZ T t=some s)(hc:∀x,(c x).length=sz)(ho:bO n l o=some (.ptr K st (off*sz+i.toNat*sz+fo)))(hz:bO n l z=some v)(hcs:sC v=some cs)(hk:okL cs=true)(hl:Nat.beq cs.length s=true)(hv:gt σ.h K=some (.vec (xs.map c).flatten e' sz st))(hx:jR xs off m i=some x)(hy:mQ (c x) fo (nU cs)=some (c y))(hσ:ug σ.h K (.vec ((xs.set (off+i.toNat) y).map c).flatten e' sz st)=h'):bB T σ (fr n l) (.store t o z)=some (.junk,⟨h',σ.nx⟩):=by
 subst hσ;have hb:Nat.beq st st=true:=by simp
 have hj:=(zG.1 (PF hx).2.2).1;have hg:=Wc hc (PF hx).2.2;have hp:=QJ hg hy;rw[Xc hc hj y,Nat.add_mul]at hp;exact AL rfl rfl (by simp only[kL,dY ho,dY hz,OQ,hs,hcs,hl,hk,zC,cellsOf,hv,hb,yT,hp,ED])
end
theorem pG{σ:Sg}{k t e:Nat}{l:List U}(h:gt σ.h k=some (.vec l e sz t)):bH σ k t=true:=by
 simp only[bH,h,B.st,beq_eq,yC]
theorem LU{A V:Type}(K:Nat)(b:B)(sz:Nat)(kU:A->U)(vU:V->U)[p:XK vU](es:List (A×V×Nat)):
  (es.map (mE kU vU)).map (fun e=>{ e with val:=fz K b sz e.val })=es.map (mE kU vU):=by
 rw[List.map_map];refine List.map_congr_left fun e _=>?_;simp only[Function.comp,mE,Lm b sz _ (p.h K e.2.1)]
def Ju(σ τ:Sg):Prop:=∀k b,gt σ.h k=some b->gt τ.h k=some b
section
variable{σ τ:Sg}(hs:Ju σ τ)
include hs
variable{k:Nat}
theorem Ay{st:Nat}(h:bH σ k st=true):bH τ k st=true:=by
 unfold bH at*;rcases hg:gt σ.h k with _|b;rw[hg]at h;cases h;rw[hg]at h;rw[hs k b hg];exact h
theorem K5{α:Type}{st:Nat}{X:Option α}{u:α}(h:cond (bH σ k st) X none=some u):cond (bH τ k st) X none=some u:=by
 rcases hl:bH σ k st with _|_;rw[hl]at h;cases h;rw[hl]at h;rw[Ay hs hl];exact h
theorem qtp{st:Nat}{l:List U}(h:cellsOf σ k st=some l):cellsOf τ k st=some l:=by
 unfold cellsOf at*;rcases hg:gt σ.h k with _|b;rw[hg]at h;cases h;rw[hg]at h;rw[hs k b hg];exact h
theorem J'{st:Nat}{l:List U×TypeId×Nat}(h:rD σ k st=some l):rD τ k st=some l:=by
 unfold rD at*;rcases hg:gt σ.h k with _|b;rw[hg]at h;cases h;rw[hg]at h;rw[hs k b hg];exact h
variable{T:Tb}{tm:List U}
variable{op:Op}
variable{u:U}
theorem qzx(h:kI T σ tm op=some u):kI T τ tm op=some u:=by
 cases op with
 |load t x=>
  simp only[kI]at*;rcases hx:bP tm x with _|a;rw[hx]at h;exact h;rw[hx]at h;cases a with
  |ptr k st off=>simp only[]at*;rcases hc:cellsOf σ k st with _|l;rw[hc]at h;cases h;rw[hc]at h;rw[qtp hs hc];exact h
  |_=>exact h
 |lookup t x k ok=>
  simp only[kI]at*;rcases hd:T.und t with _|d;rw[hd]at h;cases h;rw[hd]at h;cases d with
  |map kt et=>
   rcases hx:bP tm x with _|a;rw[hx]at h;exact h;rw[hx]at h;rcases hk:bP tm k with _|ku;rw[hk]at h;cases h;rw[hk]at h;cases a with
   |map r=>
    simp only[]at*;cases hg:gt σ.h r with
    |none=>rw[hg]at h;rcases hv:toV ku with _|kv;rw[hv]at h;exact h;rw[hv]at h;simp only[]at h;cases hkx:lS T 50 kt kv<;>rw[hkx]at h<;>cases h
    |some b=>rw[hg]at h;rw[hs r b hg];exact h
   |_=>exact h
  |_=>exact h
 |_=>exact h
theorem O'{n:Nat}(hn:n≠0)(h:dG σ u=n):dG τ u=n:=by
 unfold dG at*;cases u with
 |ptr k st off=>simp only[]at*;rcases hl:bH σ k st with _|_;rw[hl]at h;exact absurd h.symm hn;rw[hl]at h;rw[Ay hs hl];exact h
 |sl k a b c=>simp only[]at*;rcases hl:bH σ k 0 with _|_;rw[hl]at h;exact absurd h.symm hn;rw[hl]at h;rw[Ay hs hl];exact h
 |map k=>simp only[]at*;rcases hl:bH σ k 0 with _|_;rw[hl]at h;exact absurd h.symm hn;rw[hl]at h;rw[Ay hs hl];exact h
 |vl k st off m=>cases m with|zero=>exact h|succ m=>simp only[]at*;rcases hl:bH σ k st with _|_;rw[hl]at h;exact absurd h.symm hn;rw[hl]at h;rw[Ay hs hl];exact h
 |isl t l=>cases l<;>exact h|_=>exact h
variable{t:TypeId}
variable{x:U}
theorem qwb{op:BinOp}{y:U}(h:GH T σ op t x y=some u):GH T τ op t x y=some u:=by
 unfold GH at*;by_cases hk:pB T t=0;simp only[beq_eq,hk,yC,zC]at h;cases h;simp only[beq_eq,hk,yB,zD]at h ⊢;by_cases hx:dG σ x=pB T t;have:=O' hs hk hx;simpa[hx,this]using h;by_cases hy:dG σ y=pB T t;have hy':=O' hs hk hy;by_cases hn:xF x=pB T t;have hxx:N5 op=some u:=by simpa[hx,hy,hn]using h
 have hz:dG τ x=0:=by cases x<;>simp[xF]at hn<;>first |rfl |exact absurd hn.symm hk
 have hz':¬ dG τ x=pB T t:=by rw[hz];exact fun h=>hk h.symm
 simpa[hz',hy',hn]using hxx;simp[hx,hn]at h;by_cases hn:xF x=pB T t;simp[hx,hn,hy]at h;simp[hx,hn]at h
theorem z0y{op:BinOp}{y:U}(h:IU T σ op t x y=some u):IU T τ op t x y=some u:=by
 unfold IU at*;rcases hg:g2 (mT T op t) x y with _|r;rw[hg]at h;exact qwb hs h;rw[hg]at h;exact h
theorem qrh{f:Nat}(h:JZ T σ t x f=some u):JZ T τ t x f=some u:=by
 unfold JZ at*;split at h;split at h;split at h;split at h;exact K5 hs h;exact h;cases h;cases h;cases h;cases h
theorem qrt{i:U}(h:uR T σ t x i=some u):uR T τ t x i=some u:=by
 unfold uR at*;split at h;split at h;split at h;split at h;exact K5 hs h;split at h;rename_i hv;rw[J' hs hv];exact h;cases h;exact h;cases h;cases h;split at h;split at h;exact K5 hs h;exact h;cases h;cases h;cases h;cases h
theorem z2z(h:lenU T σ t x=some u):lenU T τ t x=some u:=by
 unfold lenU at*;split at h;split at h;exact h;exact K5 hs h;exact K5 hs h;exact h;cases h;exact h;exact h;split at h;exact h;split at h;rename_i hv;rw[hs _ _ hv];exact h;cases h;cases h;cases h
theorem z1h(h:y8 T σ t x=some u):y8 T τ t x=some u:=by
 unfold y8 at*;split at h;split at h;exact h;exact K5 hs h;cases h;cases h
theorem qwr{a b c:Option Value}(h:BL T σ t x a b c=some u):BL T τ t x a b c=some u:=by
 unfold BL at*;split at h;exact h;split at h;split at h;exact h;exact K5 hs h;split at h;rename_i hv;rw[J' hs hv];exact h;cases h;exact h;cases h;cases h;cases h
theorem qzw(h:eU T σ tm op=some u):eU T τ tm op=some u:=by
 cases op with
 |nilCheck x=>simp only[eU]at*;split at h;exact K5 hs h;exact h;exact h;cases h|binOp o t x y ty=>simp only[eU]at*;split at h;exact z0y hs h;cases h
 |slice t x lo hi mx=>simp only[eU]at*;split at h;exact qwr hs h;cases h|fieldAddr t x f=>simp only[eU]at*;split at h;exact qrh hs h;cases h
 |indexAddr t x i=>simp only[eU]at*;split at h;exact qrt hs h;cases h|call c=>simp only[eU]at*;split at h;split at h;exact z2z hs h;cases h;split at h;exact z1h hs h;cases h;exact h;exact h;cases h
 |_=>exact h
def OM:Op->Bool
 |.alloc _ |.box _ _ |.store _ _ _ |.buildSlice _ _ _ |.makeSlice _ _ _ |.makeMap _ _ |.mapUpdate _ _ _ _ |.insert _ _ _ _ |.mapEntry _ _ _ |.entryStore _ _ _ _=>false|.call c=>(match c.callee with
  |.builtin .append=>false|.builtin .copy=>false
  |.builtin .delete=>false|.builtin .clear=>false
  |_=>true)
 |_=>true
omit hs in
theorem z1p{op:Op}(h:OM op=true):kL T σ tm op=none:=by
 cases op<;>simp only[OM]at h<;>first |rfl |(cases h)|skip
 case call c=>simp only[kL];split<;>simp_all
theorem z37(hn:OM op=true)(h:bB T σ tm op=some (u,σ)):bB T τ tm op=some (u,τ):=by
 unfold bB at*;cases hp:eU T σ tm op with
 |some v=>rw[hp]at h;simp only[zA,zB,and_true]at h;subst h;rw[qzw hs hp]|none=>
  rw[hp]at h;rcases hr:kI T σ tm op with _|v;rw[hr]at h;simp only[z1p hn]at h;cases h;rw[hr]at h;simp only[zA,zB,and_true]at h;subst h;have hpt:eU T τ tm op=none:=by cases op<;>first |rfl |(simp[kI]at hr)
  rw[hpt,qzx hs hr]
end
theorem kH.le{n k:Nat}(h:n<=k):(b:B)->kH n b->kH k b
 |.row l _,hb=>aG.le h l hb|.vec l _ _ _,hb=>aG.le h l hb
 |.map es _,hb=>fun e he=>⟨aU.le h _ (hb e he).1,aU.le h _ (hb e he).2⟩
def nN:Option Nat->Nat->U
 |none,k=>.ptr k 0 0|some n,k=>.sl k 0 n n
variable{F:Nat->iZ->Prop}
theorem mj{y:Cx}{σ:Sg}{nx0 k:Nat}{l:List U}{e:TypeId}(hy:y.σ=cY σ (.row l e))(hh:iC y)(hf:Fr F y)(Gm:nx0<=k)(w6:k<σ.nx)(hgk:gt σ.h k=none)
  (hlt:∀j b,gt σ.h j=some b->j<σ.nx) (hl:aG 0 l) (hrows:∀j b,gt σ.h j=some b->kH nx0 b):
  ∃y':Cx,y'.σ=⟨(k,.row l e)::σ.h,σ.nx⟩/\y'.s=y.s/\iC y'/\Fr F y'/\Ke nx0 y y'/\(∀o v,aA y (nN o σ.nx) v->aA y' (nN o k) v)/\(∀o j v,j≠k->j<σ.nx->aA y (nN o j) v->aA y' (nN o j) v):=by
 have gy:∀j,gt y.σ.h j=if σ.nx=j then some (.row l e)else gt σ.h j:=fun j=>by rw[hy];simp only[cY,d8]
 have gy':∀j,gt ((k,B.row l e)::σ.h) j=if k=j then some (.row l e)else gt σ.h j:=fun j=>by rw[d8]
 have old:∀j b,gt σ.h j=some b->gt y.σ.h j=some b:=fun j b hb=>by have:=hlt j b hb;rw[gy,if_neg (by omega)];exact hb
 have hnk:∀j b,gt σ.h j=some b->j≠k:=fun j b hb h=>by subst h;rw[hgk]at hb;cases hb
 have hmo:Mo nx0 y ⟨fun j=>if j=k then y.ρ σ.nx else y.ρ j,⟨(k,.row l e)::σ.h,σ.nx⟩,y.s⟩:=by refine⟨fun j h1 h2=>⟨by simp only;omega,fun b' hb'=>?_⟩,fun _ _ _ h=>h⟩;simp only[gy']at hb';rw[if_neg (by omega)]at hb';exact⟨b',old j b' hb',zF _,fun _=>⟨by simp only;rw[if_neg (by omega)],fun l e sz st h=>⟨l,h⟩⟩⟩
 refine⟨⟨fun j=>if j=k then y.ρ σ.nx else y.ρ j,⟨(k,.row l e)::σ.h,σ.nx⟩,y.s⟩,rfl,rfl,⟨fun j b hb=>?_,fun j j' b b' i hb hb' h1 h2=>?_,hh.bd⟩,fun i b J=>?_,hmo.ke,fun o v hv=>?_,fun o j v hj hjl hv=>?_⟩;simp only[gy']at hb;by_cases hjk:k=j;subst hjk;rw[if_pos rfl]at hb;cases hb;refine⟨w6,?_⟩;obtain⟨_,h2⟩:=hh.ok σ.nx (.row l e) (by rw[gy,if_pos rfl]);obtain⟨q1,i,l',q2,q3,q4⟩:=h2;exact⟨q1,i,l',by simp[q2],q3,hmo.ke.E (aG.le (Nat.zero_le _) l hl) q4⟩;rw[if_neg hjk]at hb;refine⟨hlt j b hb,?_⟩;exact(hh.ok j b (old j b hb)).2.monoB (hrows j b hb) hmo (by simp only;rw[if_neg (fun h=>hjk h.symm)]) fun _ _ _ h=>h;have key:∀j b,gt ((k,B.row l e)::σ.h) j=some b->∀i,(if j=k then y.ρ σ.nx else y.ρ j)=some i->∃j0 b0,gt y.σ.h j0=some b0/\y.ρ j0=some i/\(j=k/\j0=σ.nx\/j≠k/\j0=j/\j<σ.nx):=fun j b hb i hi=>by rw[gy']at hb;by_cases hjk:j=k;rw[if_pos hjk]at hi;exact⟨σ.nx,.row l e,by rw[gy,if_pos rfl],hi,.inl ⟨hjk,rfl⟩⟩;rw[if_neg (fun h=>hjk h.symm)]at hb;rw[if_neg hjk]at hi;exact⟨j,b,old j b hb,hi,.inr ⟨hjk,rfl,hlt j b hb⟩⟩
 obtain⟨a,ba,g1,g2,g3⟩:=key j b hb i h1;obtain⟨c,bc,g4,g5,g6⟩:=key j' b' hb' i h2;have:=hh.inj a c ba bc i g1 g4 g2 g5;omega;obtain⟨h1,h2⟩:=hf i b J;refine⟨h1,fun j c hc=>?_⟩;simp only[gy']at hc;by_cases hjk:j=k;simp only[hjk,if_true];exact h2 σ.nx (.row l e) (by rw[gy,if_pos rfl]);rw[if_neg (fun h=>hjk h.symm)]at hc;simp only[hjk,if_false];exact h2 j c (old j c hc);cases o<;>(
  simp only[nN,aA,Ref]at hv ⊢;refine⟨hv.1,w6,fun b hb=>?_⟩;simp only[gy',if_true]at hb;have:=hv.2.2 b (by rw[gy,if_pos rfl];exact hb);simpa using this)
 cases o<;>(
  simp only[nN,aA,Ref]at hv ⊢;refine⟨hv.1,hjl,fun b hb=>?_⟩;simp only[gy',if_neg (fun h:k=j=>hj h.symm)]at hb;have:=hv.2.2 b (old j b hb);simpa[hj]using this)
structure Al where
 i:Nat
 k:Nat
 o:Option Nat
 l:List U
 e:TypeId
def vC(P:Program)(T:Tb)(tm:List U)(op:Op)(al:Al):Prop :=
 (∀s,bB T s tm op=some (nN al.o s.nx,cY s (.row al.l al.e)))\/∃f args,i9 T tm op=some (f,args)/\∀s,aY P f args s (fun u s'=>u=nN al.o s.nx/\s'=cY s (.row al.l al.e))
variable{P:Program}
variable{T:Tb}
variable{tm:List U}
variable{op:Op}
variable{al:Al}
theorem vC.congr{tm':List U}(h:vC P T tm op al)(hc:∀x∈op.operands.toList,bP tm' x=bP tm x):vC P T tm' op al:=by
 rcases h with h |⟨f,args,h1,h2⟩;exact .inl fun s=>by rw[PJ hc];exact h s
 exact .inr ⟨f,args,by rw[Oh hc];exact h1,h2⟩
theorem vC.nd(h:vC P T tm op al):∀c,op≠.defer c:=by
 rcases h with h |⟨f,args,h1,_⟩;exact GF (h ⟨[],0⟩);exact An h1
theorem vC.ne{σ:Sg}{u:U}(h:vC P T tm op al)(h':bB T σ tm op=some (u,σ)):False:=by
 rcases h with h |⟨f,args,h1,_⟩;have:=h σ;rw[h']at this;simp only[zA,zB]at this;have:=congrArg Sg.nx this.2;simp only[cY]at this;omega;rw[E' h1]at h';cases h'
theorem St.mkA(hT:iW P T){x:Cx}{tv:List Value}{m:Nm}{w:World}{a:Act}(st:St F x tm tv m w a)(o:Oper)(h:vC P T tm o.op al){next:Act->World->Prop}{Q:Exit->Act->World->Prop}
  (hn:∀y tv' aC w₁ aV,y.σ=cY x.σ (.row al.l al.e)->St F y (d5 tm o.dst (nN al.o x.σ.nx)) tv' aC w₁ aV->bD m x.s w aC y.s w₁->Ke x.σ.nx x y->x.σ.nx<=y.σ.nx->aV.defers=a.defers->next aV w₁):o.wp P a w next Q:=by
 rcases h with h |⟨f,args,h1,h2⟩;exact st.op hT o (h x.σ) hn;exact st.call hT o h1 (h2 x.σ) fun y u tv' aC w₁ aV ⟨e1,e2⟩=>by subst e1;exact hn y tv' aC w₁ aV e2
structure Loc(T:Tb)(ops:List Oper)(als:List Al)(i:Nat)(r:cT)(K:Nat)(q q':List U)(e:TypeId):Prop where
 name:∃al∈als,al.k=K
 row:gt r.s.h K=some (.row q e)
 out:r.s'=⟨ug r.s.h K (.row q' e),r.s.nx⟩
 dst:r.o.dst=none
 run:∀ τ:Sg,gt τ.h K=some (.row q e)->bB T τ r.tm r.o.op=some (r.u,⟨ug τ.h K (.row q' e),τ.nx⟩)
 pre:∀al∈als,Pre ops i al.i\/(al.k≠K/\aG al.k q')
 want:bW ops r.tm r.o=some true
structure ChA(P:Program)(T:Tb)(ops:List Oper)(tm₀:List U)(σb σ1:Sg)(rs:List cT)(als:List Al):Prop where
 some:als≠[]
 names:∀al∈als,σb.nx<=al.k/\al.k<σ1.nx
 nodup:∀a∈als,∀b∈als,a.k=b.k->a.i=b.i
 le:σb.nx<=σ1.nx
 at_:∀al∈als,∃r d,rs[al.i]? = .some r/\r.u=nN al.o al.k/\r.act=false/\r.mv=true/\vC P T r.tm r.o.op al/\r.o.guard=none/\r.o.dst=.some d
 row:∀al∈als,aG 0 al.l
 all:∀(i:Nat)(r:cT),rs[i]? = .some r->r.act=false->r.mv=true->∃al∈als,al.i=i
 own:∀al∈als,gt σ1.h al.k=.some (.row al.l al.e)
 oth:∀j,(∀al∈als,al.k≠j)->gt σ1.h j=gt σb.h j
 acts:∀(i:Nat)(r:cT),rs[i]? = .some r->r.act=true->(∀al∈als,Pre ops i al.i)\/∃K q q' e,Loc T ops als i r K q q' e
 early:∀(i:Nat)(r:cT),rs[i]? = .some r->r.act=false->r.mv=false->(∀al∈als,Pre ops i al.i)\/(aU σb.nx r.u/\(bW ops r.tm r.o=.some true->bB T r.s r.tm r.o.op=.some (r.u,r.s')->OM r.o.op=true/\bB T ⟨σb.h,σ1.nx⟩ r.tm r.o.op=.some (r.u,⟨σb.h,σ1.nx⟩)))
section
variable{P:Program}{T:Tb}(hT:iW P T)(ops:Array Oper){tm₀:List U}{σb σ1:Sg}{rs:List cT}{tm':List U}{σ':Sg}{als:List Al}
 (htr:XI P T ops.toList tm₀ σ1 rs tm' σ') (hst:ES ops.toList=true) (hch:Jz T ops.toList rs) (hal:ChA P T ops.toList tm₀ σb σ1 rs als)
include htr hal
theorem SL(hbr:∀j b,gt σb.h j=some b->j<σb.nx/\kH σb.nx b)(hm:al∈als):∀p,p<=rs.length->(∀(e:Nat)(q:cT),rs[e]? = some q->q.act=true->e<p->¬ Pre ops.toList e al.i)->
  gt (dR rs σ' p).h al.k=some (.row al.l al.e)/\(∀j b,gt (dR rs σ' p).h j=some b->kH al.k b)/\(∀j,(∀al∈als,al.k≠j)->gt (dR rs σ' p).h j=gt σb.h j)/\(dR rs σ' p).nx=σ1.nx:=by
 intro p;induction p with
 |zero=>
  intro _ _;rw[htr.s0];refine⟨hal.own al hm,fun j b hb=>?_,hal.oth,rfl⟩;by_cases hj:∀al∈als,al.k≠j;rw[hal.oth j hj]at hb;exact kH.le (hal.names al hm).1 _ (hbr j b hb).2;have:∃al∈als,al.k=j:=by apply Classical.byContradiction;intro hc;exact hj fun al hm h=>hc ⟨al,hm,h⟩
  obtain⟨al',hm',rfl⟩:=this;rw[hal.own al' hm']at hb;cases hb;exact aG.le (Nat.zero_le _) _ (hal.row al' hm')
 |succ p ih=>
  intro hp hno;have hr:rs[p]? = some rs[p]:=by simp[show p<rs.length by omega]
  obtain⟨f1,f2,f3,f4⟩:=ih (by omega) fun e q h1 h2 h3=>hno e q h1 h2 (by omega);obtain⟨_,g2,g3,_⟩:=htr.all p _ hr;have e1:dR rs σ' p=rs[p].s:=by simp[dR,hr]
  rw[g3];rw[e1]at f1 f2 f3 f4;rcases ha:rs[p].act with _|_;rw[g2.quiet ha];exact⟨f1,f2,f3,f4⟩;rcases hal.acts p _ hr ha with h |⟨K,q,q',e,hL⟩;exact absurd (h al hm) (hno p _ hr ha (zN _));have hK:al.k≠K/\aG al.k q':=by rcases hL.pre al hm with h |h;exact absurd h (hno p _ hr ha (zN _));exact h
  obtain⟨alK,hmK,hkK⟩:=hL.name;rw[hL.out];refine⟨?_,fun j b hb=>?_,fun j hj=>?_,f4⟩;show gt (ug rs[p].s.h K _) al.k=_;rw[uO,if_neg fun h=>hK.1 h.symm];exact f1;simp only[uO]at hb;by_cases hj:K=j;rw[if_pos hj,hL.row]at hb;cases hb;exact hK.2;rw[if_neg hj]at hb;exact f2 j b hb;show gt (ug rs[p].s.h K _) j=_;rw[uO,if_neg fun h=>hj alK hmK (hkK.trans h)];exact f3 j hj
include hT hst hch
theorem z9p{ro:Option Nat}{n0:Nat}(Sx:n0<=σb.nx)(Gr:aG σb.nx tm₀)(hbr:∀j b,gt σb.h j=some b->j<σb.nx/\kH σb.nx b){x0:Cx}{m0:Nm}{w0:World}{E:Exit->Act->World->Prop}{df:List Deferred}(hQ:∀y tv m w a,y.σ=σ'->St F y tm' tv m w a->bD m0 x0.s w0 m y.s w->Ke n0 x0 y->n0<=y.σ.nx->a.defers=df->E .normal a w):
  ∀(fuel:Nat)(listed:Array Bool)(a:Act)(w:World)(m:Nm)(tm:List U)(tv:List Value)(x:Cx)(p:Nat),p<=rs.length->(∀(e:Nat)(r:cT),rs[e]? = some r->r.act=true->(listed.getD e false=true↔e<p))->listed.size=ops.size->listed.toList.count false=fuel->
   Closed ops.toList (fun k=>listed.getD k false=true)->BK tm₀ rs (fun k=>listed.getD k false=true) tm->(∃al∈als,¬ listed.getD al.i false=true)->
   x.σ.nx=σ1.nx->(∀al∈als,gt x.σ.h al.k=if listed.getD al.i false=true then gt (dR rs σ' p).h al.k else none)->(∀j,(∀al∈als,al.k≠j)->gt x.σ.h j=gt σb.h j)->
   St F x tm tv m w a->bD m0 x0.s w0 m x.s w->Ke n0 x0 x->a.defers=df->
   wpAnyIn (lT ro) 0 P .any ops E fuel listed a w:=by
 have hn:rs.length=ops.size:=by simpa using htr.len
 intro fuel;induction fuel with
 |zero=>
  intro listed a w m tm tv x p hp hacts hsz hcnt hcl hsees hun hnx hrow hoth hstt hadv hke hdf;exfalso;obtain⟨al,hm,hu⟩:=hun;obtain⟨r,d,h1,_⟩:=hal.at_ al hm;have hlt:=(zG.1 h1).1;have hk':al.i<listed.size:=by omega
  have:listed[al.i]≠false:=fun hf=>by
   have hm:false∈listed.toList:=by rw[<-hf];simp
   have:=List.count_pos_iff.2 hm;omega
  have this':listed[al.i]=true:=by simpa using this
  exact hu (by simp[Array.getD,hk',this'])
 |succ fuel ih=>
  intro listed a w m tm tv x p hp hacts hsz hcnt hcl hsees hun hnx hrow hoth hstt hadv hke hdf;have mem_ready:∀i,i∈Region.ready .any ops listed↔i<ops.size/\listed.getD i true=false/\∃o,ops[i]? = some o/\∀e∈o.after.toList,Region.binds .any e=true->listed.getD e.on false=true:=by
   intro i;unfold Region.ready;rw[List.mem_filter,List.mem_range];refine and_congr_right fun hi=>?_;have ho:ops[i]? = some ops[i]:=by simp[hi]
   simp only[ho,zM,Option.getD_some,Bool.and_eq_true,Bool.not_eq_true',Array.all_eq_true_iff_forall_mem,Bool.or_eq_true];refine and_congr_right fun _=>?_;constructor;intro h;refine⟨_,rfl,fun e he hb=>?_⟩;rcases h e (by simpa using he)with h1 |h1
   simp[hb]at h1;exact h1;rintro⟨o,ho',h⟩ e he;cases ho';rcases hb:Region.binds .any e with _|_;exact .inl rfl;exact .inr (h e (by simpa using he) hb)
  refine⟨fun hnil=>?_,fun i hi=>?_⟩;exfalso;have hex:∃i,i<ops.size/\listed.getD i true=false:=by
   have hpos:0<listed.toList.count false:=by omega
   obtain⟨i,hi,e⟩:=List.mem_iff_getElem.1 (List.count_pos_iff.1 hpos);simp at hi;refine⟨i,by omega,?_⟩;simp only[Array.getElem_toList]at e;simp[Array.getD,hi,e]
  have hmin:∀n,n<ops.size->listed.getD n true=false->False:=by
   intro n;induction n using Nat.strongRecOn with
   |_ n ihn=>
    intro LJ RP;have:n∈Region.ready .any ops listed:=(mem_ready n).2 ⟨LJ,RP,ops[n],by simp[LJ],fun e he hb=>by
     have hlt:=Kf hst (i:=n) (o:=ops[n]) (by simp[LJ]) e he hb;have hk':e.on<listed.size:=by omega
     cases hv:listed[e.on]with|true=>simp[Array.getD,hk',hv]|false=>exact(ihn e.on hlt (by omega) (by simp[Array.getD,hk',hv])).elim⟩
    rw[hnil]at this;cases this
  obtain⟨i,h1,h2⟩:=hex;exact hmin i h1 h2
  ·obtain⟨hilt,hil,o,ho,hedges⟩:=(mem_ready i).1 hi;have hisz:i<listed.size:=by omega
   have hLi:¬ listed.getD i false=true:=by simp[Array.getD,hisz]at hil ⊢;exact hil
   have hol:ops.toList[i]? = some o:=by simpa using ho
   obtain⟨r,hr,hro⟩:=js ops htr hol;subst hro;have hrd:∀q,ops.toList[i]? = some q->∀e∈q.after.toList,Region.binds .any e=true->listed.getD e.on false=true:=fun q hq=>by rw[hol]at hq;cases hq;exact hedges
   have hlooks:=qpd ops htr hst hcl hsees hr hLi hrd;obtain⟨_,hgood,sG,_⟩:=htr.all i r hr;have hget:∀k,((listed.setIfInBounds i true).getD k false=true)↔(listed.getD k false=true\/k=i):=fun k=>by by_cases hk:k=i;subst hk;simp[Array.getD,hisz];by_cases hks:k<listed.size;simp[Array.getD,hks,hk,Ne.symm hk];simp[Array.getD,hks,hk]
   have hcl':Closed ops.toList (fun k=>(listed.setIfInBounds i true).getD k false=true):=fun k q hk hq e he hb=>by refine(hget e.on).2 (.inl ?_);rcases(hget k).1 hk with hk |rfl;exact hcl k q hk hq e he hb;exact hrd q hq e he hb
   have hsees':BK tm₀ rs (fun k=>(listed.setIfInBounds i true).getD k false=true) (d5 tm r.o.dst r.u):=by have:=Xs ops htr hst hsees hr;exact⟨this.len,fun k q d a b c hL=>this.yes k q d a b c ((hget k).1 hL),fun k q d a b hL=>this.no k q d a b fun x=>hL ((hget k).2 x),this.other⟩
   have hcnt':(listed.setIfInBounds i true).toList.count false=fuel:=by
    have hv:listed[i]=false:=by simpa[Array.getD,hisz]using hil
    rw[Array.toList_setIfInBounds,List.count_set (by simpa using hisz)];have RY:Array.count false listed=fuel+1:=by simpa using hcnt
    simp[hv];omega
   obtain⟨hopc,hwc⟩:=ko hlooks;have notall:¬ (∀al∈als,Pre ops.toList i al.i):=fun h=>by obtain⟨al,hm,hu⟩:=hun;exact hu (K4 hst hcl hrd (h al hm))
   by_cases hact:r.act=true;rcases hal.acts i r hr hact with h |⟨K,q,q',e,hL⟩;exact absurd h notall;obtain⟨alK,hmK,hkK⟩:=hL.name;have hpi:p<=i:=by rcases Nat.lt_or_ge i p with h |h;exact absurd ((hacts i r hr hact).2 h) hLi;exact h
   have hil':i<rs.length:=(zG.1 hr).1;have hbetween:∀(e:Nat)(q:cT),p<=e->e<i->rs[e]? = some q->q.act=false:=fun e q h1 h2 h3=>by rcases hb:q.act with _|_;rfl;have:=K4 hst hcl hrd (hch.acts i e r q hr h3 hact hb h2);have:=(hacts e q h3 hb).1 this;omega
   have hsi:dR rs σ' i=r.s:=by simp[dR,hr]
   have hps:dR rs σ' p=r.s:=(PA ops htr hpi (by omega) hbetween).trans hsi;have hKl:listed.getD alK.i false=true:=by rcases hL.pre alK hmK with h |h;exact K4 hst hcl hrd h;exact absurd hkK h.1
   have hgK:gt x.σ.h K=some (.row q e):=by have:=hrow alK hmK;rw[if_pos hKl,hkK,hps,hL.row]at this;exact this
   have hop':bB T x.σ tm r.o.op=some (r.u,⟨ug x.σ.h K (.row q' e),x.σ.nx⟩):=by rw[PJ hopc];exact hL.run _ hgK
   unfold wpOpIn;simp only[ho];rw[Ar (hstt.act m (aH.refl _ _)) ops r.o,qP hstt.e (hwc.trans hL.want)];simp only[if_true];refine tZ (GF hop') (hstt.op hT r.o hop' fun y tv' aC w₁ aV e1 st' hadv' hke' hnx' hdf'=>?_);have hge:∀al∈als,((listed.setIfInBounds i true).getD al.i false=true)↔listed.getD al.i false=true:=fun al hm=>by
    have:al.i≠i:=fun h=>by obtain⟨q,d,q1,_,q3,_⟩:=hal.at_ al hm;rw[h,hr]at q1;cases q1;rw[hact]at q3;cases q3
    rw[hget];simp[this]
   refine ih _ _ _ aC _ tv' y (i+1) (by omega) (fun e' q1 hq hqk=>?_) (by simpa using hsz) hcnt' hcl' hsees' ?_ (by rw[e1];exact hnx) (fun al hm=>?_) (fun j hj=>?_) st' (hadv.trans hadv') (hke.trans (hke'.le (by rw[hnx];have:=hal.le;omega))) (hdf'.trans hdf);rw[hget];by_cases hei:e'=i;subst hei;simp;simp only[hei,or_false];constructor;intro hLe;have:=(hacts e' q1 hq hqk).1 hLe;omega;intro hlt;exact K4 hst hcl hrd (hch.acts i e' r q1 hr hq hact hqk (by omega));obtain⟨al,hm,hu⟩:=hun;exact⟨al,hm,fun h=>hu ((hge al hm).1 h)⟩;rw[e1,sG,hL.out];by_cases hl:listed.getD al.i false=true;rw[if_pos ((hge al hm).2 hl)];show gt (ug x.σ.h K _) al.k=gt (ug r.s.h K _) al.k;rw[uO,uO,hgK,hL.row,hrow al hm,if_pos hl,hps];rw[if_neg (fun h=>hl ((hge al hm).1 h))];show gt (ug x.σ.h K _) al.k=_;rw[uO];have hne:K≠al.k:=fun h=>by have:=hal.nodup alK hmK al hm (hkK.trans h);rw[<-this]at hl;exact hl hKl
   rw[if_neg hne,hrow al hm,if_neg hl];rw[e1];show gt (ug x.σ.h K _) j=_;rw[uO,if_neg (fun h=>hj alK hmK (hkK.trans h)),hoth j hj];have noact:r.act=false:=by simpa using hact
   have hacts':∀(e:Nat)(q:cT),rs[e]? = some q->q.act=true->((listed.setIfInBounds i true).getD e false=true↔e<p):=fun e q hq hqk=>by rw[hget];by_cases hei:e=i;subst hei;rw[hr]at hq;cases hq;rw[noact]at hqk;cases hqk;simp only[hei,or_false];exact hacts e q hq hqk
   have stay:r.mv=false->∀y tv' aC w₁ aV,y.σ=x.σ->St F y (d5 tm r.o.dst r.u) tv' aC w₁ aV->bD m0 x0.s w0 aC y.s w₁->Ke n0 x0 y->aV.defers=df->wpAnyIn (lT ro) 0 P .any ops E fuel (listed.setIfInBounds i true) aV w₁:=fun hmv y tv' aC w₁ aV h1 h2 h3 h4 h6=>by
    have hne:∀al∈als,al.i≠i:=fun al hm h=>by obtain⟨q,d,q1,_,_,q2,_⟩:=hal.at_ al hm;rw[h,hr]at q1;cases q1;rw[hmv]at q2;cases q2
    have hge:∀al∈als,((listed.setIfInBounds i true).getD al.i false=true)↔listed.getD al.i false=true:=fun al hm=>by rw[hget];simp[hne al hm]
    refine ih _ _ _ aC _ tv' y p hp hacts' (by simpa using hsz) hcnt' hcl' hsees' ?_ (by rw[h1];exact hnx) (fun al hm=>?_) (by rw[h1];exact hoth) h2 h3 h4 h6;obtain⟨al,hm,hu⟩:=hun;exact⟨al,hm,fun h=>hu ((hge al hm).1 h)⟩;rw[h1,hrow al hm];by_cases hL:listed.getD al.i false=true;rw[if_pos hL,if_pos ((hge al hm).2 hL)];rw[if_neg hL,if_neg fun h=>hL ((hge al hm).1 h)]
   have hsub:Ju ⟨σb.h,σ1.nx⟩ x.σ:=fun k b hb=>by rw[hoth k fun al hm h=>?_];exact hb;have:=(hbr k b hb).1;have:=(hal.names al hm).1;omega
   unfold wpOpIn;simp only[ho];rw[Ar (hstt.act m (aH.refl _ _)) ops r.o];cases hmv:r.mv with
   |true=>
    obtain⟨al,hm,hi'⟩:=hal.all i r hr noact hmv;obtain⟨q,d,q1,q2,q3,q4,q5,q6,q7⟩:=hal.at_ al hm;rw[hi',hr]at q1;cases q1;have r2:=hal.row al hm;have hw:bW ops.toList tm r.o=some true:=by unfold bW;rw[q6]
    rw[qP hstt.e hw];simp only[if_true];have hop':vC P T tm r.o.op al:=q5.congr hopc;refine tZ hop'.nd (hstt.mkA hT r.o hop' fun y tv' aC w₁ aV e1 st' hadv' hke' hnx' hdf'=>?_);have hnoact:∀(e:Nat)(q:cT),rs[e]? = some q->q.act=true->e<p->¬ Pre ops.toList e al.i:=fun e q h1 h2 h3 h4=>by have:=VF hst hcl e al.i ((hacts e q h1 h2).2 h3) h4;simp only[hi']at this;exact hLi this
    obtain⟨F1,F2,F3,F4⟩:=SL ops htr hal hbr hm p hp hnoact;have hrows:∀j b,gt x.σ.h j=some b->kH al.k b:=fun j b hb=>by
     by_cases hj:∀al∈als,al.k≠j;rw[hoth j hj,<-F3 j hj]at hb;exact F2 j b hb;have:∃al∈als,al.k=j:=by apply Classical.byContradiction;intro hc;exact hj fun al hm h=>hc ⟨al,hm,h⟩
     obtain⟨al',hm',rfl⟩:=this;rw[hrow al' hm']at hb;split at hb;exact F2 _ b hb;cases hb
    have hgk:gt x.σ.h al.k=none:=by rw[hrow al hm,if_neg (by rw[hi'];exact hLi)]
    obtain⟨y',z1,z2,z3,z4,z5,z6,z7⟩:=mj (F:=F) (nx0:=al.k) (k:=al.k) e1 st'.h st'.fr (zF _) (by rw[hnx];exact(hal.names al hm).2) hgk (fun j b hb=>(hstt.h.ok j b hb).1) r2 hrows;have hlen:tm.length=tm₀.length:=hsees.len;have hslots:aX y' (d5 tm r.o.dst r.u) tv':=by
     have he:=st'.e;rw[q7]at he ⊢;simp only[d5]at he ⊢;refine aX.mk' (by have:=he.2;simpa using this) fun t u hu=>?_;by_cases ht:t=d;subst ht;have htl:t<tm.length:=by have:=(zG.1 hu).1;simpa using this
     rw[List.getElem?_set_self htl]at hu;obtain⟨v,v1,v2⟩:=he.get (i:=t) (u:=nN al.o x.σ.nx) (by rw[List.getElem?_set_self htl]);cases hu;rw[q2];exact⟨v,v1,z6 _ v v2⟩;rw[List.getElem?_set_ne (fun h=>ht h.symm)]at hu;obtain⟨v,v1,v2⟩:=he.get (i:=t) (u:=u) (by rw[List.getElem?_set_ne (fun h=>ht h.symm)];exact hu);refine⟨v,v1,?_⟩;have hold:tm₀[t]? = some u->aA y' u v:=fun h=>z5 u v (aU.le (hal.names al hm).1 u ((xH _ _).1 Gr u (zX h))) v2;by_cases hno:∀(k:Nat)(q:cT),rs[k]? = some q->q.o.dst≠some t;rw[hsees.other t hno]at hu;exact hold hu;have:∃(k:Nat)(q:cT),rs[k]? = some q/\q.o.dst=some t:=by apply Classical.byContradiction;intro hn;exact hno fun k r hr hd=>hn ⟨k,r,hr,hd⟩
     obtain⟨k,q,hq,hd⟩:=this;by_cases hL:listed.getD k false=true;have htl:t<tm₀.length:=by rw[<-hlen];exact(zG.1 hu).1
     rw[hsees.yes k q t hq hd htl hL]at hu;cases hu;cases ha:q.act with
     |true=>exfalso;rcases hal.acts k q hq ha with h |⟨K,_,_,_,hLc⟩;obtain⟨al',hm',hu'⟩:=hun;exact hu' (VF hst hcl k al'.i hL (h al' hm'));rw[hLc.dst]at hd;cases hd
     |false=>
      cases v6:q.mv with
      |true=>obtain⟨al',hm',FJ⟩:=hal.all k q hq ha v6;obtain⟨q',d',p1,p2,_⟩:=hal.at_ al' hm';rw[FJ,hq]at p1;cases p1;rw[p2]at v2 ⊢;refine z7 _ _ v (fun h=>?_) (by rw[hnx];exact(hal.names al' hm').2) v2;have:=hal.nodup al' hm' al hm h;rw[FJ,hi']at this;subst this;exact hLi hL
      |false=>rcases hal.early k q hq ha v6 with h |h;exfalso;obtain⟨al',hm',hu'⟩:=hun;exact hu' (VF hst hcl k al'.i hL (h al' hm'));exact z5 _ v (aU.le (hal.names al hm).1 _ h.1) v2
     rw[hsees.no k q t hq hd hL]at hu;exact hold hu
    have JD:St F y' (d5 tm r.o.dst r.u) tv' aC w₁ aV:=⟨z3,z4,hslots,by rw[z2];exact st'.fits,by rw[z2];exact st'.act⟩;have CP:Ke n0 x0 y':=(hke.trans (hke'.le (by rw[hnx];have:=hal.le;omega))).trans (z5.le (Nat.le_trans Sx (hal.names al hm).1));have hadv2:bD m0 x0.s w0 aC y'.s w₁:=by rw[z2];exact hadv.trans hadv'
    have Gj:y'.σ.nx=σ1.nx:=by rw[z1];exact hnx
    have hrow2:∀al'∈als,gt y'.σ.h al'.k=if(listed.setIfInBounds i true).getD al'.i false=true then gt (dR rs σ' p).h al'.k else none:=fun al' hm'=>by
     rw[z1];simp only[d8];by_cases hkk:al.k=al'.k;have hii:=hal.nodup al hm al' hm' hkk;rw[if_pos hkk,if_pos ((hget _).2 (.inr (by rw[<-hii,hi'])))];rw[<-hkk];exact F1.symm
     ·rw[if_neg hkk,hrow al' hm'];have hne:al'.i≠i:=fun h=>hkk (by obtain⟨q',d',p1,p2,_⟩:=hal.at_ al' hm';rw[h,hr]at p1;cases p1;rw[q2]at p2;cases ho:al.o<;>cases ho':al'.o<;>rw[ho,ho']at p2<;>simp only[nN]at p2<;>first |(cases p2;done)|(simp only[U.ptr.injEq,U.sl.injEq]at p2;exact p2.1));have:((listed.setIfInBounds i true).getD al'.i false=true)↔listed.getD al'.i false=true:=by rw[hget];simp[hne]
      by_cases hL:listed.getD al'.i false=true;rw[if_pos hL,if_pos (this.2 hL)];rw[if_neg hL,if_neg fun h=>hL (this.1 h)]
    have hoth2:∀j,(∀al∈als,al.k≠j)->gt y'.σ.h j=gt σb.h j:=fun j hj=>by rw[z1];simp only[d8];rw[if_neg (hj al hm)];exact hoth j hj
    by_cases hmore:∃al∈als,¬ (listed.setIfInBounds i true).getD al.i false=true;exact ih _ _ _ aC _ tv' y' p hp hacts' (by simpa using hsz) hcnt' hcl' hsees' hmore Gj hrow2 hoth2 JD hadv2 CP (hdf'.trans hdf)
    ·-- all allocs have come
     have hdone:∀al∈als,(listed.setIfInBounds i true).getD al.i false=true:=fun al hm=>by apply Classical.byContradiction;intro h;exact hmore ⟨al,hm,h⟩
     have hgt:∀k,gt (dR rs σ' p).h k=gt y'.σ.h k:=fun k=>by
      by_cases hj:∀al∈als,al.k≠k;rw[F3 k hj,hoth2 k hj];have:∃al∈als,al.k=k:=by apply Classical.byContradiction;intro hc;exact hj fun al hm h=>hc ⟨al,hm,h⟩
      obtain⟨al',hm',rfl⟩:=this;rw[hrow2 al' hm',if_pos (hdone al' hm')]
     obtain⟨y2,k1,k2,k3,k4,k5,k6⟩:=Gh.same (n0:=n0) (tm:=d5 tm r.o.dst r.u) (σ:=y'.σ) (dR rs σ' p).h hgt F y' tv' rfl JD.h JD.fr JD.e;have Ge:y2.σ=dR rs σ' p:=by rw[k2,Gj,<-F4]
     have hadv3:=k1 aC w₁ JD.fits;refine se hT ops htr hst hch (n0:=n0) (F:=F) (x0:=x0) (m0:=m0) (w0:=w0) (df:=df) hQ fuel (listed.setIfInBounds i true) aV w₁ aC p (d5 tm r.o.dst r.u) tv' y2 (by simpa using hsz) hcnt' hcl' (fun e q h1 h2 h3=>?_) hsees' hp hacts' Ge ⟨k3,k4,k5,hadv3.fits,JD.act.ext hadv3.agree hadv3.nx⟩ (hadv2.trans hadv3) (CP.trans k6) (by rw[Ge,F4];have:=hal.le;omega) (hdf'.trans hdf);obtain⟨al',hm',FJ⟩:=hal.all e q h1 h2 h3;rw[<-FJ];exact hdone al' hm'
   |false=>
    rcases hgood with⟨hw,hu,ha,_⟩|⟨hw,hop,hqu⟩|⟨hw,ha,f,args,hcall,hev⟩|⟨hw,ha,_,hfree⟩|⟨ha,hm,_⟩|⟨hw,ha,_⟩;rw[qP hstt.e (hwc.trans hw)];simp only[Bool.false_eq_true,if_false];rw[hu]at stay;exact⟨fun _ _=>trivial,stay hmv x _ m w _ rfl (hstt.skip r.o.dst) hadv hke ((H8 _ _ _).trans hdf)⟩;rw[qP hstt.e (hwc.trans hw)];simp only[if_true];rcases hal.early i r hr noact hmv with h |h;exact absurd h notall;obtain⟨g1,g2⟩:=h.2 hw hop;have hop':bB T x.σ tm r.o.op=some (r.u,x.σ):=by rw[PJ hopc];exact z37 hsub g1 g2
    exact tZ (GF hop') (hstt.op hT r.o hop' fun y tv' aC w₁ aV e1 st' hadv' hke' hnx' hdf'=>stay hmv y tv' aC w₁ aV e1 st' (hadv.trans hadv') (hke.trans (hke'.le (by rw[hnx];have:=hal.le;omega))) (hdf'.trans hdf));rw[noact]at ha;cases ha;rw[qP hstt.e (hwc.trans hw)];simp only[if_true];exact tZ (hfree.congr hopc).nd (hstt.free hT r.o (hfree.congr hopc) fun y tv' aC w₁ aV e1 st' hadv' hke' hnx' hdf'=>stay hmv y tv' aC w₁ aV e1 st' (hadv.trans hadv') (hke.trans (hke'.le (by rw[hnx];have:=hal.le;omega))) (hdf'.trans hdf));rw[hmv]at hm;cases hm;rw[noact]at ha;cases ha
end
def QZ(mk K:Nat)(q':List U):List Al->Prop
 |[]=>True|al::r=>(Nat.testBit mk al.i=true\/(al.k≠K/\aG al.k q'))/\QZ mk K q' r
theorem mn{mk K:Nat}{q':List U}:∀{l:List Al},QZ mk K q' l->∀al∈l,Nat.testBit mk al.i=true\/(al.k≠K/\aG al.k q')
 |[],_,al,h=>by cases h
 |x::r,hl,al,h=>by rcases zI.1 h with rfl |h;exact hl.1;exact mn hl.2 al h
def RA(P:Program)(T:Tb)(ops:List Oper)(nb:Nat)(σe:Sg)(qa:List Al):List Oper->List U->Sg->List RK->List Al->(List RK->List U->Sg->Prop)->Prop
 |[],tm,σ,acc,q,K=>q=[]/\K acc tm σ|o::r,tm,σ,acc,q,K=>
  (bW ops tm o=some true/\∃u,bB T σ tm o.op=some (u,σ)/\RA P T ops nb σe qa r (d5 tm o.dst u) σ ((1,⟨tm,o,u,false,false,σ,σ⟩)::acc) q K)\/ (bW ops tm o=some true/\∃u σ',bB T σ tm o.op=some (u,σ')/\RA P T ops nb σe qa r (d5 tm o.dst u) σ' ((3,⟨tm,o,u,true,true,σ,σ'⟩)::acc) q K)\/ (bW ops tm o=some true/\∃f args u,i9 T tm o.op=some (f,args)/\aY P f args σ (fun u' σ'=>u'=u/\σ'=σ)/\RA P T ops nb σe qa r (d5 tm o.dst u) σ ((2,⟨tm,o,u,true,false,σ,σ⟩)::acc) q K)\/ (bW ops tm o=some true/\∃f args u σ',i9 T tm o.op=some (f,args)/\aY P f args σ (fun u' s'=>u'=u/\s'=σ')/\RA P T ops nb σe qa r (d5 tm o.dst u) σ' ((3,⟨tm,o,u,true,true,σ,σ'⟩)::acc) q K)\/ (bW ops tm o=some false/\RA P T ops nb σe qa r (d5 tm o.dst (.tup [])) σ ((0,⟨tm,o,.tup [],false,false,σ,σ⟩)::acc) q K)\/ (bW ops tm o=some true/\∃u,tW P T tm o.op u/\aU nb u/\RA P T ops nb σe qa r (d5 tm o.dst u) σ ((6,⟨tm,o,u,false,false,σ,σ⟩)::acc) q K)\/ (bW ops tm o=some true/\∃u,bB T σ tm o.op=some (u,σ)/\bB T σe tm o.op=some (u,σe)/\OM o.op=true/\aU nb u/\RA P T ops nb σe qa r (d5 tm o.dst u) σ ((5,⟨tm,o,u,false,false,σ,σ⟩)::acc) q K)\/ (∃al q' d,q=al::q'/\al.i=acc.length/\vC P T tm o.op al/\o.guard=none/\o.dst=some d/\RA P T ops nb σe qa r (d5 tm o.dst (nN al.o al.k)) σ ((4,⟨tm,o,nN al.o al.k,false,true,σ,σ⟩)::acc) q' K)\/ (bW ops tm o=some true/\∃u KK c c' e mk,(c7 ops [])[acc.length]? = some mk/\o.dst=none/\gt σ.h KK=some (.row c e)/\(∀ τ:Sg,gt τ.h KK=some (.row c e)->bB T τ tm o.op=some (u,⟨ug τ.h KK (.row c' e),τ.nx⟩))/\(∃al∈qa,al.k=KK)/\QZ mk KK c' qa/\
   RA P T ops nb σe qa r (d5 tm o.dst u) ⟨ug σ.h KK (.row c' e),σ.nx⟩ ((7,⟨tm,o,u,true,true,σ,⟨ug σ.h KK (.row c' e),σ.nx⟩⟩)::acc) q K)
structure KA(P:Program)(T:Tb)(ops:List Oper)(nb:Nat)(σe:Sg)(x:RK):Prop where
 good:Good P T ops x.2
 sm:x.1≠3->x.1≠7->x.2.s'=x.2.s
 act:x.2.act=true↔(x.1=2\/x.1=3\/x.1=7)
 mv:x.2.act=false->(x.2.mv=true↔x.1=4)
 lk:x.2.act=false->bW ops x.2.tm x.2.o=some true->bB T x.2.s x.2.tm x.2.o.op=some (x.2.u,x.2.s')->x.1=1\/x.1=5
 ear:x.2.act=false->x.2.mv=false->x.1=1\/(aU nb x.2.u/\(bW ops x.2.tm x.2.o=some true->bB T x.2.s x.2.tm x.2.o.op=some (x.2.u,x.2.s')->OM x.2.o.op=true/\bB T σe x.2.tm x.2.o.op=some (x.2.u,σe)))
theorem JI{P:Program}{T:Tb}{ops:List Oper}{nb:Nat}{σe:Sg}{qa:List Al}:∀(rest:List Oper)(tm:List U)(σ:Sg)(acc:List RK)(q:List Al)(K:List RK->List U->Sg->Prop),RA P T ops nb σe qa rest tm σ acc q K->
  ∃(ks:List RK)(tm':List U)(σ':Sg),K (ks.reverse++acc) tm' σ'/\ks.length=rest.length/\dR (ks.map (·.2)) σ' 0=σ/\oA (ks.map (·.2)) tm' 0=tm/\
   (∀(i:Nat)(x:RK),ks[i]? = some x->rest[i]? = some x.2.o/\KA P T ops nb σe x/\dR (ks.map (·.2)) σ' (i+1)=x.2.s'/\oA (ks.map (·.2)) tm' (i+1)=d5 x.2.tm x.2.o.dst x.2.u)/\
   (∀(i:Nat)(x:RK),ks[i]? = some x->x.1=7->∃KK c c' e,Loc T ops qa (acc.length+i) x.2 KK c c' e)/\
   (∀(i:Nat)(x:RK),ks[i]? = some x->x.1=4->∃al∈q,al.i=acc.length+i)/\
   (∀al∈q,∃(i:Nat)(x:RK)(d:Tmp),al.i=acc.length+i/\ks[i]? = some x/\x.1=4/\x.2.u=nN al.o al.k/\vC P T x.2.tm x.2.o.op al/\x.2.o.guard=none/\x.2.o.dst=some d)
 |[],tm,σ,acc,q,K,h=>by obtain⟨rfl,h⟩:=h;exact⟨[],tm,σ,h,rfl,rfl,rfl,fun i x hx=>by simp at hx,fun i x hx=>by simp at hx,fun i x hx=>by simp at hx,fun al h=>by cases h⟩
 |o::rest,tm,σ,acc,q,K,h=>by
  have step:∀(k:Nat)(u:U)(ac mv:Bool)(σ1:Sg)(q':List Al),RA P T ops nb σe qa rest (d5 tm o.dst u) σ1 ((k,⟨tm,o,u,ac,mv,σ,σ1⟩)::acc) q' K->KA P T ops nb σe (k,⟨tm,o,u,ac,mv,σ,σ1⟩)->
    (k=7->∃KK c c' e,Loc T ops qa acc.length ⟨tm,o,u,ac,mv,σ,σ1⟩ KK c c' e)->
    (k≠4/\q=q'\/∃al d,q=al::q'/\al.i=acc.length/\k=4/\u=nN al.o al.k/\vC P T tm o.op al/\o.guard=none/\o.dst=some d)->
    ∃(ks:List RK)(tm':List U)(σ':Sg),K (ks.reverse++acc) tm' σ'/\ks.length=(o::rest).length/\dR (ks.map (·.2)) σ' 0=σ/\oA (ks.map (·.2)) tm' 0=tm/\
     (∀(i:Nat)(x:RK),ks[i]? = some x->(o::rest)[i]? = some x.2.o/\KA P T ops nb σe x/\dR (ks.map (·.2)) σ' (i+1)=x.2.s'/\oA (ks.map (·.2)) tm' (i+1)=d5 x.2.tm x.2.o.dst x.2.u)/\
     (∀(i:Nat)(x:RK),ks[i]? = some x->x.1=7->∃KK c c' e,Loc T ops qa (acc.length+i) x.2 KK c c' e)/\
     (∀(i:Nat)(x:RK),ks[i]? = some x->x.1=4->∃al∈q,al.i=acc.length+i)/\
     (∀al∈q,∃(i:Nat)(x:RK)(d:Tmp),al.i=acc.length+i/\ks[i]? = some x/\x.1=4/\x.2.u=nN al.o al.k/\vC P T x.2.tm x.2.o.op al/\x.2.o.guard=none/\x.2.o.dst=some d):=by
   intro k u ac mv σ1 q' h hk hloc hq;obtain⟨ks,tm',σ',g1,g2,g3,g4,g5,g9,g6,g7⟩:=JI rest _ _ _ _ _ h;refine⟨(k,⟨tm,o,u,ac,mv,σ,σ1⟩)::ks,tm',σ',by simpa using g1,by simp[g2],rfl,rfl,fun i x hx=>?_,fun i x hx h7=>?_,fun i x hx h4=>?_,fun al hal=>?_⟩;cases i with
   |zero=>simp at hx;subst hx;refine⟨rfl,hk,?_,?_⟩;simp only[dR,zQ,zH];exact g3;simp only[oA,zQ,zH];exact g4|succ i=>simp only[zH]at hx;obtain⟨k1,k2,k3,k4⟩:=g5 i x hx;refine⟨by simpa using k1,k2,?_,?_⟩;simp only[dR,zQ,zH];exact k3;simp only[oA,zQ,zH];exact k4
   cases i with
   |zero=>simp at hx;subst hx;exact hloc h7|succ i=>
    simp only[zH]at hx;have:=g9 i x hx h7;have e:((k,(⟨tm,o,u,ac,mv,σ,σ1⟩:cT))::acc).length+i=acc.length+(i+1):=by simp;omega
    rwa [e]at this
   cases i with
   |zero=>simp at hx;subst hx;rcases hq with⟨hne,_⟩|⟨al,d,rfl,hi,_⟩;exact absurd h4 hne;exact⟨al,by simp,by omega⟩
   |succ i=>simp only[zH]at hx;obtain⟨al,h1,h2⟩:=g6 i x hx h4;refine⟨al,?_,by simp at h2;omega⟩;rcases hq with⟨_,rfl⟩|⟨al',d,rfl,_⟩;exact h1;exact List.mem_cons_of_mem _ h1
   have later:al∈q'->∃(i:Nat)(x:RK)(d:Tmp),al.i=acc.length+i/\((k,(⟨tm,o,u,ac,mv,σ,σ1⟩:cT))::ks)[i]? = some x/\x.1=4/\x.2.u=nN al.o al.k/\vC P T x.2.tm x.2.o.op al/\x.2.o.guard=none/\x.2.o.dst=some d:=fun hm=>by obtain⟨i,x,d,h1,h2,h3⟩:=g7 al hm;exact⟨i+1,x,d,by simp at h1;omega,by simpa using h2,h3⟩
   rcases hq with⟨_,rfl⟩|⟨al',d,rfl,hi,hk4,hu,ho,hg,hd⟩;exact later hal;rcases zI.1 hal with rfl |hal;exact⟨0,_,d,by omega,rfl,hk4,hu,ho,hg,hd⟩;exact later hal
  simp only[RA]at h;rcases h with⟨hw,u,h1,h2⟩|⟨hw,u,σ1,h1,h2⟩|⟨hw,f,args,u,h1,h2,h3⟩|⟨hw,f,args,u,σ1,h1,h2,h3⟩|⟨hw,h1⟩|⟨hw,u,h1,hb,h3⟩|⟨hw,u,h1,h2,h3,hb,h4⟩|⟨al,q',d,hq,hi,ho,hg,hd,h1⟩|⟨hw,u,KK,c,c',e,mk,hmk,hd,hg,hrun,hnm,hlp,h1⟩;exact step 1 u false false σ q h2 ⟨.inr (.inl ⟨hw,h1,fun _=>rfl⟩),fun _ _=>rfl,by simp,by simp,fun _ _ _=>.inl rfl,fun _ _=>.inl rfl⟩ (fun h=>by omega) (.inl ⟨by omega,rfl⟩);exact step 3 u true true σ1 q h2 ⟨.inr (.inl ⟨hw,h1,by simp⟩),by simp,by simp,by simp,by simp,by simp⟩ (fun h=>by omega) (.inl ⟨by omega,rfl⟩);exact step 2 u true false σ q h3 ⟨.inr (.inr (.inl ⟨hw,rfl,f,args,h1,h2⟩)),fun _ _=>rfl,by simp,by simp,by simp,by simp⟩ (fun h=>by omega) (.inl ⟨by omega,rfl⟩);exact step 3 u true true σ1 q h3 ⟨.inr (.inr (.inl ⟨hw,rfl,f,args,h1,h2⟩)),by simp,by simp,by simp,by simp,by simp⟩ (fun h=>by omega) (.inl ⟨by omega,rfl⟩);exact step 0 _ false false σ q h1 ⟨.inl ⟨hw,rfl,rfl,rfl⟩,fun _ _=>rfl,by simp,by simp,(fun _ h=>by rw[hw]at h;cases h),fun _ _=>.inr ⟨by simp[aU,aG],fun h=>by rw[hw]at h;cases h⟩⟩ (fun h=>by omega) (.inl ⟨by omega,rfl⟩);exact step 6 u false false σ q h3 ⟨.inr (.inr (.inr (.inl ⟨hw,rfl,rfl,h1⟩))),fun _ _=>rfl,by simp,by simp,(fun _ _ h=>absurd h (h1.noop _)),fun _ _=>.inr ⟨hb,fun _ h=>absurd h (h1.noop _)⟩⟩ (fun h=>by omega) (.inl ⟨by omega,rfl⟩);exact step 5 u false false σ q h4 ⟨.inr (.inl ⟨hw,h1,fun _=>rfl⟩),fun _ _=>rfl,by simp,by simp,fun _ _ _=>.inr rfl,fun _ _=>.inr ⟨hb,fun _ _=>⟨h3,h2⟩⟩⟩ (fun h=>by omega) (.inl ⟨by omega,rfl⟩);exact step 4 _ false true σ q' h1 ⟨.inr (.inr (.inr (.inr (.inl ⟨rfl,rfl,rfl⟩)))),fun _ _=>rfl,by simp,by simp,(fun _ _ h=>(ho.ne h).elim),by simp⟩ (fun h=>by omega) (.inr ⟨al,d,hq,hi,rfl,rfl,ho,hg,hd⟩);exact step 7 u true true _ q h1 ⟨.inr (.inl ⟨hw,hrun σ hg,by simp⟩),by simp,by simp,by simp,by simp,by simp⟩ (fun _=>⟨KK,c,c',e,⟨hnm,hg,rfl,hd,hrun,fun al hm=>by rcases mn hlp al hm with h |h;exact .inl ⟨mk,hmk,h⟩;exact .inr h,hw⟩⟩) (.inl ⟨by omega,rfl⟩)
def kf(k:Nat):Nat:=cond (Nat.beq k 4) 0 (cond (Nat.beq k 5) 1 (cond (Nat.beq k 6) 0 (cond (Nat.beq k 7) 3 k)))
def L2(ai:List Nat)(m:Nat):Bool:=ai.all fun i=>Nat.testBit m i
def U4(ai:List Nat):List Nat->List Nat->Bool
 |k::ks,m::ms=>cond (Nat.ble 1 k) (cond (Nat.ble k 3) (L2 ai m) true) true&&U4 ai ks ms|[],_=>true
 |_::_,[]=>false
theorem gz{ai:List Nat}:∀{ks ms:List Nat},U4 ai ks ms=true->∀{i k:Nat},ks[i]? = some k->1<=k->k<=3->∃m,ms[i]? = some m/\∀a∈ai,m.testBit a=true
 |[],ms,_,i,k,hk,_,_=>by simp at hk
 |_::_,[],h,_,_,_,_,_=>by simp[U4]at h
 |k0::ks,m0::ms,h,i,k,hk,h1,h3=>by
  simp only[U4,Bool.and_eq_true]at h;cases i with
  |zero=>
   simp at hk;subst hk;have a1:Nat.ble 1 k0=true:=by rw[Nat.ble_eq];exact h1
   have a2:Nat.ble k0 3=true:=by rw[Nat.ble_eq];exact h3
   have:=h.1;rw[a1,a2]at this;simp only[zC,L2,List.all_eq_true]at this;exact⟨m0,rfl,this⟩
  |succ i=>simp only[zH]at hk ⊢;exact gz h.2 hk h1 h3
section
variable{P:Program}{T:Tb}
theorem SX {ops : Array Oper} {nb : Nat} {σe : Sg} {tm : List U} {σ : Sg} {ks : List RK} {tm' : List U} {σ' : Sg} {pr : List (Nat × Nat)} (hst : ES ops.toList = true) (htr : XI P T ops.toList tm σ (ks.map (·.2)) tm' σ')
    (hkk : ∀(i:Nat)(x:RK),ks[i]? = some x->KA P T ops.toList nb σe x) (hfl:Ix ops.toList (ks.map fun x=> kf x.1) pr=true) (hpr:P5 T ks pr):Jz T ops.toList (ks.map (·.2)):=by
  have hlen:(ks.map (·.2)).length=ops.toList.length:=htr.len;have same : ∀(p q:Nat),p<=q->q<=ks.length->(∀(e:Nat)(x:RK),p<=e->e<q->ks[e]? = some x->x.1≠3/\x.1≠7)->dR (ks.map (·.2)) σ' p=dR (ks.map (·.2)) σ' q:=by
    intro p q hpq hq hno;induction q with
    | zero => have : p = 0 := by omega
              rw[this]
    |succ q ih=>
      rcases Nat.lt_or_ge q p with h |h;have:p=q+1:=by omega
      rw[this];rw[ih h (by omega) fun e r h1 h2 h3=> hno e r h1 (by omega) h3];have hr:ks[q]? = some ks[q]:=by simp[show q<ks.length by omega]
      have LI:(ks.map (·.2))[q]? = some ks[q].2:=by simp[hr]
      have k3:=(htr.all q _ LI).2.2.1;rw[k3,(hkk q _ hr).sm (hno q _ h (zN _) hr).1 (hno q _ h (zN _) hr).2];simp[dR,LI]
  have at_ : ∀(i:Nat)(r:cT),(ks.map (·.2))[i]? = some r->∃k,ks[i]? = some (k,r):=by intro i r hr;simp only[List.getElem?_map]at hr;rcases hk:ks[i]? with _|x;rw[hk]at hr;simp at hr;obtain⟨k,r'⟩:=x;rw[hk]at hr;simp at hr;subst hr;exact⟨k,rfl⟩
  have trp : ∀(i k:Nat)(r:cT),ks[i]? = some (k,r)->∃m,(c7 ops.toList [])[i]? = some m/\(trip 0 (ks.map fun x=> kf x.1) (c7 ops.toList []))[i]? = some (kf k,m,iP ((ks.map fun x=> kf x.1).take i)):=by
    intro i k r hk;obtain⟨m1,_,_⟩:=Mz ops.toList [];have hi:i<ops.toList.length:=by rw[<-hlen];simp only[yA];exact(zG.1 hk).1
    have hm:i<(c7 ops.toList []).length:=by rw[m1];simpa using hi
    refine⟨(c7 ops.toList [])[i],by simp[hm], ?_⟩;have:=Vn (ks.map fun x=> kf x.1) (c7 ops.toList []) 0 i (kf k) _ (by simp[hk]) (show(c7 ops.toList [])[i]? = some (c7 ops.toList [])[i] by simp[hm])
    rwa [Nat.zero_add]at this
  have chk : ∀ (i k ki kk : Nat) (r q : cT), ks[i]? = some (ki, r) -> ks[k]? = some (kk, q) -> ∃ mi mk, (c7 ops.toList [])[i]? = some mi /\ (c7 ops.toList [])[k]? = some mk /\
      HZ pr i (kf ki,mi,iP ((ks.map fun x=> kf x.1).take i)) k (kf kk,mk,iP ((ks.map fun x=> kf x.1).take k))=true:=by
    intro i k ki kk r q hi hk;obtain⟨mi,e1,e2⟩:=trp i ki r hi;obtain⟨mk,e3,e4⟩:=trp k kk q hk;refine⟨mi,mk,e1,e3, ?_⟩;have h1:=ZW hfl e2;have h2:=ZW h1 e4;simpa using h2
  have nomv : ∀(p q:Nat),p<=q->q<=ks.length->iP ((ks.map fun x=> kf x.1).take p)=iP ((ks.map fun x=> kf x.1).take q)->dR (ks.map (·.2)) σ' p=dR (ks.map (·.2)) σ' q:=by intro p q hpq hq hc;refine same p q hpq hq fun e x h1 h2 h3=> ?_;have:=bn hpq (by simp;omega) hc e (kf x.1) h1 h2 (by simp[h3]);exact⟨fun h4=> this (by rw[h4];rfl),fun h4=> this (by rw[h4];rfl)⟩
  have kact : ∀(i:Nat)(r:cT),(ks.map (·.2))[i]? = some r->r.act=true->∃k,ks[i]? = some (k,r)/\Nat.ble 2 (kf k)=true/\(k=2\/k=3\/k=7):=by intro i r hr ha;obtain⟨k,hk⟩:=at_ i r hr;have:=(hkk i _ hk).act.1 ha;refine⟨k,hk, ?_,this⟩;rcases this with h |h |h<;>(simp only[]at h;subst h;rfl)
  have kqu : ∀(i:Nat)(r:cT),(ks.map (·.2))[i]? = some r->r.act=false->bW ops.toList r.tm r.o=some true->bB T r.s r.tm r.o.op=some (r.u,r.s')->∃k,ks[i]? = some (k,r)/\kf k=1:=by intro i r hr ha hw hl;obtain⟨k,hk⟩:=at_ i r hr;refine⟨k,hk, ?_⟩;rcases(hkk i _ hk).lk ha hw hl with h |h<;>(simp only[]at h;subst h;rfl)
  have succ : ∀(l:List Nat)(a k:Nat),l[a]? = some k->iP (l.take (a+1))=iP (l.take a)+RE k:=by
    intro l;induction l with
    |nil=> intro a k h;simp at h|cons x l ih=>
      intro a k h;cases a with
      |zero=> simp at h;subst h;simp[iP]|succ a=> simp only[zH]at h;simp only[List.take_succ_cons,iP];rw[ih a k h];omega
  have rK:Nat.ble 2 1=false:=rfl;have nJ:Nat.beq 1 1=true:=rfl;refine⟨fun i k r q hr hq ha hb hlt=> ?_,fun i k r q hr hq ha hw hl hb hlt=> ?_,fun i k r q hr hq ha hw hl hb hlt=> ?_⟩;obtain⟨ki,h1,h2,_⟩:=kact i r hr ha;obtain⟨kk,h3,h4,_⟩:=kact k q hq hb;obtain⟨mi,mk,e1,e2,e3⟩:=chk i k ki kk r q h1 h3;simp only[HZ,h2,h4,zC,lX hlt]at e3;exact⟨mi,e1,e3⟩;obtain⟨ki,h1,Gm⟩:=kqu i r hr ha hw hl;obtain⟨kk,h3,h4,_⟩:=kact k q hq hb;obtain⟨mi,mk,e1,e2,e3⟩:=chk i k ki kk r q h1 h3;simp only[HZ,Gm,rK,nJ,h4,zC,zD,lX hlt,Bool.or_eq_true]at e3;rcases e3 with e3 |e3 |e3;exact .inl ⟨mi,e1,e3⟩;have:=nomv k i (by omega) (by have:=(zG.1 h1).1;omega) (Nat.eq_of_beq_eq_true e3);exact .inr (.inl (by simpa[dR,h1,h3]using this));have:=Cf hpr _ (ZU e3);simp only[UC,gG,h1,h3,lX hlt,zC]at this;exact .inr (.inr this);obtain⟨ki,h1,Gm⟩:=kqu i r hr ha hw hl;obtain⟨kk,h3,h4,_⟩:=kact k q hq hb;obtain⟨mi,mk,e1,e2,e3⟩:=chk i k ki kk r q h1 h3;simp only[HZ,Gm,rK,nJ,h4,zC,zD,A0 (show ¬ k<i by omega),Bool.or_eq_true]at e3;rcases e3 with e3 |e3 |e3;exact .inl ⟨mk,e2,e3⟩;have hc:iP ((ks.map fun x=> kf x.1).take i)=iP ((ks.map fun x=> kf x.1).take (k+1)):=by rw[succ _ k (kf kk) (by simp[h3])];exact Nat.eq_of_beq_eq_true e3
  have:=nomv i (k+1) (by omega) (by have:=(zG.1 h3).1;omega) hc;have h2:=(htr.all k q hq).2.2.1;rw[h2]at this;exact .inr (.inl (by simpa[dR,h1]using this.symm));have:=Cf hpr _ (ZU e3);simp only[UC,gG,h1,h3,A0 (show ¬ k<i by omega),zD]at this;exact .inr (.inr this)
end
def wX:Sg->List (Nat×Option Nat×List U×TypeId)->Sg
 | σ,[]=>σ| σ,x::r=>wX (cY σ (.row x.2.2.1 x.2.2.2)) r
def rY:Nat->List (Nat×Option Nat×List U×TypeId)->List Al
 |_,[]=>[]|n,x::r=>⟨x.1,n,x.2.1,x.2.2.1,x.2.2.2⟩::rY (n+1) r
theorem UX:∀(L:List (Nat×Option Nat×List U×TypeId))(σ:Sg),(wX σ L).nx=σ.nx+L.length
 |[],σ=>rfl|x::r,σ=>by simp only[wX,UX r,cY,zO];omega
theorem UL:∀{L:List (Nat×Option Nat×List U×TypeId)}{n:Nat}{al:Al},al∈rY n L->n<=al.k/\al.k<n+L.length
 |[],n,al,h=>by cases h
 |x::r,n,al,h=>by rcases zI.1 h with rfl |h;simp;have:=UL h;simp only[zO];omega
theorem sg:∀{L:List (Nat×Option Nat×List U×TypeId)}{n:Nat}{a b:Al},a∈rY n L->b∈rY n L->a.k=b.k->a=b
 |[],n,a,b,h,_,_=>by cases h
 |x::r,n,a,b,ha,hb,hk=>by rcases zI.1 ha with rfl |ha;rcases zI.1 hb with rfl |hb;rfl;have:=UL hb;simp only at hk;omega;rcases zI.1 hb with rfl |hb;have:=UL ha;simp only at hk;omega;exact sg ha hb hk
theorem Xn:∀(L:List (Nat×Option Nat×List U×TypeId))(σ:Sg){j:Nat},(∀al∈rY σ.nx L,al.k≠j)->gt (wX σ L).h j=gt σ.h j
 |[],σ,j,_=>rfl|x::r,σ,j,hj=>by have h1:=hj ⟨x.1,σ.nx,x.2.1,x.2.2.1,x.2.2.2⟩ (by simp[rY]);simp only[wX];rw[Xn r (cY σ (.row x.2.2.1 x.2.2.2)) fun al hm=>hj al (by simp only[rY,zI];exact .inr hm)];simp only[cY,d8];rw[if_neg h1]
theorem cj:∀{L:List (Nat×Option Nat×List U×TypeId)}{σ:Sg}{al:Al},al∈rY σ.nx L->gt (wX σ L).h al.k=some (.row al.l al.e)
 |[],σ,al,h=>by cases h
 |x::r,σ,al,h=>by rcases zI.1 h with rfl |h;simp only[wX];rw[Xn r (cY σ (.row x.2.2.1 x.2.2.2)) fun al hm=>?_];simp[cY,d8];have:=UL hm;simp only[cY]at this;omega;exact cj (σ:=cY σ (.row x.2.2.1 x.2.2.2)) h
def La:List (Nat×Option Nat×List U×TypeId)->Prop
 |[]=>True|x::r=>aG 0 x.2.2.1/\La r
theorem cq:∀{L:List (Nat×Option Nat×List U×TypeId)}{n:Nat},La L->∀al∈rY n L,aG 0 al.l
 |[],n,_,al,h=>by cases h
 |x::r,n,hz,al,h=>by rcases zI.1 h with rfl |h;exact hz.1;exact cq hz.2 al h
section
variable{C:PG}{T:Tb}(hT:iW C.prog T){n0:Nat}{Q:Exit->List U->Sg->Prop}{tm:List U}{σ:Sg}
include hT
theorem WPU.drawA{id:Nat}{ops:Array Oper}(L:List (Nat×Option Nat×List U×TypeId))(pr:List (Nat×Nat))(hst:ES ops.toList=true)(hL:L≠[])(hz:La L)
  (h:RA C.prog T ops.toList σ.nx ⟨σ.h,σ.nx+L.length⟩ (rY σ.nx L) ops.toList tm (wX σ L) [] (rY σ.nx L) (fun ks tm' σ'=>Ix ops.toList (ks.reverse.map fun x=>kf x.1) pr=true/\U4 (L.map (·.1)) (ks.reverse.map (·.1)) (c7 ops.toList [])=true/\P5 T ks.reverse pr/\Q .normal tm' σ')):WPU C n0 (.region id ops true) tm σ Q:=fun hn F x tv m w a b0 hx st hG hd ro hro=>by
 obtain⟨ks,tm',σ',⟨hfl,hlate,hpr,hQ⟩,g2,g3,g4,g5,g9,g6,g7⟩:=JI _ _ _ _ _ _ h;simp only[List.append_nil,List.reverse_reverse,zS,Nat.zero_add]at hfl hlate hpr g6 g7 g9;have ati:∀(i:Nat)(r:cT),(ks.map (·.2))[i]? = some r->∃k,ks[i]? = some (k,r):=by intro i r hr;simp only[List.getElem?_map]at hr;rcases hk:ks[i]? with _|x;rw[hk]at hr;simp at hr;obtain⟨k,r'⟩:=x;rw[hk]at hr;simp at hr;subst hr;exact⟨k,rfl⟩
 have htr:XI C.prog T ops.toList tm (wX σ L) (ks.map (·.2)) tm' σ':=⟨by simpa using g2,g3,g4,fun i r hr=>by obtain⟨k,hk⟩:=ati i r hr;obtain⟨a,b,c,d⟩:=g5 i _ hk;exact⟨a,b.good,c,d⟩⟩;have hch:Jz T ops.toList (ks.map (·.2)):=SX hst htr (fun i x hx=>(g5 i x hx).2.1) hfl hpr;have inai:∀al∈rY σ.nx L,al.i∈L.map (·.1):=by
  have:∀(L:List (Nat×Option Nat×List U×TypeId))(n:Nat),∀al∈rY n L,al.i∈L.map (·.1):=by
   intro L;induction L with
   |nil=>intro n al h;cases h|cons x r ih=>intro n al h;rcases zI.1 h with rfl |h;simp;simp only[zQ,zI];exact .inr (ih _ al h)
  exact this L σ.nx
 have late:∀(i k:Nat)(r:cT),ks[i]? = some (k,r)->1<=k->k<=3->∀al∈rY σ.nx L,Pre ops.toList i al.i:=fun i k r hk h1 h3 al hm=>by obtain⟨mk,e1,e2⟩:=gz hlate (i:=i) (k:=k) (by simp[hk]) h1 h3;exact⟨mk,e1,e2 _ (inai al hm)⟩
 have hal:ChA C.prog T ops.toList tm σ (wX σ L) (ks.map (·.2)) (rY σ.nx L):=by
  refine⟨?_,fun al hm=>by rw[UX];exact UL hm,fun a ha b hb hk=>by rw[sg ha hb hk],by rw[UX];omega,fun al hm=>?_,cq hz,fun i r hr ha hv=>?_,fun al hm=>cj hm,fun j hj=>Xn L σ hj,fun i r hr ha=>?_,fun i r hr ha hv=>?_⟩;rcases L with _|⟨x,r⟩;exact absurd rfl hL;simp[rY];obtain⟨i,x,d,e1,e2,e3,e4,e5,e6,e7⟩:=g7 al hm;have hk:=(g5 i x e2).2.1;have hact:x.2.act=false:=by rcases hb:x.2.act with _|_;rfl;have:=hk.act.1 hb;omega
  exact⟨x.2,d,by rw[e1];simp[e2],e4,hact,(hk.mv hact).2 e3,e5,e6,e7⟩;obtain⟨k,hk⟩:=ati i r hr;have:=((g5 i _ hk).2.1.mv ha).1 hv;exact g6 i _ hk this;obtain⟨k,hk⟩:=ati i r hr;have:=(g5 i _ hk).2.1.act.1 ha;simp only[]at this;by_cases h7:k=7;exact .inr (g9 i _ hk h7);exact .inl (late i k r hk (by omega) (by omega));obtain⟨k,hk⟩:=ati i r hr;rcases(g5 i _ hk).2.1.ear ha hv with h |h;simp only[]at h;exact .inl (late i k r hk (by omega) (by omega));rw[UX];exact .inr h
 subst hx;have hup:Mo x.σ.nx x ⟨x.ρ,⟨x.σ.h,(wX x.σ L).nx⟩,x.s⟩:=⟨fun k _ h2=>⟨by simp only[UX];omega,fun b hb=>⟨b,hb,zF _,fun _=>⟨rfl,fun l e sz st h=>⟨l,h⟩⟩⟩⟩,fun _ _ _ h=>h⟩;have hbr:∀j b,gt x.σ.h j=some b->j<x.σ.nx/\kH x.σ.nx b:=fun j b hb=>⟨(st.h.ok j b hb).1,(st.h.ok j b hb).2.belB⟩;have hno:∀k,(Array.replicate ops.size false).getD k false=false:=fun k=>by by_cases hk:k<ops.size<;>simp[Array.getD,hk]
 refine wpIn_region_any hT.mixed ?_;refine z9p (ro:=ro) hT ops htr hst hch hal hn st.e.bel hbr (F:=F) (x0:=x) (m0:=m) (w0:=w) (df:=a.defers) (fun y tv' m' w' a' h1 h2 h3 h4 h5 h6=>⟨y,tm',tv',m',h1 ▸ hQ,h2,h3,h4,h5,by rw[h6];exact hd.adv st.fits h3⟩) ops.size (Array.replicate ops.size false) a _ m tm tv ⟨x.ρ,⟨x.σ.h,(wX x.σ L).nx⟩,x.s⟩ 0 (Nat.zero_le _) (fun e r _ _=>by rw[hno];simp) (by simp) (by simp) ?_ ?_ ?_ rfl ?_ (fun _ _=>rfl) ?_ ?_ (hup.ke.le hn) rfl;intro k q hk;rw[hno]at hk;cases hk;have:=Yj (rs:=ks.map (·.2)) (tm₀:=tm);exact⟨this.len,fun k r d _ _ _ hL=>(by rw[hno]at hL;cases hL),fun k r d g1 g2 _=>this.no k r d g1 g2 (fun x=>x),this.other⟩;rcases hA:rY x.σ.nx L with _|⟨al,r⟩;exact absurd hA hal.some;exact⟨al,by simp,by rw[hno];simp⟩;intro al hm;rw[hno];simp only[Bool.false_eq_true,if_false];rcases hg:gt x.σ.h al.k with _|b;rfl;have:=(hbr _ _ hg).1;have:=(UL hm).1;omega;refine⟨⟨fun k b hb=>?_,st.h.inj,st.h.bd⟩,st.fr,hup.ke.E st.e.bel st.e,(bD.draw _ st.fits).fits,st.act⟩;obtain⟨h1,h2⟩:=st.h.ok k b hb;exact⟨by simp only[UX];omega,h2.mono hup rfl fun _ _ _ h=>h⟩;exact bD.draw _ st.fits
end
section
variable{P:Program}{T:Tb}{ops r:List Oper}{o:Oper}{n nb:Nat}{σe:Sg}{l:List (Nat×U)}{σ σ':Sg}{acc:List RK}{q qa:List Al}{K:List RK->List U->Sg->Prop}{u:U}
variable{d:Tmp}
theorem RQ.look(hw:bW ops (fr n l) o=some true)(h:bB T σ (fr n l) o.op=some (u,σ))(he:o.dst=some d)(hd:Nat.blt d n=true)(hk:RA P T ops nb σe qa r (fr n ((d,u)::l)) σ ((1,⟨fr n l,o,u,false,false,σ,σ⟩)::acc) q K):RA P T ops nb σe qa (o::r) (fr n l) σ acc q K :=
 .inl ⟨hw,u,h,by rw[he,oL (d:=some d) u hd];exact hk⟩
theorem RQ.act(hw:bW ops (fr n l) o=some true)(h:bB T σ (fr n l) o.op=some (u,σ'))(he:o.dst=some d)(hd:Nat.blt d n=true)(hk:RA P T ops nb σe qa r (fr n ((d,u)::l)) σ' ((3,⟨fr n l,o,u,true,true,σ,σ'⟩)::acc) q K):RA P T ops nb σe qa (o::r) (fr n l) σ acc q K :=
 .inr (.inl ⟨hw,u,σ',h,by rw[he,oL (d:=some d) u hd];exact hk⟩)
theorem RQ.actn(hw:bW ops (fr n l) o=some true)(h:bB T σ (fr n l) o.op=some (u,σ'))(he:o.dst=none)(hk:RA P T ops nb σe qa r (fr n l) σ' ((3,⟨fr n l,o,u,true,true,σ,σ'⟩)::acc) q K):RA P T ops nb σe qa (o::r) (fr n l) σ acc q K :=
 .inr (.inl ⟨hw,u,σ',h,by rw[he];exact hk⟩)
variable{f:FuncId}
variable{args:List U}
theorem RQ.call(hw:bW ops (fr n l) o=some true)(hc:i9 T (fr n l) o.op=some (f,args))(hev:aY P f args σ (fun u' σ'=>u'=u/\σ'=σ))(he:o.dst=some d)(hd:Nat.blt d n=true)(hk:RA P T ops nb σe qa r (fr n ((d,u)::l)) σ ((2,⟨fr n l,o,u,true,false,σ,σ⟩)::acc) q K):RA P T ops nb σe qa (o::r) (fr n l) σ acc q K :=
 .inr (.inr (.inl ⟨hw,f,args,u,hc,hev,by rw[he,oL (d:=some d) u hd];exact hk⟩))
theorem RQ.free(hw:bW ops (fr n l) o=some true)(hc:i9 T (fr n l) o.op=some (f,args))(hev:∀s,aY P f args s (fun u' σ'=>u'=u/\σ'=s))(hb:aU nb u)(he:o.dst=some d)(hd:Nat.blt d n=true)(hk:RA P T ops nb σe qa r (fr n ((d,u)::l)) σ ((6,⟨fr n l,o,u,false,false,σ,σ⟩)::acc) q K):RA P T ops nb σe qa (o::r) (fr n l) σ acc q K :=
 .inr (.inr (.inr (.inr (.inr (.inl ⟨hw,u,.inl ⟨f,args,hc,hev⟩,hb,by rw[he,oL (d:=some d) u hd];exact hk⟩)))))
theorem RQ.early(hw:bW ops (fr n l) o=some true)(h:bB T σ (fr n l) o.op=some (u,σ))(h0:bB T σe (fr n l) o.op=some (u,σe))(hn:OM o.op=true)(hb:aU nb u)(he:o.dst=some d)(hd:Nat.blt d n=true)(hk:RA P T ops nb σe qa r (fr n ((d,u)::l)) σ ((5,⟨fr n l,o,u,false,false,σ,σ⟩)::acc) q K):RA P T ops nb σe qa (o::r) (fr n l) σ acc q K :=
 .inr (.inr (.inr (.inr (.inr (.inr (.inl ⟨hw,u,h,h0,hn,hb,by rw[he,oL (d:=some d) u hd];exact hk⟩))))))
theorem RQ.alloc{al:Al}(hi:al.i=acc.length)(ho:∀s,bB T s (fr n l) o.op=some (nN al.o s.nx,cY s (.row al.l al.e)))(hg:o.guard=none)(he:o.dst=some d)(hd:Nat.blt d n=true)(hk:RA P T ops nb σe qa r (fr n ((d,nN al.o al.k)::l)) σ ((4,⟨fr n l,o,nN al.o al.k,false,true,σ,σ⟩)::acc) q K):RA P T ops nb σe qa (o::r) (fr n l) σ acc (al::q) K :=
 .inr (.inr (.inr (.inr (.inr (.inr (.inr (.inl ⟨al,q,d,rfl,hi,.inl ho,hg,he,by rw[he,oL (d:=some d) _ hd];exact hk⟩)))))))
theorem RQ.mcall{al:Al}(hi:al.i=acc.length)(hc:i9 T (fr n l) o.op=some (f,args))(ho:∀s,aY P f args s (fun u s'=>u=nN al.o s.nx/\s'=cY s (.row al.l al.e)))(hg:o.guard=none)(he:o.dst=some d)(hd:Nat.blt d n=true)(hk:RA P T ops nb σe qa r (fr n ((d,nN al.o al.k)::l)) σ ((4,⟨fr n l,o,nN al.o al.k,false,true,σ,σ⟩)::acc) q K):RA P T ops nb σe qa (o::r) (fr n l) σ acc (al::q) K :=
 .inr (.inr (.inr (.inr (.inr (.inr (.inr (.inl ⟨al,q,d,rfl,hi,.inr ⟨f,args,hc,ho⟩,hg,he,by rw[he,oL (d:=some d) _ hd];exact hk⟩)))))))
theorem RQ.done(h:K acc (fr n l) σ):RA P T ops nb σe qa [] (fr n l) σ acc [] K:=⟨rfl,h⟩
end
section
variable{C:PG}{T:Tb}(hT:iW C.prog T){n0:Nat}{Q:Exit->List U->Sg->Prop}{tm:List U}{σ:Sg}
include hT
theorem WPU.drawQ{id:Nat}{ops:Array Oper}(L:List (Nat×Option Nat×List U×TypeId))(pr:List (Nat×Nat)){nb:Nat}{σe σ1:Sg}{q:List Al}(hst:ES ops.toList=true)(hL:L≠[])(hz:La L)
  (h1:σ.nx=nb) (h2:(⟨σ.h,σ.nx+L.length⟩:Sg)=σe) (h3:wX σ L=σ1) (h4:rY σ.nx L=q)
  (h:RA C.prog T ops.toList nb σe q ops.toList tm σ1 [] q (fun ks tm' σ'=>Ix ops.toList (ks.reverse.map fun x=>kf x.1) pr=true/\U4 (L.map (·.1)) (ks.reverse.map (·.1)) (c7 ops.toList [])=true/\P5 T ks.reverse pr/\Q .normal tm' σ')):WPU C n0 (.region id ops true) tm σ Q:=by
 subst h1 h2 h3 h4;exact WPU.drawA hT L pr hst hL hz h
end
variable{T:Tb}
variable{t:TypeId}
variable{e:TypeId}
variable{sz:Nat}
variable{z:Value}
theorem qug{P:Program}(hT:iW P T){m:Nm}{s:S}(w:World){by_ n:Nat}{ps:List (Nat×Value)}{cps:List (Nat×Value)}{cs:List Value}
  (hps:∀m',aH s.nx m m'->ps.map (fun p=>(p.1,aD m' p.2))=cps) (hd:T.und t=some (.slice e)) (hi:T.inf e=some (sz,by_,z)) (h1:Nat.ble (n*sz) 16777216=true) (h2:z.cells.toList.length=sz)
  (h3:xB (fun i=>some (i*sz,sz)) (bR z.cells.toList n) ps=some cs):
  ∃cl,kN m s.nx cs cl/\(Instr.buildSlice t n cps.toArray).run P w=.ok (.slice (some ⟨w.heap.size,0,none⟩) n n) (w.alloc (.cells ⟨cl⟩ e)):=by
 have hsz:bZ T e=some sz:=by simp[bZ,hi]
 have hz:=fun m'=>BT hT m' w hi;have hzc:=VD hT hi;simp only at hz hzc;have sJ:n*sz<=16777216:=by simpa[Nat.ble_eq]using h1
 have hfill:∀m',aH s.nx m m'->Instr.fill (fun i=>some (i*sz,sz)) ⟨bR z.cells.toList n⟩ cps=some ⟨aE m' cs⟩:=fun m' ha=>by have:=ZV m' _ ps _ _ h3;rw[hps m' ha,Aq hzc]at this;exact this
 have hcl:kN m s.nx cs (aE m cs):=fun m' ha=>by have e1:=hfill m' ha;have e2:=hfill m (aH.refl _ _);rw[e1]at e2;simpa using e2
 have hcells:z.cells.size=sz:=by simpa using h2
 refine⟨aE m cs,hcl,?_⟩;have hzeros:(Array.range (n*sz)).map (fun i=>(if n*sz=0 then(#[]:Array Value)else z.cells)[i%(if n*sz=0 then(#[]:Array Value)else z.cells).size]!)=⟨bR z.cells.toList n⟩:=by
  by_cases h0:n*sz=0;rw[h0];apply Array.ext';have:(bR z.cells.toList n).length=0:=by rw[Mu,h2,h0]
  simp[List.length_eq_zero_iff.1 this];simp only[if_neg h0];have:=ZX z.cells n;rw[hcells]at this;rw[<-this];simp[hcells]
 have LM:=hfill m (aH.refl _ _);have hnot:¬ n*sz>2^24:=by omega
 have hzz:=(hz m).1;by_cases h0:n*sz=0;simp only[if_pos h0]at hzeros;simp only[Instr.buildSlice,zK,fS hT w hd,zJ,kS hT w hsz,Sem.run_ite,if_neg hnot,zL,if_pos h0];rw[hzeros,LM];simp[Go.newRow];simp only[if_neg h0]at hzeros;simp only[Instr.buildSlice,zK,fS hT w hd,zJ,kS hT w hsz,Sem.run_ite,if_neg hnot,zL,if_neg h0,hzz];rw[hzeros,LM];simp[Go.newRow]
theorem BJ.bslw{C:PG}(hT:iW C.prog T){σ:Sg}{tm:List U}{o:Oper}{k b:Nat}{zu cs0 cs:List U}{ps:Array (Nat×Operand)}{qs:List (Nat×U)}(ho:o.op=.buildSlice t k ps)(hd:T.und t=some (.slice e))(hi:T.inf e=some (sz,b,z))
  (h:tY tm ps.toList=some qs) (h1:Nat.ble (k*sz) 16777216=true) (h3:Nat.beq z.cells.toList.length sz=true) (hz:mR z.cells.toList=some zu) (hf:pU (fun i=>some (i*sz,sz)) (qK zu k) qs=some cs0) (hw:nO cs0 cs) (hk:okL cs=true) (hl:Nat.beq cs.length (k*sz)=true) (hs:Nat.blt 0 sz=true):
  BJ C σ tm o (fun u σ'=>u=.vl σ.nx 0 0 k/\σ'=cY σ (.vec cs e sz 0)):=fun F x tv m w a next Q hxσ st hG hn ro hro=>by
 subst hxσ;obtain⟨vs,ev,hp⟩:=Yd st.e h;have hzr:=(GP _ _ hz).2 x;obtain⟨rv,f1,f2⟩:=Ak hp (V5 hzr k) hf;have f2:aX x cs rv:=⟨hw.rel f2.1,by rw[hw.len];exact f2.2⟩;have h2:z.cells.toList.length=sz:=by simpa[beq_eq]using h3
 obtain⟨cl,g1,g2⟩:=qug hT (m:=m) (s:=x.s) w (cps:=ps.toList.map fun p=>(p.1,a.eval p.2)) (fun m' hm'=>(Xg (st.act m' hm') ev).symm) hd hi h1 h2 f1;have e1:(ps.map fun(i,x)=>(i,a.eval x))=(ps.toList.map fun p=>(p.1,a.eval p.2)).toArray:=by cases ps;simp
 have hrun:(execOp a.eval o).run C.prog w=.ok (.value (.slice (some ⟨w.heap.size,0,none⟩) k k)) (w.alloc (.cells ⟨cl⟩ e)):=by simp only[execOp,ho];rw[e1];simp only[zK,g2,zJ,zL]
 have hlen:rv.length=k*sz:=by
  have h5:=f2.2;have h6:cs.length=k*sz:=by simpa[beq_eq]using hl
  rw[<-h5,h6]
 have hadv:bD m x.s w (m.set x.s.nx w.heap.size 0 k) (Rx.newRow x.s rv e (sz+2)) (w.alloc (.cells ⟨cl⟩ e)):=by have:=Oq st.fits (rest:=[]) g1 e k sz (by simpa using hlen);simpa using this
 have hsz:0<sz:=by simpa[Nat.blt_eq]using hs
 have hout:=Nl st.h f2 hk e hsz;have hrel:dW (m.set x.s.nx w.heap.size 0 k) (x.s.nx+1) (.slice (some ⟨x.s.nx,0,none⟩) k bL) (.slice (some ⟨w.heap.size,0,none⟩) k k):=fun m' ha=>by obtain⟨q1,q2,q3⟩:=ha x.s.nx (zN _);obtain⟨r1,r2,r3⟩:=vX m x.s.nx w.heap.size 0 k;simp[aD,q1,q2,r1,r2,bJ,bE,q3,r3]
 refine tZ (by rw[ho];intro c hc;cases hc) ?_;unfold Oper.wp;rw[hrun];exact hn _ ⟨jI x.ρ x.σ.nx (some x.s.nx),cY x.σ (.vec cs e sz 0),Rx.newRow x.s rv e (sz+2)⟩ (FR tv o.dst (.slice (some ⟨x.s.nx,0,none⟩) k bL)) _ _ _ ⟨rfl,rfl⟩
  ⟨hout.h,hout.fr F st.fr,ZS (hout.mo.ke.E st.e.bel st.e) Ng _,hadv.fits,(st.act.ext hadv.agree hadv.nx).put hrel o.dst⟩ hadv hout.mo.ke hout.mo.nx (H8 _ _ _)
theorem BJ.bslv{C:PG}(hT:iW C.prog T){σ:Sg}{tm:List U}{o:Oper}{k b:Nat}{zu cs:List U}{ps:Array (Nat×Operand)}{qs:List (Nat×U)}(ho:o.op=.buildSlice t k ps)(hd:T.und t=some (.slice e))(hi:T.inf e=some (sz,b,z))
  (h:tY tm ps.toList=some qs) (h1:Nat.ble (k*sz) 16777216=true) (h3:Nat.beq z.cells.toList.length sz=true) (hz:mR z.cells.toList=some zu) (hf:pU (fun i=>some (i*sz,sz)) (qK zu k) qs=some cs) (hk:okL cs=true) (hl:Nat.beq cs.length (k*sz)=true) (hs:Nat.blt 0 sz=true):
  BJ C σ tm o (fun u σ'=>u=.vl σ.nx 0 0 k/\σ'=cY σ (.vec cs e sz 0)):=BJ.bslw hT ho hd hi h h1 h3 hz hf (nO.refl _) hk hl hs
def uB(K K2 k:Nat):Nat:=cond (Nat.beq k K) K2 k
def FF(K K2:Nat):List (Nat×B)->List (Nat×B)
 |[]=>[]|(k,b)::h=>cond (Nat.beq k K) (FF K K2 h) (cond (Nat.beq k K2) ((K,b)::FF K K2 h) ((k,b)::FF K K2 h))
theorem Ul{K K2:Nat}(hne:K≠K2):∀(h:List (Nat×B))(j:Nat),gt (FF K K2 h) j=if j=K then gt h K2 else if j=K2 then none else gt h j
 |[],j=>by simp[FF,gt]
 |(k,b)::h,j=>by have ih:=Ul hne h j;simp only[FF,beq_eq];by_cases e1:k=K;subst e1;simp only[yC,zC,ih,d8];by_cases e2:j=k;subst e2;simp[hne];simp[e2,Ne.symm e2];by_cases e2:k=K2;subst e2;simp only[e1,yB,zD,yC,zC,d8,ih];by_cases e3:j=K;subst e3;simp;by_cases e4:j=k;simp[e4,e1,Ne.symm e3];intro h;exact absurd h.symm e1;simp[e3,e4,Ne.symm e3,Ne.symm e4];simp only[e1,e2,yB,zD,d8,ih];by_cases e3:j=K;subst e3;simp[e1,e2];by_cases e4:j=K2;subst e4;simp[e3,e2];simp[e3,e4]
def rS(π:Nat->Nat):List (Nat×U)->List (Nat×U)
 |[]=>[]|(i,u)::l=>(i,rU π u)::rS π l
theorem gp(π:Nat->Nat):∀(l:List (Nat×U))(i:Nat),kQ (rS π l) i=(kQ l i).map (rU π)
 |[],i=>rfl|(j,u)::l,i=>by simp only[rS,kQ,beq_eq,gp π l i];by_cases e:j=i<;>simp[e]
theorem lu(π:Nat->Nat):∀(l:List U)(i:Nat),(gJ π l)[i]? = (l[i]?).map (rU π)
 |[],i=>by simp[gJ]
 |u::l,0=>by simp[gJ]
 |u::l,i+1=>by simp[gJ,lu π l i]
theorem OJ(π:Nat->Nat)(n:Nat)(l:List (Nat×U)):gJ π (fr n l)=fr n (rS π l):=by
 apply List.ext_getElem?;intro k;rw[lu];by_cases hk:k<n;rw[GN n l hk,GN n _ hk,gp];rcases kQ l k with _|w;simp[rU];rfl;rw[List.getElem?_eq_none (by simp[zP];omega),List.getElem?_eq_none (by simp[zP];omega)];rfl
def Jo(π:Nat->Nat):List (Nat×B)->Prop
 |[]=>True|(_,b)::h=>rB π b=b/\Jo π h
theorem ye{π:Nat->Nat}:∀{h:List (Nat×B)},Jo π h->∀k b,gt h k=some b->rB π b=b
 |[],_,k,b,hg=>by cases hg
 |(j,c)::h,ha,k,b,hg=>by rw[d8]at hg;by_cases e:j=k;rw[if_pos e]at hg;cases hg;exact ha.1;rw[if_neg e]at hg;exact ye ha.2 k b hg
theorem Gh.mv{n0 n:Nat}{l l':List (Nat×U)}{σ:Sg}{h':List (Nat×B)}(K K2:Nat)(h0:n0<=K)(hK:Nat.blt K σ.nx=true)(hne:Nat.beq K K2=false)(hl:rS (uB K K2) l'=l)(hm:FF K K2 σ.h=h')(ha:Jo (uB K K2) h')[hb:BS σ.nx l']:Gh n0 (fr n l) σ (fr n l') ⟨h',σ.nx⟩:=fun F x tv hx hr hf he=>by
 subst hx;subst hl;subst hm;have hK':K<x.σ.nx:=by simpa[Nat.blt_eq]using hK
 have hne':K≠K2:=by simpa[beq_eq]using hne
 have key:∀k b,gt (FF K K2 x.σ.h) k=some b->gt x.σ.h (uB K K2 k)=some b:=fun k b hg=>by rw[Ul hne']at hg;simp only[uB,beq_eq];by_cases e:k=K;rw[if_pos e]at hg;simpa[e]using hg;rw[if_neg e]at hg;by_cases e2:k=K2;rw[if_pos e2]at hg;cases hg;rw[if_neg e2]at hg;simpa[e]using hg
 let y:Cx:=⟨fun k=>x.ρ (uB K K2 k),⟨FF K K2 x.σ.h,x.σ.nx⟩,x.s⟩
 have hU:P2 x.σ.nx (uB K K2) x y:=⟨fun k st off v hk h=>by
   simp only[aA,Ref]at h ⊢;exact⟨h.1,hk,fun b hb=>h.2.2 b (key k b hb)⟩,fun k off m c v hk h=>by
   simp only[aA,Ref]at h ⊢;exact⟨h.1,hk,fun b hb=>h.2.2 b (key k b hb)⟩,fun k st off m v hk h=>by
   simp only[aA]at h ⊢;exact⟨h.1,hk,fun b hb=>h.2.2 b (key k b hb)⟩,fun k v hk h=>by
   simp only[aA,Ref]at h ⊢;exact⟨h.1,hk,fun b hb=>h.2.2 b (key k b hb)⟩,fun _ _ _ h=>h⟩
 have hback:∀u,aU n0 u->rU (uB K K2) u=u:=fun u hbu=>by
  have:=ll (π:=id) (κ:=uB K K2) (n:=n0) (fun k hk=>by
   have:¬ k=K:=by omega
   simp[uB,beq_eq,this]) u hbu
  rwa [Vd]at this
 refine⟨y,fun m w hf=>bD.refl hf,rfl,⟨fun k b hb=>?_,fun k k' b b' i hb hb' h1 h2=>?_,hr.bd⟩,fun i b J=>?_,?_,fun u v hbu hv=>?_⟩;have hg:=key k b hb;obtain⟨g1,g2⟩:=hr.ok _ _ hg;have hkl:k<x.σ.nx:=by
  by_cases e:k=K;omega;have e2:uB K K2 k=k:=by simp[uB,beq_eq,e]
  rw[e2]at g1;exact g1
 refine⟨hkl,lO.unleaf hU g2.belB rfl (fun _ _ _ h=>h) ?_⟩;rw[ye ha k b hb];exact g2;have e:=hr.inj _ _ b b' i (key k b hb) (key k' b' hb') h1 h2;have RP:∀k b,gt (FF K K2 x.σ.h) k=some b->k≠K2:=fun k b hb h=>by subst h;rw[Ul hne',if_neg (Ne.symm hne'),if_pos rfl]at hb;cases hb
 have q1:=RP k b hb;have q2:=RP k' b' hb';simp only[uB,beq_eq]at e;by_cases e1:k=K;by_cases e2:k'=K;rw[e1,e2];simp[e1,e2]at e;exact absurd e.symm q2;by_cases e2:k'=K;simp[e1,e2]at e;exact absurd e q1;simpa[e1,e2]using e;obtain⟨h1,h2⟩:=hf i b J;exact⟨h1,fun k c hc=>h2 _ c (key k c hc)⟩;refine aX.unleaf hU (Me hb.h) ?_;rw[OJ];exact he;exact aA.unleaf hU u v (aU.le (by omega) u hbu) (by rw[hback u hbu];exact hv)
variable{T:Tb}{σ:Sg}
variable{e:TypeId}
theorem ON{t:TypeId}{m sz k st off:Nat}{i:Int}{kd:IntKind}(hd:T.und t=some (.array m e))(hs:bZ T e=some sz)(hl:bH σ k st=true)(hi:0<=i/\i<m){off':Nat}(ho:off+i.toNat*sz=off'):uR T σ t (.ptr k st off) (.int kd i)=some (.ptr k st off'):=by
 subst ho;simp only[uR,hd,hs,hl,zC,if_pos hi]
theorem Fe{t:TypeId}{k st off:Nat}{op:BinOp}{u:U}(hd:T.und t=some (.pointer e))(hl:bH σ k st=true)(hu:N5 op=some u):GH T σ op t (.ptr k st off) .nilp=some u:=by
 simp only[GH,pB,hd,dG,hl,xF,hu,zC,Nat.beq,zD]
theorem Kc{α:Type}(c:α->List U){n0 n:Nat}{l l':List (Nat×U)}{σ σ':Sg}{K:Nat}{xs:List α}{sz st:Nat}(hc:∀x,(c x).length=sz)(hg:gt σ.h K=some (.vec (xs.map c).flatten e sz st))(j:Nat)(ht:AK l l')(hs:(⟨ug σ.h K (.vec ((xs.take j).map c).flatten e sz st),σ.nx⟩:Sg)=σ'):Gh n0 (fr n l) σ (fr n l') σ' :=
 Gh.trans (Gh.truncL c hc hg j) (m7 ht hs)
end Go.Vx
namespace Go.Proofs
open Go Go.Rx
theorem fn3:Tryz.tb.fn 3=some Tryz.f3:=by kernel_rfl
theorem Tryz.hb3:Tryz.f3.body.isSome=true:=rfl
theorem Tryz.hb4:Tryz.f4.body.isSome=true:=rfl
theorem fn9:Tryz.tb.fn 9=some Tryz.f9:=by kernel_rfl
theorem Iw:Tryz.tb.fn 10=some Tryz.f10:=by kernel_rfl
theorem SK:Tryz.tb.fn 11=some Tryz.f11:=by kernel_rfl
theorem SJ:Tryz.tb.fn 12=some Tryz.f12:=by kernel_rfl
theorem Tryz.hb12:Tryz.f12.body.isSome=true:=rfl
theorem Iv:Tryz.tb.fn 13=some Tryz.f13:=by kernel_rfl
theorem Tryz.hb13:Tryz.f13.body.isSome=true:=rfl
theorem Iu:Tryz.tb.fn 14=some Tryz.f14:=by kernel_rfl
theorem Tryz.hb14:Tryz.f14.body.isSome=true:=rfl
theorem It:Tryz.tb.fn 15=some Tryz.f15:=by kernel_rfl
theorem Tryz.hb15:Tryz.f15.body.isSome=true:=rfl
theorem D0:Tryz.tb.fn 18=some Tryz.f18:=by kernel_rfl
theorem Tryz.hb18:Tryz.f18.body.isSome=true:=rfl
theorem CZ:Tryz.tb.fn 19=some Tryz.f19:=by kernel_rfl
theorem Tryz.hb19:Tryz.f19.body.isSome=true:=rfl
theorem y4:Tryz.tb.fn 20=some Tryz.f20:=by kernel_rfl
theorem Tryz.hb20:Tryz.f20.body.isSome=true:=rfl
theorem IH:Tryz.tb.fn 21=some Tryz.f21:=by kernel_rfl
theorem Tryz.hb21:Tryz.f21.body.isSome=true:=rfl
theorem SI:Tryz.tb.fn 23=some Tryz.f23:=by kernel_rfl
theorem Tryz.hb23:Tryz.f23.body.isSome=true:=rfl
theorem vB:Tryz.tb.fn 25=some Tryz.f25:=by kernel_rfl
theorem Is:Tryz.tb.fn 26=some Tryz.f26:=by kernel_rfl
theorem vA:Tryz.tb.fn 28=some Tryz.f28:=by kernel_rfl
theorem Tryz.hb28:Tryz.f28.body.isSome=true:=rfl
theorem IG:Tryz.tb.fn 31=some Tryz.f31:=by kernel_rfl
theorem Ir:Tryz.tb.fn 32=some Tryz.f32:=by kernel_rfl
theorem Iq:Tryz.tb.fn 33=some Tryz.f33:=by kernel_rfl
theorem IF:Tryz.tb.fn 34=some Tryz.f34:=by kernel_rfl
theorem y3:Tryz.tb.fn 35=some Tryz.f35:=by kernel_rfl
theorem IE:Tryz.tb.fn 36=some Tryz.f36:=by kernel_rfl
theorem Ip:Tryz.tb.fn 37=some Tryz.f37:=by kernel_rfl
theorem Io:Tryz.tb.fn 38=some Tryz.f38:=by kernel_rfl
theorem In:Tryz.tb.fn 39=some Tryz.f39:=by kernel_rfl
theorem Im:Tryz.tb.fn 40=some Tryz.f40:=by kernel_rfl
theorem SH:Tryz.tb.fn 41=some Tryz.f41:=by kernel_rfl
theorem SG:Tryz.tb.fn 42=some Tryz.f42:=by kernel_rfl
theorem SF:Tryz.tb.fn 43=some Tryz.f43:=by kernel_rfl
theorem Tryz.hb43:Tryz.f43.body.isSome=true:=rfl
theorem SE:Tryz.tb.fn 44=some Tryz.f44:=by kernel_rfl
theorem Tryz.hb44:Tryz.f44.body.isSome=true:=rfl
theorem ID:Tryz.tb.fn 45=some Tryz.f45:=by kernel_rfl
theorem Tryz.hb45:Tryz.f45.body.isSome=true:=rfl
theorem Il:Tryz.tb.fn 46=some Tryz.f46:=by kernel_rfl
theorem Ik:Tryz.tb.fn 47=some Tryz.f47:=by kernel_rfl
theorem IC:Tryz.tb.fn 48=some Tryz.f48:=by kernel_rfl
theorem Tryz.hb48:Tryz.f48.body.isSome=true:=rfl
theorem Ij:Tryz.tb.fn 50=some Tryz.f50:=by kernel_rfl
theorem Ii:Tryz.tb.fn 51=some Tryz.f51:=by kernel_rfl
theorem Ih:Tryz.tb.fn 52=some Tryz.f52:=by kernel_rfl
theorem SD:Tryz.tb.fn 56=some Tryz.f56:=by kernel_rfl
theorem Tryz.hb56:Tryz.f56.body.isSome=true:=rfl
theorem Ig:Tryz.tb.fn 59=some Tryz.f59:=by kernel_rfl
theorem CY:Tryz.tb.fn 60=some Tryz.f60:=by kernel_rfl
theorem If:Tryz.tb.fn 61=some Tryz.f61:=by kernel_rfl
theorem Ie:Tryz.tb.fn 62=some Tryz.f62:=by kernel_rfl
theorem lM:Tryz.tb.fn 63=some Tryz.f63:=by kernel_rfl
theorem Id:Tryz.tb.fn 64=some Tryz.f64:=by kernel_rfl
theorem IB:Tryz.tb.fn 65=some Tryz.f65:=by kernel_rfl
theorem Ic:Tryz.tb.fn 66=some Tryz.f66:=by kernel_rfl
theorem Ib:Tryz.tb.fn 67=some Tryz.f67:=by kernel_rfl
theorem SC:Tryz.tb.fn 68=some Tryz.f68:=by kernel_rfl
theorem Ia:Tryz.tb.fn 69=some Tryz.f69:=by kernel_rfl
theorem Hz:Tryz.tb.fn 70=some Tryz.f70:=by kernel_rfl
theorem Hy:Tryz.tb.fn 71=some Tryz.f71:=by kernel_rfl
theorem Hx:Tryz.tb.fn 72=some Tryz.f72:=by kernel_rfl
theorem Tryz.hb72:Tryz.f72.body.isSome=true:=rfl
theorem Hw:Tryz.tb.fn 73=some Tryz.f73:=by kernel_rfl
theorem Hv:Tryz.tb.fn 74=some Tryz.f74:=by kernel_rfl
theorem Tryz.hb74:Tryz.f74.body.isSome=true:=rfl
theorem Hu:Tryz.tb.fn 75=some Tryz.f75:=by kernel_rfl
theorem SB:Tryz.tb.fn 76=some Tryz.f76:=by kernel_rfl
theorem Ht:Tryz.tb.fn 77=some Tryz.f77:=by kernel_rfl
theorem Tryz.hb77:Tryz.f77.body.isSome=true:=rfl
theorem SA:Tryz.tb.fn 80=some Tryz.f80:=by kernel_rfl
theorem Hs:Tryz.tb.fn 81=some Tryz.f81:=by kernel_rfl
theorem S9:Tryz.tb.fn 89=some Tryz.f89:=by kernel_rfl
theorem IA:Tryz.tb.fn 90=some Tryz.f90:=by kernel_rfl
theorem S8:Tryz.tb.fn 91=some Tryz.f91:=by kernel_rfl
theorem Hr:Tryz.tb.fn 92=some Tryz.f92:=by kernel_rfl
theorem Hq:Tryz.tb.fn 93=some Tryz.f93:=by kernel_rfl
theorem S7:Tryz.tb.fn 94=some Tryz.f94:=by kernel_rfl
theorem Ho:Tryz.tb.fn 95=some Tryz.f95:=by kernel_rfl
theorem Hn:Tryz.tb.fn 96=some Tryz.f96:=by kernel_rfl
theorem Hm:Tryz.tb.fn 97=some Tryz.f97:=by kernel_rfl
theorem Hl:Tryz.tb.fn 98=some Tryz.f98:=by kernel_rfl
theorem CX:Tryz.tb.fn 99=some Tryz.f99:=by kernel_rfl
theorem DD:Tryz.tb.fn 100=some Tryz.f100:=by kernel_rfl
theorem wB:Tryz.tb.fn 101=some Tryz.f101:=by kernel_rfl
theorem MN:Tryz.tb.fn 102=some Tryz.f102:=by kernel_rfl
theorem Tryz.hb102:Tryz.f102.body.isSome=true:=rfl
theorem MM:Tryz.tb.fn 103=some Tryz.f103:=by kernel_rfl
theorem ML:Tryz.tb.fn 104=some Tryz.f104:=by kernel_rfl
theorem MK:Tryz.tb.fn 105=some Tryz.f105:=by kernel_rfl
theorem DC:Tryz.tb.fn 106=some Tryz.f106:=by kernel_rfl
theorem MJ:Tryz.tb.fn 107=some Tryz.f107:=by kernel_rfl
theorem DB:Tryz.tb.fn 108=some Tryz.f108:=by kernel_rfl
theorem MI:Tryz.tb.fn 111=some Tryz.f111:=by kernel_rfl
theorem MH:Tryz.tb.fn 116=some Tryz.f116:=by kernel_rfl
theorem oS:Tryz.tb.fn 117=some Tryz.f117:=by kernel_rfl
theorem DA:Tryz.tb.fn 118=some Tryz.f118:=by kernel_rfl
theorem w9:Tryz.tb.fn 119=some Tryz.f119:=by kernel_rfl
theorem tI:Tryz.tb.fn 120=some Tryz.f120:=by kernel_rfl
theorem w8:Tryz.tb.fn 121=some Tryz.f121:=by kernel_rfl
theorem MG:Tryz.tb.fn 122=some Tryz.f122:=by kernel_rfl
theorem MF:Tryz.tb.fn 123=some Tryz.f123:=by kernel_rfl
theorem MD:Tryz.tb.fn 124=some Tryz.f124:=by kernel_rfl
theorem MC:Tryz.tb.fn 125=some Tryz.f125:=by kernel_rfl
theorem MB:Tryz.tb.fn 126=some Tryz.f126:=by kernel_rfl
theorem k8:Tryz.tb.fn 127=some Tryz.f127:=by kernel_rfl
theorem Tryz.hb127:Tryz.f127.body.isSome=true:=rfl
theorem MA:Tryz.tb.fn 128=some Tryz.f128:=by kernel_rfl
theorem M9:Tryz.tb.fn 129=some Tryz.f129:=by kernel_rfl
theorem M8:Tryz.tb.fn 130=some Tryz.f130:=by kernel_rfl
theorem D9:Tryz.tb.fn 131=some Tryz.f131:=by kernel_rfl
theorem D8:Tryz.tb.fn 132=some Tryz.f132:=by kernel_rfl
theorem D7:Tryz.tb.fn 133=some Tryz.f133:=by kernel_rfl
theorem w7:Tryz.tb.fn 134=some Tryz.f134:=by kernel_rfl
theorem M7:Tryz.tb.fn 135=some Tryz.f135:=by kernel_rfl
theorem D6:Tryz.tb.fn 136=some Tryz.f136:=by kernel_rfl
theorem Tryz.hb136:Tryz.f136.body.isSome=true:=rfl
theorem D5:Tryz.tb.fn 137=some Tryz.f137:=by kernel_rfl
theorem Tryz.hb137:Tryz.f137.body.isSome=true:=rfl
theorem M6:Tryz.tb.fn 138=some Tryz.f138:=by kernel_rfl
theorem M5:Tryz.tb.fn 140=some Tryz.f140:=by kernel_rfl
theorem M4:Tryz.tb.fn 145=some Tryz.f145:=by kernel_rfl
theorem D4:Tryz.tb.fn 146=some Tryz.f146:=by kernel_rfl
theorem M3:Tryz.tb.fn 147=some Tryz.f147:=by kernel_rfl
theorem oR:Tryz.tb.fn 148=some Tryz.f148:=by kernel_rfl
theorem M2:Tryz.tb.fn 149=some Tryz.f149:=by kernel_rfl
theorem M1:Tryz.tb.fn 150=some Tryz.f150:=by kernel_rfl
theorem LZ:Tryz.tb.fn 151=some Tryz.f151:=by kernel_rfl
theorem LY:Tryz.tb.fn 152=some Tryz.f152:=by kernel_rfl
theorem LX:Tryz.tb.fn 153=some Tryz.f153:=by kernel_rfl
theorem D3:Tryz.tb.fn 165=some Tryz.f165:=by kernel_rfl
theorem D2:Tryz.tb.fn 171=some Tryz.f171:=by kernel_rfl
theorem LW:Tryz.tb.fn 172=some Tryz.f172:=by kernel_rfl
theorem LV:Tryz.tb.fn 174=some Tryz.f174:=by kernel_rfl
theorem D1:Tryz.tb.fn 175=some Tryz.f175:=by kernel_rfl
end Go.Proofs
