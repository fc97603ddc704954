import Derived.Test.YtmflfedkfdkipaaGreatProg
import Derived.Test.YtmflfedkfdkipaaGreatP10
set_option linter.all false
namespace Go.Proofs
open Go Go.Rx
noncomputable def tb:Tb:=tA Tryz.prog []
theorem Tryz.mixed:Tryz.prog.follows .mixedOrders=true:=by kernel_rfl
theorem O4:∀t∈([]:List TypeId),Tryz.prog.stoodInHeld t=false/\Tryz.prog.eqGuardType Tryz.prog.depth t=false:=by
 intro t ht;cases ht
theorem Tryz.names_ok : (Tryz.prog.funcs.toList.all fun f => !(f.name == "runtime.NumGoroutine")) = true := by kernel_rfl
theorem tb_ok:eZ Tryz.prog tb:=yl Tryz.prog [] Tryz.mixed (fun f hf _=>by
 have:=List.all_eq_true.1 Tryz.names_ok f hf;simpa using this) O4
theorem Ld:tb.und 3=some (.int .i64):=by kernel_rfl
theorem YO:tb.inf 3=some (1,8,.int .i64 0):=by kernel_rfl
theorem Lc:tb.und 4=some (.bool):=by kernel_rfl
theorem Rz:tb.inf 4=some (1,1,.bool false):=by kernel_rfl
theorem Lb:tb.und 9=some (.string):=by kernel_rfl
theorem YK:tb.inf 9=some (1,16,.string ⟨#[]⟩):=by kernel_rfl
theorem TB:tb.und 22=some (.slice 153):=by kernel_rfl
theorem TA:tb.und 24=some (.slice 147):=by kernel_rfl
theorem YQ:tb.inf 24=some (1,24,.slice none 0 0):=by kernel_rfl
theorem T9:tb.und 25=some (.slice 197):=by kernel_rfl
theorem YP:tb.inf 25=some (1,24,.slice none 0 0):=by kernel_rfl
theorem T8 : tb.und 27 = some (.struct #[⟨ "Types", 24, 0, false, "", "", 0⟩, ⟨ "Feats", 25, 1, false, "", "", 24⟩]) := by kernel_rfl
theorem GR:tb.inf 27=some (2,48,.agg #[.slice none 0 0,.slice none 0 0]):=by kernel_rfl
theorem T7:tb.und 31=some (.pointer 83):=by kernel_rfl
theorem T6:tb.und 33=some (.slice 39):=by kernel_rfl
theorem T5:tb.und 37=some (.slice 79):=by kernel_rfl
theorem YN:tb.inf 37=some (1,24,.slice none 0 0):=by kernel_rfl
theorem T4 : tb.und 39 = some (.struct #[⟨ "Nodes", 37, 0, false, "", "", 0⟩]) := by kernel_rfl
theorem GQ:tb.inf 39=some (1,24,.agg #[.slice none 0 0]):=by kernel_rfl
theorem T3:tb.und 77=some (.slice 105):=by kernel_rfl
theorem YM:tb.inf 77=some (1,24,.slice none 0 0):=by kernel_rfl
theorem T1 : tb.und 79 = some (.struct #[⟨ "Type", 3, 0, false, "", "", 0⟩, ⟨ "Arcs", 77, 1, false, "", "", 8⟩]) := by kernel_rfl
theorem GP:tb.inf 79=some (2,32,.agg #[.int .i64 0,.slice none 0 0]):=by kernel_rfl
theorem T0:tb.und 81=some (.slice 92):=by kernel_rfl
theorem YL:tb.inf 81=some (1,24,.slice none 0 0):=by kernel_rfl
theorem SZ : tb.und 83 = some (.struct #[⟨ "h", 27, 0, false, "", "grammarlab/quasi", 0⟩, ⟨ "roots", 81, 2, false, "", "grammarlab/quasi", 48⟩, ⟨ "size", 3, 3, false, "", "grammarlab/quasi", 72⟩, ⟨ "at", 3, 4, false, "", "grammarlab/quasi", 80⟩]) := by kernel_rfl
theorem SY:tb.und 92=some (.pointer 103):=by kernel_rfl
theorem GO:tb.inf 92=some (1,8,.pointer none):=by kernel_rfl
theorem SX:tb.und 93=some (.slice 107):=by kernel_rfl
theorem YJ:tb.inf 93=some (1,24,.slice none 0 0):=by kernel_rfl
theorem SV : tb.und 95 = some (.struct #[⟨ "value", 92, 0, false, "", "grammarlab/quasi", 0⟩, ⟨ "at", 3, 1, false, "", "grammarlab/quasi", 8⟩]) := by kernel_rfl
theorem YI:tb.inf 95=some (2,16,.agg #[.pointer none,.int .i64 0]):=by kernel_rfl
theorem SU : tb.und 97 = some (.struct #[⟨ "value", 3, 0, false, "", "grammarlab/quasi", 0⟩, ⟨ "at", 3, 1, false, "", "grammarlab/quasi", 8⟩]) := by kernel_rfl
theorem YH:tb.inf 97=some (2,16,.agg #[.int .i64 0,.int .i64 0]):=by kernel_rfl
theorem SS : tb.und 99 = some (.struct #[⟨ "value", 93, 0, false, "", "grammarlab/quasi", 0⟩, ⟨ "at", 3, 1, false, "", "grammarlab/quasi", 24⟩]) := by kernel_rfl
theorem YG:tb.inf 99=some (2,32,.agg #[.slice none 0 0,.int .i64 0]):=by kernel_rfl
theorem JQ : tb.und 101 = some (.struct #[⟨ "value", 4, 0, false, "", "grammarlab/quasi", 0⟩, ⟨ "at", 3, 1, false, "", "grammarlab/quasi", 8⟩]) := by kernel_rfl
theorem N6:tb.inf 101=some (2,16,.agg #[.bool false,.int .i64 0]):=by kernel_rfl
theorem JP : tb.und 103 = some (.struct #[⟨ "kind", 3, 0, false, "", "grammarlab/quasi", 0⟩, ⟨ "arcs", 93, 1, false, "", "grammarlab/quasi", 8⟩, ⟨ "forward", 95, 2, false, "", "grammarlab/quasi", 32⟩, ⟨ "meet", 97, 4, false, "", "grammarlab/quasi", 48⟩, ⟨ "more", 99, 6, false, "", "grammarlab/quasi", 64⟩, ⟨ "copied", 95, 8, false, "", "grammarlab/quasi", 96⟩, ⟨ "changed", 101, 10, false, "", "grammarlab/quasi", 112⟩]) := by kernel_rfl
theorem N5:tb.inf 103=some (12,128,.agg #[.int .i64 0,.slice none 0 0,.pointer none,.int .i64 0,.int .i64 0,.int .i64 0,.slice none 0 0,.int .i64 0,.pointer none,.int .i64 0,.bool false,.int .i64 0]):=by kernel_rfl
theorem JO : tb.und 105 = some (.struct #[⟨ "Feat", 3, 0, false, "", "", 0⟩, ⟨ "To", 3, 1, false, "", "", 8⟩]) := by kernel_rfl
theorem xW:tb.inf 105=some (2,16,.agg #[.int .i64 0,.int .i64 0]):=by kernel_rfl
theorem JN : tb.und 107 = some (.struct #[⟨ "feat", 3, 0, false, "", "grammarlab/quasi", 0⟩, ⟨ "to", 92, 1, false, "", "grammarlab/quasi", 8⟩]) := by kernel_rfl
theorem xV:tb.inf 107=some (2,16,.agg #[.int .i64 0,.pointer none]):=by kernel_rfl
theorem JM:tb.und 108=some (.map 92 3):=by kernel_rfl
theorem xU:tb.inf 108=some (1,8,.map none):=by kernel_rfl
theorem JL:tb.und 109=some (.func #[92] #[3] false):=by kernel_rfl
theorem xT:tb.inf 109=some (1,8,.nilFunc):=by kernel_rfl
theorem JK:tb.und 115=some (.slice 3):=by kernel_rfl
theorem N4:tb.inf 115=some (1,24,.slice none 0 0):=by kernel_rfl
theorem JJ:tb.und 134=some (.slice 145):=by kernel_rfl
theorem JI:tb.und 137=some (.slice 143):=by kernel_rfl
theorem JH:tb.und 141=some (.slice 213):=by kernel_rfl
theorem xS:tb.inf 141=some (1,24,.slice none 0 0):=by kernel_rfl
theorem JG : tb.und 143 = some (.struct #[⟨ "Name", 9, 0, false, "", "", 0⟩, ⟨ "Code", 141, 1, false, "", "", 16⟩]) := by kernel_rfl
theorem xR:tb.inf 143=some (2,40,.agg #[.string ⟨#[]⟩,.slice none 0 0]):=by kernel_rfl
theorem JF:tb.und 145=some (.slice 186):=by kernel_rfl
theorem xQ:tb.inf 145=some (1,24,.slice none 0 0):=by kernel_rfl
theorem JE : tb.und 147 = some (.struct #[⟨ "Name", 9, 0, false, "", "", 0⟩, ⟨ "Code", 141, 1, false, "", "", 16⟩, ⟨ "Supers", 115, 2, false, "", "", 40⟩, ⟨ "Feats", 145, 3, false, "", "", 64⟩]) := by kernel_rfl
theorem xP:tb.inf 147=some (4,88,.agg #[.string ⟨#[]⟩,.slice none 0 0,.slice none 0 0,.slice none 0 0]):=by kernel_rfl
theorem JD:tb.und 150=some (.slice 9):=by kernel_rfl
theorem N0:tb.inf 150=some (1,24,.slice none 0 0):=by kernel_rfl
theorem JC:tb.und 151=some (.slice 156):=by kernel_rfl
theorem MZ:tb.inf 151=some (1,24,.slice none 0 0):=by kernel_rfl
theorem JB : tb.und 153 = some (.struct #[⟨ "Name", 9, 0, false, "", "", 0⟩, ⟨ "Supers", 150, 1, false, "", "", 16⟩, ⟨ "Feats", 151, 2, false, "", "", 40⟩]) := by kernel_rfl
theorem xO:tb.inf 153=some (3,64,.agg #[.string ⟨#[]⟩,.slice none 0 0,.slice none 0 0]):=by kernel_rfl
theorem JA : tb.und 156 = some (.struct #[⟨ "Feat", 9, 0, false, "", "", 0⟩, ⟨ "Value", 9, 1, false, "", "", 16⟩]) := by kernel_rfl
theorem xN:tb.inf 156=some (2,32,.agg #[.string ⟨#[]⟩,.string ⟨#[]⟩]):=by kernel_rfl
theorem J9 : tb.und 186 = some (.struct #[⟨ "Feat", 3, 0, false, "", "", 0⟩, ⟨ "Value", 3, 1, false, "", "", 8⟩]) := by kernel_rfl
theorem xM:tb.inf 186=some (2,16,.agg #[.int .i64 0,.int .i64 0]):=by kernel_rfl
theorem J8:tb.und 187=some (.slice 141):=by kernel_rfl
theorem J7 : tb.und 197 = some (.struct #[⟨ "Name", 9, 0, false, "", "", 0⟩, ⟨ "Intro", 3, 1, false, "", "", 16⟩]) := by kernel_rfl
theorem xL:tb.inf 197=some (2,24,.agg #[.string ⟨#[]⟩,.int .i64 0]):=by kernel_rfl
theorem J6:tb.und 200=some (.array 2 92):=by kernel_rfl
theorem xK:tb.inf 200=some (2,16,.agg #[.pointer none,.pointer none]):=by kernel_rfl
theorem J5:tb.und 201=some (.slice 200):=by kernel_rfl
theorem J4:tb.und 207=some (.map 92 4):=by kernel_rfl
theorem J3:tb.und 212=some (.int .u64):=by kernel_rfl
theorem J2:tb.und 213=some (.int .u64):=by kernel_rfl
theorem xJ:tb.inf 213=some (1,8,.int .u64 0):=by kernel_rfl
theorem J1 : tb.und 237 = some (.struct #[⟨ "f", 39, 0, false, "", "grammarlab/grammarlabref07", 0⟩, ⟨ "number", 115, 1, false, "", "grammarlab/grammarlabref07", 24⟩, ⟨ "order", 115, 2, false, "", "grammarlab/grammarlabref07", 48⟩]) := by kernel_rfl
theorem MY:tb.inf 237=some (3,72,.agg #[.slice none 0 0,.slice none 0 0,.slice none 0 0]):=by kernel_rfl
end Go.Proofs
namespace Go.Proofs
open Go Go.Rx Go.Vx
instance AJ:cY tb 3 (.int .i64):=⟨Ld⟩
instance:cY tb 4 (.bool):=⟨Lc⟩
instance AI:cY tb 9 (.string):=⟨Lb⟩
instance TD:cY tb 22 (.slice 153):=⟨TB⟩
instance vV:cY tb 24 (.slice 147):=⟨TA⟩
instance:cY tb 25 (.slice 197):=⟨T9⟩
instance nD : cY tb 27 (.struct #[⟨ "Types", 24, 0, false, "", "", 0⟩, ⟨ "Feats", 25, 1, false, "", "", 24⟩]) := ⟨T8⟩
instance Lh:cY tb 31 (.pointer 83):=⟨T7⟩
instance:cY tb 33 (.slice 39):=⟨T6⟩
instance nC:cY tb 37 (.slice 79):=⟨T5⟩
instance nB : cY tb 39 (.struct #[⟨ "Nodes", 37, 0, false, "", "", 0⟩]) := ⟨T4⟩
instance iJ:cY tb 77 (.slice 105):=⟨T3⟩
instance vT : cY tb 79 (.struct #[⟨ "Type", 3, 0, false, "", "", 0⟩, ⟨ "Arcs", 77, 1, false, "", "", 8⟩]) := ⟨T1⟩
instance eB:cY tb 81 (.slice 92):=⟨T0⟩
instance : cY tb 83 (.struct #[⟨ "h", 27, 0, false, "", "grammarlab/quasi", 0⟩, ⟨ "roots", 81, 2, false, "", "grammarlab/quasi", 48⟩, ⟨ "size", 3, 3, false, "", "grammarlab/quasi", 72⟩, ⟨ "at", 3, 4, false, "", "grammarlab/quasi", 80⟩]) := ⟨SZ⟩
instance eA:cY tb 92 (.pointer 103):=⟨SY⟩
instance sZ:cY tb 93 (.slice 107):=⟨SX⟩
instance Lg : cY tb 95 (.struct #[⟨ "value", 92, 0, false, "", "grammarlab/quasi", 0⟩, ⟨ "at", 3, 1, false, "", "grammarlab/quasi", 8⟩]) := ⟨SV⟩
instance Lf : cY tb 97 (.struct #[⟨ "value", 3, 0, false, "", "grammarlab/quasi", 0⟩, ⟨ "at", 3, 1, false, "", "grammarlab/quasi", 8⟩]) := ⟨SU⟩
instance Le : cY tb 99 (.struct #[⟨ "value", 93, 0, false, "", "grammarlab/quasi", 0⟩, ⟨ "at", 3, 1, false, "", "grammarlab/quasi", 24⟩]) := ⟨SS⟩
instance TK : cY tb 101 (.struct #[⟨ "value", 4, 0, false, "", "grammarlab/quasi", 0⟩, ⟨ "at", 3, 1, false, "", "grammarlab/quasi", 8⟩]) := ⟨JQ⟩
instance TJ : cY tb 103 (.struct #[⟨ "kind", 3, 0, false, "", "grammarlab/quasi", 0⟩, ⟨ "arcs", 93, 1, false, "", "grammarlab/quasi", 8⟩, ⟨ "forward", 95, 2, false, "", "grammarlab/quasi", 32⟩, ⟨ "meet", 97, 4, false, "", "grammarlab/quasi", 48⟩, ⟨ "more", 99, 6, false, "", "grammarlab/quasi", 64⟩, ⟨ "copied", 95, 8, false, "", "grammarlab/quasi", 96⟩, ⟨ "changed", 101, 10, false, "", "grammarlab/quasi", 112⟩]) := ⟨JP⟩
instance mI : cY tb 105 (.struct #[⟨ "Feat", 3, 0, false, "", "", 0⟩, ⟨ "To", 3, 1, false, "", "", 8⟩]) := ⟨JO⟩
instance TI : cY tb 107 (.struct #[⟨ "feat", 3, 0, false, "", "grammarlab/quasi", 0⟩, ⟨ "to", 92, 1, false, "", "grammarlab/quasi", 8⟩]) := ⟨JN⟩
instance vZ:cY tb 108 (.map 92 3):=⟨JM⟩
instance:cY tb 109 (.func #[92] #[3] false):=⟨JL⟩
instance eC:cY tb 115 (.slice 3):=⟨JK⟩
instance:cY tb 134 (.slice 145):=⟨JJ⟩
instance lD:cY tb 137 (.slice 143):=⟨JI⟩
instance dR:cY tb 141 (.slice 213):=⟨JH⟩
instance F3 : cY tb 143 (.struct #[⟨ "Name", 9, 0, false, "", "", 0⟩, ⟨ "Code", 141, 1, false, "", "", 16⟩]) := ⟨JG⟩
instance:cY tb 145 (.slice 186):=⟨JF⟩
instance vY : cY tb 147 (.struct #[⟨ "Name", 9, 0, false, "", "", 0⟩, ⟨ "Code", 141, 1, false, "", "", 16⟩, ⟨ "Supers", 115, 2, false, "", "", 40⟩, ⟨ "Feats", 145, 3, false, "", "", 64⟩]) := ⟨JE⟩
instance fN:cY tb 150 (.slice 9):=⟨JD⟩
instance vX:cY tb 151 (.slice 156):=⟨JC⟩
instance oF : cY tb 153 (.struct #[⟨ "Name", 9, 0, false, "", "", 0⟩, ⟨ "Supers", 150, 1, false, "", "", 16⟩, ⟨ "Feats", 151, 2, false, "", "", 40⟩]) := ⟨JB⟩
instance TH : cY tb 156 (.struct #[⟨ "Feat", 9, 0, false, "", "", 0⟩, ⟨ "Value", 9, 1, false, "", "", 16⟩]) := ⟨JA⟩
instance TG : cY tb 186 (.struct #[⟨ "Feat", 3, 0, false, "", "", 0⟩, ⟨ "Value", 3, 1, false, "", "", 8⟩]) := ⟨J9⟩
instance lB:cY tb 187 (.slice 141):=⟨J8⟩
instance TF : cY tb 197 (.struct #[⟨ "Name", 9, 0, false, "", "", 0⟩, ⟨ "Intro", 3, 1, false, "", "", 16⟩]) := ⟨J7⟩
instance F2:cY tb 200 (.array 2 92):=⟨J6⟩
instance gM:cY tb 201 (.slice 200):=⟨J5⟩
instance vW:cY tb 207 (.map 92 4):=⟨J4⟩
instance F1:cY tb 212 (.int .u64):=⟨J3⟩
instance TE:cY tb 213 (.int .u64):=⟨J2⟩
instance EZ : cY tb 237 (.struct #[⟨ "f", 39, 0, false, "", "grammarlab/grammarlabref07", 0⟩, ⟨ "number", 115, 1, false, "", "grammarlab/grammarlabref07", 24⟩, ⟨ "order", 115, 2, false, "", "grammarlab/grammarlabref07", 48⟩]) := ⟨J1⟩
instance mB:fG tb 3 1 8 (.int .i64 0):=⟨YO⟩
instance:m5 tb 3 [.int .i64 0]:=⟨_,_,_,YO,rfl,rfl⟩
instance nz:fG tb 4 1 1 (.bool false):=⟨Rz⟩
instance xX:fG tb 9 1 16 (.string ⟨#[]⟩):=⟨YK⟩
instance:m5 tb 9 [.str []]:=⟨_,_,_,YK,rfl,rfl⟩
instance N8:fG tb 24 1 24 (.slice none 0 0):=⟨YQ⟩
instance:fG tb 25 1 24 (.slice none 0 0):=⟨YP⟩
instance u6:fG tb 27 2 48 (.agg #[.slice none 0 0,.slice none 0 0]):=⟨GR⟩
instance:m5 tb 27 [.nils,.nils]:=⟨_,_,_,GR,rfl,rfl⟩
instance Sd:fG tb 37 1 24 (.slice none 0 0):=⟨YN⟩
instance oR:fG tb 39 1 24 (.agg #[.slice none 0 0]):=⟨GQ⟩
instance:m5 tb 39 [.nils]:=⟨_,_,_,GQ,rfl,rfl⟩
instance N7:fG tb 77 1 24 (.slice none 0 0):=⟨YM⟩
instance mA:fG tb 79 2 32 (.agg #[.int .i64 0,.slice none 0 0]):=⟨GP⟩
instance:m5 tb 79 [.int .i64 0,.nils]:=⟨_,_,_,GP,rfl,rfl⟩
instance:fG tb 81 1 24 (.slice none 0 0):=⟨YL⟩
instance eU:fG tb 92 1 8 (.pointer none):=⟨GO⟩
instance:m5 tb 92 [.nilp]:=⟨_,_,_,GO,rfl,rfl⟩
instance:fG tb 93 1 24 (.slice none 0 0):=⟨YJ⟩
instance Sc:fG tb 95 2 16 (.agg #[.pointer none,.int .i64 0]):=⟨YI⟩
instance Sb:fG tb 97 2 16 (.agg #[.int .i64 0,.int .i64 0]):=⟨YH⟩
instance Sa:fG tb 99 2 32 (.agg #[.slice none 0 0,.int .i64 0]):=⟨YG⟩
instance YY:fG tb 101 2 16 (.agg #[.bool false,.int .i64 0]):=⟨N6⟩
instance iG:fG tb 103 12 128 (.agg #[.int .i64 0,.slice none 0 0,.pointer none,.int .i64 0,.int .i64 0,.int .i64 0,.slice none 0 0,.int .i64 0,.pointer none,.int .i64 0,.bool false,.int .i64 0]):=⟨N5⟩
instance fT:fG tb 105 2 16 (.agg #[.int .i64 0,.int .i64 0]):=⟨xW⟩
instance:m5 tb 105 [.int .i64 0,.int .i64 0]:=⟨_,_,_,xW,rfl,rfl⟩
instance sJ:fG tb 107 2 16 (.agg #[.int .i64 0,.pointer none]):=⟨xV⟩
instance:m5 tb 107 [.int .i64 0,.nilp]:=⟨_,_,_,xV,rfl,rfl⟩
instance:fG tb 108 1 8 (.map none):=⟨xU⟩
instance:m5 tb 108 [.nilm]:=⟨_,_,_,xU,rfl,rfl⟩
instance:fG tb 109 1 8 (.nilFunc):=⟨xT⟩
instance:m5 tb 109 [.nilf]:=⟨_,_,_,xT,rfl,rfl⟩
instance YX:fG tb 115 1 24 (.slice none 0 0):=⟨N4⟩
instance k9:fG tb 141 1 24 (.slice none 0 0):=⟨xS⟩
instance:m5 tb 141 [.nils]:=⟨_,_,_,xS,rfl,rfl⟩
instance lN:fG tb 143 2 40 (.agg #[.string ⟨#[]⟩,.slice none 0 0]):=⟨xR⟩
instance:m5 tb 143 [.str [],.nils]:=⟨_,_,_,xR,rfl,rfl⟩
instance:fG tb 145 1 24 (.slice none 0 0):=⟨xQ⟩
instance:m5 tb 145 [.nils]:=⟨_,_,_,xQ,rfl,rfl⟩
instance xY:fG tb 147 4 88 (.agg #[.string ⟨#[]⟩,.slice none 0 0,.slice none 0 0,.slice none 0 0]):=⟨xP⟩
instance:m5 tb 147 [.str [],.nils,.nils,.nils]:=⟨_,_,_,xP,rfl,rfl⟩
instance:fG tb 150 1 24 (.slice none 0 0):=⟨N0⟩
instance GT:fG tb 151 1 24 (.slice none 0 0):=⟨MZ⟩
instance oS:fG tb 153 3 64 (.agg #[.string ⟨#[]⟩,.slice none 0 0,.slice none 0 0]):=⟨xO⟩
instance:m5 tb 153 [.str [],.nils,.nils]:=⟨_,_,_,xO,rfl,rfl⟩
instance GS:fG tb 156 2 32 (.agg #[.string ⟨#[]⟩,.string ⟨#[]⟩]):=⟨xN⟩
instance:m5 tb 156 [.str [],.str []]:=⟨_,_,_,xN,rfl,rfl⟩
instance YW:fG tb 186 2 16 (.agg #[.int .i64 0,.int .i64 0]):=⟨xM⟩
instance:m5 tb 186 [.int .i64 0,.int .i64 0]:=⟨_,_,_,xM,rfl,rfl⟩
instance YV:fG tb 197 2 24 (.agg #[.string ⟨#[]⟩,.int .i64 0]):=⟨xL⟩
instance:m5 tb 197 [.str [],.int .i64 0]:=⟨_,_,_,xL,rfl,rfl⟩
instance lM:fG tb 200 2 16 (.agg #[.pointer none,.pointer none]):=⟨xK⟩
instance:m5 tb 200 [.nilp,.nilp]:=⟨_,_,_,xK,rfl,rfl⟩
instance gR:fG tb 213 1 8 (.int .u64 0):=⟨xJ⟩
instance:m5 tb 213 [.int .u64 0]:=⟨_,_,_,xJ,rfl,rfl⟩
instance YU:fG tb 237 3 72 (.agg #[.slice none 0 0,.slice none 0 0,.slice none 0 0]):=⟨MY⟩
end Go.Proofs
namespace Go.Vx
open Go Go.Rx
variable{q:List U}
variable{p:List U}
variable{a:Nat}
theorem Yu{n:Nat}(h:fI q a n=some p):a+n<=q.length/\(q.drop a).take n=p:=by
 unfold fI at h;split at h;rename_i hj;exact⟨hj,Option.some.inj h⟩;cases h
variable{sz:Nat}
variable{fo:Nat}
theorem M7{u:U}(h:fI q a sz=some p)(h2:nth p fo=some u):nth q (a+fo)=some u:=by
 obtain⟨h1,rfl⟩:=Yu h;rw[eR]at h2 ⊢;have hl:=(zG.1 h2).1;rw[List.length_take]at hl;rw[List.getElem?_take_of_lt (by omega),List.getElem?_drop]at h2;exact h2
theorem LQ{p' cs:List U}(h:fI q a sz=some p)(h2:jW p fo cs=some p'):jW q (a+fo) cs=jW q a p':=by
 obtain⟨h1,rfl⟩:=Yu h;unfold jW at h2;split at h2
 ·rename_i hj;have hp:=Option.some.inj h2;rw[List.length_take,List.length_drop]at hj;have hl:p'.length=sz:=by rw[<-hp];simp;omega
  unfold jW;rw[if_pos (by omega),if_pos (by omega),<-hp];congr 1;have e1:List.take fo (List.take sz (List.drop a q))=List.take fo (List.drop a q):=by rw[List.take_take,Nat.min_eq_left (by omega)]
  have e2:List.take (a+fo) q=List.take a q++List.take fo (List.drop a q):=List.take_add;have e3:List.drop (a+fo+cs.length) q=List.drop (fo+cs.length) (List.take sz (List.drop a q))++List.drop (a+sz) q:=by
   have:List.drop a q=List.take sz (List.drop a q)++List.drop (a+sz) q:=by rw[<-List.drop_drop,List.take_append_drop]
   rw[Nat.add_assoc,<-List.drop_drop]
   conv=>lhs;rw[this]
   rw[List.drop_append_of_le_length (by rw[List.length_take,List.length_drop];omega)]
  rw[e1,e2,e3];simp[zT,hl];omega
 cases h2
section
variable{T:Tb}{σ σ':Sg}{n:Nat}{l:List (Nat×U)}{u v w:U}
theorem PI{α:Type}(c:α->List U){t e':TypeId}{d:TypeDesc}{K st off m:Nat}{xs:List α}{i:Int}{x:α}{o:Operand}(hd:T.und t=some d)(ha:kQ d=false)(hc:∀x,(c x).length=sz)(ho:aY n l o=some (.ptr K st (off*sz+i.toNat*sz+fo)))(hv:gt σ.h K=some (.vec (xs.map c).flatten e' sz st))(hx:jM xs off m i=some x)(hu:nth (c x) fo=some u):aV T σ (fr n l) (.load t o)=some (u,σ):=by
 refine ER rfl ?_;have hb:Nat.beq st st=true:=by simp[beq_eq]
 have hg:=Nv hc (FU hx).2.2;rw[Nat.add_mul]at hg;simp only[kN,cB ho,cellsOf,hv,hb,zC,uY,hd,ha,zD,M7 hg hu]
theorem st_vf{α:Type}(c:α->List U){t e':TypeId}{s K st off m:Nat}{xs:List α}{i:Int}{x y:α}{o z:Operand}{cs:List U}{h':List (Nat×B)}(hs:bJ T t=some s)(hc:∀x,(c x).length=sz)(ho:aY n l o=some (.ptr K st (off*sz+i.toNat*sz+fo)))(hz:aY n l z=some v)(hcs:o0 v=some cs)(hk:okL cs=true)(hl:Nat.beq cs.length s=true)(hv:gt σ.h K=some (.vec (xs.map c).flatten e' sz st))(hx:jM xs off m i=some x)(hy:jW (c x) fo (kJ cs)=some (c y))(hσ:ug σ.h K (.vec ((xs.set (off+i.toNat) y).map c).flatten e' sz st)=h'):aV T σ (fr n l) (.store t o z)=some (.junk,⟨h',σ.nx⟩):=by
 subst hσ;have hb:Nat.beq st st=true:=by simp
 have hj:=(zG.1 (FU hx).2.2).1;have hg:=Nv hc (FU hx).2.2;have hp:=LQ hg hy;rw[Ov hc hj y,Nat.add_mul]at hp;exact AT rfl rfl (by simp only[jN,cB ho,cB hz,KH,hs,hcs,hl,hk,zC,cellsOf,hv,hb,uO,hp,B3])
end
theorem PW{σ:Sg}{k t e:Nat}{l:List U}(h:gt σ.h k=some (.vec l e sz t)):live σ k t=true:=by
 simp only[live,h,B.st,beq_eq,yC]
variable{T:Tb}
variable{t:TypeId}
variable{e:TypeId}
variable{sz:Nat}
variable{z:Value}
theorem ff{P:Program}(hT:eZ P T){m:Nm}{s:S}(w:World){by_ n:Nat}{ps:List (Nat×Value)}{cps:List (Nat×Value)}{cs:List Value}
  (hps:∀m',aG s.nx m m'->ps.map (fun p=>(p.1,ren m' p.2))=cps) (hd:T.und t=some (.slice e)) (hi:T.inf e=some (sz,by_,z)) (h1:Nat.ble (n*sz) 16777216=true) (h2:z.cells.toList.length=sz)
  (h3:tH (fun i=>some (i*sz,sz)) (bI z.cells.toList n) ps=some cs):
  ∃cl,j5 m s.nx cs cl/\(Instr.buildSlice t n cps.toArray).run P w=.ok (.slice (some ⟨w.heap.size,0,none⟩) n n) (w.alloc (.cells ⟨cl⟩ e)):=by
 have hsz:bJ T e=some sz:=by simp[bJ,hi]
 have hz:=fun m'=>tM hT m' w hi;have hzc:=R3 hT hi;simp only at hz hzc;have mW:n*sz<=16777216:=by simpa[Nat.ble_eq]using h1
 have hfill:∀m',aG s.nx m m'->Instr.fill (fun i=>some (i*sz,sz)) ⟨bI z.cells.toList n⟩ cps=some ⟨aD m' cs⟩:=fun m' ha=>by have:=V4 m' _ ps _ _ h3;rw[hps m' ha,VS hzc]at this;exact this
 have hcl:j5 m s.nx cs (aD m cs):=fun m' ha=>by have e1:=hfill m' ha;have e2:=hfill m (aG.refl _ _);rw[e1]at e2;simpa using e2
 have hcells:z.cells.size=sz:=by simpa using h2
 refine⟨aD m cs,hcl,?_⟩;have hzeros:(Array.range (n*sz)).map (fun i=>(if n*sz=0 then(#[]:Array Value)else z.cells)[i%(if n*sz=0 then(#[]:Array Value)else z.cells).size]!)=⟨bI z.cells.toList n⟩:=by
  by_cases h0:n*sz=0;rw[h0];apply Array.ext';have:(bI z.cells.toList n).length=0:=by rw[Ed,h2,h0]
  simp[List.length_eq_zero_iff.1 this];simp only[if_neg h0];have:=V6 z.cells n;rw[hcells]at this;rw[<-this];simp[hcells]
 have hf2:=hfill m (aG.refl _ _);have hnot:¬ n*sz>2^24:=by omega
 have hzz:=(hz m).1;by_cases h0:n*sz=0;simp only[if_pos h0]at hzeros;simp only[Instr.buildSlice,zK,dH hT w hd,zJ,i4 hT w hsz,Sem.run_ite,if_neg hnot,zL,if_pos h0];rw[hzeros,hf2];simp[Go.newRow];simp only[if_neg h0]at hzeros;simp only[Instr.buildSlice,zK,dH hT w hd,zJ,i4 hT w hsz,Sem.run_ite,if_neg hnot,zL,if_neg h0,hzz];rw[hzeros,hf2];simp[Go.newRow]
theorem dM.bslw{C:PG}(hT:eZ C.prog T){σ:Sg}{tm:List U}{o:Oper}{k b:Nat}{zu vr cs:List U}{ps:Array (Nat×Operand)}{qs:List (Nat×U)}(ho:o.op=.buildSlice t k ps)(hd:T.und t=some (.slice e))(hi:T.inf e=some (sz,b,z))
  (h:pQ tm ps.toList=some qs) (h1:Nat.ble (k*sz) 16777216=true) (h3:Nat.beq z.cells.toList.length sz=true) (hz:jF z.cells.toList=some zu) (hf:lH (fun i=>some (i*sz,sz)) (lX zu k) qs=some vr) (hw:jU vr cs) (hk:okL cs=true) (hl:Nat.beq cs.length (k*sz)=true) (hs:Nat.blt 0 sz=true):
  dM C σ tm o (fun u σ'=>u=.vl σ.nx 0 0 k/\σ'=newU σ (.vec cs e sz 0)):=fun F x tv m w a next Q hxσ st hG hn ro hro=>by
 subst hxσ;obtain⟨vs,ev,hp⟩:=Pu st.e h;have hzr:=(D0 _ _ hz).2 x;obtain⟨rv,f1,f2⟩:=VO hp (QW hzr k) hf;have f2:aQ x cs rv:=⟨hw.rel f2.1,by rw[hw.len];exact f2.2⟩;have h2:z.cells.toList.length=sz:=by simpa[beq_eq]using h3
 obtain⟨cl,g1,g2⟩:=ff hT (m:=m) (s:=x.s) w (cps:=ps.toList.map fun p=>(p.1,a.eval p.2)) (fun m' hm'=>(Oy (st.act m' hm') ev).symm) hd hi h1 h2 f1;have e1:(ps.map fun(i,x)=>(i,a.eval x))=(ps.toList.map fun p=>(p.1,a.eval p.2)).toArray:=by cases ps;simp
 have hrun:(execOp a.eval o).run C.prog w=.ok (.value (.slice (some ⟨w.heap.size,0,none⟩) k k)) (w.alloc (.cells ⟨cl⟩ e)):=by simp only[execOp,ho];rw[e1];simp only[zK,g2,zJ,zL]
 have hlen:rv.length=k*sz:=by
  have h5:=f2.2;have h6:cs.length=k*sz:=by simpa[beq_eq]using hl
  rw[<-h5,h6]
 have hadv:bA m x.s w (m.set x.s.nx w.heap.size 0 k) (Rx.newRow x.s rv e (sz+2)) (w.alloc (.cells ⟨cl⟩ e)):=by have:=Ft st.fits (rest:=[]) g1 e k sz (by simpa using hlen);simpa using this
 have hsz:0<sz:=by simpa[Nat.blt_eq]using hs
 have hout:=Eu st.h f2 hk e hsz;have hrel:cZ (m.set x.s.nx w.heap.size 0 k) (x.s.nx+1) (.slice (some ⟨x.s.nx,0,none⟩) k b7) (.slice (some ⟨w.heap.size,0,none⟩) k k):=fun m' ha=>by obtain⟨q1,q2,q3⟩:=ha x.s.nx (zN _);obtain⟨r1,r2,r3⟩:=pR m x.s.nx w.heap.size 0 k;simp[ren,q1,q2,r1,r2,bF,aW,q3,r3]
 refine oM (by rw[ho];intro c hc;cases hc) ?_;unfold Oper.wp;rw[hrun];exact hn _ ⟨hJ x.ρ x.σ.nx (some x.s.nx),newU x.σ (.vec cs e sz 0),Rx.newRow x.s rv e (sz+2)⟩ (rQ tv o.dst (.slice (some ⟨x.s.nx,0,none⟩) k b7)) _ _ _ ⟨rfl,rfl⟩
  ⟨hout.h,hout.fr F st.fr,BA (hout.mo.ke.E st.e.bel st.e) Ep _,hadv.fits,(st.act.ext hadv.agree hadv.nx).put hrel o.dst⟩ hadv hout.mo.ke hout.mo.nx (wY _ _ _)
theorem dM.bslv{C:PG}(hT:eZ C.prog T){σ:Sg}{tm:List U}{o:Oper}{k b:Nat}{zu cs:List U}{ps:Array (Nat×Operand)}{qs:List (Nat×U)}(ho:o.op=.buildSlice t k ps)(hd:T.und t=some (.slice e))(hi:T.inf e=some (sz,b,z))
  (h:pQ tm ps.toList=some qs) (h1:Nat.ble (k*sz) 16777216=true) (h3:Nat.beq z.cells.toList.length sz=true) (hz:jF z.cells.toList=some zu) (hf:lH (fun i=>some (i*sz,sz)) (lX zu k) qs=some cs) (hk:okL cs=true) (hl:Nat.beq cs.length (k*sz)=true) (hs:Nat.blt 0 sz=true):
  dM C σ tm o (fun u σ'=>u=.vl σ.nx 0 0 k/\σ'=newU σ (.vec cs e sz 0)):=dM.bslw hT ho hd hi h h1 h3 hz hf (jU.refl _) hk hl hs
def pW(K K2 k:Nat):Nat:=cond (Nat.beq k K) K2 k
def C1(K K2:Nat):List (Nat×B)->List (Nat×B)
 |[]=>[]|(k,b)::h=>cond (Nat.beq k K) (C1 K K2 h) (cond (Nat.beq k K2) ((K,b)::C1 K K2 h) ((k,b)::C1 K K2 h))
theorem Mj{K K2:Nat}(hne:K≠K2):∀(h:List (Nat×B))(j:Nat),gt (C1 K K2 h) j=if j=K then gt h K2 else if j=K2 then none else gt h j
 |[],j=>by simp[C1,gt]
 |(k,b)::h,j=>by have ih:=Mj hne h j;simp only[C1,beq_eq];by_cases e1:k=K;subst e1;simp only[yC,zC,ih,aK];by_cases e2:j=k;subst e2;simp[hne];simp[e2,Ne.symm e2];by_cases e2:k=K2;subst e2;simp only[e1,yB,zD,yC,zC,aK,ih];by_cases e3:j=K;subst e3;simp;by_cases e4:j=k;simp[e4,e1,Ne.symm e3];intro h;exact absurd h.symm e1;simp[e3,e4,Ne.symm e3,Ne.symm e4];simp only[e1,e2,yB,zD,aK,ih];by_cases e3:j=K;subst e3;simp[e1,e2];by_cases e4:j=K2;subst e4;simp[e3,e2];simp[e3,e4]
def rS(π:Nat->Nat):List (Nat×U)->List (Nat×U)
 |[]=>[]|(i,u)::l=>(i,rU π u)::rS π l
theorem Zu(π:Nat->Nat):∀(l:List (Nat×U))(i:Nat),iW (rS π l) i=(iW l i).map (rU π)
 |[],i=>rfl|(j,u)::l,i=>by simp only[rS,iW,beq_eq,Zu π l i];by_cases e:j=i<;>simp[e]
theorem Xl(π:Nat->Nat):∀(l:List U)(i:Nat),(dC π l)[i]? = (l[i]?).map (rU π)
 |[],i=>by simp[dC]
 |u::l,0=>by simp[dC]
 |u::l,i+1=>by simp[dC,Xl π l i]
theorem K1(π:Nat->Nat)(n:Nat)(l:List (Nat×U)):dC π (fr n l)=fr n (rS π l):=by
 apply List.ext_getElem?;intro k;rw[Xl];by_cases hk:k<n;rw[CZ n l hk,CZ n _ hk,Zu];rcases iW l k with _|w;simp[rU];rfl;rw[List.getElem?_eq_none (by simp[v8];omega),List.getElem?_eq_none (by simp[v8];omega)];rfl
def Ay(π:Nat->Nat):List (Nat×B)->Prop
 |[]=>True|(_,b)::h=>rB π b=b/\Ay π h
theorem Wi{π:Nat->Nat}:∀{h:List (Nat×B)},Ay π h->∀k b,gt h k=some b->rB π b=b
 |[],_,k,b,hg=>by cases hg
 |(j,c)::h,ha,k,b,hg=>by rw[aK]at hg;by_cases e:j=k;rw[if_pos e]at hg;cases hg;exact ha.1;rw[if_neg e]at hg;exact Wi ha.2 k b hg
theorem Gh.mv{n0 n:Nat}{l l':List (Nat×U)}{σ:Sg}{h':List (Nat×B)}(K K2:Nat)(h0:n0<=K)(hK:Nat.blt K σ.nx=true)(hne:Nat.beq K K2=false)(hl:rS (pW K K2) l'=l)(hm:C1 K K2 σ.h=h')(ha:Ay (pW K K2) h')[hb:BS σ.nx l']:Gh n0 (fr n l) σ (fr n l') ⟨h',σ.nx⟩:=fun F x tv hx hr hf he=>by
 subst hx;subst hl;subst hm;have hK':K<x.σ.nx:=by simpa[Nat.blt_eq]using hK
 have hne':K≠K2:=by simpa[beq_eq]using hne
 have key:∀k b,gt (C1 K K2 x.σ.h) k=some b->gt x.σ.h (pW K K2 k)=some b:=fun k b hg=>by rw[Mj hne']at hg;simp only[pW,beq_eq];by_cases e:k=K;rw[if_pos e]at hg;simpa[e]using hg;rw[if_neg e]at hg;by_cases e2:k=K2;rw[if_pos e2]at hg;cases hg;rw[if_neg e2]at hg;simpa[e]using hg
 let y:Cx:=⟨fun k=>x.ρ (pW K K2 k),⟨C1 K K2 x.σ.h,x.σ.nx⟩,x.s⟩
 have hU:FL x.σ.nx (pW K K2) x y:=⟨fun k st off v hk h=>by
   simp only[aA,Ref]at h ⊢;exact⟨h.1,hk,fun b hb=>h.2.2 b (key k b hb)⟩,fun k off m c v hk h=>by
   simp only[aA,Ref]at h ⊢;exact⟨h.1,hk,fun b hb=>h.2.2 b (key k b hb)⟩,fun k st off m v hk h=>by
   simp only[aA]at h ⊢;exact⟨h.1,hk,fun b hb=>h.2.2 b (key k b hb)⟩,fun k v hk h=>by
   simp only[aA,Ref]at h ⊢;exact⟨h.1,hk,fun b hb=>h.2.2 b (key k b hb)⟩,fun _ _ _ h=>h⟩
 have hback:∀u,aJ n0 u->rU (pW K K2) u=u:=fun u hbu=>by
  have:=Dd (π:=id) (κ:=pW K K2) (n:=n0) (fun k hk=>by
   have:¬ k=K:=by omega
   simp[pW,beq_eq,this]) u hbu
  rwa [TY]at this
 refine⟨y,fun m w hf=>bA.refl hf,rfl,⟨fun k b hb=>?_,fun k k' b b' i hb hb' h1 h2=>?_,hr.bd⟩,fun i b J=>?_,?_,fun u v hbu hv=>?_⟩;have hg:=key k b hb;obtain⟨g1,g2⟩:=hr.ok _ _ hg;have hkl:k<x.σ.nx:=by
  by_cases e:k=K;omega;have e2:pW K K2 k=k:=by simp[pW,beq_eq,e]
  rw[e2]at g1;exact g1
 refine⟨hkl,iZ.unleaf hU g2.belB rfl (fun _ _ _ h=>h) ?_⟩;rw[Wi ha k b hb];exact g2;have e:=hr.inj _ _ b b' i (key k b hb) (key k' b' hb') h1 h2;have Ja:∀k b,gt (C1 K K2 x.σ.h) k=some b->k≠K2:=fun k b hb h=>by subst h;rw[Mj hne',if_neg (Ne.symm hne'),if_pos rfl]at hb;cases hb
 have q1:=Ja k b hb;have q2:=Ja k' b' hb';simp only[pW,beq_eq]at e;by_cases e1:k=K;by_cases e2:k'=K;rw[e1,e2];simp[e1,e2]at e;exact absurd e.symm q2;by_cases e2:k'=K;simp[e1,e2]at e;exact absurd e q1;simpa[e1,e2]using e;obtain⟨h1,h2⟩:=hf i b J;exact⟨h1,fun k c hc=>h2 _ c (key k c hc)⟩;refine aQ.unleaf hU (V5 hb.h) ?_;rw[K1];exact he;exact aA.unleaf hU u v (aJ.le (by omega) u hbu) (by rw[hback u hbu];exact hv)
variable{T:Tb}{σ:Sg}
theorem GV{t e:TypeId}{m sz k st off:Nat}{i:Int}{kd:IntKind}(hd:T.und t=some (.array m e))(hs:bJ T e=some sz)(hl:live σ k st=true)(hi:0<=i/\i<m){off':Nat}(ho:off+i.toNat*sz=off'):sE T σ t (.ptr k st off) (.int kd i)=some (.ptr k st off'):=by
 subst ho;simp only[sE,hd,hs,hl,zC,if_pos hi]
theorem YB{t e:TypeId}{k st off:Nat}{op:BinOp}{u:U}(hd:T.und t=some (.pointer e))(hl:live σ k st=true)(hu:uH op=some u):PU T σ op t (.ptr k st off) .nilp=some u:=by
 simp only[PU,pL,hd,dW,hl,BD,hu,zC,Nat.beq,zD]
end Go.Vx
namespace Go.Proofs
open Go Go.Rx
theorem Tryz.hb3:Tryz.f3.body.isSome=true:=rfl
theorem a_:tb.fn 5=some Tryz.f5:=by kernel_rfl
theorem vn:tb.fn 9=some Tryz.f9:=by kernel_rfl
theorem yX:tb.fn 11=some Tryz.f11:=by kernel_rfl
theorem O1:tb.fn 12=some Tryz.f12:=by kernel_rfl
theorem EG:tb.fn 16=some Tryz.f16:=by kernel_rfl
theorem Aj:tb.fn 17=some Tryz.f17:=by kernel_rfl
theorem yJ:tb.fn 18=some Tryz.f18:=by kernel_rfl
theorem yI:tb.fn 19=some Tryz.f19:=by kernel_rfl
theorem EF:tb.fn 20=some Tryz.f20:=by kernel_rfl
theorem uD:tb.fn 21=some Tryz.f21:=by kernel_rfl
theorem uC:tb.fn 22=some Tryz.f22:=by kernel_rfl
theorem EE:tb.fn 32=some Tryz.f32:=by kernel_rfl
theorem Ai:tb.fn 33=some Tryz.f33:=by kernel_rfl
theorem Ah:tb.fn 34=some Tryz.f34:=by kernel_rfl
theorem yH:tb.fn 35=some Tryz.f35:=by kernel_rfl
theorem nQ:tb.fn 36=some Tryz.f36:=by kernel_rfl
theorem Ag:tb.fn 41=some Tryz.f41:=by kernel_rfl
theorem Af:tb.fn 42=some Tryz.f42:=by kernel_rfl
theorem ED:tb.fn 43=some Tryz.f43:=by kernel_rfl
theorem Tryz.hb43:Tryz.f43.body.isSome=true:=rfl
theorem Ae:tb.fn 44=some Tryz.f44:=by kernel_rfl
theorem O0:tb.fn 45=some Tryz.f45:=by kernel_rfl
theorem Ad:tb.fn 46=some Tryz.f46:=by kernel_rfl
theorem Ac:tb.fn 53=some Tryz.f53:=by kernel_rfl
theorem Ab:tb.fn 57=some Tryz.f57:=by kernel_rfl
theorem yG:tb.fn 58=some Tryz.f58:=by kernel_rfl
theorem Aa:tb.fn 59=some Tryz.f59:=by kernel_rfl
theorem ZZ:tb.fn 60=some Tryz.f60:=by kernel_rfl
theorem j9:tb.fn 61=some Tryz.f61:=by kernel_rfl
theorem ZY:tb.fn 63=some Tryz.f63:=by kernel_rfl
theorem NY:tb.fn 64=some Tryz.f64:=by kernel_rfl
theorem ZX:tb.fn 65=some Tryz.f65:=by kernel_rfl
theorem p9:tb.fn 66=some Tryz.f66:=by kernel_rfl
theorem Tryz.hb66:Tryz.f66.body.isSome=true:=rfl
theorem ZW:tb.fn 67=some Tryz.f67:=by kernel_rfl
theorem ZV:tb.fn 68=some Tryz.f68:=by kernel_rfl
theorem EC:tb.fn 69=some Tryz.f69:=by kernel_rfl
theorem oZ:tb.fn 70=some Tryz.f70:=by kernel_rfl
theorem oY:tb.fn 71=some Tryz.f71:=by kernel_rfl
theorem uB:tb.fn 72=some Tryz.f72:=by kernel_rfl
theorem ZU:tb.fn 73=some Tryz.f73:=by kernel_rfl
theorem ZT:tb.fn 78=some Tryz.f78:=by kernel_rfl
theorem ZS:tb.fn 79=some Tryz.f79:=by kernel_rfl
theorem ZR:tb.fn 80=some Tryz.f80:=by kernel_rfl
theorem Tryz.hb80:Tryz.f80.body.isSome=true:=rfl
theorem ZQ:tb.fn 81=some Tryz.f81:=by kernel_rfl
theorem NX:tb.fn 86=some Tryz.f86:=by kernel_rfl
theorem EB:tb.fn 87=some Tryz.f87:=by kernel_rfl
theorem NW:tb.fn 88=some Tryz.f88:=by kernel_rfl
theorem ZP:tb.fn 89=some Tryz.f89:=by kernel_rfl
theorem ZO:tb.fn 90=some Tryz.f90:=by kernel_rfl
theorem NV:tb.fn 91=some Tryz.f91:=by kernel_rfl
theorem ZN:tb.fn 92=some Tryz.f92:=by kernel_rfl
theorem ZM:tb.fn 93=some Tryz.f93:=by kernel_rfl
theorem ZL:tb.fn 94=some Tryz.f94:=by kernel_rfl
theorem ZK:tb.fn 95=some Tryz.f95:=by kernel_rfl
theorem yF:tb.fn 96=some Tryz.f96:=by kernel_rfl
theorem NU:tb.fn 97=some Tryz.f97:=by kernel_rfl
theorem EA:tb.fn 98=some Tryz.f98:=by kernel_rfl
theorem I1:tb.fn 100=some Tryz.f100:=by kernel_rfl
theorem I0:tb.fn 101=some Tryz.f101:=by kernel_rfl
theorem yZ:tb.fn 102=some Tryz.f102:=by kernel_rfl
theorem HZ:tb.fn 103=some Tryz.f103:=by kernel_rfl
theorem Tryz.hb103:Tryz.f103.body.isSome=true:=rfl
theorem pB:tb.fn 104=some Tryz.f104:=by kernel_rfl
theorem sS:tb.fn 105=some Tryz.f105:=by kernel_rfl
theorem HY:tb.fn 106=some Tryz.f106:=by kernel_rfl
theorem HX:tb.fn 107=some Tryz.f107:=by kernel_rfl
theorem Tryz.hb107:Tryz.f107.body.isSome=true:=rfl
theorem yY:tb.fn 108=some Tryz.f108:=by kernel_rfl
theorem HW:tb.fn 109=some Tryz.f109:=by kernel_rfl
theorem Ak:tb.fn 110=some Tryz.f110:=by kernel_rfl
theorem HV:tb.fn 111=some Tryz.f111:=by kernel_rfl
theorem yW:tb.fn 112=some Tryz.f112:=by kernel_rfl
theorem HU:tb.fn 115=some Tryz.f115:=by kernel_rfl
theorem lQ:tb.fn 116=some Tryz.f116:=by kernel_rfl
theorem yV:tb.fn 117=some Tryz.f117:=by kernel_rfl
theorem yU:tb.fn 118=some Tryz.f118:=by kernel_rfl
theorem pA:tb.fn 119=some Tryz.f119:=by kernel_rfl
theorem yT:tb.fn 120=some Tryz.f120:=by kernel_rfl
theorem HT:tb.fn 121=some Tryz.f121:=by kernel_rfl
theorem HS:tb.fn 122=some Tryz.f122:=by kernel_rfl
theorem HR:tb.fn 123=some Tryz.f123:=by kernel_rfl
theorem HQ:tb.fn 124=some Tryz.f124:=by kernel_rfl
theorem HP:tb.fn 125=some Tryz.f125:=by kernel_rfl
theorem iH:tb.fn 126=some Tryz.f126:=by kernel_rfl
theorem Tryz.hb126:Tryz.f126.body.isSome=true:=rfl
theorem HO:tb.fn 127=some Tryz.f127:=by kernel_rfl
theorem HN:tb.fn 128=some Tryz.f128:=by kernel_rfl
theorem HM:tb.fn 129=some Tryz.f129:=by kernel_rfl
theorem yS:tb.fn 130=some Tryz.f130:=by kernel_rfl
theorem yR:tb.fn 131=some Tryz.f131:=by kernel_rfl
theorem yQ:tb.fn 132=some Tryz.f132:=by kernel_rfl
theorem sR:tb.fn 133=some Tryz.f133:=by kernel_rfl
theorem HL:tb.fn 140=some Tryz.f140:=by kernel_rfl
theorem yP:tb.fn 141=some Tryz.f141:=by kernel_rfl
theorem Tryz.hb141:Tryz.f141.body.isSome=true:=rfl
theorem yO:tb.fn 142=some Tryz.f142:=by kernel_rfl
theorem Tryz.hb142:Tryz.f142.body.isSome=true:=rfl
theorem HK:tb.fn 143=some Tryz.f143:=by kernel_rfl
theorem HJ:tb.fn 153=some Tryz.f153:=by kernel_rfl
theorem HI:tb.fn 155=some Tryz.f155:=by kernel_rfl
theorem yN:tb.fn 156=some Tryz.f156:=by kernel_rfl
theorem HH:tb.fn 157=some Tryz.f157:=by kernel_rfl
theorem lP:tb.fn 158=some Tryz.f158:=by kernel_rfl
theorem HG:tb.fn 159=some Tryz.f159:=by kernel_rfl
theorem HF:tb.fn 160=some Tryz.f160:=by kernel_rfl
theorem HE:tb.fn 161=some Tryz.f161:=by kernel_rfl
theorem HD:tb.fn 162=some Tryz.f162:=by kernel_rfl
theorem HC:tb.fn 163=some Tryz.f163:=by kernel_rfl
theorem yM:tb.fn 173=some Tryz.f173:=by kernel_rfl
theorem yL:tb.fn 176=some Tryz.f176:=by kernel_rfl
theorem HB:tb.fn 177=some Tryz.f177:=by kernel_rfl
theorem HA:tb.fn 178=some Tryz.f178:=by kernel_rfl
theorem yK:tb.fn 179=some Tryz.f179:=by kernel_rfl
end Go.Proofs
