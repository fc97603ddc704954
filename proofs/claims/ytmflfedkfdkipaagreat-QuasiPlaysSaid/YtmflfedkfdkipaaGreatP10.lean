import Derived.Test.YtmflfedkfdkipaaGreatProg
import Derived.Test.YtmflfedkfdkipaaGreatP9
set_option linter.all false
namespace Go.Proofs
open Go Go.Rx
noncomputable def tb:Tb:=DB Tryz.prog []
def Tryz.mixed:Tryz.prog.follows .mixedOrders=true:=qq1
def Dw:∀t∈([]:X TypeId),Tryz.prog.stoodInHeld t=false/\Tryz.prog.eqGuardType Tryz.prog.depth t=false:=by intro t ht;cases ht
def Tryz.names_ok : (Tryz.prog.funcs.toList.all fun f => !(f.name == "runtime.NumGoroutine")) = true := by kernel_rfl
def tb_ok:j0 Tryz.prog tb:=zar Tryz.prog [] Tryz.mixed (fun f hf _=>by
 have:=List.all_eq_true.1 Tryz.names_ok f hf;simpa using this) Dw
def dp:tb.und 3=some (.int .i64):=qq1
def Uj:tb.inf 3=some (1,8,.int .i64 0):=qq1
def dj:tb.und 4=some (.bool):=qq1
def inf4:tb.inf 4=some (1,1,.bool false):=qq1
def dh:tb.und 9=some (.string):=qq1
def Ue:tb.inf 9=some (1,16,.string ⟨#[]⟩):=qq1
def Mw:tb.und 22=some (.slice 153):=qq1
def Mv:tb.und 23=some (.slice 41):=qq1
def Mu:tb.und 24=some (.slice 147):=qq1
def Ul:tb.inf 24=some (1,24,.slice none 0 0):=qq1
def Mt:tb.und 25=some (.slice 197):=qq1
def Uk:tb.inf 25=some (1,24,.slice none 0 0):=qq1
def Ms : tb.und 27 = some (.struct #[⟨ "Types", 24, 0, false, "", "", 0⟩, ⟨ "Feats", 25, 1, false, "", "", 24⟩]) := by kernel_rfl
def TF:tb.inf 27=some (2,48,.agg #[.slice none 0 0,.slice none 0 0]):=qq1
def Mr:tb.und 31=some (.pointer 83):=qq1
def Mq:tb.und 33=some (.slice 39):=qq1
def Ui:tb.inf 33=some (1,24,.slice none 0 0):=qq1
def Mp : tb.und 35 = some (.struct #[⟨ "H", 27, 0, false, "", "", 0⟩, ⟨ "L", 33, 2, false, "", "", 48⟩]) := by kernel_rfl
def TE:tb.inf 35=some (3,72,.agg #[.slice none 0 0,.slice none 0 0,.slice none 0 0]):=qq1
def Mn:tb.und 37=some (.slice 79):=qq1
def Uh:tb.inf 37=some (1,24,.slice none 0 0):=qq1
def Mm : tb.und 39 = some (.struct #[⟨ "Nodes", 37, 0, false, "", "", 0⟩]) := by kernel_rfl
def TD:tb.inf 39=some (1,24,.agg #[.slice none 0 0]):=qq1
def Ml : tb.und 41 = some (.struct #[⟨ "Kind", 3, 0, false, "", "", 0⟩, ⟨ "A", 3, 1, false, "", "", 8⟩, ⟨ "B", 3, 2, false, "", "", 16⟩, ⟨ "F", 39, 3, false, "", "", 24⟩]) := by kernel_rfl
def TB:tb.inf 41=some (4,48,.agg #[.int .i64 0,.int .i64 0,.int .i64 0,.slice none 0 0]):=qq1
def Mk:tb.und 58=some (.array 2 3):=qq1
def TA:tb.inf 58=some (2,16,.agg #[.int .i64 0,.int .i64 0]):=qq1
def Mj:tb.und 59=some (.slice 58):=qq1
def Mi:tb.und 77=some (.slice 105):=qq1
def Ug:tb.inf 77=some (1,24,.slice none 0 0):=qq1
def Mh : tb.und 79 = some (.struct #[⟨ "Type", 3, 0, false, "", "", 0⟩, ⟨ "Arcs", 77, 1, false, "", "", 8⟩]) := by kernel_rfl
def T9:tb.inf 79=some (2,32,.agg #[.int .i64 0,.slice none 0 0]):=qq1
def Mf:tb.und 81=some (.slice 92):=qq1
def Uf:tb.inf 81=some (1,24,.slice none 0 0):=qq1
def Me : tb.und 83 = some (.struct #[⟨ "h", 27, 0, false, "", "grammarlab/quasi", 0⟩, ⟨ "roots", 81, 2, false, "", "grammarlab/quasi", 48⟩, ⟨ "size", 3, 3, false, "", "grammarlab/quasi", 72⟩, ⟨ "at", 3, 4, false, "", "grammarlab/quasi", 80⟩]) := by kernel_rfl
def Md:tb.und 92=some (.pointer 103):=qq1
def T8:tb.inf 92=some (1,8,.pointer none):=qq1
def Mc:tb.und 93=some (.slice 107):=qq1
def Ud:tb.inf 93=some (1,24,.slice none 0 0):=qq1
def Mb : tb.und 95 = some (.struct #[⟨ "value", 92, 0, false, "", "grammarlab/quasi", 0⟩, ⟨ "at", 3, 1, false, "", "grammarlab/quasi", 8⟩]) := by kernel_rfl
def Uc:tb.inf 95=some (2,16,.agg #[.pointer none,.int .i64 0]):=qq1
def Ma : tb.und 97 = some (.struct #[⟨ "value", 3, 0, false, "", "grammarlab/quasi", 0⟩, ⟨ "at", 3, 1, false, "", "grammarlab/quasi", 8⟩]) := by kernel_rfl
def Ub:tb.inf 97=some (2,16,.agg #[.int .i64 0,.int .i64 0]):=qq1
def Lz : tb.und 99 = some (.struct #[⟨ "value", 93, 0, false, "", "grammarlab/quasi", 0⟩, ⟨ "at", 3, 1, false, "", "grammarlab/quasi", 24⟩]) := by kernel_rfl
def Ua:tb.inf 99=some (2,32,.agg #[.slice none 0 0,.int .i64 0]):=qq1
def X7 : tb.und 101 = some (.struct #[⟨ "value", 4, 0, false, "", "grammarlab/quasi", 0⟩, ⟨ "at", 3, 1, false, "", "grammarlab/quasi", 8⟩]) := by kernel_rfl
def Ay:tb.inf 101=some (2,16,.agg #[.bool false,.int .i64 0]):=qq1
def X6 : tb.und 103 = some (.struct #[⟨ "kind", 3, 0, false, "", "grammarlab/quasi", 0⟩, ⟨ "arcs", 93, 1, false, "", "grammarlab/quasi", 8⟩, ⟨ "forward", 95, 2, false, "", "grammarlab/quasi", 32⟩, ⟨ "meet", 97, 4, false, "", "grammarlab/quasi", 48⟩, ⟨ "more", 99, 6, false, "", "grammarlab/quasi", 64⟩, ⟨ "copied", 95, 8, false, "", "grammarlab/quasi", 96⟩, ⟨ "changed", 101, 10, false, "", "grammarlab/quasi", 112⟩]) := by kernel_rfl
def Ax:tb.inf 103=some (12,128,.agg #[.int .i64 0,.slice none 0 0,.pointer none,.int .i64 0,.int .i64 0,.int .i64 0,.slice none 0 0,.int .i64 0,.pointer none,.int .i64 0,.bool false,.int .i64 0]):=qq1
def X5 : tb.und 105 = some (.struct #[⟨ "Feat", 3, 0, false, "", "", 0⟩, ⟨ "To", 3, 1, false, "", "", 8⟩]) := by kernel_rfl
def HZ:tb.inf 105=some (2,16,.agg #[.int .i64 0,.int .i64 0]):=qq1
def X4 : tb.und 107 = some (.struct #[⟨ "feat", 3, 0, false, "", "grammarlab/quasi", 0⟩, ⟨ "to", 92, 1, false, "", "grammarlab/quasi", 8⟩]) := by kernel_rfl
def HY:tb.inf 107=some (2,16,.agg #[.int .i64 0,.pointer none]):=qq1
def X3:tb.und 108=some (.map 92 3):=qq1
def HX:tb.inf 108=some (1,8,.map none):=qq1
def X2:tb.und 109=some (.func #[92] #[3] false):=qq1
def HW:tb.inf 109=some (1,8,.nilFunc):=qq1
def WZ:tb.und 115=some (.slice 3):=qq1
def Aw:tb.inf 115=some (1,24,.slice none 0 0):=qq1
def WY:tb.und 116=some (.slice 77):=qq1
def WX:tb.und 134=some (.slice 145):=qq1
def WW:tb.und 137=some (.slice 143):=qq1
def WV:tb.und 141=some (.slice 213):=qq1
def HV:tb.inf 141=some (1,24,.slice none 0 0):=qq1
def WU : tb.und 143 = some (.struct #[⟨ "Name", 9, 0, false, "", "", 0⟩, ⟨ "Code", 141, 1, false, "", "", 16⟩]) := by kernel_rfl
def HU:tb.inf 143=some (2,40,.agg #[.string ⟨#[]⟩,.slice none 0 0]):=qq1
def WT:tb.und 145=some (.slice 186):=qq1
def HT:tb.inf 145=some (1,24,.slice none 0 0):=qq1
def WS : tb.und 147 = some (.struct #[⟨ "Name", 9, 0, false, "", "", 0⟩, ⟨ "Code", 141, 1, false, "", "", 16⟩, ⟨ "Supers", 115, 2, false, "", "", 40⟩, ⟨ "Feats", 145, 3, false, "", "", 64⟩]) := by kernel_rfl
def HS:tb.inf 147=some (4,88,.agg #[.string ⟨#[]⟩,.slice none 0 0,.slice none 0 0,.slice none 0 0]):=qq1
def WR:tb.und 150=some (.slice 9):=qq1
def Av:tb.inf 150=some (1,24,.slice none 0 0):=qq1
def WQ:tb.und 151=some (.slice 156):=qq1
def Au:tb.inf 151=some (1,24,.slice none 0 0):=qq1
def WO : tb.und 153 = some (.struct #[⟨ "Name", 9, 0, false, "", "", 0⟩, ⟨ "Supers", 150, 1, false, "", "", 16⟩, ⟨ "Feats", 151, 2, false, "", "", 40⟩]) := by kernel_rfl
def HR:tb.inf 153=some (3,64,.agg #[.string ⟨#[]⟩,.slice none 0 0,.slice none 0 0]):=qq1
def WN : tb.und 156 = some (.struct #[⟨ "Feat", 9, 0, false, "", "", 0⟩, ⟨ "Value", 9, 1, false, "", "", 16⟩]) := by kernel_rfl
def HQ:tb.inf 156=some (2,32,.agg #[.string ⟨#[]⟩,.string ⟨#[]⟩]):=qq1
def WM : tb.und 186 = some (.struct #[⟨ "Feat", 3, 0, false, "", "", 0⟩, ⟨ "Value", 3, 1, false, "", "", 8⟩]) := by kernel_rfl
def HP:tb.inf 186=some (2,16,.agg #[.int .i64 0,.int .i64 0]):=qq1
def WJ:tb.und 187=some (.slice 141):=qq1
def WI : tb.und 197 = some (.struct #[⟨ "Name", 9, 0, false, "", "", 0⟩, ⟨ "Intro", 3, 1, false, "", "", 16⟩]) := by kernel_rfl
def HO:tb.inf 197=some (2,24,.agg #[.string ⟨#[]⟩,.int .i64 0]):=qq1
def WH:tb.und 200=some (.array 2 92):=qq1
def HN:tb.inf 200=some (2,16,.agg #[.pointer none,.pointer none]):=qq1
def WG:tb.und 201=some (.slice 200):=qq1
def WF:tb.und 207=some (.map 92 4):=qq1
def WE:tb.und 212=some (.int .u64):=qq1
def WD:tb.und 213=some (.int .u64):=qq1
def HM:tb.inf 213=some (1,8,.int .u64 0):=qq1
def WC : tb.und 237 = some (.struct #[⟨ "f", 39, 0, false, "", "grammarlab/grammarlabref07", 0⟩, ⟨ "number", 115, 1, false, "", "grammarlab/grammarlabref07", 24⟩, ⟨ "order", 115, 2, false, "", "grammarlab/grammarlabref07", 48⟩]) := by kernel_rfl
def At:tb.inf 237=some (3,72,.agg #[.slice none 0 0,.slice none 0 0,.slice none 0 0]):=qq1
end Go.Proofs
namespace Go.Proofs
open Go Go.Rx Go.Vx
instance sD:eF tb 3 (.int .i64):=⟨dp⟩
instance un4:eF tb 4 (.bool):=⟨dj⟩
instance KI:eF tb 9 (.string):=⟨dh⟩
instance My:eF tb 22 (.slice 153):=⟨Mw⟩
instance:eF tb 23 (.slice 41):=⟨Mv⟩
instance GE:eF tb 24 (.slice 147):=⟨Mu⟩
instance:eF tb 25 (.slice 197):=⟨Mt⟩
instance sU : eF tb 27 (.struct #[⟨ "Types", 24, 0, false, "", "", 0⟩, ⟨ "Feats", 25, 1, false, "", "", 24⟩]) := ⟨Ms⟩
instance du:eF tb 31 (.pointer 83):=⟨Mr⟩
instance GD:eF tb 33 (.slice 39):=⟨Mq⟩
instance sT : eF tb 35 (.struct #[⟨ "H", 27, 0, false, "", "", 0⟩, ⟨ "L", 33, 2, false, "", "", 48⟩]) := ⟨Mp⟩
instance iI:eF tb 37 (.slice 79):=⟨Mn⟩
instance fT : eF tb 39 (.struct #[⟨ "Nodes", 37, 0, false, "", "", 0⟩]) := ⟨Mm⟩
instance : eF tb 41 (.struct #[⟨ "Kind", 3, 0, false, "", "", 0⟩, ⟨ "A", 3, 1, false, "", "", 8⟩, ⟨ "B", 3, 2, false, "", "", 16⟩, ⟨ "F", 39, 3, false, "", "", 24⟩]) := ⟨Ml⟩
instance MQ:eF tb 58 (.array 2 3):=⟨Mk⟩
instance MP:eF tb 59 (.slice 58):=⟨Mj⟩
instance fS:eF tb 77 (.slice 105):=⟨Mi⟩
instance u9 : eF tb 79 (.struct #[⟨ "Type", 3, 0, false, "", "", 0⟩, ⟨ "Arcs", 77, 1, false, "", "", 8⟩]) := ⟨Mh⟩
instance gX:eF tb 81 (.slice 92):=⟨Mf⟩
instance : eF tb 83 (.struct #[⟨ "h", 27, 0, false, "", "grammarlab/quasi", 0⟩, ⟨ "roots", 81, 2, false, "", "grammarlab/quasi", 48⟩, ⟨ "size", 3, 3, false, "", "grammarlab/quasi", 72⟩, ⟨ "at", 3, 4, false, "", "grammarlab/quasi", 80⟩]) := ⟨Me⟩
instance gW:eF tb 92 (.pointer 103):=⟨Md⟩
instance DA:eF tb 93 (.slice 107):=⟨Mc⟩
instance dt : eF tb 95 (.struct #[⟨ "value", 92, 0, false, "", "grammarlab/quasi", 0⟩, ⟨ "at", 3, 1, false, "", "grammarlab/quasi", 8⟩]) := ⟨Mb⟩
instance dr : eF tb 97 (.struct #[⟨ "value", 3, 0, false, "", "grammarlab/quasi", 0⟩, ⟨ "at", 3, 1, false, "", "grammarlab/quasi", 8⟩]) := ⟨Ma⟩
instance dq : eF tb 99 (.struct #[⟨ "value", 93, 0, false, "", "grammarlab/quasi", 0⟩, ⟨ "at", 3, 1, false, "", "grammarlab/quasi", 24⟩]) := ⟨Lz⟩
instance Ng : eF tb 101 (.struct #[⟨ "value", 4, 0, false, "", "grammarlab/quasi", 0⟩, ⟨ "at", 3, 1, false, "", "grammarlab/quasi", 8⟩]) := ⟨X7⟩
instance Nf : eF tb 103 (.struct #[⟨ "kind", 3, 0, false, "", "grammarlab/quasi", 0⟩, ⟨ "arcs", 93, 1, false, "", "grammarlab/quasi", 8⟩, ⟨ "forward", 95, 2, false, "", "grammarlab/quasi", 32⟩, ⟨ "meet", 97, 4, false, "", "grammarlab/quasi", 48⟩, ⟨ "more", 99, 6, false, "", "grammarlab/quasi", 64⟩, ⟨ "copied", 95, 8, false, "", "grammarlab/quasi", 96⟩, ⟨ "changed", 101, 10, false, "", "grammarlab/quasi", 112⟩]) := ⟨X6⟩
instance tH : eF tb 105 (.struct #[⟨ "Feat", 3, 0, false, "", "", 0⟩, ⟨ "To", 3, 1, false, "", "", 8⟩]) := ⟨X5⟩
instance Nd : eF tb 107 (.struct #[⟨ "feat", 3, 0, false, "", "grammarlab/quasi", 0⟩, ⟨ "to", 92, 1, false, "", "grammarlab/quasi", 8⟩]) := ⟨X4⟩
instance GI:eF tb 108 (.map 92 3):=⟨X3⟩
instance:eF tb 109 (.func #[92] #[3] false):=⟨X2⟩
instance cU:eF tb 115 (.slice 3):=⟨WZ⟩
instance qP:eF tb 116 (.slice 77):=⟨WY⟩
instance:eF tb 134 (.slice 145):=⟨WX⟩
instance qO:eF tb 137 (.slice 143):=⟨WW⟩
instance fU:eF tb 141 (.slice 213):=⟨WV⟩
instance QR : eF tb 143 (.struct #[⟨ "Name", 9, 0, false, "", "", 0⟩, ⟨ "Code", 141, 1, false, "", "", 16⟩]) := ⟨WU⟩
instance:eF tb 145 (.slice 186):=⟨WT⟩
instance GH : eF tb 147 (.struct #[⟨ "Name", 9, 0, false, "", "", 0⟩, ⟨ "Code", 141, 1, false, "", "", 16⟩, ⟨ "Supers", 115, 2, false, "", "", 40⟩, ⟨ "Feats", 145, 3, false, "", "", 64⟩]) := ⟨WS⟩
instance jZ:eF tb 150 (.slice 9):=⟨WR⟩
instance GG:eF tb 151 (.slice 156):=⟨WQ⟩
instance w4 : eF tb 153 (.struct #[⟨ "Name", 9, 0, false, "", "", 0⟩, ⟨ "Supers", 150, 1, false, "", "", 16⟩, ⟨ "Feats", 151, 2, false, "", "", 40⟩]) := ⟨WO⟩
instance Nc : eF tb 156 (.struct #[⟨ "Feat", 9, 0, false, "", "", 0⟩, ⟨ "Value", 9, 1, false, "", "", 16⟩]) := ⟨WN⟩
instance Nb : eF tb 186 (.struct #[⟨ "Feat", 3, 0, false, "", "", 0⟩, ⟨ "Value", 3, 1, false, "", "", 8⟩]) := ⟨WM⟩
instance qN:eF tb 187 (.slice 141):=⟨WJ⟩
instance Na : eF tb 197 (.struct #[⟨ "Name", 9, 0, false, "", "", 0⟩, ⟨ "Intro", 3, 1, false, "", "", 16⟩]) := ⟨WI⟩
instance QQ:eF tb 200 (.array 2 92):=⟨WH⟩
instance lK:eF tb 201 (.slice 200):=⟨WG⟩
instance GF:eF tb 207 (.map 92 4):=⟨WF⟩
instance QO:eF tb 212 (.int .u64):=⟨WE⟩
instance Mz:eF tb 213 (.int .u64):=⟨WD⟩
instance QM : eF tb 237 (.struct #[⟨ "f", 39, 0, false, "", "grammarlab/grammarlabref07", 0⟩, ⟨ "number", 115, 1, false, "", "grammarlab/grammarlabref07", 24⟩, ⟨ "order", 115, 2, false, "", "grammarlab/grammarlabref07", 48⟩]) := ⟨WC⟩
instance iG:iF tb 3 1 8 (.int .i64 0):=⟨Uj⟩
instance:pV tb 3 [.int .i64 0]:=⟨_,_,_,Uj,rfl,rfl⟩
instance if4:iF tb 4 1 1 (.bool false):=⟨inf4⟩
instance I0:iF tb 9 1 16 (.string ⟨#[]⟩):=⟨Ue⟩
instance:pV tb 9 [.str []]:=⟨_,_,_,Ue,rfl,rfl⟩
instance Az:iF tb 24 1 24 (.slice none 0 0):=⟨Ul⟩
instance:iF tb 25 1 24 (.slice none 0 0):=⟨Uk⟩
instance B2:iF tb 27 2 48 (.agg #[.slice none 0 0,.slice none 0 0]):=⟨TF⟩
instance:pV tb 27 [.nils,.nils]:=⟨_,_,_,TF,rfl,rfl⟩
instance if33:iF tb 33 1 24 (.slice none 0 0):=⟨Ui⟩
instance rE:iF tb 35 3 72 (.agg #[.slice none 0 0,.slice none 0 0,.slice none 0 0]):=⟨TE⟩
instance:pV tb 35 [.nils,.nils,.nils]:=⟨_,_,_,TE,rfl,rfl⟩
instance E3:iF tb 37 1 24 (.slice none 0 0):=⟨Uh⟩
instance hJ:iF tb 39 1 24 (.agg #[.slice none 0 0]):=⟨TD⟩
instance:pV tb 39 [.nils]:=⟨_,_,_,TD,rfl,rfl⟩
instance:iF tb 41 4 48 (.agg #[.int .i64 0,.int .i64 0,.int .i64 0,.slice none 0 0]):=⟨TB⟩
instance:pV tb 41 [.int .i64 0,.int .i64 0,.int .i64 0,.nils]:=⟨_,_,_,TB,rfl,rfl⟩
instance OM:iF tb 58 2 16 (.agg #[.int .i64 0,.int .i64 0]):=⟨TA⟩
instance:pV tb 58 [.int .i64 0,.int .i64 0]:=⟨_,_,_,TA,rfl,rfl⟩
instance lP:iF tb 77 1 24 (.slice none 0 0):=⟨Ug⟩
instance mX:iF tb 79 2 32 (.agg #[.int .i64 0,.slice none 0 0]):=⟨T9⟩
instance:pV tb 79 [.int .i64 0,.nils]:=⟨_,_,_,T9,rfl,rfl⟩
instance:iF tb 81 1 24 (.slice none 0 0):=⟨Uf⟩
instance iO:iF tb 92 1 8 (.pointer none):=⟨T8⟩
instance:pV tb 92 [.nilp]:=⟨_,_,_,T8,rfl,rfl⟩
instance:iF tb 93 1 24 (.slice none 0 0):=⟨Ud⟩
instance if95:iF tb 95 2 16 (.agg #[.pointer none,.int .i64 0]):=⟨Uc⟩
instance if97:iF tb 97 2 16 (.agg #[.int .i64 0,.int .i64 0]):=⟨Ub⟩
instance if99:iF tb 99 2 32 (.agg #[.slice none 0 0,.int .i64 0]):=⟨Ua⟩
instance Ut:iF tb 101 2 16 (.agg #[.bool false,.int .i64 0]):=⟨Ay⟩
instance mO:iF tb 103 12 128 (.agg #[.int .i64 0,.slice none 0 0,.pointer none,.int .i64 0,.int .i64 0,.int .i64 0,.slice none 0 0,.int .i64 0,.pointer none,.int .i64 0,.bool false,.int .i64 0]):=⟨Ax⟩
instance hX:iF tb 105 2 16 (.agg #[.int .i64 0,.int .i64 0]):=⟨HZ⟩
instance:pV tb 105 [.int .i64 0,.int .i64 0]:=⟨_,_,_,HZ,rfl,rfl⟩
instance CC:iF tb 107 2 16 (.agg #[.int .i64 0,.pointer none]):=⟨HY⟩
instance:pV tb 107 [.int .i64 0,.nilp]:=⟨_,_,_,HY,rfl,rfl⟩
instance:iF tb 108 1 8 (.map none):=⟨HX⟩
instance:pV tb 108 [.nilm]:=⟨_,_,_,HX,rfl,rfl⟩
instance:iF tb 109 1 8 (.nilFunc):=⟨HW⟩
instance:pV tb 109 [.nilf]:=⟨_,_,_,HW,rfl,rfl⟩
instance Us:iF tb 115 1 24 (.slice none 0 0):=⟨Aw⟩
instance pB:iF tb 141 1 24 (.slice none 0 0):=⟨HV⟩
instance:pV tb 141 [.nils]:=⟨_,_,_,HV,rfl,rfl⟩
instance rG:iF tb 143 2 40 (.agg #[.string ⟨#[]⟩,.slice none 0 0]):=⟨HU⟩
instance:pV tb 143 [.str [],.nils]:=⟨_,_,_,HU,rfl,rfl⟩
instance:iF tb 145 1 24 (.slice none 0 0):=⟨HT⟩
instance:pV tb 145 [.nils]:=⟨_,_,_,HT,rfl,rfl⟩
instance I1:iF tb 147 4 88 (.agg #[.string ⟨#[]⟩,.slice none 0 0,.slice none 0 0,.slice none 0 0]):=⟨HS⟩
instance:pV tb 147 [.str [],.nils,.nils,.nils]:=⟨_,_,_,HS,rfl,rfl⟩
instance:iF tb 150 1 24 (.slice none 0 0):=⟨Av⟩
instance TH:iF tb 151 1 24 (.slice none 0 0):=⟨Au⟩
instance wO:iF tb 153 3 64 (.agg #[.string ⟨#[]⟩,.slice none 0 0,.slice none 0 0]):=⟨HR⟩
instance:pV tb 153 [.str [],.nils,.nils]:=⟨_,_,_,HR,rfl,rfl⟩
instance TG:iF tb 156 2 32 (.agg #[.string ⟨#[]⟩,.string ⟨#[]⟩]):=⟨HQ⟩
instance:pV tb 156 [.str [],.str []]:=⟨_,_,_,HQ,rfl,rfl⟩
instance Ur:iF tb 186 2 16 (.agg #[.int .i64 0,.int .i64 0]):=⟨HP⟩
instance:pV tb 186 [.int .i64 0,.int .i64 0]:=⟨_,_,_,HP,rfl,rfl⟩
instance Uq:iF tb 197 2 24 (.agg #[.string ⟨#[]⟩,.int .i64 0]):=⟨HO⟩
instance:pV tb 197 [.str [],.int .i64 0]:=⟨_,_,_,HO,rfl,rfl⟩
instance rF:iF tb 200 2 16 (.agg #[.pointer none,.pointer none]):=⟨HN⟩
instance:pV tb 200 [.nilp,.nilp]:=⟨_,_,_,HN,rfl,rfl⟩
instance lQ:iF tb 213 1 8 (.int .u64 0):=⟨HM⟩
instance:pV tb 213 [.int .u64 0]:=⟨_,_,_,HM,rfl,rfl⟩
instance Up:iF tb 237 3 72 (.agg #[.slice none 0 0,.slice none 0 0,.slice none 0 0]):=⟨At⟩
end Go.Proofs
namespace Go.Vx
open Go Go.Rx
variable{q:X U}
variable{p:X U}
variable{a:Nat}
def qwj{n:Nat}(h:kY q a n=some p):a+n<=q.length/\(q.drop a).take n=p:=by unfold kY at h;split at h;rename_i hj;exact⟨hj,Option.some.inj h⟩;cases h
variable{sz:Nat}
variable{fo:Nat}
def ZW{u:U}(h:kY q a sz=some p)(h2:nth p fo=some u):nth q (a+fo)=some u:=by obtain⟨h1,rfl⟩:=qwj h;rw[kK]at h2 ⊢;have hl:=(zG.1 h2).1;rw[List.length_take]at hl;rw[List.getElem?_take_of_lt qq0,List.getElem?_drop]at h2;exact h2
def ZK{p' cs:X U}(h:kY q a sz=some p)(h2:qT p fo cs=some p'):qT q (a+fo) cs=qT q a p':=by
 obtain⟨h1,rfl⟩:=qwj h;unfold qT at h2;split at h2
 ·rename_i hj;have hp:=Option.some.inj h2;rw[List.length_take,List.length_drop]at hj;have hl:p'.length=sz:=by rw[<-hp];simp;omega
  unfold qT;rw[if_pos qq0,if_pos qq0,<-hp];congr 1;have e1:List.take fo (List.take sz (List.drop a q))=List.take fo (List.drop a q):=by rw[List.take_take,Nat.min_eq_left qq0]
  have e2:List.take (a+fo) q=List.take a q++List.take fo (List.drop a q):=List.take_add;have e3:List.drop (a+fo+cs.length) q=List.drop (fo+cs.length) (List.take sz (List.drop a q))++List.drop (a+sz) q:=by
   have:List.drop a q=List.take sz (List.drop a q)++List.drop (a+sz) q:=by rw[<-List.drop_drop,List.take_append_drop]
   rw[Nat.add_assoc,<-List.drop_drop]
   conv=>lhs;rw[this]
   rw[List.drop_append_of_le_length (by rw[List.length_take,List.length_drop];omega)]
  rw[e1,e2,e3];simp[zT,hl];omega
 cases h2
section
variable{T:Tb}{Y Y':Sg}{n:Nat}{l:X (Nat×U)}{u v w:U}
def F7{v12:Type}(c:v12->X U){t e':TypeId}{d:TypeDesc}{K st off m:Nat}{xs:X v12}{i:Int}{x:v12}{o:Xt}(hd:T.und t=some d)(ha:qE d=false)(hc:∀x,(c x).length=sz)(ho:bM n l o=some (.ptr K st (off*sz+i.toNat*sz+fo)))(hv:gt Y.h K=some (.vec (xs.map c).flatten e' sz st))(hx:i9 xs off m i=some x)(hu:nth (c x) fo=some u):bI T Y (fr n l) (.load t o)=some (u,Y):=by
 refine Q6 rfl ?_;have hb:Nat.beq st st=true:=by simp[beq_eq]
 have hg:=ot hc (S0 hx).2.2;rw[Nat.add_mul]at hg;simp only[qX,dQ ho,cellsOf,hv,hb,zC,F6,hd,ha,zD,ZW hg hu]
def tg{v12:Type}(c:v12->X U){t e':TypeId}{s K st off m:Nat}{xs:X v12}{i:Int}{x y:v12}{o z:Xt}{cs:X U}{h':X (Nat×B)}(hs:cD T t=some s)(hc:∀x,(c x).length=sz)(ho:bM n l o=some (.ptr K st (off*sz+i.toNat*sz+fo)))(hz:bM n l z=some v)(BK:vC v=some cs)(hk:okL cs=true)(hl:Nat.beq cs.length s=true)(hv:gt Y.h K=some (.vec (xs.map c).flatten e' sz st))(hx:i9 xs off m i=some x)(hy:qT (c x) fo (vY cs)=some (c y))(Ba:ug Y.h K (.vec ((xs.set (off+i.toNat) y).map c).flatten e' sz st)=h'):bI T Y (fr n l) (.store t o z)=some (.junk,⟨h',Y.nx⟩):=by
 subst Ba;have hb:Nat.beq st st=true:=by simp
 have hj:=(zG.1 (S0 hx).2.2).1;have hg:=ot hc (S0 hx).2.2;have hp:=ZK hg hy;rw[r_ hc hj y,Nat.add_mul]at hp;exact JZ rfl rfl (by simp only[qU,dQ ho,dQ hz,XZ,hs,BK,hl,hk,zC,cellsOf,hv,hb,EU,hp,MY])
end
def DK{Y:Sg}{k t e:Nat}{l:X U}(h:gt Y.h k=some (.vec l e sz t)):live Y k t=true:=by simp only[live,h,B.st,beq_eq,yC]
variable{T:Tb}
variable{t:TypeId}
variable{e:TypeId}
variable{sz:Nat}
variable{z:Value}
def qr6{P:DC}(hT:j0 P T){m:Nm}{s:S}(w:Nr){by_ n:Nat}{ps:X (Nat×Value)}{cps:X (Nat×Value)}{cs:X Value}
  (hps:∀m',aN s.nx m m'->ps.map (fun p=>(p.1,ren m' p.2))=cps) (hd:T.und t=some (.slice e)) (hi:T.inf e=some (sz,by_,z)) (h1:Nat.ble (n*sz) 16777216=true) (h2:z.cells.toList.length=sz) (h3:DI (fun i=>some (i*sz,sz)) (dD z.cells.toList n) ps=some cs):
  ∃cl,nS m s.nx cs cl/\(Instr.buildSlice t n cps.toArray).run P w=.ok (.slice (some ⟨w.heap.size,0,none⟩) n n) (w.alloc (.cells ⟨cl⟩ e)):=by
 have eY:cD T e=some sz:=by simp[cD,hi]
 have hz:=fun m'=>NG hT m' w hi;have CF:=kn hT hi;simp only at hz CF;have tV:n*sz<=16777216:=by simpa[Nat.ble_eq]using h1
 have lT:∀m',aN s.nx m m'->Instr.fill (fun i=>some (i*sz,sz)) ⟨dD z.cells.toList n⟩ cps=some ⟨aJ m' cs⟩:=fun m' ha=>by have:=Oy m' _ ps _ _ h3;rw[hps m' ha,F_ CF]at this;exact this
 have iS:nS m s.nx cs (aJ m cs):=fun m' ha=>by have e1:=lT m' ha;have e2:=lT m (aN.refl _ _);rw[e1]at e2;simpa using e2
 have iT:z.cells.size=sz:=by simpa using h2
 refine⟨aJ m cs,iS,?_⟩;have fC:(Array.range (n*sz)).map (fun i=>(if n*sz=0 then(#[]:Zu Value)else z.cells)[i%(if n*sz=0 then(#[]:Zu Value)else z.cells).size]!)=⟨dD z.cells.toList n⟩:=by
  by_cases h0:n*sz=0;rw[h0];apply Array.ext';have:(dD z.cells.toList n).length=0:=by rw[G_,h2,h0]
  simp[List.length_eq_zero_iff.1 this];simp only[if_neg h0];have:=ru z.cells n;rw[iT]at this;rw[<-this];simp[iT]
 have hf2:=lT m (aN.refl _ _);have hnot:¬ n*sz>2^24:=by omega
 have Uu:=(hz m).1;by_cases h0:n*sz=0;simp only[if_pos h0]at fC;simp only[Instr.buildSlice,zK,kM hT w hd,zJ,pR hT w eY,Sem.run_ite,if_neg hnot,zL,if_pos h0];rw[fC,hf2];simp[Go.newRow];simp only[if_neg h0]at fC;simp only[Instr.buildSlice,zK,kM hT w hd,zJ,pR hT w eY,Sem.run_ite,if_neg hnot,zL,if_neg h0,Uu];rw[fC,hf2];simp[Go.newRow]
def fN.bslw{C:PG}(hT:j0 C.prog T){Y:Sg}{tm:X U}{o:Oper}{k b:Nat}{zu cs0 cs:X U}{ps:Zu (Nat×Xt)}{qs:X (Nat×U)}(ho:o.op=.buildSlice t k ps)(hd:T.und t=some (.slice e))(hi:T.inf e=some (sz,b,z))
  (h:yM tm ps.toList=some qs) (h1:Nat.ble (k*sz) 16777216=true) (h3:Nat.beq z.cells.toList.length sz=true) (hz:pM z.cells.toList=some zu) (hf:qY (fun i=>some (i*sz,sz)) (wD zu k) qs=some cs0) (hw:oU cs0 cs) (hk:okL cs=true) (hl:Nat.beq cs.length (k*sz)=true) (hs:Nat.blt 0 sz=true):
  fN C Y tm o (fun u Y'=>u=.vl Y.nx 0 0 k/\Y'=newU Y (.vec cs e sz 0)):=fun F x tv m w a next Q fH st hG hn ro eZ=>by
 subst fH;obtain⟨vs,ev,hp⟩:=Y_ st.e h;have CE:=(Y8 _ _ hz).2 x;obtain⟨rv,f1,f2⟩:=Pj hp (E_ CE k) hf;have f2:bA x cs rv:=⟨hw.rel f2.1,by rw[hw.len];exact f2.2⟩;have h2:z.cells.toList.length=sz:=by simpa[beq_eq]using h3
 obtain⟨cl,g1,g2⟩:=qr6 hT (m:=m) (s:=x.s) w (cps:=ps.toList.map fun p=>(p.1,a.eval p.2)) (fun m' jR=>(u_ (st.act m' jR) ev).symm) hd hi h1 h2 f1;have e1:(ps.map fun(i,x)=>(i,a.eval x))=(ps.toList.map fun p=>(p.1,a.eval p.2)).toArray:=by cases ps;simp
 have dG:(execOp a.eval o).run C.prog w=.ok (.value (.slice (some ⟨w.heap.size,0,none⟩) k k)) (w.alloc (.cells ⟨cl⟩ e)):=by simp only[execOp,ho];rw[e1];simp only[zK,g2,zJ,zL]
 have aQ:rv.length=k*sz:=by
  have h5:=f2.2;have h6:cs.length=k*sz:=by simpa[beq_eq]using hl
  rw[<-h5,h6]
 have aS:bT m x.s w (m.set x.s.nx w.heap.size 0 k) (Rx.newRow x.s rv e (sz+2)) (w.alloc (.cells ⟨cl⟩ e)):=by have:=A? st.fits (rest:=[]) g1 e k sz (by simpa using aQ);simpa using this
 have eY:0<sz:=by simpa[Nat.blt_eq]using hs
 have kQ:=qng st.h f2 hk e eY;have iP:iY (m.set x.s.nx w.heap.size 0 k) (x.s.nx+1) (.slice (some ⟨x.s.nx,0,none⟩) k cV) (.slice (some ⟨w.heap.size,0,none⟩) k k):=fun m' ha=>by obtain⟨q1,q2,q3⟩:=ha x.s.nx (zN _);obtain⟨r1,r2,r3⟩:=C3 m x.s.nx w.heap.size 0 k;simp[ren,q1,q2,r1,r2,dM,cT,q3,r3]
 refine wH (by rw[ho];intro c hc;cases hc) ?_;unfold Oper.wp;rw[dG];exact hn _ ⟨mB x.I x.Y.nx (some x.s.nx),newU x.Y (.vec cs e sz 0),Rx.newRow x.s rv e (sz+2)⟩ (BX tv o.dst (.slice (some ⟨x.s.nx,0,none⟩) k cV)) _ _ _ ⟨rfl,rfl⟩
  ⟨kQ.h,kQ.fr F st.fr,KV (kQ.mo.ke.E st.e.bel st.e) qnq _,aS.fits,(st.act.ext aS.agree aS.nx).put iP o.dst⟩ aS kQ.mo.ke kQ.mo.nx (HC _ _ _)
def fN.bslv{C:PG}(hT:j0 C.prog T){Y:Sg}{tm:X U}{o:Oper}{k b:Nat}{zu cs:X U}{ps:Zu (Nat×Xt)}{qs:X (Nat×U)}(ho:o.op=.buildSlice t k ps)(hd:T.und t=some (.slice e))(hi:T.inf e=some (sz,b,z))
  (h:yM tm ps.toList=some qs) (h1:Nat.ble (k*sz) 16777216=true) (h3:Nat.beq z.cells.toList.length sz=true) (hz:pM z.cells.toList=some zu) (hf:qY (fun i=>some (i*sz,sz)) (wD zu k) qs=some cs) (hk:okL cs=true) (hl:Nat.beq cs.length (k*sz)=true) (hs:Nat.blt 0 sz=true):
  fN C Y tm o (fun u Y'=>u=.vl Y.nx 0 0 k/\Y'=newU Y (.vec cs e sz 0)):=fN.bslw hT ho hd hi h h1 h3 hz hf (oU.refl _) hk hl hs
def yS(K K2 k:Nat):Nat:=cond (Nat.beq k K) K2 k
def LL(K K2:Nat):X (Nat×B)->X (Nat×B)
 |[]=>[]|(k,b)::h=>cond (Nat.beq k K) (LL K K2 h) (cond (Nat.beq k K2) ((K,b)::LL K K2 h) ((k,b)::LL K K2 h))
def fv{K K2:Nat}(cR:K≠K2):∀(h:X (Nat×B))(j:Nat),gt (LL K K2 h) j=if j=K then gt h K2 else if j=K2 then none else gt h j
 |[],j=>by simp[LL,gt]
 |(k,b)::h,j=>by have ih:=fv cR h j;simp only[LL,beq_eq];by_cases e1:k=K;subst e1;simp only[yC,zC,ih,aP];by_cases e2:j=k;subst e2;simp[cR];simp[e2,Ne.symm e2];by_cases e2:k=K2;subst e2;simp only[e1,yB,zD,yC,zC,aP,ih];by_cases e3:j=K;subst e3;simp;by_cases e4:j=k;simp[e4,e1,Ne.symm e3];intro h;exact absurd h.symm e1;simp[e3,e4,Ne.symm e3,Ne.symm e4];simp only[e1,e2,yB,zD,aP,ih];by_cases e3:j=K;subst e3;simp[e1,e2];by_cases e4:j=K2;subst e4;simp[e3,e2];simp[e3,e4]
def rS(Z:Nat->Nat):X (Nat×U)->X (Nat×U)
 |[]=>[]|(i,u)::l=>(i,rU Z u)::rS Z l
def qvj(Z:Nat->Nat):∀(l:X (Nat×U))(i:Nat),nI (rS Z l) i=(nI l i).map (rU Z)
 |[],i=>rfl|(j,u)::l,i=>by simp only[rS,nI,beq_eq,qvj Z l i];by_cases e:j=i<;>simp[e]
def z1y(Z:Nat->Nat):∀(l:X U)(i:Nat),(fB Z l)[i]? = (l[i]?).map (rU Z)
 |[],i=>by simp[fB]
 |u::l,0=>by simp[fB]
 |u::l,i+1=>by simp[fB,z1y Z l i]
def XO(Z:Nat->Nat)(n:Nat)(l:X (Nat×U)):fB Z (fr n l)=fr n (rS Z l):=by apply List.ext_getElem?;intro k;rw[z1y];by_cases hk:k<n;rw[N9 n l hk,N9 n _ hk,qvj];rcases nI l k with _|w;simp[rU];rfl;rw[List.getElem?_eq_none (by simp[DM];omega),List.getElem?_eq_none (by simp[DM];omega)];rfl
def Zt(Z:Nat->Nat):X (Nat×B)->Prop
 |[]=>True|(_,b)::h=>rB Z b=b/\Zt Z h
def z6z{Z:Nat->Nat}:∀{h:X (Nat×B)},Zt Z h->∀k b,gt h k=some b->rB Z b=b
 |[],_,k,b,hg=>by cases hg
 |(j,c)::h,ha,k,b,hg=>by rw[aP]at hg;by_cases e:j=k;rw[if_pos e]at hg;cases hg;exact ha.1;rw[if_neg e]at hg;exact z6z ha.2 k b hg
def Gh.mv{n0 n:Nat}{l l':X (Nat×U)}{Y:Sg}{h':X (Nat×B)}(K K2:Nat)(h0:n0<=K)(hK:Nat.blt K Y.nx=true)(cR:Nat.beq K K2=false)(hl:rS (yS K K2) l'=l)(hm:LL K K2 Y.h=h')(ha:Zt (yS K K2) h')[hb:BS Y.nx l']:Gh n0 (fr n l) Y (fr n l') ⟨h',Y.nx⟩:=fun F x tv hx hr hf he=>by
 subst hx;subst hl;subst hm;have hK':K<x.Y.nx:=by simpa[Nat.blt_eq]using hK
 have Bz:K≠K2:=by simpa[beq_eq]using cR
 have key:∀k b,gt (LL K K2 x.Y.h) k=some b->gt x.Y.h (yS K K2 k)=some b:=fun k b hg=>by rw[fv Bz]at hg;simp only[yS,beq_eq];by_cases e:k=K;rw[if_pos e]at hg;simpa[e]using hg;rw[if_neg e]at hg;by_cases e2:k=K2;rw[if_pos e2]at hg;cases hg;rw[if_neg e2]at hg;simpa[e]using hg
 let y:Cx:=⟨fun k=>x.I (yS K K2 k),⟨LL K K2 x.Y.h,x.Y.nx⟩,x.s⟩
 have hU:RN x.Y.nx (yS K K2) x y:=⟨fun k st off v hk h=>by
   simp only[aC,Ref]at h ⊢;exact⟨h.1,hk,fun b hb=>h.2.2 b (key k b hb)⟩,fun k off m c v hk h=>by
   simp only[aC,Ref]at h ⊢;exact⟨h.1,hk,fun b hb=>h.2.2 b (key k b hb)⟩,fun k st off m v hk h=>by
   simp only[aC]at h ⊢;exact⟨h.1,hk,fun b hb=>h.2.2 b (key k b hb)⟩,fun k v hk h=>by
   simp only[aC,Ref]at h ⊢;exact⟨h.1,hk,fun b hb=>h.2.2 b (key k b hb)⟩,fun _ _ _ h=>h⟩
 have IQ:∀u,aT n0 u->rU (yS K K2) u=u:=fun u PC=>by
  have:=xn (Z:=id) (κ:=yS K K2) (n:=n0) (fun k hk=>by
   have:¬ k=K:=by omega
   simp[yS,beq_eq,this]) u PC
  rwa [Nt]at this
 refine⟨y,fun m w hf=>bT.refl hf,rfl,⟨fun k b hb=>?_,fun k k' b b' i hb cK h1 h2=>?_,hr.bd⟩,fun i b O=>?_,?_,fun u v PC hv=>?_⟩;have hg:=key k b hb;obtain⟨g1,g2⟩:=hr.ok _ _ hg;have Kq:k<x.Y.nx:=by
  by_cases e:k=K;omega;have e2:yS K K2 k=k:=by simp[yS,beq_eq,e]
  rw[e2]at g1;exact g1
 refine⟨Kq,nO.unleaf hU g2.belB rfl (fun _ _ _ h=>h) ?_⟩;rw[z6z ha k b hb];exact g2;have e:=hr.inj _ _ b b' i (key k b hb) (key k' b' cK) h1 h2;have gw:∀k b,gt (LL K K2 x.Y.h) k=some b->k≠K2:=fun k b hb h=>by subst h;rw[fv Bz,if_neg (Ne.symm Bz),if_pos rfl]at hb;cases hb
 have q1:=gw k b hb;have q2:=gw k' b' cK;simp only[yS,beq_eq]at e;by_cases e1:k=K;by_cases e2:k'=K;rw[e1,e2];simp[e1,e2]at e;exact absurd e.symm q2;by_cases e2:k'=K;simp[e1,e2]at e;exact absurd e q1;simpa[e1,e2]using e;obtain⟨h1,h2⟩:=hf i b O;exact⟨h1,fun k c hc=>h2 _ c (key k c hc)⟩;refine bA.unleaf hU (YD hb.h) ?_;rw[XO];exact he;exact aC.unleaf hU u v (aT.le qq0 u PC) (by rw[IQ u PC];exact hv)
variable{T:Tb}{Y:Sg}
def Ge{t e:TypeId}{m sz k st off:Nat}{i:Int}{kd:IntKind}(hd:T.und t=some (.array m e))(hs:cD T e=some sz)(hl:live Y k st=true)(hi:0<=i/\i<m){iB:Nat}(ho:off+i.toNat*sz=iB):C5 T Y t (.ptr k st off) (.int kd i)=some (.ptr k st iB):=by subst ho;simp only[C5,hd,hs,hl,zC,if_pos hi]
def Tr{t e:TypeId}{k st off:Nat}{op:BinOp}{u:U}(hd:T.und t=some (.pointer e))(hl:live Y k st=true)(hu:EK op=some u):Gp T Y op t (.ptr k st off) .nilp=some u:=by simp only[Gp,yG,hd,gK,hl,KX,hu,zC,Nat.beq,zD]
end Go.Vx
namespace Go.Proofs
open Go Go.Rx
def fn3:tb.fn 3=some Tryz.f3:=qq1
def fn9:tb.fn 9=some Tryz.f9:=qq1
def Zc:tb.fn 10=some Tryz.f10:=qq1
def Du:tb.fn 11=some Tryz.f11:=qq1
def Dt:tb.fn 12=some Tryz.f12:=qq1
def Za:tb.fn 13=some Tryz.f13:=qq1
def Yz:tb.fn 14=some Tryz.f14:=qq1
def Yy:tb.fn 15=some Tryz.f15:=qq1
def PY:tb.fn 16=some Tryz.f16:=qq1
def Yx:tb.fn 17=some Tryz.f17:=qq1
def IX:tb.fn 18=some Tryz.f18:=qq1
def EI:tb.fn 19=some Tryz.f19:=qq1
def IW:tb.fn 20=some Tryz.f20:=qq1
def IV:tb.fn 21=some Tryz.f21:=qq1
def PX:tb.fn 22=some Tryz.f22:=qq1
def PW:tb.fn 32=some Tryz.f32:=qq1
def Yw:tb.fn 33=some Tryz.f33:=qq1
def v07:tb.fn 34=some Tryz.f34:=qq1
def IU:tb.fn 35=some Tryz.f35:=qq1
def uQ:tb.fn 36=some Tryz.f36:=qq1
def Ds:tb.fn 37=some Tryz.f37:=qq1
def Yu:tb.fn 38=some Tryz.f38:=qq1
def Yt:tb.fn 39=some Tryz.f39:=qq1
def PV:tb.fn 40=some Tryz.f40:=qq1
def Ys:tb.fn 41=some Tryz.f41:=qq1
def Yr:tb.fn 42=some Tryz.f42:=qq1
def PU:tb.fn 43=some Tryz.f43:=qq1
def Yq:tb.fn 44=some Tryz.f44:=qq1
def Dr:tb.fn 45=some Tryz.f45:=qq1
def Yp:tb.fn 46=some Tryz.f46:=qq1
def Yo:tb.fn 53=some Tryz.f53:=qq1
def Yn:tb.fn 57=some Tryz.f57:=qq1
def IT:tb.fn 58=some Tryz.f58:=qq1
def Ym:tb.fn 59=some Tryz.f59:=qq1
def Yl:tb.fn 60=some Tryz.f60:=qq1
def o5:tb.fn 61=some Tryz.f61:=qq1
def Dq:tb.fn 62=some Tryz.f62:=qq1
def Yk:tb.fn 63=some Tryz.f63:=qq1
def Dp:tb.fn 64=some Tryz.f64:=qq1
def Yj:tb.fn 65=some Tryz.f65:=qq1
def xR:tb.fn 66=some Tryz.f66:=qq1
def Yi:tb.fn 67=some Tryz.f67:=qq1
def Yh:tb.fn 68=some Tryz.f68:=qq1
def PT:tb.fn 69=some Tryz.f69:=qq1
def xQ:tb.fn 70=some Tryz.f70:=qq1
def xP:tb.fn 71=some Tryz.f71:=qq1
def EH:tb.fn 72=some Tryz.f72:=qq1
def Yg:tb.fn 73=some Tryz.f73:=qq1
def Yf:tb.fn 78=some Tryz.f78:=qq1
def v05:tb.fn 79=some Tryz.f79:=qq1
def Yd:tb.fn 80=some Tryz.f80:=qq1
def Yc:tb.fn 81=some Tryz.f81:=qq1
def Do:tb.fn 86=some Tryz.f86:=qq1
def PR:tb.fn 87=some Tryz.f87:=qq1
def Dn:tb.fn 88=some Tryz.f88:=qq1
def v04:tb.fn 89=some Tryz.f89:=qq1
def Ya:tb.fn 90=some Tryz.f90:=qq1
def Dm:tb.fn 91=some Tryz.f91:=qq1
def Xz:tb.fn 92=some Tryz.f92:=qq1
def Xy:tb.fn 93=some Tryz.f93:=qq1
def Xx:tb.fn 94=some Tryz.f94:=qq1
def Xw:tb.fn 95=some Tryz.f95:=qq1
def IS:tb.fn 96=some Tryz.f96:=qq1
def Dl:tb.fn 97=some Tryz.f97:=qq1
def PO:tb.fn 98=some Tryz.f98:=qq1
def Xv:tb.fn 99=some Tryz.f99:=qq1
def VF:tb.fn 100=some Tryz.f100:=qq1
def JC:tb.fn 101=some Tryz.f101:=qq1
def JB:tb.fn 102=some Tryz.f102:=qq1
def VE:tb.fn 103=some Tryz.f103:=qq1
def xT:tb.fn 104=some Tryz.f104:=qq1
def D0:tb.fn 105=some Tryz.f105:=qq1
def VD:tb.fn 106=some Tryz.f106:=qq1
def VC:tb.fn 107=some Tryz.f107:=qq1
def JA:tb.fn 108=some Tryz.f108:=qq1
def VB:tb.fn 109=some Tryz.f109:=qq1
def Zb:tb.fn 110=some Tryz.f110:=qq1
def VA:tb.fn 111=some Tryz.f111:=qq1
def J9:tb.fn 112=some Tryz.f112:=qq1
def V9:tb.fn 115=some Tryz.f115:=qq1
def rV:tb.fn 116=some Tryz.f116:=qq1
def J8:tb.fn 117=some Tryz.f117:=qq1
def CZ:tb.fn 118=some Tryz.f118:=qq1
def xS:tb.fn 119=some Tryz.f119:=qq1
def CY:tb.fn 120=some Tryz.f120:=qq1
def V8:tb.fn 121=some Tryz.f121:=qq1
def V7:tb.fn 122=some Tryz.f122:=qq1
def V6:tb.fn 123=some Tryz.f123:=qq1
def V5:tb.fn 124=some Tryz.f124:=qq1
def V4:tb.fn 125=some Tryz.f125:=qq1
def mQ:tb.fn 126=some Tryz.f126:=qq1
def V3:tb.fn 127=some Tryz.f127:=qq1
def V2:tb.fn 128=some Tryz.f128:=qq1
def V0:tb.fn 129=some Tryz.f129:=qq1
def J7:tb.fn 130=some Tryz.f130:=qq1
def J6:tb.fn 131=some Tryz.f131:=qq1
def J5:tb.fn 132=some Tryz.f132:=qq1
def CX:tb.fn 133=some Tryz.f133:=qq1
def UZ:tb.fn 134=some Tryz.f134:=qq1
def UX:tb.fn 135=some Tryz.f135:=qq1
def UW:tb.fn 136=some Tryz.f136:=qq1
def J4:tb.fn 137=some Tryz.f137:=qq1
def UV:tb.fn 138=some Tryz.f138:=qq1
def UU:tb.fn 139=some Tryz.f139:=qq1
def UT:tb.fn 140=some Tryz.f140:=qq1
def J3:tb.fn 141=some Tryz.f141:=qq1
def J2:tb.fn 142=some Tryz.f142:=qq1
def UQ:tb.fn 143=some Tryz.f143:=qq1
def UP:tb.fn 153=some Tryz.f153:=qq1
def UO:tb.fn 155=some Tryz.f155:=qq1
def J1:tb.fn 156=some Tryz.f156:=qq1
def UN:tb.fn 157=some Tryz.f157:=qq1
def rR:tb.fn 158=some Tryz.f158:=qq1
def UM:tb.fn 159=some Tryz.f159:=qq1
def UL:tb.fn 160=some Tryz.f160:=qq1
def UK:tb.fn 161=some Tryz.f161:=qq1
def UJ:tb.fn 162=some Tryz.f162:=qq1
def UI:tb.fn 163=some Tryz.f163:=qq1
def UH:tb.fn 164=some Tryz.f164:=qq1
def UG:tb.fn 165=some Tryz.f165:=qq1
def UF:tb.fn 166=some Tryz.f166:=qq1
def J0:tb.fn 173=some Tryz.f173:=qq1
def UE:tb.fn 174=some Tryz.f174:=qq1
def IZ:tb.fn 176=some Tryz.f176:=qq1
def UD:tb.fn 177=some Tryz.f177:=qq1
def UC:tb.fn 178=some Tryz.f178:=qq1
def IY:tb.fn 179=some Tryz.f179:=qq1
end Go.Proofs
