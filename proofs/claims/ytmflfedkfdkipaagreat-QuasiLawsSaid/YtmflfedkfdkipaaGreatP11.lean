import Derived.Test.YtmflfedkfdkipaaGreatProg
import Derived.Test.YtmflfedkfdkipaaGreatP10
set_option linter.all false
namespace Go.Proofs
open Go Go.Rx
noncomputable def tb:Tb:=BP Tryz.prog []
def Tryz.mixed:Tryz.prog.follows .mixedOrders=true:=by kernel_rfl
def Bp:∀t∈([]:Z O),Tryz.prog.stoodInHeld t=false/\Tryz.prog.eqGuardType Tryz.prog.depth t=false:=by intro t ht;cases ht
def Tryz.names_ok : (Tryz.prog.funcs.toList.all fun f => !(f.name == "runtime.NumGoroutine")) = true := by kernel_rfl
def tb_ok:iK Tryz.prog tb:=z8l Tryz.prog [] Tryz.mixed (fun f hf _=>by
 have:=List.all_eq_true.1 Tryz.names_ok f hf;simpa using this) Bp
def sy:tb.und 3=some (.int .i64):=by kernel_rfl
def Ro:tb.inf 3=some (1,8,.int .i64 0):=by kernel_rfl
def sx:tb.und 4=some (.bool):=by kernel_rfl
def d_:tb.inf 4=some (1,1,.bool false):=by kernel_rfl
def sw:tb.und 9=some (.string):=by kernel_rfl
def Rk:tb.inf 9=some (1,16,.string ⟨#[]⟩):=by kernel_rfl
def Jo:tb.und 22=some (.slice 153):=by kernel_rfl
def Jn:tb.und 24=some (.slice 147):=by kernel_rfl
def Rq:tb.inf 24=some (1,24,.slice none 0 0):=by kernel_rfl
def Jm:tb.und 25=some (.slice 197):=by kernel_rfl
def Rp:tb.inf 25=some (1,24,.slice none 0 0):=by kernel_rfl
def Jl : tb.und 27 = some (.struct #[⟨ "Types", 24, 0, false, "", "", 0⟩, ⟨ "Feats", 25, 1, false, "", "", 24⟩]) := by kernel_rfl
def RY:tb.inf 27=some (2,48,.agg #[.slice none 0 0,.slice none 0 0]):=by kernel_rfl
def Jk:tb.und 31=some (.pointer 83):=by kernel_rfl
def Jj:tb.und 33=some (.slice 39):=by kernel_rfl
def Ji:tb.und 37=some (.slice 79):=by kernel_rfl
def Rn:tb.inf 37=some (1,24,.slice none 0 0):=by kernel_rfl
def Jh : tb.und 39 = some (.struct #[⟨ "Nodes", 37, 0, false, "", "", 0⟩]) := by kernel_rfl
def RX:tb.inf 39=some (1,24,.agg #[.slice none 0 0]):=by kernel_rfl
def Jg:tb.und 56=some (.array 3 39):=by kernel_rfl
def Jf:tb.und 58=some (.array 2 3):=by kernel_rfl
def RW:tb.inf 58=some (2,16,.agg #[.int .i64 0,.int .i64 0]):=by kernel_rfl
def Je:tb.und 59=some (.slice 58):=by kernel_rfl
def Jd:tb.und 77=some (.slice 105):=by kernel_rfl
def Rm:tb.inf 77=some (1,24,.slice none 0 0):=by kernel_rfl
def Jc : tb.und 79 = some (.struct #[⟨ "Type", 3, 0, false, "", "", 0⟩, ⟨ "Arcs", 77, 1, false, "", "", 8⟩]) := by kernel_rfl
def RV:tb.inf 79=some (2,32,.agg #[.int .i64 0,.slice none 0 0]):=by kernel_rfl
def Jb:tb.und 81=some (.slice 92):=by kernel_rfl
def Rl:tb.inf 81=some (1,24,.slice none 0 0):=by kernel_rfl
def Ja : tb.und 83 = some (.struct #[⟨ "h", 27, 0, false, "", "grammarlab/quasi", 0⟩, ⟨ "roots", 81, 2, false, "", "grammarlab/quasi", 48⟩, ⟨ "size", 3, 3, false, "", "grammarlab/quasi", 72⟩, ⟨ "at", 3, 4, false, "", "grammarlab/quasi", 80⟩]) := by kernel_rfl
def Iz:tb.und 92=some (.pointer 103):=by kernel_rfl
def RT:tb.inf 92=some (1,8,.pointer none):=by kernel_rfl
def Iy:tb.und 93=some (.slice 107):=by kernel_rfl
def Rj:tb.inf 93=some (1,24,.slice none 0 0):=by kernel_rfl
def Ix : tb.und 95 = some (.struct #[⟨ "value", 92, 0, false, "", "grammarlab/quasi", 0⟩, ⟨ "at", 3, 1, false, "", "grammarlab/quasi", 8⟩]) := by kernel_rfl
def Ri:tb.inf 95=some (2,16,.agg #[.pointer none,.int .i64 0]):=by kernel_rfl
def Iw : tb.und 97 = some (.struct #[⟨ "value", 3, 0, false, "", "grammarlab/quasi", 0⟩, ⟨ "at", 3, 1, false, "", "grammarlab/quasi", 8⟩]) := by kernel_rfl
def Rh:tb.inf 97=some (2,16,.agg #[.int .i64 0,.int .i64 0]):=by kernel_rfl
def Iv : tb.und 99 = some (.struct #[⟨ "value", 93, 0, false, "", "grammarlab/quasi", 0⟩, ⟨ "at", 3, 1, false, "", "grammarlab/quasi", 24⟩]) := by kernel_rfl
def Rg:tb.inf 99=some (2,32,.agg #[.slice none 0 0,.int .i64 0]):=by kernel_rfl
def VL : tb.und 101 = some (.struct #[⟨ "value", 4, 0, false, "", "grammarlab/quasi", 0⟩, ⟨ "at", 3, 1, false, "", "grammarlab/quasi", 8⟩]) := by kernel_rfl
def Z5:tb.inf 101=some (2,16,.agg #[.bool false,.int .i64 0]):=by kernel_rfl
def VK : tb.und 103 = some (.struct #[⟨ "kind", 3, 0, false, "", "grammarlab/quasi", 0⟩, ⟨ "arcs", 93, 1, false, "", "grammarlab/quasi", 8⟩, ⟨ "forward", 95, 2, false, "", "grammarlab/quasi", 32⟩, ⟨ "meet", 97, 4, false, "", "grammarlab/quasi", 48⟩, ⟨ "more", 99, 6, false, "", "grammarlab/quasi", 64⟩, ⟨ "copied", 95, 8, false, "", "grammarlab/quasi", 96⟩, ⟨ "changed", 101, 10, false, "", "grammarlab/quasi", 112⟩]) := by kernel_rfl
def Z4:tb.inf 103=some (12,128,.agg #[.int .i64 0,.slice none 0 0,.pointer none,.int .i64 0,.int .i64 0,.int .i64 0,.slice none 0 0,.int .i64 0,.pointer none,.int .i64 0,.bool false,.int .i64 0]):=by kernel_rfl
def VJ : tb.und 105 = some (.struct #[⟨ "Feat", 3, 0, false, "", "", 0⟩, ⟨ "To", 3, 1, false, "", "", 8⟩]) := by kernel_rfl
def GQ:tb.inf 105=some (2,16,.agg #[.int .i64 0,.int .i64 0]):=by kernel_rfl
def VH : tb.und 107 = some (.struct #[⟨ "feat", 3, 0, false, "", "grammarlab/quasi", 0⟩, ⟨ "to", 92, 1, false, "", "grammarlab/quasi", 8⟩]) := by kernel_rfl
def GP:tb.inf 107=some (2,16,.agg #[.int .i64 0,.pointer none]):=by kernel_rfl
def VG:tb.und 108=some (.map 92 3):=by kernel_rfl
def GO:tb.inf 108=some (1,8,.map none):=by kernel_rfl
def VF:tb.und 109=some (.func #[92] #[3] false):=by kernel_rfl
def GN:tb.inf 109=some (1,8,.nilFunc):=by kernel_rfl
def VE:tb.und 115=some (.slice 3):=by kernel_rfl
def Z3:tb.inf 115=some (1,24,.slice none 0 0):=by kernel_rfl
def VD:tb.und 134=some (.slice 145):=by kernel_rfl
def VC:tb.und 137=some (.slice 143):=by kernel_rfl
def VB:tb.und 141=some (.slice 213):=by kernel_rfl
def GM:tb.inf 141=some (1,24,.slice none 0 0):=by kernel_rfl
def VA : tb.und 143 = some (.struct #[⟨ "Name", 9, 0, false, "", "", 0⟩, ⟨ "Code", 141, 1, false, "", "", 16⟩]) := by kernel_rfl
def GL:tb.inf 143=some (2,40,.agg #[.string ⟨#[]⟩,.slice none 0 0]):=by kernel_rfl
def V9:tb.und 145=some (.slice 186):=by kernel_rfl
def GK:tb.inf 145=some (1,24,.slice none 0 0):=by kernel_rfl
def V8 : tb.und 147 = some (.struct #[⟨ "Name", 9, 0, false, "", "", 0⟩, ⟨ "Code", 141, 1, false, "", "", 16⟩, ⟨ "Supers", 115, 2, false, "", "", 40⟩, ⟨ "Feats", 145, 3, false, "", "", 64⟩]) := by kernel_rfl
def GJ:tb.inf 147=some (4,88,.agg #[.string ⟨#[]⟩,.slice none 0 0,.slice none 0 0,.slice none 0 0]):=by kernel_rfl
def V7:tb.und 150=some (.slice 9):=by kernel_rfl
def Z2:tb.inf 150=some (1,24,.slice none 0 0):=by kernel_rfl
def V6:tb.und 151=some (.slice 156):=by kernel_rfl
def Z1:tb.inf 151=some (1,24,.slice none 0 0):=by kernel_rfl
def V5 : tb.und 153 = some (.struct #[⟨ "Name", 9, 0, false, "", "", 0⟩, ⟨ "Supers", 150, 1, false, "", "", 16⟩, ⟨ "Feats", 151, 2, false, "", "", 40⟩]) := by kernel_rfl
def GI:tb.inf 153=some (3,64,.agg #[.string ⟨#[]⟩,.slice none 0 0,.slice none 0 0]):=by kernel_rfl
def V4 : tb.und 156 = some (.struct #[⟨ "Feat", 9, 0, false, "", "", 0⟩, ⟨ "Value", 9, 1, false, "", "", 16⟩]) := by kernel_rfl
def GH:tb.inf 156=some (2,32,.agg #[.string ⟨#[]⟩,.string ⟨#[]⟩]):=by kernel_rfl
def V3 : tb.und 186 = some (.struct #[⟨ "Feat", 3, 0, false, "", "", 0⟩, ⟨ "Value", 3, 1, false, "", "", 8⟩]) := by kernel_rfl
def GG:tb.inf 186=some (2,16,.agg #[.int .i64 0,.int .i64 0]):=by kernel_rfl
def V2:tb.und 187=some (.slice 141):=by kernel_rfl
def V0 : tb.und 197 = some (.struct #[⟨ "Name", 9, 0, false, "", "", 0⟩, ⟨ "Intro", 3, 1, false, "", "", 16⟩]) := by kernel_rfl
def GF:tb.inf 197=some (2,24,.agg #[.string ⟨#[]⟩,.int .i64 0]):=by kernel_rfl
def UZ:tb.und 200=some (.array 2 92):=by kernel_rfl
def GE:tb.inf 200=some (2,16,.agg #[.pointer none,.pointer none]):=by kernel_rfl
def UX:tb.und 201=some (.slice 200):=by kernel_rfl
def UW:tb.und 207=some (.map 92 4):=by kernel_rfl
def UV:tb.und 212=some (.int .u64):=by kernel_rfl
def UU:tb.und 213=some (.int .u64):=by kernel_rfl
def GD:tb.inf 213=some (1,8,.int .u64 0):=by kernel_rfl
def UT : tb.und 237 = some (.struct #[⟨ "f", 39, 0, false, "", "grammarlab/grammarlabref07", 0⟩, ⟨ "number", 115, 1, false, "", "grammarlab/grammarlabref07", 24⟩, ⟨ "order", 115, 2, false, "", "grammarlab/grammarlabref07", 48⟩]) := by kernel_rfl
def Z0:tb.inf 237=some (3,72,.agg #[.slice none 0 0,.slice none 0 0,.slice none 0 0]):=by kernel_rfl
end Go.Proofs
namespace Go.Proofs
open Go Go.Rx Go.Vx
instance J7:eB tb 3 (.int .i64):=⟨sy⟩
instance:eB tb 4 (.bool):=⟨sx⟩
instance J6:eB tb 9 (.string):=⟨sw⟩
instance Jr:eB tb 22 (.slice 153):=⟨Jo⟩
instance EZ:eB tb 24 (.slice 147):=⟨Jn⟩
instance:eB tb 25 (.slice 197):=⟨Jm⟩
instance tD : eB tb 27 (.struct #[⟨ "Types", 24, 0, false, "", "", 0⟩, ⟨ "Feats", 25, 1, false, "", "", 24⟩]) := ⟨Jl⟩
instance pg:eB tb 31 (.pointer 83):=⟨Jk⟩
instance pe:eB tb 33 (.slice 39):=⟨Jj⟩
instance tC:eB tb 37 (.slice 79):=⟨Ji⟩
instance rH : eB tb 39 (.struct #[⟨ "Nodes", 37, 0, false, "", "", 0⟩]) := ⟨Jh⟩
instance rG:eB tb 56 (.array 3 39):=⟨Jg⟩
instance Jq:eB tb 58 (.array 2 3):=⟨Jf⟩
instance pd:eB tb 59 (.slice 58):=⟨Je⟩
instance lZ:eB tb 77 (.slice 105):=⟨Jd⟩
instance EY : eB tb 79 (.struct #[⟨ "Type", 3, 0, false, "", "", 0⟩, ⟨ "Arcs", 77, 1, false, "", "", 8⟩]) := ⟨Jc⟩
instance gM:eB tb 81 (.slice 92):=⟨Jb⟩
instance : eB tb 83 (.struct #[⟨ "h", 27, 0, false, "", "grammarlab/quasi", 0⟩, ⟨ "roots", 81, 2, false, "", "grammarlab/quasi", 48⟩, ⟨ "size", 3, 3, false, "", "grammarlab/quasi", 72⟩, ⟨ "at", 3, 4, false, "", "grammarlab/quasi", 80⟩]) := ⟨Ja⟩
instance gK:eB tb 92 (.pointer 103):=⟨Iz⟩
instance BO:eB tb 93 (.slice 107):=⟨Iy⟩
instance pc : eB tb 95 (.struct #[⟨ "value", 92, 0, false, "", "grammarlab/quasi", 0⟩, ⟨ "at", 3, 1, false, "", "grammarlab/quasi", 8⟩]) := ⟨Ix⟩
instance pb : eB tb 97 (.struct #[⟨ "value", 3, 0, false, "", "grammarlab/quasi", 0⟩, ⟨ "at", 3, 1, false, "", "grammarlab/quasi", 8⟩]) := ⟨Iw⟩
instance pa : eB tb 99 (.struct #[⟨ "value", 93, 0, false, "", "grammarlab/quasi", 0⟩, ⟨ "at", 3, 1, false, "", "grammarlab/quasi", 24⟩]) := ⟨Iv⟩
instance Jy : eB tb 101 (.struct #[⟨ "value", 4, 0, false, "", "grammarlab/quasi", 0⟩, ⟨ "at", 3, 1, false, "", "grammarlab/quasi", 8⟩]) := ⟨VL⟩
instance Jx : eB tb 103 (.struct #[⟨ "kind", 3, 0, false, "", "grammarlab/quasi", 0⟩, ⟨ "arcs", 93, 1, false, "", "grammarlab/quasi", 8⟩, ⟨ "forward", 95, 2, false, "", "grammarlab/quasi", 32⟩, ⟨ "meet", 97, 4, false, "", "grammarlab/quasi", 48⟩, ⟨ "more", 99, 6, false, "", "grammarlab/quasi", 64⟩, ⟨ "copied", 95, 8, false, "", "grammarlab/quasi", 96⟩, ⟨ "changed", 101, 10, false, "", "grammarlab/quasi", 112⟩]) := ⟨VK⟩
instance sD : eB tb 105 (.struct #[⟨ "Feat", 3, 0, false, "", "", 0⟩, ⟨ "To", 3, 1, false, "", "", 8⟩]) := ⟨VJ⟩
instance Jw : eB tb 107 (.struct #[⟨ "feat", 3, 0, false, "", "grammarlab/quasi", 0⟩, ⟨ "to", 92, 1, false, "", "grammarlab/quasi", 8⟩]) := ⟨VH⟩
instance F4:eB tb 108 (.map 92 3):=⟨VG⟩
instance:eB tb 109 (.func #[92] #[3] false):=⟨VF⟩
instance gN:eB tb 115 (.slice 3):=⟨VE⟩
instance:eB tb 134 (.slice 145):=⟨VD⟩
instance pN:eB tb 137 (.slice 143):=⟨VC⟩
instance fM:eB tb 141 (.slice 213):=⟨VB⟩
instance PD : eB tb 143 (.struct #[⟨ "Name", 9, 0, false, "", "", 0⟩, ⟨ "Code", 141, 1, false, "", "", 16⟩]) := ⟨VA⟩
instance:eB tb 145 (.slice 186):=⟨V9⟩
instance F3 : eB tb 147 (.struct #[⟨ "Name", 9, 0, false, "", "", 0⟩, ⟨ "Code", 141, 1, false, "", "", 16⟩, ⟨ "Supers", 115, 2, false, "", "", 40⟩, ⟨ "Feats", 145, 3, false, "", "", 64⟩]) := ⟨V8⟩
instance jC:eB tb 150 (.slice 9):=⟨V7⟩
instance F2:eB tb 151 (.slice 156):=⟨V6⟩
instance uY : eB tb 153 (.struct #[⟨ "Name", 9, 0, false, "", "", 0⟩, ⟨ "Supers", 150, 1, false, "", "", 16⟩, ⟨ "Feats", 151, 2, false, "", "", 40⟩]) := ⟨V5⟩
instance Jv : eB tb 156 (.struct #[⟨ "Feat", 9, 0, false, "", "", 0⟩, ⟨ "Value", 9, 1, false, "", "", 16⟩]) := ⟨V4⟩
instance Ju : eB tb 186 (.struct #[⟨ "Feat", 3, 0, false, "", "", 0⟩, ⟨ "Value", 3, 1, false, "", "", 8⟩]) := ⟨V3⟩
instance pM:eB tb 187 (.slice 141):=⟨V2⟩
instance Jt : eB tb 197 (.struct #[⟨ "Name", 9, 0, false, "", "", 0⟩, ⟨ "Intro", 3, 1, false, "", "", 16⟩]) := ⟨V0⟩
instance PC:eB tb 200 (.array 2 92):=⟨UZ⟩
instance kE:eB tb 201 (.slice 200):=⟨UX⟩
instance F1:eB tb 207 (.map 92 4):=⟨UW⟩
instance PA:eB tb 212 (.int .u64):=⟨UV⟩
instance Js:eB tb 213 (.int .u64):=⟨UU⟩
instance P9 : eB tb 237 (.struct #[⟨ "f", 39, 0, false, "", "grammarlab/grammarlabref07", 0⟩, ⟨ "number", 115, 1, false, "", "grammarlab/grammarlabref07", 24⟩, ⟨ "order", 115, 2, false, "", "grammarlab/grammarlabref07", 48⟩]) := ⟨UT⟩
instance pX:iS tb 3 1 8 (.int .i64 0):=⟨Ro⟩
instance:qP tb 3 [.int .i64 0]:=⟨_,_,_,Ro,rfl,rfl⟩
instance if4:iS tb 4 1 1 (.bool false):=⟨d_⟩
instance GR:iS tb 9 1 16 (.string ⟨#[]⟩):=⟨Rk⟩
instance:qP tb 9 [.str []]:=⟨_,_,_,Rk,rfl,rfl⟩
instance Z7:iS tb 24 1 24 (.slice none 0 0):=⟨Rq⟩
instance:iS tb 25 1 24 (.slice none 0 0):=⟨Rp⟩
instance CK:iS tb 27 2 48 (.agg #[.slice none 0 0,.slice none 0 0]):=⟨RY⟩
instance:qP tb 27 [.nils,.nils]:=⟨_,_,_,RY,rfl,rfl⟩
instance i_:iS tb 37 1 24 (.slice none 0 0):=⟨Rn⟩
instance iU:iS tb 39 1 24 (.agg #[.slice none 0 0]):=⟨RX⟩
instance:qP tb 39 [.nils]:=⟨_,_,_,RX,rfl,rfl⟩
instance h_:iS tb 58 2 16 (.agg #[.int .i64 0,.int .i64 0]):=⟨RW⟩
instance:qP tb 58 [.int .i64 0,.int .i64 0]:=⟨_,_,_,RW,rfl,rfl⟩
instance Z6:iS tb 77 1 24 (.slice none 0 0):=⟨Rm⟩
instance rP:iS tb 79 2 32 (.agg #[.int .i64 0,.slice none 0 0]):=⟨RV⟩
instance:qP tb 79 [.int .i64 0,.nils]:=⟨_,_,_,RV,rfl,rfl⟩
instance:iS tb 81 1 24 (.slice none 0 0):=⟨Rl⟩
instance iC:iS tb 92 1 8 (.pointer none):=⟨RT⟩
instance:qP tb 92 [.nilp]:=⟨_,_,_,RT,rfl,rfl⟩
instance:iS tb 93 1 24 (.slice none 0 0):=⟨Rj⟩
instance g_:iS tb 95 2 16 (.agg #[.pointer none,.int .i64 0]):=⟨Ri⟩
instance f_:iS tb 97 2 16 (.agg #[.int .i64 0,.int .i64 0]):=⟨Rh⟩
instance e_:iS tb 99 2 32 (.agg #[.slice none 0 0,.int .i64 0]):=⟨Rg⟩
instance Rz:iS tb 101 2 16 (.agg #[.bool false,.int .i64 0]):=⟨Z5⟩
instance lT:iS tb 103 12 128 (.agg #[.int .i64 0,.slice none 0 0,.pointer none,.int .i64 0,.int .i64 0,.int .i64 0,.slice none 0 0,.int .i64 0,.pointer none,.int .i64 0,.bool false,.int .i64 0]):=⟨Z4⟩
instance jI:iS tb 105 2 16 (.agg #[.int .i64 0,.int .i64 0]):=⟨GQ⟩
instance:qP tb 105 [.int .i64 0,.int .i64 0]:=⟨_,_,_,GQ,rfl,rfl⟩
instance AK:iS tb 107 2 16 (.agg #[.int .i64 0,.pointer none]):=⟨GP⟩
instance:qP tb 107 [.int .i64 0,.nilp]:=⟨_,_,_,GP,rfl,rfl⟩
instance:iS tb 108 1 8 (.map none):=⟨GO⟩
instance:qP tb 108 [.nilm]:=⟨_,_,_,GO,rfl,rfl⟩
instance:iS tb 109 1 8 (.nilFunc):=⟨GN⟩
instance:qP tb 109 [.nilf]:=⟨_,_,_,GN,rfl,rfl⟩
instance Ry:iS tb 115 1 24 (.slice none 0 0):=⟨Z3⟩
instance oB:iS tb 141 1 24 (.slice none 0 0):=⟨GM⟩
instance:qP tb 141 [.nils]:=⟨_,_,_,GM,rfl,rfl⟩
instance pZ:iS tb 143 2 40 (.agg #[.string ⟨#[]⟩,.slice none 0 0]):=⟨GL⟩
instance:qP tb 143 [.str [],.nils]:=⟨_,_,_,GL,rfl,rfl⟩
instance:iS tb 145 1 24 (.slice none 0 0):=⟨GK⟩
instance:qP tb 145 [.nils]:=⟨_,_,_,GK,rfl,rfl⟩
instance GS:iS tb 147 4 88 (.agg #[.string ⟨#[]⟩,.slice none 0 0,.slice none 0 0,.slice none 0 0]):=⟨GJ⟩
instance:qP tb 147 [.str [],.nils,.nils,.nils]:=⟨_,_,_,GJ,rfl,rfl⟩
instance:iS tb 150 1 24 (.slice none 0 0):=⟨Z2⟩
instance S0:iS tb 151 1 24 (.slice none 0 0):=⟨Z1⟩
instance vK:iS tb 153 3 64 (.agg #[.string ⟨#[]⟩,.slice none 0 0,.slice none 0 0]):=⟨GI⟩
instance:qP tb 153 [.str [],.nils,.nils]:=⟨_,_,_,GI,rfl,rfl⟩
instance RZ:iS tb 156 2 32 (.agg #[.string ⟨#[]⟩,.string ⟨#[]⟩]):=⟨GH⟩
instance:qP tb 156 [.str [],.str []]:=⟨_,_,_,GH,rfl,rfl⟩
instance Rw:iS tb 186 2 16 (.agg #[.int .i64 0,.int .i64 0]):=⟨GG⟩
instance:qP tb 186 [.int .i64 0,.int .i64 0]:=⟨_,_,_,GG,rfl,rfl⟩
instance Rv:iS tb 197 2 24 (.agg #[.string ⟨#[]⟩,.int .i64 0]):=⟨GF⟩
instance:qP tb 197 [.str [],.int .i64 0]:=⟨_,_,_,GF,rfl,rfl⟩
instance pY:iS tb 200 2 16 (.agg #[.pointer none,.pointer none]):=⟨GE⟩
instance:qP tb 200 [.nilp,.nilp]:=⟨_,_,_,GE,rfl,rfl⟩
instance kL:iS tb 213 1 8 (.int .u64 0):=⟨GD⟩
instance:qP tb 213 [.int .u64 0]:=⟨_,_,_,GD,rfl,rfl⟩
instance Ru:iS tb 237 3 72 (.agg #[.slice none 0 0,.slice none 0 0,.slice none 0 0]):=⟨Z0⟩
end Go.Proofs
namespace Go.Vx
open Go Go.Rx
variable{q:Z U}
variable{p:Z U}
variable{a:Nat}
def qv1{n:Nat}(h:iZ q a n=some p):a+n<=q.length/\(q.drop a).take n=p:=by unfold iZ at h;split at h;rename_i hj;exact⟨hj,Option.some.inj h⟩;cases h
variable{sz:Nat}
variable{fo:Nat}
def Y7{u:U}(h:iZ q a sz=some p)(h2:nth p fo=some u):nth q (a+fo)=some u:=by obtain⟨h1,rfl⟩:=qv1 h;rw[i9]at h2 ⊢;have hl:=(zG.1 h2).1;rw[List.length_take]at hl;rw[List.getElem?_take_of_lt (by omega),List.getElem?_drop]at h2;exact h2
def XT{p' cs:Z U}(h:iZ q a sz=some p)(h2:o6 p fo cs=some p'):o6 q (a+fo) cs=o6 q a p':=by
 obtain⟨h1,rfl⟩:=qv1 h;unfold o6 at h2;split at h2
 ·rename_i hj;have hp:=Option.some.inj h2;rw[List.length_take,List.length_drop]at hj;have hl:p'.length=sz:=by rw[<-hp];simp;omega
  unfold o6;rw[if_pos (by omega),if_pos (by omega),<-hp];congr 1;have e1:List.take fo (List.take sz (List.drop a q))=List.take fo (List.drop a q):=by rw[List.take_take,Nat.min_eq_left (by omega)]
  have e2:List.take (a+fo) q=List.take a q++List.take fo (List.drop a q):=List.take_add;have e3:List.drop (a+fo+cs.length) q=List.drop (fo+cs.length) (List.take sz (List.drop a q))++List.drop (a+sz) q:=by
   have:List.drop a q=List.take sz (List.drop a q)++List.drop (a+sz) q:=by rw[<-List.drop_drop,List.take_append_drop]
   rw[Nat.add_assoc,<-List.drop_drop]
   conv=>lhs;rw[this]
   rw[List.drop_append_of_le_length (by rw[List.length_take,List.length_drop];omega)]
  rw[e1,e2,e3];simp[zT,hl];omega
 cases h2
section
variable{T:Tb}{X X':Sg}{n:Nat}{l:Z (Nat×U)}{u v w:U}
def Ds{v11:Type}(c:v11->Z U){t e':O}{d:TypeDesc}{K st off m:Nat}{xs:Z v11}{i:Int}{x:v11}{o:Jp}(hd:T.und t=some d)(ha:p9 d=false)(hc:∀x,(c x).length=sz)(ho:bO n l o=some (.ptr K st (off*sz+i.toNat*sz+fo)))(hv:gt X.h K=some (.vec (xs.map c).flatten e' sz st))(hx:nR xs off m i=some x)(hu:nth (c x) fo=some u):bF T X (fr n l) (.load t o)=some (u,X):=by
 refine OQ rfl ?_;have hb:Nat.beq st st=true:=by simp[beq_eq]
 have hg:=V' hc (QD hx).2.2;rw[Nat.add_mul]at hg;simp only[oY,dH ho,cellsOf,hv,hb,zC,E3,hd,ha,zD,Y7 hg hu]
def st_vf{v11:Type}(c:v11->Z U){t e':O}{s K st off m:Nat}{xs:Z v11}{i:Int}{x y:v11}{o z:Jp}{cs:Z U}{h':Z (Nat×B)}(hs:c6 T t=some s)(hc:∀x,(c x).length=sz)(ho:bO n l o=some (.ptr K st (off*sz+i.toNat*sz+fo)))(hz:bO n l z=some v)(D1:uG v=some cs)(hk:okL cs=true)(hl:Nat.beq cs.length s=true)(hv:gt X.h K=some (.vec (xs.map c).flatten e' sz st))(hx:nR xs off m i=some x)(hy:o6 (c x) fo (oU cs)=some (c y))(Z9:ug X.h K (.vec ((xs.set (off+i.toNat) y).map c).flatten e' sz st)=h'):bF T X (fr n l) (.store t o z)=some (.junk,⟨h',X.nx⟩):=by
 subst Z9;have hb:Nat.beq st st=true:=by simp
 have hj:=(zG.1 (QD hx).2.2).1;have hg:=V' hc (QD hx).2.2;have hp:=XT hg hy;rw[dg hc hj y,Nat.add_mul]at hp;exact IV rfl rfl (by simp only[nS,dH ho,dH hz,WD,hs,D1,hl,hk,zC,cellsOf,hv,hb,DN,hp,JH])
end
def Eb{X:Sg}{k t e:Nat}{l:Z U}(h:gt X.h k=some (.vec l e sz t)):live X k t=true:=by simp only[live,h,B.st,beq_eq,yC]
variable{T:Tb}
variable{t:O}
variable{e:O}
variable{sz:Nat}
variable{z:A}
def qpx{P:Uz}(hT:iK P T){m:Nm}{s:S}(w:Tz){by_ n:Nat}{ps:Z (Nat×A)}{cps:Z (Nat×A)}{cs:Z A}
  (S_:∀m',aJ s.nx m m'->ps.map (fun p=>(p.1,ren m' p.2))=cps) (hd:T.und t=some (.slice e)) (hi:T.inf e=some (sz,by_,z)) (h1:Nat.ble (n*sz) 16777216=true) (h2:z.cells.toList.length=sz) (h3:BX (fun i=>some (i*sz,sz)) (bY z.cells.toList n) ps=some cs):
  ∃cl,mU m s.nx cs cl/\(Instr.buildSlice t n cps.toArray).run P w=.ok (.slice (some ⟨w.heap.size,0,none⟩) n n) (w.alloc (.cells ⟨cl⟩ e)):=by
 have eA:c6 T e=some sz:=by simp[c6,hi]
 have hz:=fun m'=>C3 hT m' w hi;have sQ:=Fx hT hi;simp only at hz sQ;have pI:n*sz<=16777216:=by simpa[Nat.ble_eq]using h1
 have kP:∀m',aJ s.nx m m'->Instr.fill (fun i=>some (i*sz,sz)) ⟨bY z.cells.toList n⟩ cps=some ⟨aE m' cs⟩:=fun m' ha=>by have:=Mk m' _ ps _ _ h3;rw[S_ m' ha,Nl sQ]at this;exact this
 have iF:mU m s.nx cs (aE m cs):=fun m' ha=>by have e1:=kP m' ha;have e2:=kP m (aJ.refl _ _);rw[e1]at e2;simpa using e2
 have fY:z.cells.size=sz:=by simpa using h2
 refine⟨aE m cs,iF,?_⟩;have eN:(Array.range (n*sz)).map (fun i=>(if n*sz=0 then(#[]:Bo A)else z.cells)[i%(if n*sz=0 then(#[]:Bo A)else z.cells).size]!)=⟨bY z.cells.toList n⟩:=by
  by_cases h0:n*sz=0;rw[h0];apply Array.ext';have:(bY z.cells.toList n).length=0:=by rw[qd,h2,h0]
  simp[List.length_eq_zero_iff.1 this];simp only[if_neg h0];have:=Mm z.cells n;rw[fY]at this;rw[<-this];simp[fY]
 have hf2:=kP m (aJ.refl _ _);have hnot:¬ n*sz>2^24:=by omega
 have ND:=(hz m).1;by_cases h0:n*sz=0;simp only[if_pos h0]at eN;simp only[Instr.buildSlice,zK,eU hT w hd,zJ,lG hT w eA,Sem.run_ite,if_neg hnot,zL,if_pos h0];rw[eN,hf2];simp[Go.newRow];simp only[if_neg h0]at eN;simp only[Instr.buildSlice,zK,eU hT w hd,zJ,lG hT w eA,Sem.run_ite,if_neg hnot,zL,if_neg h0,ND];rw[eN,hf2];simp[Go.newRow]
def eT.bslw{C:PG}(hT:iK C.prog T){X:Sg}{tm:Z U}{o:Oper}{k b:Nat}{zu cs0 cs:Z U}{ps:Bo (Nat×Jp)}{qs:Z (Nat×U)}(ho:o.op=.buildSlice t k ps)(hd:T.und t=some (.slice e))(hi:T.inf e=some (sz,b,z))
  (h:wZ tm ps.toList=some qs) (h1:Nat.ble (k*sz) 16777216=true) (h3:Nat.beq z.cells.toList.length sz=true) (hz:nH z.cells.toList=some zu) (hf:pT (fun i=>some (i*sz,sz)) (qV zu k) qs=some cs0) (hw:o3 cs0 cs) (hk:okL cs=true) (hl:Nat.beq cs.length (k*sz)=true) (hs:Nat.blt 0 sz=true):
  eT C X tm o (fun u X'=>u=.vl X.nx 0 0 k/\X'=newU X (.vec cs e sz 0)):=fun F x tv m w a next Q eW st hG hn ro eR=>by
 subst eW;obtain⟨vs,ev,hp⟩:=fv st.e h;have oN:=(M4 _ _ hz).2 x;obtain⟨rv,f1,f2⟩:=Nf hp (Ft oN k) hf;have f2:aX x cs rv:=⟨hw.rel f2.1,by rw[hw.len];exact f2.2⟩;have h2:z.cells.toList.length=sz:=by simpa[beq_eq]using h3
 obtain⟨cl,g1,g2⟩:=qpx hT (m:=m) (s:=x.s) w (cps:=ps.toList.map fun p=>(p.1,a.eval p.2)) (fun m' fS=>(dp (st.act m' fS) ev).symm) hd hi h1 h2 f1;have e1:(ps.map fun(i,x)=>(i,a.eval x))=(ps.toList.map fun p=>(p.1,a.eval p.2)).toArray:=by cases ps;simp
 have cG:(execOp a.eval o).run C.prog w=.ok (.value (.slice (some ⟨w.heap.size,0,none⟩) k k)) (w.alloc (.cells ⟨cl⟩ e)):=by simp only[execOp,ho];rw[e1];simp only[zK,g2,zJ,zL]
 have aN:rv.length=k*sz:=by
  have h5:=f2.2;have h6:cs.length=k*sz:=by simpa[beq_eq]using hl
  rw[<-h5,h6]
 have aO:bQ m x.s w (m.set x.s.nx w.heap.size 0 k) (Rx.newRow x.s rv e (sz+2)) (w.alloc (.cells ⟨cl⟩ e)):=by have:=zx st.fits (rest:=[]) g1 e k sz (by simpa using aN);simpa using this
 have eA:0<sz:=by simpa[Nat.blt_eq]using hs
 have iD:=qw st.h f2 hk e eA;have gY:eI (m.set x.s.nx w.heap.size 0 k) (x.s.nx+1) (.slice (some ⟨x.s.nx,0,none⟩) k bP) (.slice (some ⟨w.heap.size,0,none⟩) k k):=fun m' ha=>by obtain⟨q1,q2,q3⟩:=ha x.s.nx (zN _);obtain⟨r1,r2,r3⟩:=xA m x.s.nx w.heap.size 0 k;simp[ren,q1,q2,r1,r2,bU,bI,q3,r3]
 refine vE (by rw[ho];intro c hc;cases hc) ?_;unfold Oper.wp;rw[cG];exact hn _ ⟨lB x.Y x.X.nx (some x.s.nx),newU x.X (.vec cs e sz 0),Rx.newRow x.s rv e (sz+2)⟩ (A9 tv o.dst (.slice (some ⟨x.s.nx,0,none⟩) k bP)) _ _ _ ⟨rfl,rfl⟩
  ⟨iD.h,iD.fr F st.fr,JO (iD.mo.ke.E st.e.bel st.e) qr _,aO.fits,(st.act.ext aO.agree aO.nx).put gY o.dst⟩ aO iD.mo.ke iD.mo.nx (G4 _ _ _)
def eT.bslv{C:PG}(hT:iK C.prog T){X:Sg}{tm:Z U}{o:Oper}{k b:Nat}{zu cs:Z U}{ps:Bo (Nat×Jp)}{qs:Z (Nat×U)}(ho:o.op=.buildSlice t k ps)(hd:T.und t=some (.slice e))(hi:T.inf e=some (sz,b,z))
  (h:wZ tm ps.toList=some qs) (h1:Nat.ble (k*sz) 16777216=true) (h3:Nat.beq z.cells.toList.length sz=true) (hz:nH z.cells.toList=some zu) (hf:pT (fun i=>some (i*sz,sz)) (qV zu k) qs=some cs) (hk:okL cs=true) (hl:Nat.beq cs.length (k*sz)=true) (hs:Nat.blt 0 sz=true):
  eT C X tm o (fun u X'=>u=.vl X.nx 0 0 k/\X'=newU X (.vec cs e sz 0)):=eT.bslw hT ho hd hi h h1 h3 hz hf (o3.refl _) hk hl hs
def xH(K K2 k:Nat):Nat:=cond (Nat.beq k K) K2 k
def KI(K K2:Nat):Z (Nat×B)->Z (Nat×B)
 |[]=>[]|(k,b)::h=>cond (Nat.beq k K) (KI K K2 h) (cond (Nat.beq k K2) ((K,b)::KI K K2 h) ((k,b)::KI K K2 h))
def bo{K K2:Nat}(cT:K≠K2):∀(h:Z (Nat×B))(j:Nat),gt (KI K K2 h) j=if j=K then gt h K2 else if j=K2 then none else gt h j
 |[],j=>by simp[KI,gt]
 |(k,b)::h,j=>by have ih:=bo cT h j;simp only[KI,beq_eq];by_cases e1:k=K;subst e1;simp only[yC,zC,ih,aQ];by_cases e2:j=k;subst e2;simp[cT];simp[e2,Ne.symm e2];by_cases e2:k=K2;subst e2;simp only[e1,yB,zD,yC,zC,aQ,ih];by_cases e3:j=K;subst e3;simp;by_cases e4:j=k;simp[e4,e1,Ne.symm e3];intro h;exact absurd h.symm e1;simp[e3,e4,Ne.symm e3,Ne.symm e4];simp only[e1,e2,yB,zD,aQ,ih];by_cases e3:j=K;subst e3;simp[e1,e2];by_cases e4:j=K2;subst e4;simp[e3,e2];simp[e3,e4]
def rS(V:Nat->Nat):Z (Nat×U)->Z (Nat×U)
 |[]=>[]|(i,u)::l=>(i,rU V u)::rS V l
def qu3(V:Nat->Nat):∀(l:Z (Nat×U))(i:Nat),mM (rS V l) i=(mM l i).map (rU V)
 |[],i=>rfl|(j,u)::l,i=>by simp only[rS,mM,beq_eq,qu3 V l i];by_cases e:j=i<;>simp[e]
def qzq(V:Nat->Nat):∀(l:Z U)(i:Nat),(eM V l)[i]? = (l[i]?).map (rU V)
 |[],i=>by simp[eM]
 |u::l,0=>by simp[eM]
 |u::l,i+1=>by simp[eM,qzq V l i]
def VZ(V:Nat->Nat)(n:Nat)(l:Z (Nat×U)):eM V (fr n l)=fr n (rS V l):=by apply List.ext_getElem?;intro k;rw[qzq];by_cases hk:k<n;rw[LX n l hk,LX n _ hk,qu3];rcases mM l k with _|w;simp[rU];rfl;rw[List.getElem?_eq_none (by simp[E7];omega),List.getElem?_eq_none (by simp[E7];omega)];rfl
def Wv(V:Nat->Nat):Z (Nat×B)->Prop
 |[]=>True|(_,b)::h=>rB V b=b/\Wv V h
def z4r{V:Nat->Nat}:∀{h:Z (Nat×B)},Wv V h->∀k b,gt h k=some b->rB V b=b
 |[],_,k,b,hg=>by cases hg
 |(j,c)::h,ha,k,b,hg=>by rw[aQ]at hg;by_cases e:j=k;rw[if_pos e]at hg;cases hg;exact ha.1;rw[if_neg e]at hg;exact z4r ha.2 k b hg
def Gh.mv{n0 n:Nat}{l l':Z (Nat×U)}{X:Sg}{h':Z (Nat×B)}(K K2:Nat)(h0:n0<=K)(hK:Nat.blt K X.nx=true)(cT:Nat.beq K K2=false)(hl:rS (xH K K2) l'=l)(hm:KI K K2 X.h=h')(ha:Wv (xH K K2) h')[hb:BS X.nx l']:Gh n0 (fr n l) X (fr n l') ⟨h',X.nx⟩:=fun F x tv hx hr hf he=>by
 subst hx;subst hl;subst hm;have hK':K<x.X.nx:=by simpa[Nat.blt_eq]using hK
 have ZT:K≠K2:=by simpa[beq_eq]using cT
 have key:∀k b,gt (KI K K2 x.X.h) k=some b->gt x.X.h (xH K K2 k)=some b:=fun k b hg=>by rw[bo ZT]at hg;simp only[xH,beq_eq];by_cases e:k=K;rw[if_pos e]at hg;simpa[e]using hg;rw[if_neg e]at hg;by_cases e2:k=K2;rw[if_pos e2]at hg;cases hg;rw[if_neg e2]at hg;simpa[e]using hg
 let y:Cx:=⟨fun k=>x.Y (xH K K2 k),⟨KI K K2 x.X.h,x.X.nx⟩,x.s⟩
 have hU:Q1 x.X.nx (xH K K2) x y:=⟨fun k st off v hk h=>by
   simp only[aB,Ref]at h ⊢;exact⟨h.1,hk,fun b hb=>h.2.2 b (key k b hb)⟩,fun k off m c v hk h=>by
   simp only[aB,Ref]at h ⊢;exact⟨h.1,hk,fun b hb=>h.2.2 b (key k b hb)⟩,fun k st off m v hk h=>by
   simp only[aB]at h ⊢;exact⟨h.1,hk,fun b hb=>h.2.2 b (key k b hb)⟩,fun k v hk h=>by
   simp only[aB,Ref]at h ⊢;exact⟨h.1,hk,fun b hb=>h.2.2 b (key k b hb)⟩,fun _ _ _ h=>h⟩
 have HM:∀u,aP n0 u->rU (xH K K2) u=u:=fun u O6=>by
  have:=Yy (V:=id) (κ:=xH K K2) (n:=n0) (fun k hk=>by
   have:¬ k=K:=by omega
   simp[xH,beq_eq,this]) u O6
  rwa [Kn]at this
 refine⟨y,fun m w hf=>bQ.refl hf,rfl,⟨fun k b hb=>?_,fun k k' b b' i hb bV h1 h2=>?_,hr.bd⟩,fun i b J=>?_,?_,fun u v O6 hv=>?_⟩;have hg:=key k b hb;obtain⟨g1,g2⟩:=hr.ok _ _ hg;have Ia:k<x.X.nx:=by
  by_cases e:k=K;omega;have e2:xH K K2 k=k:=by simp[xH,beq_eq,e]
  rw[e2]at g1;exact g1
 refine⟨Ia,mQ.unleaf hU g2.belB rfl (fun _ _ _ h=>h) ?_⟩;rw[z4r ha k b hb];exact g2;have e:=hr.inj _ _ b b' i (key k b hb) (key k' b' bV) h1 h2;have yp:∀k b,gt (KI K K2 x.X.h) k=some b->k≠K2:=fun k b hb h=>by subst h;rw[bo ZT,if_neg (Ne.symm ZT),if_pos rfl]at hb;cases hb
 have q1:=yp k b hb;have q2:=yp k' b' bV;simp only[xH,beq_eq]at e;by_cases e1:k=K;by_cases e2:k'=K;rw[e1,e2];simp[e1,e2]at e;exact absurd e.symm q2;by_cases e2:k'=K;simp[e1,e2]at e;exact absurd e q1;simpa[e1,e2]using e;obtain⟨h1,h2⟩:=hf i b J;exact⟨h1,fun k c hc=>h2 _ c (key k c hc)⟩;refine aX.unleaf hU (Ml hb.h) ?_;rw[VZ];exact he;exact aB.unleaf hU u v (aP.le (by omega) u O6) (by rw[HM u O6];exact hv)
variable{T:Tb}{X:Sg}
def AD{t e:O}{m sz k st off:Nat}{i:Int}{kd:IntKind}(hd:T.und t=some (.array m e))(hs:c6 T e=some sz)(hl:live X k st=true)(hi:0<=i/\i<m){off':Nat}(ho:off+i.toNat*sz=off'):AH T X t (.ptr k st off) (.int kd i)=some (.ptr k st off'):=by subst ho;simp only[AH,hd,hs,hl,zC,if_pos hi]
def Qy{t e:O}{k st off:Nat}{op:BinOp}{u:U}(hd:T.und t=some (.pointer e))(hl:live X k st=true)(hu:DC op=some u):Dz T X op t (.ptr k st off) .nilp=some u:=by simp only[Dz,wU,hd,fZ,hl,JR,hu,zC,Nat.beq,zD]
end Go.Vx
namespace Go.Proofs
open Go Go.Rx
def fn6:tb.fn 6=some Tryz.f6:=by kernel_rfl
def fn9:tb.fn 9=some Tryz.f9:=by kernel_rfl
def OI:tb.fn 11=some Tryz.f11:=by kernel_rfl
def Bl:tb.fn 12=some Tryz.f12:=by kernel_rfl
def OH:tb.fn 16=some Tryz.f16:=by kernel_rfl
def Wc:tb.fn 17=some Tryz.f17:=by kernel_rfl
def wC:tb.fn 18=some Tryz.f18:=by kernel_rfl
def D8:tb.fn 19=some Tryz.f19:=by kernel_rfl
def HU:tb.fn 20=some Tryz.f20:=by kernel_rfl
def u6:tb.fn 21=some Tryz.f21:=by kernel_rfl
def Bk:tb.fn 22=some Tryz.f22:=by kernel_rfl
def Wb:tb.fn 23=some Tryz.f23:=by kernel_rfl
def OG:tb.fn 32=some Tryz.f32:=by kernel_rfl
def Wa:tb.fn 33=some Tryz.f33:=by kernel_rfl
def Vz:tb.fn 34=some Tryz.f34:=by kernel_rfl
def HT:tb.fn 35=some Tryz.f35:=by kernel_rfl
def tZ:tb.fn 36=some Tryz.f36:=by kernel_rfl
def Vy:tb.fn 41=some Tryz.f41:=by kernel_rfl
def Vw:tb.fn 42=some Tryz.f42:=by kernel_rfl
def OF:tb.fn 43=some Tryz.f43:=by kernel_rfl
def Vv:tb.fn 44=some Tryz.f44:=by kernel_rfl
def Bj:tb.fn 45=some Tryz.f45:=by kernel_rfl
def Vu:tb.fn 46=some Tryz.f46:=by kernel_rfl
def Vt:tb.fn 53=some Tryz.f53:=by kernel_rfl
def Vs:tb.fn 57=some Tryz.f57:=by kernel_rfl
def HS:tb.fn 58=some Tryz.f58:=by kernel_rfl
def Vr:tb.fn 59=some Tryz.f59:=by kernel_rfl
def Vq:tb.fn 60=some Tryz.f60:=by kernel_rfl
def nC:tb.fn 61=some Tryz.f61:=by kernel_rfl
def Vp:tb.fn 63=some Tryz.f63:=by kernel_rfl
def Bi:tb.fn 64=some Tryz.f64:=by kernel_rfl
def Vo:tb.fn 65=some Tryz.f65:=by kernel_rfl
def wB:tb.fn 66=some Tryz.f66:=by kernel_rfl
def Vn:tb.fn 67=some Tryz.f67:=by kernel_rfl
def Vm:tb.fn 68=some Tryz.f68:=by kernel_rfl
def OE:tb.fn 69=some Tryz.f69:=by kernel_rfl
def w9:tb.fn 70=some Tryz.f70:=by kernel_rfl
def w8:tb.fn 71=some Tryz.f71:=by kernel_rfl
def D7:tb.fn 72=some Tryz.f72:=by kernel_rfl
def Vl:tb.fn 73=some Tryz.f73:=by kernel_rfl
def Vk:tb.fn 78=some Tryz.f78:=by kernel_rfl
def Vj:tb.fn 79=some Tryz.f79:=by kernel_rfl
def Vi:tb.fn 80=some Tryz.f80:=by kernel_rfl
def Vh:tb.fn 81=some Tryz.f81:=by kernel_rfl
def Bh:tb.fn 86=some Tryz.f86:=by kernel_rfl
def OD:tb.fn 87=some Tryz.f87:=by kernel_rfl
def Bg:tb.fn 88=some Tryz.f88:=by kernel_rfl
def Vg:tb.fn 89=some Tryz.f89:=by kernel_rfl
def Vf:tb.fn 90=some Tryz.f90:=by kernel_rfl
def Bf:tb.fn 91=some Tryz.f91:=by kernel_rfl
def Ve:tb.fn 92=some Tryz.f92:=by kernel_rfl
def Vd:tb.fn 93=some Tryz.f93:=by kernel_rfl
def Vc:tb.fn 94=some Tryz.f94:=by kernel_rfl
def Vb:tb.fn 95=some Tryz.f95:=by kernel_rfl
def HR:tb.fn 96=some Tryz.f96:=by kernel_rfl
def Be:tb.fn 97=some Tryz.f97:=by kernel_rfl
def OC:tb.fn 98=some Tryz.f98:=by kernel_rfl
def TK:tb.fn 100=some Tryz.f100:=by kernel_rfl
def TJ:tb.fn 101=some Tryz.f101:=by kernel_rfl
def I9:tb.fn 102=some Tryz.f102:=by kernel_rfl
def TI:tb.fn 103=some Tryz.f103:=by kernel_rfl
def wE:tb.fn 104=some Tryz.f104:=by kernel_rfl
def BD:tb.fn 105=some Tryz.f105:=by kernel_rfl
def TH:tb.fn 106=some Tryz.f106:=by kernel_rfl
def TG:tb.fn 107=some Tryz.f107:=by kernel_rfl
def I8:tb.fn 108=some Tryz.f108:=by kernel_rfl
def TF:tb.fn 109=some Tryz.f109:=by kernel_rfl
def Wd:tb.fn 110=some Tryz.f110:=by kernel_rfl
def TE:tb.fn 111=some Tryz.f111:=by kernel_rfl
def I7:tb.fn 112=some Tryz.f112:=by kernel_rfl
def TD:tb.fn 115=some Tryz.f115:=by kernel_rfl
def qL:tb.fn 116=some Tryz.f116:=by kernel_rfl
def I6:tb.fn 117=some Tryz.f117:=by kernel_rfl
def I5:tb.fn 118=some Tryz.f118:=by kernel_rfl
def wD:tb.fn 119=some Tryz.f119:=by kernel_rfl
def I4:tb.fn 120=some Tryz.f120:=by kernel_rfl
def TB:tb.fn 121=some Tryz.f121:=by kernel_rfl
def TA:tb.fn 122=some Tryz.f122:=by kernel_rfl
def T9:tb.fn 123=some Tryz.f123:=by kernel_rfl
def T8:tb.fn 124=some Tryz.f124:=by kernel_rfl
def T7:tb.fn 125=some Tryz.f125:=by kernel_rfl
def lW:tb.fn 126=some Tryz.f126:=by kernel_rfl
def T6:tb.fn 127=some Tryz.f127:=by kernel_rfl
def T5:tb.fn 128=some Tryz.f128:=by kernel_rfl
def T4:tb.fn 129=some Tryz.f129:=by kernel_rfl
def I3:tb.fn 130=some Tryz.f130:=by kernel_rfl
def I2:tb.fn 131=some Tryz.f131:=by kernel_rfl
def I1:tb.fn 132=some Tryz.f132:=by kernel_rfl
def BC:tb.fn 133=some Tryz.f133:=by kernel_rfl
def T3:tb.fn 140=some Tryz.f140:=by kernel_rfl
def I0:tb.fn 141=some Tryz.f141:=by kernel_rfl
def HZ:tb.fn 142=some Tryz.f142:=by kernel_rfl
def T1:tb.fn 143=some Tryz.f143:=by kernel_rfl
def T0:tb.fn 153=some Tryz.f153:=by kernel_rfl
def SZ:tb.fn 155=some Tryz.f155:=by kernel_rfl
def HY:tb.fn 156=some Tryz.f156:=by kernel_rfl
def SY:tb.fn 157=some Tryz.f157:=by kernel_rfl
def qK:tb.fn 158=some Tryz.f158:=by kernel_rfl
def SX:tb.fn 159=some Tryz.f159:=by kernel_rfl
def SV:tb.fn 160=some Tryz.f160:=by kernel_rfl
def SU:tb.fn 161=some Tryz.f161:=by kernel_rfl
def SS:tb.fn 162=some Tryz.f162:=by kernel_rfl
def SR:tb.fn 163=some Tryz.f163:=by kernel_rfl
def HX:tb.fn 173=some Tryz.f173:=by kernel_rfl
def HW:tb.fn 176=some Tryz.f176:=by kernel_rfl
def SQ:tb.fn 177=some Tryz.f177:=by kernel_rfl
def SP:tb.fn 178=some Tryz.f178:=by kernel_rfl
def HV:tb.fn 179=some Tryz.f179:=by kernel_rfl
end Go.Proofs
