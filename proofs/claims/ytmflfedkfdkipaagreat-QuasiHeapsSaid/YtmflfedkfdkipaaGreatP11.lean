import Derived.Test.YtmflfedkfdkipaaGreatProg
import Derived.Test.YtmflfedkfdkipaaGreatP10
set_option linter.all false
open List Go.IntKind
open Nat hiding beq_eq
namespace Go.Proofs
open Go Go.Rx
noncomputable def tb:Tb:=EU Tryz.prog []
def Tryz.mixed:Tryz.prog.follows .mixedOrders=true:=bD
def Ic:∀t∈([]:X TypeId),Tryz.prog.stoodInHeld t=false/\Tryz.prog.eqGuardType Tryz.prog.depth t=false:=by intro t a;cases a
def Tryz.Y7 : (Tryz.prog.funcs.toList.all fun f => !(f.name == "runtime.NumGoroutine")) = true := by kernel_rfl
def cf:j0 Tryz.prog tb:=zbe Tryz.prog [] Tryz.mixed (fun f a _=>by
 have:=all_eq_true.1 Tryz.Y7 f a;simpa using this) Ic
def A?:tb.G4 3=some (.int .i64):=bD
def Yg:tb.inf 3=some (1,8,.int .i64 0):=bD
def z?:tb.G4 4=some (.bool):=bD
def v05:tb.inf 4=some (1,1,.bool false):=bD
def y?:tb.G4 9=some (.string):=bD
def v04:tb.inf 9=some (1,16,.string ⟨#[]⟩):=bD
def Qn:tb.G4 22=some (.slice 153):=bD
def Qm:tb.G4 24=some (.slice 147):=bD
def Yi:tb.inf 24=some (1,24,.slice none 0 0):=bD
def Ql:tb.G4 25=some (.slice 197):=bD
def Yh:tb.inf 25=some (1,24,.slice none 0 0):=bD
def Qk : tb.G4 27 = some (.struct #[⟨ "Types", 24, 0, false, "", "", 0⟩, ⟨ "Feats", 25, 1, false, "", "", 24⟩]) := by kernel_rfl
def VS:tb.inf 27=some (2,48,.agg #[.slice none 0 0,.slice none 0 0]):=bD
def Qj:tb.G4 31=some (.pointer 83):=bD
def Qi:tb.G4 33=some (.slice 39):=bD
def Qh:tb.G4 37=some (.slice 79):=bD
def Yf:tb.inf 37=some (1,24,.slice none 0 0):=bD
def Qg : tb.G4 39 = some (.struct #[⟨ "Nodes", 37, 0, false, "", "", 0⟩]) := by kernel_rfl
def VR:tb.inf 39=some (1,24,.agg #[.slice none 0 0]):=bD
def Qf:tb.G4 58=some (.array 2 3):=bD
def VQ:tb.inf 58=some (2,16,.agg #[.int .i64 0,.int .i64 0]):=bD
def Qe:tb.G4 59=some (.slice 58):=bD
def Qd:tb.G4 68=some (.pointer 124):=bD
def Qc:tb.G4 77=some (.slice 105):=bD
def Yd:tb.inf 77=some (1,24,.slice none 0 0):=bD
def Qb : tb.G4 79 = some (.struct #[⟨ "Type", 3, 0, false, "", "", 0⟩, ⟨ "Arcs", 77, 1, false, "", "", 8⟩]) := by kernel_rfl
def VP:tb.inf 79=some (2,32,.agg #[.int .i64 0,.slice none 0 0]):=bD
def Qa:tb.G4 81=some (.slice 92):=bD
def Yc:tb.inf 81=some (1,24,.slice none 0 0):=bD
def Pz : tb.G4 83 = some (.struct #[⟨ "h", 27, 0, false, "", "grammarlab/quasi", 0⟩, ⟨ "roots", 81, 2, false, "", "grammarlab/quasi", 48⟩, ⟨ "size", 3, 3, false, "", "grammarlab/quasi", 72⟩, ⟨ "at", 3, 4, false, "", "grammarlab/quasi", 80⟩]) := by kernel_rfl
def Py:tb.G4 92=some (.pointer 103):=bD
def VO:tb.inf 92=some (1,8,.pointer none):=bD
def Px:tb.G4 93=some (.slice 107):=bD
def Ya:tb.inf 93=some (1,24,.slice none 0 0):=bD
def Pw : tb.G4 95 = some (.struct #[⟨ "value", 92, 0, false, "", "grammarlab/quasi", 0⟩, ⟨ "at", 3, 1, false, "", "grammarlab/quasi", 8⟩]) := by kernel_rfl
def Xz:tb.inf 95=some (2,16,.agg #[.pointer none,.int .i64 0]):=bD
def Pv : tb.G4 97 = some (.struct #[⟨ "value", 3, 0, false, "", "grammarlab/quasi", 0⟩, ⟨ "at", 3, 1, false, "", "grammarlab/quasi", 8⟩]) := by kernel_rfl
def Xy:tb.inf 97=some (2,16,.agg #[.int .i64 0,.int .i64 0]):=bD
def Pu : tb.G4 99 = some (.struct #[⟨ "value", 93, 0, false, "", "grammarlab/quasi", 0⟩, ⟨ "at", 3, 1, false, "", "grammarlab/quasi", 24⟩]) := by kernel_rfl
def Xx:tb.inf 99=some (2,32,.agg #[.slice none 0 0,.int .i64 0]):=bD
def ZK : tb.G4 101 = some (.struct #[⟨ "value", 4, 0, false, "", "grammarlab/quasi", 0⟩, ⟨ "at", 3, 1, false, "", "grammarlab/quasi", 8⟩]) := by kernel_rfl
def Er:tb.inf 101=some (2,16,.agg #[.bool false,.int .i64 0]):=bD
def ZJ : tb.G4 103 = some (.struct #[⟨ "kind", 3, 0, false, "", "grammarlab/quasi", 0⟩, ⟨ "arcs", 93, 1, false, "", "grammarlab/quasi", 8⟩, ⟨ "forward", 95, 2, false, "", "grammarlab/quasi", 32⟩, ⟨ "meet", 97, 4, false, "", "grammarlab/quasi", 48⟩, ⟨ "more", 99, 6, false, "", "grammarlab/quasi", 64⟩, ⟨ "copied", 95, 8, false, "", "grammarlab/quasi", 96⟩, ⟨ "changed", 101, 10, false, "", "grammarlab/quasi", 112⟩]) := by kernel_rfl
def Ep:tb.inf 103=some (12,128,.agg #[.int .i64 0,.slice none 0 0,.pointer none,.int .i64 0,.int .i64 0,.int .i64 0,.slice none 0 0,.int .i64 0,.pointer none,.int .i64 0,.bool false,.int .i64 0]):=bD
def ZI : tb.G4 105 = some (.struct #[⟨ "Feat", 3, 0, false, "", "", 0⟩, ⟨ "To", 3, 1, false, "", "", 8⟩]) := by kernel_rfl
def K5:tb.inf 105=some (2,16,.agg #[.int .i64 0,.int .i64 0]):=bD
def ZH : tb.G4 107 = some (.struct #[⟨ "feat", 3, 0, false, "", "grammarlab/quasi", 0⟩, ⟨ "to", 92, 1, false, "", "grammarlab/quasi", 8⟩]) := by kernel_rfl
def K4:tb.inf 107=some (2,16,.agg #[.int .i64 0,.pointer none]):=bD
def ZG:tb.G4 108=some (.map 92 3):=bD
def K3:tb.inf 108=some (1,8,.map none):=bD
def ZF:tb.G4 109=some (.func #[92] #[3] false):=bD
def K1:tb.inf 109=some (1,8,.nilFunc):=bD
def ZE:tb.G4 115=some (.slice 3):=bD
def Eo:tb.inf 115=some (1,24,.slice none 0 0):=bD
def ZD:tb.G4 120=some (.slice 126):=bD
def En:tb.inf 120=some (1,24,.slice none 0 0):=bD
def ZC:tb.G4 121=some (.slice 171):=bD
def Em:tb.inf 121=some (1,24,.slice none 0 0):=bD
def ZB : tb.G4 124 = some (.struct #[⟨ "h", 27, 0, false, "", "grammarlab/trail", 0⟩, ⟨ "cells", 120, 2, false, "", "grammarlab/trail", 48⟩, ⟨ "trail", 121, 3, false, "", "grammarlab/trail", 72⟩, ⟨ "marks", 122, 4, false, "", "grammarlab/trail", 96⟩]) := by kernel_rfl
def Ek:tb.inf 124=some (5,120,.agg #[.slice none 0 0,.slice none 0 0,.slice none 0 0,.slice none 0 0,.slice none 0 0]):=bD
def ZA : tb.G4 126 = some (.struct #[⟨ "forward", 3, 0, false, "", "grammarlab/trail", 0⟩, ⟨ "kind", 3, 1, false, "", "grammarlab/trail", 8⟩, ⟨ "arcs", 77, 2, false, "", "grammarlab/trail", 16⟩]) := by kernel_rfl
def K0:tb.inf 126=some (3,40,.agg #[.int .i64 0,.int .i64 0,.slice none 0 0]):=bD
def Z9:tb.G4 128=some (.func #[3] #[3] false):=bD
def JZ:tb.inf 128=some (1,8,.nilFunc):=bD
def Z8:tb.G4 133=some (.map 3 3):=bD
def JY:tb.inf 133=some (1,8,.map none):=bD
def Z7:tb.G4 134=some (.slice 145):=bD
def Z6:tb.G4 137=some (.slice 143):=bD
def Z5:tb.G4 141=some (.slice 213):=bD
def JX:tb.inf 141=some (1,24,.slice none 0 0):=bD
def Z4 : tb.G4 143 = some (.struct #[⟨ "Name", 9, 0, false, "", "", 0⟩, ⟨ "Code", 141, 1, false, "", "", 16⟩]) := by kernel_rfl
def JW:tb.inf 143=some (2,40,.agg #[.string ⟨#[]⟩,.slice none 0 0]):=bD
def Z3:tb.G4 145=some (.slice 186):=bD
def JV:tb.inf 145=some (1,24,.slice none 0 0):=bD
def Z0 : tb.G4 147 = some (.struct #[⟨ "Name", 9, 0, false, "", "", 0⟩, ⟨ "Code", 141, 1, false, "", "", 16⟩, ⟨ "Supers", 115, 2, false, "", "", 40⟩, ⟨ "Feats", 145, 3, false, "", "", 64⟩]) := by kernel_rfl
def JU:tb.inf 147=some (4,88,.agg #[.string ⟨#[]⟩,.slice none 0 0,.slice none 0 0,.slice none 0 0]):=bD
def YZ:tb.G4 150=some (.slice 9):=bD
def Ej:tb.inf 150=some (1,24,.slice none 0 0):=bD
def YY:tb.G4 151=some (.slice 156):=bD
def Ei:tb.inf 151=some (1,24,.slice none 0 0):=bD
def YX : tb.G4 153 = some (.struct #[⟨ "Name", 9, 0, false, "", "", 0⟩, ⟨ "Supers", 150, 1, false, "", "", 16⟩, ⟨ "Feats", 151, 2, false, "", "", 40⟩]) := by kernel_rfl
def JT:tb.inf 153=some (3,64,.agg #[.string ⟨#[]⟩,.slice none 0 0,.slice none 0 0]):=bD
def YW : tb.G4 156 = some (.struct #[⟨ "Feat", 9, 0, false, "", "", 0⟩, ⟨ "Value", 9, 1, false, "", "", 16⟩]) := by kernel_rfl
def JS:tb.inf 156=some (2,32,.agg #[.string ⟨#[]⟩,.string ⟨#[]⟩]):=bD
def YV : tb.G4 171 = some (.struct #[⟨ "at", 3, 0, false, "", "grammarlab/trail", 0⟩, ⟨ "old", 126, 1, false, "", "grammarlab/trail", 8⟩]) := by kernel_rfl
def JR:tb.inf 171=some (4,48,.agg #[.int .i64 0,.int .i64 0,.int .i64 0,.slice none 0 0]):=bD
def YU : tb.G4 186 = some (.struct #[⟨ "Feat", 3, 0, false, "", "", 0⟩, ⟨ "Value", 3, 1, false, "", "", 8⟩]) := by kernel_rfl
def JQ:tb.inf 186=some (2,16,.agg #[.int .i64 0,.int .i64 0]):=bD
def YT:tb.G4 187=some (.slice 141):=bD
def YS : tb.G4 197 = some (.struct #[⟨ "Name", 9, 0, false, "", "", 0⟩, ⟨ "Intro", 3, 1, false, "", "", 16⟩]) := by kernel_rfl
def JP:tb.inf 197=some (2,24,.agg #[.string ⟨#[]⟩,.int .i64 0]):=bD
def YR:tb.G4 200=some (.array 2 92):=bD
def JO:tb.inf 200=some (2,16,.agg #[.pointer none,.pointer none]):=bD
def YQ:tb.G4 201=some (.slice 200):=bD
def YP:tb.G4 207=some (.map 92 4):=bD
def YO:tb.G4 212=some (.int .u64):=bD
def YN:tb.G4 213=some (.int .u64):=bD
def JN:tb.inf 213=some (1,8,.int .u64 0):=bD
def YM : tb.G4 237 = some (.struct #[⟨ "f", 39, 0, false, "", "grammarlab/grammarlabref07", 0⟩, ⟨ "number", 115, 1, false, "", "grammarlab/grammarlabref07", 24⟩, ⟨ "order", 115, 2, false, "", "grammarlab/grammarlabref07", 48⟩]) := by kernel_rfl
def Eh:tb.inf 237=some (3,72,.agg #[.slice none 0 0,.slice none 0 0,.slice none 0 0]):=bD
end Go.Proofs
namespace Go.Proofs
open Go Go.Rx Go.Vx
instance tF:dY tb 3 (.int .i64):=⟨A?⟩
instance F?:dY tb 4 (.bool):=⟨z?⟩
instance MS:dY tb 9 (.string):=⟨y?⟩
instance Qp:dY tb 22 (.slice 153):=⟨Qn⟩
instance IB:dY tb 24 (.slice 147):=⟨Qm⟩
instance:dY tb 25 (.slice 197):=⟨Ql⟩
instance vQ : dY tb 27 (.struct #[⟨ "Types", 24, 0, false, "", "", 0⟩, ⟨ "Feats", 25, 1, false, "", "", 24⟩]) := ⟨Qk⟩
instance G?:dY tb 31 (.pointer 83):=⟨Qj⟩
instance:dY tb 33 (.slice 39):=⟨Qi⟩
instance rN:dY tb 37 (.slice 79):=⟨Qh⟩
instance qM : dY tb 39 (.struct #[⟨ "Nodes", 37, 0, false, "", "", 0⟩]) := ⟨Qg⟩
instance OU:dY tb 58 (.array 2 3):=⟨Qf⟩
instance ZL:dY tb 59 (.slice 58):=⟨Qe⟩
instance E?:dY tb 68 (.pointer 124):=⟨Qd⟩
instance fZ:dY tb 77 (.slice 105):=⟨Qc⟩
instance ET : dY tb 79 (.struct #[⟨ "Type", 3, 0, false, "", "", 0⟩, ⟨ "Arcs", 77, 1, false, "", "", 8⟩]) := ⟨Qb⟩
instance iA:dY tb 81 (.slice 92):=⟨Qa⟩
instance : dY tb 83 (.struct #[⟨ "h", 27, 0, false, "", "grammarlab/quasi", 0⟩, ⟨ "roots", 81, 2, false, "", "grammarlab/quasi", 48⟩, ⟨ "size", 3, 3, false, "", "grammarlab/quasi", 72⟩, ⟨ "at", 3, 4, false, "", "grammarlab/quasi", 80⟩]) := ⟨Pz⟩
instance i9:dY tb 92 (.pointer 103):=⟨Py⟩
instance ES:dY tb 93 (.slice 107):=⟨Px⟩
instance D? : dY tb 95 (.struct #[⟨ "value", 92, 0, false, "", "grammarlab/quasi", 0⟩, ⟨ "at", 3, 1, false, "", "grammarlab/quasi", 8⟩]) := ⟨Pw⟩
instance C? : dY tb 97 (.struct #[⟨ "value", 3, 0, false, "", "grammarlab/quasi", 0⟩, ⟨ "at", 3, 1, false, "", "grammarlab/quasi", 8⟩]) := ⟨Pv⟩
instance B? : dY tb 99 (.struct #[⟨ "value", 93, 0, false, "", "grammarlab/quasi", 0⟩, ⟨ "at", 3, 1, false, "", "grammarlab/quasi", 24⟩]) := ⟨Pu⟩
instance Qw : dY tb 101 (.struct #[⟨ "value", 4, 0, false, "", "grammarlab/quasi", 0⟩, ⟨ "at", 3, 1, false, "", "grammarlab/quasi", 8⟩]) := ⟨ZK⟩
instance Qv : dY tb 103 (.struct #[⟨ "kind", 3, 0, false, "", "grammarlab/quasi", 0⟩, ⟨ "arcs", 93, 1, false, "", "grammarlab/quasi", 8⟩, ⟨ "forward", 95, 2, false, "", "grammarlab/quasi", 32⟩, ⟨ "meet", 97, 4, false, "", "grammarlab/quasi", 48⟩, ⟨ "more", 99, 6, false, "", "grammarlab/quasi", 64⟩, ⟨ "copied", 95, 8, false, "", "grammarlab/quasi", 96⟩, ⟨ "changed", 101, 10, false, "", "grammarlab/quasi", 112⟩]) := ⟨ZJ⟩
instance pT : dY tb 105 (.struct #[⟨ "Feat", 3, 0, false, "", "", 0⟩, ⟨ "To", 3, 1, false, "", "", 8⟩]) := ⟨ZI⟩
instance Qu : dY tb 107 (.struct #[⟨ "feat", 3, 0, false, "", "grammarlab/quasi", 0⟩, ⟨ "to", 92, 1, false, "", "grammarlab/quasi", 8⟩]) := ⟨ZH⟩
instance IG:dY tb 108 (.map 92 3):=⟨ZG⟩
instance:dY tb 109 (.func #[92] #[3] false):=⟨ZF⟩
instance iB:dY tb 115 (.slice 3):=⟨ZE⟩
instance iZ:dY tb 120 (.slice 126):=⟨ZD⟩
instance kZ:dY tb 121 (.slice 171):=⟨ZC⟩
instance uM : dY tb 124 (.struct #[⟨ "h", 27, 0, false, "", "grammarlab/trail", 0⟩, ⟨ "cells", 120, 2, false, "", "grammarlab/trail", 48⟩, ⟨ "trail", 121, 3, false, "", "grammarlab/trail", 72⟩, ⟨ "marks", 122, 4, false, "", "grammarlab/trail", 96⟩]) := ⟨ZB⟩
instance kY : dY tb 126 (.struct #[⟨ "forward", 3, 0, false, "", "grammarlab/trail", 0⟩, ⟨ "kind", 3, 1, false, "", "grammarlab/trail", 8⟩, ⟨ "arcs", 77, 2, false, "", "grammarlab/trail", 16⟩]) := ⟨ZA⟩
instance:dY tb 128 (.func #[3] #[3] false):=⟨Z9⟩
instance TA:dY tb 133 (.map 3 3):=⟨Z8⟩
instance:dY tb 134 (.slice 145):=⟨Z7⟩
instance rP:dY tb 137 (.slice 143):=⟨Z6⟩
instance g8:dY tb 141 (.slice 213):=⟨Z5⟩
instance T9 : dY tb 143 (.struct #[⟨ "Name", 9, 0, false, "", "", 0⟩, ⟨ "Code", 141, 1, false, "", "", 16⟩]) := ⟨Z4⟩
instance:dY tb 145 (.slice 186):=⟨Z3⟩
instance IF : dY tb 147 (.struct #[⟨ "Name", 9, 0, false, "", "", 0⟩, ⟨ "Code", 141, 1, false, "", "", 16⟩, ⟨ "Supers", 115, 2, false, "", "", 40⟩, ⟨ "Feats", 145, 3, false, "", "", 64⟩]) := ⟨Z0⟩
instance kX:dY tb 150 (.slice 9):=⟨YZ⟩
instance IE:dY tb 151 (.slice 156):=⟨YY⟩
instance xT : dY tb 153 (.struct #[⟨ "Name", 9, 0, false, "", "", 0⟩, ⟨ "Supers", 150, 1, false, "", "", 16⟩, ⟨ "Feats", 151, 2, false, "", "", 40⟩]) := ⟨YX⟩
instance Qt : dY tb 156 (.struct #[⟨ "Feat", 9, 0, false, "", "", 0⟩, ⟨ "Value", 9, 1, false, "", "", 16⟩]) := ⟨YW⟩
instance ID : dY tb 171 (.struct #[⟨ "at", 3, 0, false, "", "grammarlab/trail", 0⟩, ⟨ "old", 126, 1, false, "", "grammarlab/trail", 8⟩]) := ⟨YV⟩
instance Qs : dY tb 186 (.struct #[⟨ "Feat", 3, 0, false, "", "", 0⟩, ⟨ "Value", 3, 1, false, "", "", 8⟩]) := ⟨YU⟩
instance rO:dY tb 187 (.slice 141):=⟨YT⟩
instance Qr : dY tb 197 (.struct #[⟨ "Name", 9, 0, false, "", "", 0⟩, ⟨ "Intro", 3, 1, false, "", "", 16⟩]) := ⟨YS⟩
instance T8:dY tb 200 (.array 2 92):=⟨YR⟩
instance mA:dY tb 201 (.slice 200):=⟨YQ⟩
instance IC:dY tb 207 (.map 92 4):=⟨YP⟩
instance DB:dY tb 212 (.int .u64):=⟨YO⟩
instance Qq:dY tb 213 (.int .u64):=⟨YN⟩
instance T7 : dY tb 237 (.struct #[⟨ "f", 39, 0, false, "", "grammarlab/grammarlabref07", 0⟩, ⟨ "number", 115, 1, false, "", "grammarlab/grammarlabref07", 24⟩, ⟨ "order", 115, 2, false, "", "grammarlab/grammarlabref07", 48⟩]) := ⟨YM⟩
instance nE:i5 tb 3 1 8 (.int .i64 0):=⟨Yg⟩
instance:oW tb 3 [.int .i64 0]:=⟨_,_,_,Yg,rfl,rfl⟩
instance if4:i5 tb 4 1 1 (.bool false):=⟨v05⟩
instance:oW tb 4 [.bool false]:=⟨_,_,_,v05,rfl,rfl⟩
instance K9:i5 tb 9 1 16 (.string ⟨#[]⟩):=⟨v04⟩
instance:oW tb 9 [.str []]:=⟨_,_,_,v04,rfl,rfl⟩
instance Es:i5 tb 24 1 24 (.slice none 0 0):=⟨Yi⟩
instance:i5 tb 25 1 24 (.slice none 0 0):=⟨Yh⟩
instance FO:i5 tb 27 2 48 (.agg #[.slice none 0 0,.slice none 0 0]):=⟨VS⟩
instance:oW tb 27 [.J,.J]:=⟨_,_,_,VS,rfl,rfl⟩
instance Ym:i5 tb 37 1 24 (.slice none 0 0):=⟨Yf⟩
instance uC:i5 tb 39 1 24 (.agg #[.slice none 0 0]):=⟨VR⟩
instance:oW tb 39 [.J]:=⟨_,_,_,VR,rfl,rfl⟩
instance QO:i5 tb 58 2 16 (.agg #[.int .i64 0,.int .i64 0]):=⟨VQ⟩
instance:oW tb 58 [.int .i64 0,.int .i64 0]:=⟨_,_,_,VQ,rfl,rfl⟩
instance yF:i5 tb 77 1 24 (.slice none 0 0):=⟨Yd⟩
instance sD:i5 tb 79 2 32 (.agg #[.int .i64 0,.slice none 0 0]):=⟨VP⟩
instance:oW tb 79 [.int .i64 0,.J]:=⟨_,_,_,VP,rfl,rfl⟩
instance:i5 tb 81 1 24 (.slice none 0 0):=⟨Yc⟩
instance jC:i5 tb 92 1 8 (.pointer none):=⟨VO⟩
instance:oW tb 92 [.b8]:=⟨_,_,_,VO,rfl,rfl⟩
instance:i5 tb 93 1 24 (.slice none 0 0):=⟨Ya⟩
instance K?:i5 tb 95 2 16 (.agg #[.pointer none,.int .i64 0]):=⟨Xz⟩
instance if97:i5 tb 97 2 16 (.agg #[.int .i64 0,.int .i64 0]):=⟨Xy⟩
instance if99:i5 tb 99 2 32 (.agg #[.slice none 0 0,.int .i64 0]):=⟨Xx⟩
instance Yt:i5 tb 101 2 16 (.agg #[.bool false,.int .i64 0]):=⟨Er⟩
instance nF:i5 tb 103 12 128 (.agg #[.int .i64 0,.slice none 0 0,.pointer none,.int .i64 0,.int .i64 0,.int .i64 0,.slice none 0 0,.int .i64 0,.pointer none,.int .i64 0,.bool false,.int .i64 0]):=⟨Ep⟩
instance gC:i5 tb 105 2 16 (.agg #[.int .i64 0,.int .i64 0]):=⟨K5⟩
instance:oW tb 105 [.int .i64 0,.int .i64 0]:=⟨_,_,_,K5,rfl,rfl⟩
instance DY:i5 tb 107 2 16 (.agg #[.int .i64 0,.pointer none]):=⟨K4⟩
instance:oW tb 107 [.int .i64 0,.b8]:=⟨_,_,_,K4,rfl,rfl⟩
instance:i5 tb 108 1 8 (.map none):=⟨K3⟩
instance:oW tb 108 [.e9]:=⟨_,_,_,K3,rfl,rfl⟩
instance:i5 tb 109 1 8 (.nilFunc):=⟨K1⟩
instance:oW tb 109 [.j7]:=⟨_,_,_,K1,rfl,rfl⟩
instance Ys:i5 tb 115 1 24 (.slice none 0 0):=⟨Eo⟩
instance Yr:i5 tb 120 1 24 (.slice none 0 0):=⟨En⟩
instance DX:i5 tb 121 1 24 (.slice none 0 0):=⟨Em⟩
instance Yq:i5 tb 124 5 120 (.agg #[.slice none 0 0,.slice none 0 0,.slice none 0 0,.slice none 0 0,.slice none 0 0]):=⟨Ek⟩
instance eS:i5 tb 126 3 40 (.agg #[.int .i64 0,.int .i64 0,.slice none 0 0]):=⟨K0⟩
instance:oW tb 126 [.int .i64 0,.int .i64 0,.J]:=⟨_,_,_,K0,rfl,rfl⟩
instance:i5 tb 128 1 8 (.nilFunc):=⟨JZ⟩
instance:oW tb 128 [.j7]:=⟨_,_,_,JZ,rfl,rfl⟩
instance:i5 tb 133 1 8 (.map none):=⟨JY⟩
instance:oW tb 133 [.e9]:=⟨_,_,_,JY,rfl,rfl⟩
instance pZ:i5 tb 141 1 24 (.slice none 0 0):=⟨JX⟩
instance:oW tb 141 [.J]:=⟨_,_,_,JX,rfl,rfl⟩
instance sF:i5 tb 143 2 40 (.agg #[.string ⟨#[]⟩,.slice none 0 0]):=⟨JW⟩
instance:oW tb 143 [.str [],.J]:=⟨_,_,_,JW,rfl,rfl⟩
instance:i5 tb 145 1 24 (.slice none 0 0):=⟨JV⟩
instance:oW tb 145 [.J]:=⟨_,_,_,JV,rfl,rfl⟩
instance KA:i5 tb 147 4 88 (.agg #[.string ⟨#[]⟩,.slice none 0 0,.slice none 0 0,.slice none 0 0]):=⟨JU⟩
instance:oW tb 147 [.str [],.J,.J,.J]:=⟨_,_,_,JU,rfl,rfl⟩
instance:i5 tb 150 1 24 (.slice none 0 0):=⟨Ej⟩
instance VU:i5 tb 151 1 24 (.slice none 0 0):=⟨Ei⟩
instance yG:i5 tb 153 3 64 (.agg #[.string ⟨#[]⟩,.slice none 0 0,.slice none 0 0]):=⟨JT⟩
instance:oW tb 153 [.str [],.J,.J]:=⟨_,_,_,JT,rfl,rfl⟩
instance VT:i5 tb 156 2 32 (.agg #[.string ⟨#[]⟩,.string ⟨#[]⟩]):=⟨JS⟩
instance:oW tb 156 [.str [],.str []]:=⟨_,_,_,JS,rfl,rfl⟩
instance pY:i5 tb 171 4 48 (.agg #[.int .i64 0,.int .i64 0,.int .i64 0,.slice none 0 0]):=⟨JR⟩
instance:oW tb 171 [.int .i64 0,.int .i64 0,.int .i64 0,.J]:=⟨_,_,_,JR,rfl,rfl⟩
instance Yp:i5 tb 186 2 16 (.agg #[.int .i64 0,.int .i64 0]):=⟨JQ⟩
instance:oW tb 186 [.int .i64 0,.int .i64 0]:=⟨_,_,_,JQ,rfl,rfl⟩
instance Yo:i5 tb 197 2 24 (.agg #[.string ⟨#[]⟩,.int .i64 0]):=⟨JP⟩
instance:oW tb 197 [.str [],.int .i64 0]:=⟨_,_,_,JP,rfl,rfl⟩
instance sE:i5 tb 200 2 16 (.agg #[.pointer none,.pointer none]):=⟨JO⟩
instance:oW tb 200 [.b8,.b8]:=⟨_,_,_,JO,rfl,rfl⟩
instance mF:i5 tb 213 1 8 (.int .u64 0):=⟨JN⟩
instance:oW tb 213 [.int .u64 0]:=⟨_,_,_,JN,rfl,rfl⟩
instance Yn:i5 tb 237 3 72 (.agg #[.slice none 0 0,.slice none 0 0,.slice none 0 0]):=⟨Eh⟩
end Go.Proofs
