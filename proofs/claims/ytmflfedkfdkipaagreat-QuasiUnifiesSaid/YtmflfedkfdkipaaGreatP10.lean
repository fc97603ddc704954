import Derived.Test.YtmflfedkfdkipaaGreatProg
import Derived.Test.YtmflfedkfdkipaaGreatP9
set_option linter.all false
open List Go.IntKind
open Nat hiding beq_eq
namespace Go.Proofs
open Go Go.Rx
noncomputable def tb:Tb:=FJ Tryz.prog []
def Tryz.mixed:Tryz.prog.follows .mixedOrders=true:=ag
def Je:∀t∈([]:X TypeId),Tryz.prog.stoodInHeld t=false/\Tryz.prog.eqGuardType Tryz.prog.depth t=false:=by intro t a;cases a
def Tryz.U5 : (Tryz.prog.funcs.toList.all fun f => !(f.name == "runtime.NumGoroutine")) = true := by kernel_rfl
def bQ:jW Tryz.prog tb:=zdj Tryz.prog [] Tryz.mixed (fun f a _=>by
 have:=all_eq_true.1 Tryz.U5 f a;simpa using this) Je
def Ye:tb.I1 3=some (.int .i64):=ag
def qw:tb.inf 3=some (1,8,.int .i64 0):=ag
def und4:tb.I1 4=some (.bool):=ag
def NC:tb.inf 4=some (1,1,.bool false):=ag
def und5:tb.I1 5=some (.int .u8):=ag
def Tu:tb.inf 5=some (1,1,.int .u8 0):=ag
def Q!:tb.I1 9=some (.string):=ag
def qr:tb.inf 9=some (1,16,.string ⟨#[]⟩):=ag
def Td:tb.I1 22=some (.slice 153):=ag
def Tc:tb.I1 23=some (.slice 41):=ag
def Ta:tb.I1 24=some (.slice 147):=ag
def qy:tb.inf 24=some (1,24,.slice none 0 0):=ag
def Sz:tb.I1 25=some (.slice 197):=ag
def qx:tb.inf 25=some (1,24,.slice none 0 0):=ag
def Sy : tb.I1 27 = some (.struct #[⟨ "Types", 24, 0, false, "", "", 0⟩, ⟨ "Feats", 25, 1, false, "", "", 24⟩]) := by kernel_rfl
def WN:tb.inf 27=some (2,48,.agg #[.slice none 0 0,.slice none 0 0]):=ag
def Sx:tb.I1 31=some (.pointer 83):=ag
def Sw:tb.I1 33=some (.slice 39):=ag
def qv:tb.inf 33=some (1,24,.slice none 0 0):=ag
def Sv : tb.I1 35 = some (.struct #[⟨ "H", 27, 0, false, "", "", 0⟩, ⟨ "L", 33, 2, false, "", "", 48⟩]) := by kernel_rfl
def WM:tb.inf 35=some (3,72,.agg #[.slice none 0 0,.slice none 0 0,.slice none 0 0]):=ag
def Su:tb.I1 37=some (.slice 79):=ag
def qu:tb.inf 37=some (1,24,.slice none 0 0):=ag
def Ss : tb.I1 39 = some (.struct #[⟨ "Nodes", 37, 0, false, "", "", 0⟩]) := by kernel_rfl
def WJ:tb.inf 39=some (1,24,.agg #[.slice none 0 0]):=ag
def Sr : tb.I1 41 = some (.struct #[⟨ "Kind", 3, 0, false, "", "", 0⟩, ⟨ "A", 3, 1, false, "", "", 8⟩, ⟨ "B", 3, 2, false, "", "", 16⟩, ⟨ "F", 39, 3, false, "", "", 24⟩]) := by kernel_rfl
def WI:tb.inf 41=some (4,48,.agg #[.int .i64 0,.int .i64 0,.int .i64 0,.slice none 0 0]):=ag
def Sq:tb.I1 58=some (.array 2 3):=ag
def WH:tb.inf 58=some (2,16,.agg #[.int .i64 0,.int .i64 0]):=ag
def Sp:tb.I1 59=some (.slice 58):=ag
def WG:tb.inf 59=some (1,24,.slice none 0 0):=ag
def So:tb.I1 61=some (.array 2 5):=ag
def Sl:tb.I1 77=some (.slice 105):=ag
def WF:tb.inf 77=some (1,24,.slice none 0 0):=ag
def Sk : tb.I1 79 = some (.struct #[⟨ "Type", 3, 0, false, "", "", 0⟩, ⟨ "Arcs", 77, 1, false, "", "", 8⟩]) := by kernel_rfl
def WE:tb.inf 79=some (2,32,.agg #[.int .i64 0,.slice none 0 0]):=ag
def Sj:tb.I1 81=some (.slice 92):=ag
def qt:tb.inf 81=some (1,24,.slice none 0 0):=ag
def Si : tb.I1 83 = some (.struct #[⟨ "h", 27, 0, false, "", "grammarlab/quasi", 0⟩, ⟨ "roots", 81, 2, false, "", "grammarlab/quasi", 48⟩, ⟨ "size", 3, 3, false, "", "grammarlab/quasi", 72⟩, ⟨ "at", 3, 4, false, "", "grammarlab/quasi", 80⟩]) := by kernel_rfl
def Sh:tb.I1 92=some (.pointer 103):=ag
def WD:tb.inf 92=some (1,8,.pointer none):=ag
def Sf:tb.I1 93=some (.slice 107):=ag
def qp:tb.inf 93=some (1,24,.slice none 0 0):=ag
def Se : tb.I1 95 = some (.struct #[⟨ "value", 92, 0, false, "", "grammarlab/quasi", 0⟩, ⟨ "at", 3, 1, false, "", "grammarlab/quasi", 8⟩]) := by kernel_rfl
def qo:tb.inf 95=some (2,16,.agg #[.pointer none,.int .i64 0]):=ag
def Sd : tb.I1 97 = some (.struct #[⟨ "value", 3, 0, false, "", "grammarlab/quasi", 0⟩, ⟨ "at", 3, 1, false, "", "grammarlab/quasi", 8⟩]) := by kernel_rfl
def qm:tb.inf 97=some (2,16,.agg #[.int .i64 0,.int .i64 0]):=ag
def Sc : tb.I1 99 = some (.struct #[⟨ "value", 93, 0, false, "", "grammarlab/quasi", 0⟩, ⟨ "at", 3, 1, false, "", "grammarlab/quasi", 24⟩]) := by kernel_rfl
def ql:tb.inf 99=some (2,32,.agg #[.slice none 0 0,.int .i64 0]):=ag
def Am : tb.I1 101 = some (.struct #[⟨ "value", 4, 0, false, "", "grammarlab/quasi", 0⟩, ⟨ "at", 3, 1, false, "", "grammarlab/quasi", 8⟩]) := by kernel_rfl
def Fv:tb.inf 101=some (2,16,.agg #[.bool false,.int .i64 0]):=ag
def Ak : tb.I1 103 = some (.struct #[⟨ "kind", 3, 0, false, "", "grammarlab/quasi", 0⟩, ⟨ "arcs", 93, 1, false, "", "grammarlab/quasi", 8⟩, ⟨ "forward", 95, 2, false, "", "grammarlab/quasi", 32⟩, ⟨ "meet", 97, 4, false, "", "grammarlab/quasi", 48⟩, ⟨ "more", 99, 6, false, "", "grammarlab/quasi", 64⟩, ⟨ "copied", 95, 8, false, "", "grammarlab/quasi", 96⟩, ⟨ "changed", 101, 10, false, "", "grammarlab/quasi", 112⟩]) := by kernel_rfl
def Fu:tb.inf 103=some (12,128,.agg #[.int .i64 0,.slice none 0 0,.pointer none,.int .i64 0,.int .i64 0,.int .i64 0,.slice none 0 0,.int .i64 0,.pointer none,.int .i64 0,.bool false,.int .i64 0]):=ag
def Aj : tb.I1 105 = some (.struct #[⟨ "Feat", 3, 0, false, "", "", 0⟩, ⟨ "To", 3, 1, false, "", "", 8⟩]) := by kernel_rfl
def KR:tb.inf 105=some (2,16,.agg #[.int .i64 0,.int .i64 0]):=ag
def Ai : tb.I1 107 = some (.struct #[⟨ "feat", 3, 0, false, "", "grammarlab/quasi", 0⟩, ⟨ "to", 92, 1, false, "", "grammarlab/quasi", 8⟩]) := by kernel_rfl
def KQ:tb.inf 107=some (2,16,.agg #[.int .i64 0,.pointer none]):=ag
def Ah:tb.I1 108=some (.map 92 3):=ag
def KP:tb.inf 108=some (1,8,.map none):=ag
def Ag:tb.I1 109=some (.func #[92] #[3] false):=ag
def KO:tb.inf 109=some (1,8,.nilFunc):=ag
def Af:tb.I1 114=some (.pointer 118):=ag
def Ae:tb.I1 115=some (.slice 3):=ag
def KN:tb.inf 115=some (1,24,.slice none 0 0):=ag
def Ad:tb.I1 116=some (.slice 77):=ag
def Ft:tb.inf 116=some (1,24,.slice none 0 0):=ag
def Ac : tb.I1 118 = some (.struct #[⟨ "h", 27, 0, false, "", "grammarlab/unify", 0⟩, ⟨ "parent", 115, 2, false, "", "grammarlab/unify", 48⟩, ⟨ "types", 115, 3, false, "", "grammarlab/unify", 72⟩, ⟨ "arcs", 116, 4, false, "", "grammarlab/unify", 96⟩]) := by kernel_rfl
def Fs:tb.inf 118=some (5,120,.agg #[.slice none 0 0,.slice none 0 0,.slice none 0 0,.slice none 0 0,.slice none 0 0]):=ag
def Ab:tb.I1 128=some (.func #[3] #[3] false):=ag
def KL:tb.inf 128=some (1,8,.nilFunc):=ag
def Aa:tb.I1 134=some (.slice 145):=ag
def ZZ:tb.I1 137=some (.slice 143):=ag
def ZY:tb.I1 141=some (.slice 213):=ag
def KJ:tb.inf 141=some (1,24,.slice none 0 0):=ag
def ZX : tb.I1 143 = some (.struct #[⟨ "Name", 9, 0, false, "", "", 0⟩, ⟨ "Code", 141, 1, false, "", "", 16⟩]) := by kernel_rfl
def KI:tb.inf 143=some (2,40,.agg #[.string ⟨#[]⟩,.slice none 0 0]):=ag
def ZW:tb.I1 145=some (.slice 186):=ag
def KH:tb.inf 145=some (1,24,.slice none 0 0):=ag
def ZV : tb.I1 147 = some (.struct #[⟨ "Name", 9, 0, false, "", "", 0⟩, ⟨ "Code", 141, 1, false, "", "", 16⟩, ⟨ "Supers", 115, 2, false, "", "", 40⟩, ⟨ "Feats", 145, 3, false, "", "", 64⟩]) := by kernel_rfl
def KF:tb.inf 147=some (4,88,.agg #[.string ⟨#[]⟩,.slice none 0 0,.slice none 0 0,.slice none 0 0]):=ag
def ZU:tb.I1 150=some (.slice 9):=ag
def Fq:tb.inf 150=some (1,24,.slice none 0 0):=ag
def ZT:tb.I1 151=some (.slice 156):=ag
def Fp:tb.inf 151=some (1,24,.slice none 0 0):=ag
def ZS : tb.I1 153 = some (.struct #[⟨ "Name", 9, 0, false, "", "", 0⟩, ⟨ "Supers", 150, 1, false, "", "", 16⟩, ⟨ "Feats", 151, 2, false, "", "", 40⟩]) := by kernel_rfl
def KE:tb.inf 153=some (3,64,.agg #[.string ⟨#[]⟩,.slice none 0 0,.slice none 0 0]):=ag
def ZR : tb.I1 156 = some (.struct #[⟨ "Feat", 9, 0, false, "", "", 0⟩, ⟨ "Value", 9, 1, false, "", "", 16⟩]) := by kernel_rfl
def KD:tb.inf 156=some (2,32,.agg #[.string ⟨#[]⟩,.string ⟨#[]⟩]):=ag
def ZQ : tb.I1 186 = some (.struct #[⟨ "Feat", 3, 0, false, "", "", 0⟩, ⟨ "Value", 3, 1, false, "", "", 8⟩]) := by kernel_rfl
def KC:tb.inf 186=some (2,16,.agg #[.int .i64 0,.int .i64 0]):=ag
def ZP:tb.I1 187=some (.slice 141):=ag
def ZO : tb.I1 197 = some (.struct #[⟨ "Name", 9, 0, false, "", "", 0⟩, ⟨ "Intro", 3, 1, false, "", "", 16⟩]) := by kernel_rfl
def KB:tb.inf 197=some (2,24,.agg #[.string ⟨#[]⟩,.int .i64 0]):=ag
def ZN:tb.I1 200=some (.array 2 92):=ag
def KA:tb.inf 200=some (2,16,.agg #[.pointer none,.pointer none]):=ag
def ZM:tb.I1 201=some (.slice 200):=ag
def ZL:tb.I1 207=some (.map 92 4):=ag
def ZK:tb.I1 212=some (.int .u64):=ag
def ZJ:tb.I1 213=some (.int .u64):=ag
def K9:tb.inf 213=some (1,8,.int .u64 0):=ag
def ZI : tb.I1 237 = some (.struct #[⟨ "f", 39, 0, false, "", "grammarlab/grammarlabref07", 0⟩, ⟨ "number", 115, 1, false, "", "grammarlab/grammarlabref07", 24⟩, ⟨ "order", 115, 2, false, "", "grammarlab/grammarlabref07", 48⟩]) := by kernel_rfl
def Fo:tb.inf 237=some (3,72,.agg #[.slice none 0 0,.slice none 0 0,.slice none 0 0]):=ag
end Go.Proofs
namespace Go.Proofs
open Go Go.Rx Go.Vx
instance mZ:eJ tb 3 (.int .i64):=⟨Ye⟩
instance un4:eJ tb 4 (.bool):=⟨und4⟩
instance un5:eJ tb 5 (.int .u8):=⟨und5⟩
instance NE:eJ tb 9 (.string):=⟨Q!⟩
instance Tg:eJ tb 22 (.slice 153):=⟨Td⟩
instance:eJ tb 23 (.slice 41):=⟨Tc⟩
instance IY:eJ tb 24 (.slice 147):=⟨Ta⟩
instance:eJ tb 25 (.slice 197):=⟨Sz⟩
instance uV : eJ tb 27 (.struct #[⟨ "Types", 24, 0, false, "", "", 0⟩, ⟨ "Feats", 25, 1, false, "", "", 24⟩]) := ⟨Sy⟩
instance un31:eJ tb 31 (.pointer 83):=⟨Sx⟩
instance yP:eJ tb 33 (.slice 39):=⟨Sw⟩
instance uU : eJ tb 35 (.struct #[⟨ "H", 27, 0, false, "", "", 0⟩, ⟨ "L", 33, 2, false, "", "", 48⟩]) := ⟨Sv⟩
instance iR:eJ tb 37 (.slice 79):=⟨Su⟩
instance fH : eJ tb 39 (.struct #[⟨ "Nodes", 37, 0, false, "", "", 0⟩]) := ⟨Ss⟩
instance : eJ tb 41 (.struct #[⟨ "Kind", 3, 0, false, "", "", 0⟩, ⟨ "A", 3, 1, false, "", "", 8⟩, ⟨ "B", 3, 2, false, "", "", 16⟩, ⟨ "F", 39, 3, false, "", "", 24⟩]) := ⟨Sr⟩
instance uT:eJ tb 58 (.array 2 3):=⟨Sq⟩
instance wD:eJ tb 59 (.slice 58):=⟨Sp⟩
instance Tf:eJ tb 61 (.array 2 5):=⟨So⟩
instance dL:eJ tb 77 (.slice 105):=⟨Sl⟩
instance uS : eJ tb 79 (.struct #[⟨ "Type", 3, 0, false, "", "", 0⟩, ⟨ "Arcs", 77, 1, false, "", "", 8⟩]) := ⟨Sk⟩
instance iQ:eJ tb 81 (.slice 92):=⟨Sj⟩
instance : eJ tb 83 (.struct #[⟨ "h", 27, 0, false, "", "grammarlab/quasi", 0⟩, ⟨ "roots", 81, 2, false, "", "grammarlab/quasi", 48⟩, ⟨ "size", 3, 3, false, "", "grammarlab/quasi", 72⟩, ⟨ "at", 3, 4, false, "", "grammarlab/quasi", 80⟩]) := ⟨Si⟩
instance iP:eJ tb 92 (.pointer 103):=⟨Sh⟩
instance FH:eJ tb 93 (.slice 107):=⟨Sf⟩
instance un95 : eJ tb 95 (.struct #[⟨ "value", 92, 0, false, "", "grammarlab/quasi", 0⟩, ⟨ "at", 3, 1, false, "", "grammarlab/quasi", 8⟩]) := ⟨Se⟩
instance Qb : eJ tb 97 (.struct #[⟨ "value", 3, 0, false, "", "grammarlab/quasi", 0⟩, ⟨ "at", 3, 1, false, "", "grammarlab/quasi", 8⟩]) := ⟨Sd⟩
instance un99 : eJ tb 99 (.struct #[⟨ "value", 93, 0, false, "", "grammarlab/quasi", 0⟩, ⟨ "at", 3, 1, false, "", "grammarlab/quasi", 24⟩]) := ⟨Sc⟩
instance Tp : eJ tb 101 (.struct #[⟨ "value", 4, 0, false, "", "grammarlab/quasi", 0⟩, ⟨ "at", 3, 1, false, "", "grammarlab/quasi", 8⟩]) := ⟨Am⟩
instance Tn : eJ tb 103 (.struct #[⟨ "kind", 3, 0, false, "", "grammarlab/quasi", 0⟩, ⟨ "arcs", 93, 1, false, "", "grammarlab/quasi", 8⟩, ⟨ "forward", 95, 2, false, "", "grammarlab/quasi", 32⟩, ⟨ "meet", 97, 4, false, "", "grammarlab/quasi", 48⟩, ⟨ "more", 99, 6, false, "", "grammarlab/quasi", 64⟩, ⟨ "copied", 95, 8, false, "", "grammarlab/quasi", 96⟩, ⟨ "changed", 101, 10, false, "", "grammarlab/quasi", 112⟩]) := ⟨Ak⟩
instance sR : eJ tb 105 (.struct #[⟨ "Feat", 3, 0, false, "", "", 0⟩, ⟨ "To", 3, 1, false, "", "", 8⟩]) := ⟨Aj⟩
instance Tm : eJ tb 107 (.struct #[⟨ "feat", 3, 0, false, "", "grammarlab/quasi", 0⟩, ⟨ "to", 92, 1, false, "", "grammarlab/quasi", 8⟩]) := ⟨Ai⟩
instance J2:eJ tb 108 (.map 92 3):=⟨Ah⟩
instance:eJ tb 109 (.func #[92] #[3] false):=⟨Ag⟩
instance Tl:eJ tb 114 (.pointer 118):=⟨Af⟩
instance bI:eJ tb 115 (.slice 3):=⟨Ae⟩
instance mN:eJ tb 116 (.slice 77):=⟨Ad⟩
instance U4 : eJ tb 118 (.struct #[⟨ "h", 27, 0, false, "", "grammarlab/unify", 0⟩, ⟨ "parent", 115, 2, false, "", "grammarlab/unify", 48⟩, ⟨ "types", 115, 3, false, "", "grammarlab/unify", 72⟩, ⟨ "arcs", 116, 4, false, "", "grammarlab/unify", 96⟩]) := ⟨Ac⟩
instance:eJ tb 128 (.func #[3] #[3] false):=⟨Ab⟩
instance:eJ tb 134 (.slice 145):=⟨Aa⟩
instance sQ:eJ tb 137 (.slice 143):=⟨ZZ⟩
instance gS:eJ tb 141 (.slice 213):=⟨ZY⟩
instance U3 : eJ tb 143 (.struct #[⟨ "Name", 9, 0, false, "", "", 0⟩, ⟨ "Code", 141, 1, false, "", "", 16⟩]) := ⟨ZX⟩
instance:eJ tb 145 (.slice 186):=⟨ZW⟩
instance J1 : eJ tb 147 (.struct #[⟨ "Name", 9, 0, false, "", "", 0⟩, ⟨ "Code", 141, 1, false, "", "", 16⟩, ⟨ "Supers", 115, 2, false, "", "", 40⟩, ⟨ "Feats", 145, 3, false, "", "", 64⟩]) := ⟨ZV⟩
instance lM:eJ tb 150 (.slice 9):=⟨ZU⟩
instance J0:eJ tb 151 (.slice 156):=⟨ZT⟩
instance yQ : eJ tb 153 (.struct #[⟨ "Name", 9, 0, false, "", "", 0⟩, ⟨ "Supers", 150, 1, false, "", "", 16⟩, ⟨ "Feats", 151, 2, false, "", "", 40⟩]) := ⟨ZS⟩
instance Tk : eJ tb 156 (.struct #[⟨ "Feat", 9, 0, false, "", "", 0⟩, ⟨ "Value", 9, 1, false, "", "", 16⟩]) := ⟨ZR⟩
instance Tj : eJ tb 186 (.struct #[⟨ "Feat", 3, 0, false, "", "", 0⟩, ⟨ "Value", 3, 1, false, "", "", 8⟩]) := ⟨ZQ⟩
instance sP:eJ tb 187 (.slice 141):=⟨ZP⟩
instance Ti : eJ tb 197 (.struct #[⟨ "Name", 9, 0, false, "", "", 0⟩, ⟨ "Intro", 3, 1, false, "", "", 16⟩]) := ⟨ZO⟩
instance U2:eJ tb 200 (.array 2 92):=⟨ZN⟩
instance mM:eJ tb 201 (.slice 200):=⟨ZM⟩
instance IZ:eJ tb 207 (.map 92 4):=⟨ZL⟩
instance TZ:eJ tb 212 (.int .u64):=⟨ZK⟩
instance Th:eJ tb 213 (.int .u64):=⟨ZJ⟩
instance TY : eJ tb 237 (.struct #[⟨ "f", 39, 0, false, "", "grammarlab/grammarlabref07", 0⟩, ⟨ "number", 115, 1, false, "", "grammarlab/grammarlabref07", 24⟩, ⟨ "order", 115, 2, false, "", "grammarlab/grammarlabref07", 48⟩]) := ⟨ZI⟩
instance eP:iE tb 3 1 8 (.int .i64 0):=⟨qw⟩
instance:pL tb 3 [.int .i64 0]:=⟨_,_,_,qw,rfl,rfl⟩
instance if4:iE tb 4 1 1 (.bool false):=⟨NC⟩
instance if5:iE tb 5 1 1 (.int .u8 0):=⟨Tu⟩
instance KS:iE tb 9 1 16 (.string ⟨#[]⟩):=⟨qr⟩
instance:pL tb 9 [.str []]:=⟨_,_,_,qr,rfl,rfl⟩
instance Fw:iE tb 24 1 24 (.slice none 0 0):=⟨qy⟩
instance:iE tb 25 1 24 (.slice none 0 0):=⟨qx⟩
instance DD:iE tb 27 2 48 (.agg #[.slice none 0 0,.slice none 0 0]):=⟨WN⟩
instance:pL tb 27 [.J,.J]:=⟨_,_,_,WN,rfl,rfl⟩
instance PO:iE tb 33 1 24 (.slice none 0 0):=⟨qv⟩
instance tI:iE tb 35 3 72 (.agg #[.slice none 0 0,.slice none 0 0,.slice none 0 0]):=⟨WM⟩
instance:pL tb 35 [.J,.J,.J]:=⟨_,_,_,WM,rfl,rfl⟩
instance DC:iE tb 37 1 24 (.slice none 0 0):=⟨qu⟩
instance fZ:iE tb 39 1 24 (.agg #[.slice none 0 0]):=⟨WJ⟩
instance:pL tb 39 [.J]:=⟨_,_,_,WJ,rfl,rfl⟩
instance:iE tb 41 4 48 (.agg #[.int .i64 0,.int .i64 0,.int .i64 0,.slice none 0 0]):=⟨WI⟩
instance:pL tb 41 [.int .i64 0,.int .i64 0,.int .i64 0,.J]:=⟨_,_,_,WI,rfl,rfl⟩
instance wP:iE tb 58 2 16 (.agg #[.int .i64 0,.int .i64 0]):=⟨WH⟩
instance:pL tb 58 [.int .i64 0,.int .i64 0]:=⟨_,_,_,WH,rfl,rfl⟩
instance:iE tb 59 1 24 (.slice none 0 0):=⟨WG⟩
instance:pL tb 59 [.J]:=⟨_,_,_,WG,rfl,rfl⟩
instance iG:iE tb 77 1 24 (.slice none 0 0):=⟨WF⟩
instance:pL tb 77 [.J]:=⟨_,_,_,WF,rfl,rfl⟩
instance nL:iE tb 79 2 32 (.agg #[.int .i64 0,.slice none 0 0]):=⟨WE⟩
instance:pL tb 79 [.int .i64 0,.J]:=⟨_,_,_,WE,rfl,rfl⟩
instance:iE tb 81 1 24 (.slice none 0 0):=⟨qt⟩
instance jI:iE tb 92 1 8 (.pointer none):=⟨WD⟩
instance:pL tb 92 [.b6]:=⟨_,_,_,WD,rfl,rfl⟩
instance:iE tb 93 1 24 (.slice none 0 0):=⟨qp⟩
instance if95:iE tb 95 2 16 (.agg #[.pointer none,.int .i64 0]):=⟨qo⟩
instance T':iE tb 97 2 16 (.agg #[.int .i64 0,.int .i64 0]):=⟨qm⟩
instance if99:iE tb 99 2 32 (.agg #[.slice none 0 0,.int .i64 0]):=⟨ql⟩
instance zj:iE tb 101 2 16 (.agg #[.bool false,.int .i64 0]):=⟨Fv⟩
instance nW:iE tb 103 12 128 (.agg #[.int .i64 0,.slice none 0 0,.pointer none,.int .i64 0,.int .i64 0,.int .i64 0,.slice none 0 0,.int .i64 0,.pointer none,.int .i64 0,.bool false,.int .i64 0]):=⟨Fu⟩
instance dI:iE tb 105 2 16 (.agg #[.int .i64 0,.int .i64 0]):=⟨KR⟩
instance:pL tb 105 [.int .i64 0,.int .i64 0]:=⟨_,_,_,KR,rfl,rfl⟩
instance EL:iE tb 107 2 16 (.agg #[.int .i64 0,.pointer none]):=⟨KQ⟩
instance:pL tb 107 [.int .i64 0,.b6]:=⟨_,_,_,KQ,rfl,rfl⟩
instance:iE tb 108 1 8 (.map none):=⟨KP⟩
instance:pL tb 108 [.e6]:=⟨_,_,_,KP,rfl,rfl⟩
instance:iE tb 109 1 8 (.nilFunc):=⟨KO⟩
instance:pL tb 109 [.e9]:=⟨_,_,_,KO,rfl,rfl⟩
instance WR:iE tb 115 1 24 (.slice none 0 0):=⟨KN⟩
instance:pL tb 115 [.J]:=⟨_,_,_,KN,rfl,rfl⟩
instance:iE tb 116 1 24 (.slice none 0 0):=⟨Ft⟩
instance zi:iE tb 118 5 120 (.agg #[.slice none 0 0,.slice none 0 0,.slice none 0 0,.slice none 0 0,.slice none 0 0]):=⟨Fs⟩
instance:iE tb 128 1 8 (.nilFunc):=⟨KL⟩
instance:pL tb 128 [.e9]:=⟨_,_,_,KL,rfl,rfl⟩
instance qX:iE tb 141 1 24 (.slice none 0 0):=⟨KJ⟩
instance:pL tb 141 [.J]:=⟨_,_,_,KJ,rfl,rfl⟩
instance tK:iE tb 143 2 40 (.agg #[.string ⟨#[]⟩,.slice none 0 0]):=⟨KI⟩
instance:pL tb 143 [.str [],.J]:=⟨_,_,_,KI,rfl,rfl⟩
instance:iE tb 145 1 24 (.slice none 0 0):=⟨KH⟩
instance:pL tb 145 [.J]:=⟨_,_,_,KH,rfl,rfl⟩
instance KT:iE tb 147 4 88 (.agg #[.string ⟨#[]⟩,.slice none 0 0,.slice none 0 0,.slice none 0 0]):=⟨KF⟩
instance:pL tb 147 [.str [],.J,.J,.J]:=⟨_,_,_,KF,rfl,rfl⟩
instance:iE tb 150 1 24 (.slice none 0 0):=⟨Fq⟩
instance WQ:iE tb 151 1 24 (.slice none 0 0):=⟨Fp⟩
instance A8:iE tb 153 3 64 (.agg #[.string ⟨#[]⟩,.slice none 0 0,.slice none 0 0]):=⟨KE⟩
instance:pL tb 153 [.str [],.J,.J]:=⟨_,_,_,KE,rfl,rfl⟩
instance WO:iE tb 156 2 32 (.agg #[.string ⟨#[]⟩,.string ⟨#[]⟩]):=⟨KD⟩
instance:pL tb 156 [.str [],.str []]:=⟨_,_,_,KD,rfl,rfl⟩
instance zh:iE tb 186 2 16 (.agg #[.int .i64 0,.int .i64 0]):=⟨KC⟩
instance:pL tb 186 [.int .i64 0,.int .i64 0]:=⟨_,_,_,KC,rfl,rfl⟩
instance zg:iE tb 197 2 24 (.agg #[.string ⟨#[]⟩,.int .i64 0]):=⟨KB⟩
instance:pL tb 197 [.str [],.int .i64 0]:=⟨_,_,_,KB,rfl,rfl⟩
instance tJ:iE tb 200 2 16 (.agg #[.pointer none,.pointer none]):=⟨KA⟩
instance:pL tb 200 [.b6,.b6]:=⟨_,_,_,KA,rfl,rfl⟩
instance mT:iE tb 213 1 8 (.int .u64 0):=⟨K9⟩
instance:pL tb 213 [.int .u64 0]:=⟨_,_,_,K9,rfl,rfl⟩
instance zf:iE tb 237 3 72 (.agg #[.slice none 0 0,.slice none 0 0,.slice none 0 0]):=⟨Fo⟩
end Go.Proofs
namespace Go.Vx
open Go Go.Rx
variable{q:X U}{p:X U}{a:Nat}
def qyx{n:Nat}(h:mD q a n=some p):a+n<=q.length/\(q.drop a).take n=p:=by unfold mD at h;split at h;rename_i b;exact⟨b,Option.some.inj h⟩;cases h
variable{sz:Nat}{f:Nat}
def Eo{u:U}(h:mD q a sz=some p)(b:nth p f=some u):nth q (a+f)=some u:=by obtain⟨d,rfl⟩:=qyx h;rw[lW]at b ⊢;have c:=(zG.1 b).1;rw[Yz]at c;rw[qcP af,pc]at b;exact b
def Dv{d b:X U}(h:mD q a sz=some p)(c:sV p f b=some d):sV q (a+f) b=sV q a d:=by
 obtain⟨m,rfl⟩:=qyx h;unfold sV at c;split at c
 ·rename_i k;have e:=Option.some.inj c;rw[Yz,yc]at k;have l:d.length=sz:=by rw[<-e];simp;omega
  unfold sV;rw[lr af,lr af,<-e];congr 1;have g:List.take f (List.take sz<|List.drop a q)=List.take f (List.drop a q):=by rw[qcD,pg af]
  have i:List.take (a+f) q=List.take a q++List.take f (List.drop a q):=NB;have j:List.drop (a+f+b.length) q=List.drop (f+b.length) (List.take sz<|List.drop a q)++List.drop (a+sz) q:=by
   have:List.drop a q=List.take sz (List.drop a q)++List.drop (a+sz) q:=by rw[<-kh,l7]
   rw[ns,<-kh]
   conv=>lhs;rw[this]
   rw[xn (by rw[Yz,yc];omega)]
  rw[g,i,j];simp[zT,l];omega
 cases c
section
variable{T:Tb}{Y Y':Sg}{n:Nat}{l:X (Nat×U)}{u v w:U}
def HK{b:Type}(c:b->X U){t j:TypeId}{d:TypeDesc}{K st off m:Nat}{g:X b}{i:Int}{x:b}{o:He}(y:T.I1 t=some d)(k:sG d=false)(s:∀x,(c x).length=sz)(z:bN n l o=some (.ptr K st<|off*sz+i.toNat*sz+f))(B:gt Y.h K=some (.vec (g.map c).flatten j sz st))(C:gU g off m i=some x)(A:nth (c x) f=some u):bJ T Y (fr n l) (.load t o)=some (u,Y):=by
 refine TJ rfl ?_;have r:Nat.beq st st=true:=by simp[beq_eq]
 have e:=qv6 s (V7 C).2.2;rw[dX]at e;simp only[tB,dY z,cellsOf,B,r,zC,HJ,y,k,zD,Eo e A]
def sa{b:Type}(c:b->X U){t g:TypeId}{s K st off m:Nat}{e:X b}{i:Int}{x y:b}{o z:He}{d:X U}{j:X (Nat×B)}(L:cP T t=some s)(k:∀x,(c x).length=sz)(J:bN n l o=some (.ptr K st<|off*sz+i.toNat*sz+f))(O:bN n l z=some v)(C:xX v=some d)(H:I8 d=true)(I:Nat.beq d.length s=true)(M:gt Y.h K=some (.vec (e.map c).flatten g sz st))(A:gU e off m i=some x)(N:sV (c x) f (yN d)=some (c y))(D:ug Y.h K (.vec ((e.set (off+i.toNat) y).map c).flatten g sz st)=j):bJ T Y (fr n l) (.store t o z)=some (.J9,⟨j,Y.nx⟩):=by
 subst D;have E:Nat.beq st st=true:=by simp
 have G:=(zG.1 (V7 A).2.2).1;have F:=qv6 k (V7 A).2.2;have r:=Dv F N;rw[UF k G y,dX]at r;exact MY rfl rfl (by simp only[sW,dY J,dY O,Bn,L,C,I,H,zC,cellsOf,M,E,HD,r,PY])
end
def EC{Y:Sg}{k t e:Nat}{l:X U}(h:gt Y.h k=some (.vec l e sz t)):live Y k t=true:=by simp only[live,h,B.st,beq_eq,yC]
variable{T:Tb}{t:TypeId}{e:TypeId}{sz:Nat}{z:Value}
def qtf{P:Ua}(h:jW P T){m:Nm}{s:S}(w:Ep){l n:Nat}{x:X (Nat×Value)}{cps:X (Nat×Value)}{g:X Value}
  (u:∀b,aP s.nx m b->x.map (fun p=>(p.1,H3 b p.2))=cps) (E:T.I1 t=some (.slice e)) (r:T.inf e=some (sz,l,z)) (I:ble (n*sz) 16777216=true) (D:z.cells.toList.length=sz) (J:FQ (fun i=>some (i*sz,sz)) (dK z.cells.toList n) x=some g):
  ∃A,oU m s.nx g A/\(Instr.buildSlice t n cps.toArray).run P w=.ok (.slice (some ⟨w.heap.size,0,none⟩) n n) (w.alloc<|.cells ⟨A⟩ e):=by
 have C:cP T e=some sz:=by simp[cP,r]
 have F:=fun b=>QF h b w r;have y:=ak h r;simp only at F y;have M:n*sz<=16777216:=by simpa[yv]using I
 have v:∀b,aP s.nx m b->Instr.fill (fun i=>some (i*sz,sz)) ⟨dK z.cells.toList n⟩ cps=some ⟨aL b g⟩:=fun b o=>by have:=Uu b _ x _ _ J;rw[u b o,qoh y]at this;exact this
 have K:oU m s.nx g (aL m g):=fun b o=>by have H:=v b o;have B:=v m<|aP.refl _ _;rw[H]at B;simpa using B
 have G:z.cells.size=sz:=by simpa using D
 refine⟨aL m g,K,?_⟩;have k:(Array.range<|n*sz).map (fun i=>(if n*sz=0 then(#[]:Jg Value)else z.cells)[i%(if n*sz=0 then(#[]:Jg Value)else z.cells).size]!)=⟨dK z.cells.toList n⟩:=by
  by_cases c:n*sz=0;rw[c];apply Be;have:(dK z.cells.toList n).length=0:=by rw[qog,D,c]
  simp[length_eq_zero_iff.1 this];simp only[hF c];have:=qs4 z.cells n;rw[G]at this;rw[<-this];simp[G]
 have j:=v m<|aP.refl _ _;have d:¬ n*sz>2^24:=by omega
 have L:=(F m).1;by_cases c:n*sz=0;simp only[lr c]at k;simp only[Instr.buildSlice,zK,lX h w E,zJ,rR h w C,Sem.run_ite,hF d,zL,lr c];rw[k,j];simp[Go.newRow];simp only[hF c]at k;simp only[Instr.buildSlice,zK,lX h w E,zJ,rR h w C,Sem.run_ite,hF d,zL,hF c,L];rw[k,j];simp[Go.newRow]
def fY.AR{C:PG}(hT:jW C.prog T){Y:Sg}{G:X U}{o:Oper}{k b:Nat}{H j d:X U}{g:Jg (Nat×He)}{D:X (Nat×U)}(y:o.op=.buildSlice t k g)(hd:T.I1 t=some (.slice e))(hi:T.inf e=some (sz,b,z))
  (h:BW G g.toList=some D) (S:ble (k*sz) 16777216=true) (W:Nat.beq z.cells.toList.length sz=true) (hz:rN z.cells.toList=some H) (hf:tC (fun i=>some (i*sz,sz)) (zE H k) D=some j) (A:qP j d) (hk:I8 d=true) (hl:Nat.beq d.length (k*sz)=true) (hs:blt 0 sz=true):
  fY C Y G o (fun u K=>u=.vl Y.nx 0 0 k/\K=bE Y (.vec d e sz 0)):=fun F x tv m w a next Q R st hG hn ro fO=>by
 subst R;obtain⟨vs,O,hp⟩:=Ru st.e h;have J:=(Bx _ _ hz).2 x;obtain⟨r,f1,f2⟩:=Vg hp (XG J k) hf;have f2:bD x d r:=⟨A.rel f2.1,by rw[A.len];exact f2.2⟩;have V:z.cells.toList.length=sz:=by simpa[beq_eq]using W
 obtain⟨v,g1,g2⟩:=qtf hT (m:=m) (s:=x.s) w (cps:=g.toList.map fun p=>(p.1,a.eval p.2)) (fun B kX=>(qq8 (st.act B kX) O).symm) hd hi S V f1;have N:(g.map fun(i,x)=>(i,a.eval x))=(g.toList.map fun p=>(p.1,a.eval p.2)).toArray:=by cases g;simp
 have M:(execOp a.eval o).run C.prog w=.ok (.value<|.slice (some ⟨w.heap.size,0,none⟩) k k) (w.alloc<|.cells ⟨v⟩ e):=by simp only[execOp,y];rw[N];simp only[zK,g2,zJ,zL]
 have L:r.length=k*sz:=by
  have Z:=f2.2;have h6:d.length=k*sz:=by simpa[beq_eq]using hl
  rw[<-Z,h6]
 have n:bS m x.s w (m.set x.s.nx w.heap.size 0 k) (Rx.newRow x.s r e<|sz+2) (w.alloc<|.cells ⟨v⟩ e):=by have:=WZ st.fits (rest:=[]) g1 e k sz (by simpa using L);simpa using this
 have P:0<sz:=by simpa[uv]using hs
 have l:=qpe st.h f2 hk e P;have jJ:jU (m.set x.s.nx w.heap.size 0 k) (x.s.nx+1) (.slice (some ⟨x.s.nx,0,none⟩) k dC) (.slice (some ⟨w.heap.size,0,none⟩) k k):=fun B ha=>by obtain⟨q1,q2,q3⟩:=ha x.s.nx<|zN _;obtain⟨r1,r2,r3⟩:=EE m x.s.nx w.heap.size 0 k;simp[H3,q1,q2,r1,r2,dV,dA,q3,r3]
 refine A4 (by rw[y];intro c hc;cases hc) ?_;unfold Oper.wp;rw[M];exact hn _ ⟨nI x.I x.Y.nx<|some x.s.nx,bE x.Y<|.vec d e sz 0,Rx.newRow x.s r e<|sz+2⟩ (E7 tv o.dst<|.slice (some ⟨x.s.nx,0,none⟩) k dC) _ _ _ ⟨rfl,rfl⟩
  ⟨l.h,l.fr F st.fr,NW (l.mo.ke.E st.e.K3 st.e) qpp _,n.fits,(st.act.ext n.agree n.nx).put jJ o.dst⟩ n l.mo.ke l.mo.nx (JR _ _ _)
def fY.jD{C:PG}(n:jW C.prog T){Y:Sg}{d:X U}{o:Oper}{k b:Nat}{g cs:X U}{c:Jg (Nat×He)}{qs:X (Nat×U)}(y:o.op=.buildSlice t k c)(r:T.I1 t=some (.slice e))(v:T.inf e=some (sz,b,z))
  (h:BW d c.toList=some qs) (l:ble (k*sz) 16777216=true) (m:Nat.beq z.cells.toList.length sz=true) (B:rN z.cells.toList=some g) (s:tC (fun i=>some (i*sz,sz)) (zE g k) qs=some cs) (w:I8 cs=true) (x:Nat.beq cs.length (k*sz)=true) (A:blt 0 sz=true):
  fY C Y d o (fun u j=>u=.vl Y.nx 0 0 k/\j=bE Y (.vec cs e sz 0)):=fY.AR n y r v h l m B s (qP.refl _) w x A
def C2(K b k:Nat):Nat:=cond (Nat.beq k K) b k
def OJ(K c:Nat):X (Nat×B)->X (Nat×B)
 |[]=>[]|(k,b)::h=>cond (Nat.beq k K) (OJ K c h) (cond (Nat.beq k c) ((K,b)::OJ K c h) ((k,b)::OJ K c h))
def z2n{K g:Nat}(n:K≠g):∀(h:X (Nat×B))(j:Nat),gt (OJ K g h) j=if j=K then gt h g else if j=g then none else gt h j
 |[],j=>by simp[OJ,gt]
 |(k,b)::h,j=>by have m:=z2n n h j;simp only[OJ,beq_eq];by_cases i:k=K;subst i;simp only[yC,zC,m,aR];by_cases c:j=k;subst c;simp[n];simp[c,WV c];by_cases c:k=g;subst c;simp only[i,yB,zD,yC,zC,aR,m];by_cases d:j=K;subst d;simp;by_cases l:j=k;simp[l,i,WV d];intro h;exact absurd h.symm i;simp[d,l,WV d,WV l];simp only[i,c,yB,zD,aR,m];by_cases d:j=K;subst d;simp[i,c];by_cases l:j=g;subst l;simp[d,c];simp[d,l]
def rS(Z:Nat->Nat):X (Nat×U)->X (Nat×U)
 |[]=>[]|(i,u)::l=>(i,rU Z u)::rS Z l
def qxv(Z:Nat->Nat):∀(l:X (Nat×U))(i:Nat),oM (rS Z l) i=(oM l i).map (rU Z)
 |[],i=>rfl|(j,u)::l,i=>by simp only[rS,oM,beq_eq,qxv Z l i];by_cases e:j=i<;>simp[e]
def z4v(Z:Nat->Nat):∀(l:X U)(i:Nat),(fP Z l)[i]? = (l[i]?).map (rU Z)
 |[],i=>by simp[fP]
 |u::l,0=>by simp[fP]
 |u::l,i+1=>by simp[fP,z4v Z l i]
def Bb(Z:Nat->Nat)(n:Nat)(l:X (Nat×U)):fP Z (fr n l)=fr n (rS Z l):=by apply od;intro k;rw[z4v];by_cases b:k<n;rw[Q7 n l b,Q7 n _ b,qxv];obtain _|w:=oM l k;simp[rU];rfl;rw[YQ (by simp[FT];omega),YQ (by simp[FT];omega)];rfl
def mn(Z:Nat->Nat):X (Nat×B)->Prop
 |[]=>True|(_,b)::h=>rB Z b=b/\mn Z h
def z9t{Z:Nat->Nat}:∀{h:X (Nat×B)},mn Z h->∀k b,gt h k=some b->rB Z b=b
 |[],_,k,b,d=>by cases d
 |(j,c)::h,g,k,b,d=>by rw[aR]at d;by_cases e:j=k;rw[lr e]at d;cases d;exact g.1;rw[hF e]at d;exact z9t g.2 k b d
def Gh.mv{E n:Nat}{l l':X (Nat×U)}{Y:Sg}{h':X (Nat×B)}(K g:Nat)(h0:E<=K)(W:blt K Y.nx=true)(V:Nat.beq K g=false)(hl:rS (C2 K g) l'=l)(hm:OJ K g Y.h=h')(ha:mn (C2 K g) h')[d:BS Y.nx l']:Gh E (fr n l) Y (fr n l') ⟨h',Y.nx⟩:=fun F x tv hx hr N he=>by
 subst hx;subst hl;subst hm;have hK':K<x.Y.nx:=by simpa[uv]using W
 have G:K≠g:=by simpa[beq_eq]using V
 have key:∀k b,gt (OJ K g x.Y.h) k=some b->gt x.Y.h (C2 K g k)=some b:=fun k b o=>by rw[z2n G]at o;simp only[C2,beq_eq];by_cases e:k=K;rw[lr e]at o;simpa[e]using o;rw[hF e]at o;by_cases j:k=g;rw[lr j]at o;cases o;rw[hF j]at o;simpa[e]using o
 let y:Cx:=⟨fun k=>x.I<|C2 K g k,⟨OJ K g x.Y.h,x.Y.nx⟩,x.s⟩
 have M:UX x.Y.nx (C2 K g) x y:=⟨fun k st off v r h=>by
   simp only[aF,Ref]at h ⊢;exact⟨h.1,r,fun b d=>h.2.2 b<|key k b d⟩,fun k off m c v r h=>by
   simp only[aF,Ref]at h ⊢;exact⟨h.1,r,fun b d=>h.2.2 b<|key k b d⟩,fun k st off m v r h=>by
   simp only[aF]at h ⊢;exact⟨h.1,r,fun b d=>h.2.2 b<|key k b d⟩,fun k v r h=>by
   simp only[aF,Ref]at h ⊢;exact⟨h.1,r,fun b d=>h.2.2 b<|key k b d⟩,fun _ _ _ h=>h⟩
 have R:∀u,aW E u->rU (C2 K g) u=u:=fun u A=>by
  have:=cq (Z:=id) (κ:=C2 K g) (n:=E) (fun k r=>by
   have:¬ k=K:=by omega
   simp[C2,beq_eq,this]) u A
  rwa [Uc]at this
 refine⟨y,fun m w N=>bS.refl N,rfl,⟨fun k b d=>?_,fun k D b H i d Q J L=>?_,hr.bd⟩,fun i b O=>?_,?_,fun u v A hv=>?_⟩;have o:=key k b d;obtain⟨g1,g2⟩:=hr.ok _ _ o;have S:k<x.Y.nx:=by
  by_cases e:k=K;omega;have j:C2 K g k=k:=by simp[C2,beq_eq,e]
  rw[j]at g1;exact g1
 refine⟨S,oR.J8 M g2.kU rfl (fun _ _ _ h=>h) ?_⟩;rw[z9t ha k b d];exact g2;have e:=hr.inj _ _ b H i (key k b d) (key D H Q) J L;have P:∀k b,gt (OJ K g x.Y.h) k=some b->k≠g:=fun k b d h=>by subst h;rw[z2n G,hF<|WV G,lr rfl]at d;cases d
 have q1:=P k b d;have q2:=P D H Q;simp only[C2,beq_eq]at e;by_cases C:k=K;by_cases j:D=K;rw[C,j];simp[C,j]at e;exact absurd e.symm q2;by_cases j:D=K;simp[C,j]at e;exact absurd e q1;simpa[C,j]using e;obtain⟨J,L⟩:=N i b O;exact⟨J,fun k c hc=>L _ c<|key k c hc⟩;refine bD.J8 M (Cd d.h) ?_;rw[Bb];exact he;exact aF.J8 M u v (aW.le af u A) (by rw[R u A];exact hv)
variable{T:Tb}{Y:Sg}{e:TypeId}
def FP{t:TypeId}{m sz k st off:Nat}{i:Int}{kd:IntKind}(b:T.I1 t=some (.array m e))(h:cP T e=some sz)(d:live Y k st=true)(c:0<=i/\i<m){off':Nat}(g:off+i.toNat*sz=off'):EG T Y t (.ptr k st off) (.int kd i)=some (.ptr k st off'):=by subst g;simp only[EG,b,h,d,zC,lr c]
def Zw{t:TypeId}{k st off:Nat}{op:BinOp}{u:U}(b:T.I1 t=some (.pointer e))(c:live Y k st=true)(d:GR op=some u):Ly T Y op t (.ptr k st off) .b6=some u:=by simp only[Ly,BQ,b,iA,c,NY,d,zC,Nat.beq,zD]
def Gh.qD{b:Type}(c:b->X U){s n:Nat}{l g:X (Nat×U)}{Y d:Sg}{K:Nat}{i:X b}{sz st:Nat}(k:∀x,(c x).length=sz)(m:gt Y.h K=some (.vec (i.map c).flatten e sz st))(j:Nat)(r:rL l g)(o:(⟨ug Y.h K<|.vec ((i.take j).map c).flatten e sz st,Y.nx⟩:Sg)=d):Gh s (fr n l) Y (fr n g) d :=
 Gh.trans (Gh.pV c k m j) (qR r o)
end Go.Vx
namespace Go.Proofs
open Go Go.Rx
def fn7:tb.fn 7=some Tryz.f7:=ag
def fn9:tb.fn 9=some Tryz.f9:=ag
def lh:tb.fn 10=some Tryz.f10:=ag
def T8:tb.fn 11=some Tryz.f11:=ag
def Jc:tb.fn 12=some Tryz.f12:=ag
def yz:tb.fn 13=some Tryz.f13:=ag
def yy:tb.fn 14=some Tryz.f14:=ag
def T7:tb.fn 16=some Tryz.f16:=ag
def yx:tb.fn 17=some Tryz.f17:=ag
def LS:tb.fn 18=some Tryz.f18:=ag
def GP:tb.fn 19=some Tryz.f19:=ag
def GO:tb.fn 20=some Tryz.f20:=ag
def DX:tb.fn 21=some Tryz.f21:=ag
def DW:tb.fn 22=some Tryz.f22:=ag
def yw:tb.fn 24=some Tryz.f24:=ag
def Jb:tb.fn 25=some Tryz.f25:=ag
def yu:tb.fn 26=some Tryz.f26:=ag
def yt:tb.fn 27=some Tryz.f27:=ag
def T6:tb.fn 32=some Tryz.f32:=ag
def yr:tb.fn 33=some Tryz.f33:=ag
def yq:tb.fn 34=some Tryz.f34:=ag
def LR:tb.fn 35=some Tryz.f35:=ag
def xF:tb.fn 36=some Tryz.f36:=ag
def Ja:tb.fn 37=some Tryz.f37:=ag
def yp:tb.fn 38=some Tryz.f38:=ag
def yn:tb.fn 39=some Tryz.f39:=ag
def T5:tb.fn 40=some Tryz.f40:=ag
def ym:tb.fn 41=some Tryz.f41:=ag
def yl:tb.fn 42=some Tryz.f42:=ag
def T4:tb.fn 43=some Tryz.f43:=ag
def yk:tb.fn 44=some Tryz.f44:=ag
def Iz:tb.fn 45=some Tryz.f45:=ag
def yj:tb.fn 46=some Tryz.f46:=ag
def Iy:tb.fn 47=some Tryz.f47:=ag
def yi:tb.fn 48=some Tryz.f48:=ag
def yh:tb.fn 49=some Tryz.f49:=ag
def Ix:tb.fn 53=some Tryz.f53:=ag
def yg:tb.fn 57=some Tryz.f57:=ag
def LQ:tb.fn 58=some Tryz.f58:=ag
def yf:tb.fn 59=some Tryz.f59:=ag
def ye:tb.fn 60=some Tryz.f60:=ag
def pJ:tb.fn 61=some Tryz.f61:=ag
def Iw:tb.fn 62=some Tryz.f62:=ag
def yd:tb.fn 63=some Tryz.f63:=ag
def Iv:tb.fn 64=some Tryz.f64:=ag
def yb:tb.fn 65=some Tryz.f65:=ag
def B6:tb.fn 66=some Tryz.f66:=ag
def vz:tb.fn 67=some Tryz.f67:=ag
def vt:tb.fn 68=some Tryz.f68:=ag
def T3:tb.fn 69=some Tryz.f69:=ag
def B5:tb.fn 70=some Tryz.f70:=ag
def B0:tb.fn 71=some Tryz.f71:=ag
def GN:tb.fn 72=some Tryz.f72:=ag
def vr:tb.fn 73=some Tryz.f73:=ag
def vq:tb.fn 75=some Tryz.f75:=ag
def T1:tb.fn 76=some Tryz.f76:=ag
def Iu:tb.fn 77=some Tryz.f77:=ag
def vp:tb.fn 78=some Tryz.f78:=ag
def vn:tb.fn 79=some Tryz.f79:=ag
def vm:tb.fn 80=some Tryz.f80:=ag
def vk:tb.fn 81=some Tryz.f81:=ag
def Is:tb.fn 86=some Tryz.f86:=ag
def T0:tb.fn 87=some Tryz.f87:=ag
def Ir:tb.fn 88=some Tryz.f88:=ag
def vj:tb.fn 89=some Tryz.f89:=ag
def vi:tb.fn 90=some Tryz.f90:=ag
def Iq:tb.fn 91=some Tryz.f91:=ag
def vf:tb.fn 92=some Tryz.f92:=ag
def vd:tb.fn 93=some Tryz.f93:=ag
def kz:tb.fn 94=some Tryz.f94:=ag
def kw:tb.fn 95=some Tryz.f95:=ag
def LP:tb.fn 96=some Tryz.f96:=ag
def Ip:tb.fn 97=some Tryz.f97:=ag
def SZ:tb.fn 98=some Tryz.f98:=ag
def ku:tb.fn 99=some Tryz.f99:=ag
def YN:tb.fn 100=some Tryz.f100:=ag
def MB:tb.fn 101=some Tryz.f101:=ag
def MA:tb.fn 102=some Tryz.f102:=ag
def YM:tb.fn 103=some Tryz.f103:=ag
def B8:tb.fn 104=some Tryz.f104:=ag
def F3:tb.fn 105=some Tryz.f105:=ag
def YL:tb.fn 106=some Tryz.f106:=ag
def YK:tb.fn 107=some Tryz.f107:=ag
def M9:tb.fn 108=some Tryz.f108:=ag
def YJ:tb.fn 109=some Tryz.f109:=ag
def ld:tb.fn 110=some Tryz.f110:=ag
def YI:tb.fn 111=some Tryz.f111:=ag
def M8:tb.fn 112=some Tryz.f112:=ag
def YH:tb.fn 115=some Tryz.f115:=ag
def tW:tb.fn 116=some Tryz.f116:=ag
def M7:tb.fn 117=some Tryz.f117:=ag
def F2:tb.fn 118=some Tryz.f118:=ag
def B7:tb.fn 119=some Tryz.f119:=ag
def F1:tb.fn 120=some Tryz.f120:=ag
def YG:tb.fn 121=some Tryz.f121:=ag
def v07:tb.fn 122=some Tryz.f122:=ag
def YE:tb.fn 123=some Tryz.f123:=ag
def YD:tb.fn 124=some Tryz.f124:=ag
def YC:tb.fn 125=some Tryz.f125:=ag
def o5:tb.fn 126=some Tryz.f126:=ag
def YB:tb.fn 127=some Tryz.f127:=ag
def YA:tb.fn 128=some Tryz.f128:=ag
def Y9:tb.fn 129=some Tryz.f129:=ag
def M6:tb.fn 130=some Tryz.f130:=ag
def M5:tb.fn 131=some Tryz.f131:=ag
def M4:tb.fn 132=some Tryz.f132:=ag
def EZ:tb.fn 133=some Tryz.f133:=ag
def Y8:tb.fn 134=some Tryz.f134:=ag
def Y7:tb.fn 135=some Tryz.f135:=ag
def Y6:tb.fn 136=some Tryz.f136:=ag
def M3:tb.fn 137=some Tryz.f137:=ag
def Y5:tb.fn 138=some Tryz.f138:=ag
def Y4:tb.fn 139=some Tryz.f139:=ag
def Y3:tb.fn 140=some Tryz.f140:=ag
def LZ:tb.fn 141=some Tryz.f141:=ag
def LY:tb.fn 142=some Tryz.f142:=ag
def v03:tb.fn 143=some Tryz.f143:=ag
def v02:tb.fn 153=some Tryz.f153:=ag
def Y0:tb.fn 155=some Tryz.f155:=ag
def LX:tb.fn 156=some Tryz.f156:=ag
def XZ:tb.fn 157=some Tryz.f157:=ag
def tV:tb.fn 158=some Tryz.f158:=ag
def XY:tb.fn 159=some Tryz.f159:=ag
def XX:tb.fn 160=some Tryz.f160:=ag
def XW:tb.fn 161=some Tryz.f161:=ag
def XV:tb.fn 162=some Tryz.f162:=ag
def XU:tb.fn 163=some Tryz.f163:=ag
def XT:tb.fn 164=some Tryz.f164:=ag
def XS:tb.fn 165=some Tryz.f165:=ag
def XR:tb.fn 166=some Tryz.f166:=ag
def LW:tb.fn 173=some Tryz.f173:=ag
def XQ:tb.fn 174=some Tryz.f174:=ag
def LV:tb.fn 176=some Tryz.f176:=ag
def XP:tb.fn 177=some Tryz.f177:=ag
def XO:tb.fn 178=some Tryz.f178:=ag
def LU:tb.fn 179=some Tryz.f179:=ag
end Go.Proofs
