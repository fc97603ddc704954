/-
  Texts of the walk: Tab08 Fn08 H1.
-/
import Derived.Test.YtkgbipeaeamohaaGreatDoorProg
import Derived.Test.YtkgbipeaeamohaaGreatDoorP10
set_option linter.unusedSimpArgs false
set_option linter.unusedVariables false
section
namespace Go.Proofs
open Go Go.Rx
noncomputable def Tryz.tb:Tb:=tbOf Tryz.prog [82]
theorem Tryz.mixed:Tryz.prog.follows .mixedOrders=true:=by kernel_rfl
theorem Tryz.eqs_ok:∀ t∈[82],Tryz.prog.stoodInHeld t=false∧Tryz.prog.eqGuardType Tryz.prog.depth t=false:=by
 intro t ht
 simp only [List.mem_cons,List.not_mem_nil,or_false] at ht
 rcases ht with rfl<;>exact ⟨by kernel_rfl,by kernel_rfl⟩
theorem Tryz.names_ok : (Tryz.prog.funcs.toList.all fun f => !(f.name == "runtime.NumGoroutine")) = true := by kernel_rfl
theorem Tryz.tb_ok:qc6 Tryz.prog Tryz.tb:=qx8 Tryz.prog [82] Tryz.mixed (fun f hf _=>by
 have:=List.all_eq_true.1 Tryz.names_ok f hf
 simpa using this) Tryz.eqs_ok
theorem Tryz.und3:Tryz.tb.und 3=some (.int .i64):=by kernel_rfl
theorem Tryz.inf3:Tryz.tb.inf 3=some (1,8,.int .i64 0):=by kernel_rfl
theorem Tryz.und4:Tryz.tb.und 4=some (.bool):=by kernel_rfl
theorem Tryz.inf4:Tryz.tb.inf 4=some (1,1,.bool false):=by kernel_rfl
theorem Tryz.und5:Tryz.tb.und 5=some (.int .u8):=by kernel_rfl
theorem Tryz.und9:Tryz.tb.und 9=some (.string):=by kernel_rfl
theorem Tryz.inf9:Tryz.tb.inf 9=some (1,16,.string ⟨#[]⟩):=by kernel_rfl
theorem Tryz.und22:Tryz.tb.und 22=some (.slice 54):=by kernel_rfl
theorem Tryz.inf22:Tryz.tb.inf 22=some (1,24,.slice none 0 0):=by kernel_rfl
theorem Tryz.und24 : Tryz.tb.und 24 = some (.struct #[⟨ "Nodes", 22, 0, false, "", "", 0⟩]) := by kernel_rfl
theorem Tryz.inf24:Tryz.tb.inf 24=some (1,24,.agg #[.slice none 0 0]):=by kernel_rfl
theorem Tryz.und28:Tryz.tb.und 28=some (.slice 33):=by kernel_rfl
theorem Tryz.inf28:Tryz.tb.inf 28=some (1,24,.slice none 0 0):=by kernel_rfl
theorem Tryz.und31:Tryz.tb.und 31=some (.slice 56):=by kernel_rfl
theorem Tryz.und33:Tryz.tb.und 33=some (.slice 3):=by kernel_rfl
theorem Tryz.inf33:Tryz.tb.inf 33=some (1,24,.slice none 0 0):=by kernel_rfl
theorem Tryz.und38:Tryz.tb.und 38=some (.slice 127):=by kernel_rfl
theorem Tryz.und40:Tryz.tb.und 40=some (.slice 109):=by kernel_rfl
theorem Tryz.inf40:Tryz.tb.inf 40=some (1,24,.slice none 0 0):=by kernel_rfl
theorem Tryz.und41:Tryz.tb.und 41=some (.slice 82):=by kernel_rfl
theorem Tryz.inf41:Tryz.tb.inf 41=some (1,24,.slice none 0 0):=by kernel_rfl
theorem Tryz.und43 : Tryz.tb.und 43 = some (.struct #[⟨ "Types", 40, 0, false, "", "", 0⟩, ⟨ "Feats", 41, 1, false, "", "", 24⟩]) := by kernel_rfl
theorem Tryz.inf43:Tryz.tb.inf 43=some (2,48,.agg #[.slice none 0 0,.slice none 0 0]):=by kernel_rfl
theorem Tryz.und52:Tryz.tb.und 52=some (.slice 66):=by kernel_rfl
theorem Tryz.inf52:Tryz.tb.inf 52=some (1,24,.slice none 0 0):=by kernel_rfl
theorem Tryz.und54 : Tryz.tb.und 54 = some (.struct #[⟨ "Type", 3, 0, false, "", "", 0⟩, ⟨ "Arcs", 52, 1, false, "", "", 8⟩]) := by kernel_rfl
theorem Tryz.inf54:Tryz.tb.inf 54=some (2,32,.agg #[.int .i64 0,.slice none 0 0]):=by kernel_rfl
theorem Tryz.und56 : Tryz.tb.und 56 = some (.struct #[⟨ "A", 33, 0, false, "", "", 0⟩, ⟨ "B", 33, 1, false, "", "", 24⟩]) := by kernel_rfl
theorem Tryz.inf56:Tryz.tb.inf 56=some (2,48,.agg #[.slice none 0 0,.slice none 0 0]):=by kernel_rfl
theorem Tryz.und66 : Tryz.tb.und 66 = some (.struct #[⟨ "Feat", 3, 0, false, "", "", 0⟩, ⟨ "To", 3, 1, false, "", "", 8⟩]) := by kernel_rfl
theorem Tryz.inf66:Tryz.tb.inf 66=some (2,16,.agg #[.int .i64 0,.int .i64 0]):=by kernel_rfl
theorem Tryz.und75:Tryz.tb.und 75=some (.slice 4):=by kernel_rfl
theorem Tryz.und80:Tryz.tb.und 80=some (.slice 9):=by kernel_rfl
theorem Tryz.inf80:Tryz.tb.inf 80=some (1,24,.slice none 0 0):=by kernel_rfl
theorem Tryz.und82 : Tryz.tb.und 82 = some (.struct #[⟨ "Name", 9, 0, false, "", "", 0⟩, ⟨ "Intro", 3, 1, false, "", "", 16⟩]) := by kernel_rfl
theorem Tryz.inf82:Tryz.tb.inf 82=some (2,24,.agg #[.string ⟨#[]⟩,.int .i64 0]):=by kernel_rfl
theorem Tryz.und96:Tryz.tb.und 96=some (.slice 107):=by kernel_rfl
theorem Tryz.und99:Tryz.tb.und 99=some (.slice 105):=by kernel_rfl
theorem Tryz.und103:Tryz.tb.und 103=some (.slice 191):=by kernel_rfl
theorem Tryz.inf103:Tryz.tb.inf 103=some (1,24,.slice none 0 0):=by kernel_rfl
theorem Tryz.und105 : Tryz.tb.und 105 = some (.struct #[⟨ "Name", 9, 0, false, "", "", 0⟩, ⟨ "Code", 103, 1, false, "", "", 16⟩]) := by kernel_rfl
theorem Tryz.inf105:Tryz.tb.inf 105=some (2,40,.agg #[.string ⟨#[]⟩,.slice none 0 0]):=by kernel_rfl
theorem Tryz.und107:Tryz.tb.und 107=some (.slice 147):=by kernel_rfl
theorem Tryz.inf107:Tryz.tb.inf 107=some (1,24,.slice none 0 0):=by kernel_rfl
theorem Tryz.und109 : Tryz.tb.und 109 = some (.struct #[⟨ "Name", 9, 0, false, "", "", 0⟩, ⟨ "Code", 103, 1, false, "", "", 16⟩, ⟨ "Supers", 33, 2, false, "", "", 40⟩, ⟨ "Feats", 107, 3, false, "", "", 64⟩]) := by kernel_rfl
theorem Tryz.inf109:Tryz.tb.inf 109=some (4,88,.agg #[.string ⟨#[]⟩,.slice none 0 0,.slice none 0 0,.slice none 0 0]):=by kernel_rfl
theorem Tryz.und125:Tryz.tb.und 125=some (.slice 162):=by kernel_rfl
theorem Tryz.inf125:Tryz.tb.inf 125=some (1,24,.slice none 0 0):=by kernel_rfl
theorem Tryz.und127 : Tryz.tb.und 127 = some (.struct #[⟨ "Name", 9, 0, false, "", "", 0⟩, ⟨ "Supers", 80, 1, false, "", "", 16⟩, ⟨ "Feats", 125, 2, false, "", "", 40⟩]) := by kernel_rfl
theorem Tryz.inf127:Tryz.tb.inf 127=some (3,64,.agg #[.string ⟨#[]⟩,.slice none 0 0,.slice none 0 0]):=by kernel_rfl
theorem Tryz.und147 : Tryz.tb.und 147 = some (.struct #[⟨ "Feat", 3, 0, false, "", "", 0⟩, ⟨ "Value", 3, 1, false, "", "", 8⟩]) := by kernel_rfl
theorem Tryz.inf147:Tryz.tb.inf 147=some (2,16,.agg #[.int .i64 0,.int .i64 0]):=by kernel_rfl
theorem Tryz.und148:Tryz.tb.und 148=some (.slice 103):=by kernel_rfl
theorem Tryz.und162 : Tryz.tb.und 162 = some (.struct #[⟨ "Feat", 9, 0, false, "", "", 0⟩, ⟨ "Value", 9, 1, false, "", "", 16⟩]) := by kernel_rfl
theorem Tryz.inf162:Tryz.tb.inf 162=some (2,32,.agg #[.string ⟨#[]⟩,.string ⟨#[]⟩]):=by kernel_rfl
theorem Tryz.und190:Tryz.tb.und 190=some (.int .u64):=by kernel_rfl
theorem Tryz.und191:Tryz.tb.und 191=some (.int .u64):=by kernel_rfl
theorem Tryz.inf191:Tryz.tb.inf 191=some (1,8,.int .u64 0):=by kernel_rfl
end Go.Proofs
end
section
namespace Go.Proofs
open Go Go.Rx
theorem Tryz.fn8:Tryz.tb.fn 8=some Tryz.f8:=by kernel_rfl
theorem Tryz.fn13:Tryz.tb.fn 13=some Tryz.f13:=by kernel_rfl
theorem Tryz.fn14:Tryz.tb.fn 14=some Tryz.f14:=by kernel_rfl
theorem Tryz.fn15:Tryz.tb.fn 15=some Tryz.f15:=by kernel_rfl
theorem Tryz.fn17:Tryz.tb.fn 17=some Tryz.f17:=by kernel_rfl
theorem Tryz.fn18:Tryz.tb.fn 18=some Tryz.f18:=by kernel_rfl
theorem Tryz.fn21:Tryz.tb.fn 21=some Tryz.f21:=by kernel_rfl
theorem Tryz.fn22:Tryz.tb.fn 22=some Tryz.f22:=by kernel_rfl
theorem Tryz.fn25:Tryz.tb.fn 25=some Tryz.f25:=by kernel_rfl
theorem Tryz.fn26:Tryz.tb.fn 26=some Tryz.f26:=by kernel_rfl
theorem Tryz.fn28:Tryz.tb.fn 28=some Tryz.f28:=by kernel_rfl
theorem Tryz.fn30:Tryz.tb.fn 30=some Tryz.f30:=by kernel_rfl
theorem Tryz.fn31:Tryz.tb.fn 31=some Tryz.f31:=by kernel_rfl
theorem Tryz.fn32:Tryz.tb.fn 32=some Tryz.f32:=by kernel_rfl
theorem Tryz.fn36:Tryz.tb.fn 36=some Tryz.f36:=by kernel_rfl
theorem Tryz.fn43:Tryz.tb.fn 43=some Tryz.f43:=by kernel_rfl
theorem Tryz.fn44:Tryz.tb.fn 44=some Tryz.f44:=by kernel_rfl
theorem Tryz.fn45:Tryz.tb.fn 45=some Tryz.f45:=by kernel_rfl
theorem Tryz.fn46:Tryz.tb.fn 46=some Tryz.f46:=by kernel_rfl
theorem Tryz.hb46:Tryz.f46.body.isSome=true:=rfl
theorem Tryz.fn47:Tryz.tb.fn 47=some Tryz.f47:=by kernel_rfl
theorem Tryz.fn48:Tryz.tb.fn 48=some Tryz.f48:=by kernel_rfl
theorem Tryz.hb48:Tryz.f48.body.isSome=true:=rfl
theorem Tryz.fn49:Tryz.tb.fn 49=some Tryz.f49:=by kernel_rfl
theorem Tryz.fn50:Tryz.tb.fn 50=some Tryz.f50:=by kernel_rfl
theorem Tryz.fn51:Tryz.tb.fn 51=some Tryz.f51:=by kernel_rfl
theorem Tryz.fn52:Tryz.tb.fn 52=some Tryz.f52:=by kernel_rfl
theorem Tryz.fn53:Tryz.tb.fn 53=some Tryz.f53:=by kernel_rfl
theorem Tryz.fn54:Tryz.tb.fn 54=some Tryz.f54:=by kernel_rfl
theorem Tryz.fn55:Tryz.tb.fn 55=some Tryz.f55:=by kernel_rfl
theorem Tryz.fn57:Tryz.tb.fn 57=some Tryz.f57:=by kernel_rfl
theorem Tryz.fn59:Tryz.tb.fn 59=some Tryz.f59:=by kernel_rfl
theorem Tryz.fn60:Tryz.tb.fn 60=some Tryz.f60:=by kernel_rfl
theorem Tryz.fn69:Tryz.tb.fn 69=some Tryz.f69:=by kernel_rfl
theorem Tryz.fn70:Tryz.tb.fn 70=some Tryz.f70:=by kernel_rfl
theorem Tryz.fn71:Tryz.tb.fn 71=some Tryz.f71:=by kernel_rfl
theorem Tryz.fn72:Tryz.tb.fn 72=some Tryz.f72:=by kernel_rfl
theorem Tryz.fn73:Tryz.tb.fn 73=some Tryz.f73:=by kernel_rfl
theorem Tryz.fn74:Tryz.tb.fn 74=some Tryz.f74:=by kernel_rfl
theorem Tryz.fn81:Tryz.tb.fn 81=some Tryz.f81:=by kernel_rfl
theorem Tryz.fn82:Tryz.tb.fn 82=some Tryz.f82:=by kernel_rfl
theorem Tryz.fn90:Tryz.tb.fn 90=some Tryz.f90:=by kernel_rfl
theorem Tryz.fn91:Tryz.tb.fn 91=some Tryz.f91:=by kernel_rfl
theorem Tryz.fn92:Tryz.tb.fn 92=some Tryz.f92:=by kernel_rfl
theorem Tryz.fn93:Tryz.tb.fn 93=some Tryz.f93:=by kernel_rfl
theorem Tryz.fn94:Tryz.tb.fn 94=some Tryz.f94:=by kernel_rfl
theorem Tryz.fn95:Tryz.tb.fn 95=some Tryz.f95:=by kernel_rfl
theorem Tryz.fn96:Tryz.tb.fn 96=some Tryz.f96:=by kernel_rfl
theorem Tryz.fn97:Tryz.tb.fn 97=some Tryz.f97:=by kernel_rfl
theorem Tryz.fn98:Tryz.tb.fn 98=some Tryz.f98:=by kernel_rfl
theorem Tryz.fn99:Tryz.tb.fn 99=some Tryz.f99:=by kernel_rfl
theorem Tryz.fn100:Tryz.tb.fn 100=some Tryz.f100:=by kernel_rfl
theorem Tryz.fn101:Tryz.tb.fn 101=some Tryz.f101:=by kernel_rfl
theorem Tryz.fn102:Tryz.tb.fn 102=some Tryz.f102:=by kernel_rfl
theorem Tryz.fn109:Tryz.tb.fn 109=some Tryz.f109:=by kernel_rfl
theorem Tryz.fn110:Tryz.tb.fn 110=some Tryz.f110:=by kernel_rfl
theorem Tryz.fn115:Tryz.tb.fn 115=some Tryz.f115:=by kernel_rfl
theorem Tryz.fn116:Tryz.tb.fn 116=some Tryz.f116:=by kernel_rfl
theorem Tryz.fn117:Tryz.tb.fn 117=some Tryz.f117:=by kernel_rfl
theorem Tryz.fn118:Tryz.tb.fn 118=some Tryz.f118:=by kernel_rfl
theorem Tryz.fn119:Tryz.tb.fn 119=some Tryz.f119:=by kernel_rfl
theorem Tryz.fn120:Tryz.tb.fn 120=some Tryz.f120:=by kernel_rfl
theorem Tryz.fn121:Tryz.tb.fn 121=some Tryz.f121:=by kernel_rfl
theorem Tryz.fn122:Tryz.tb.fn 122=some Tryz.f122:=by kernel_rfl
theorem Tryz.fn123:Tryz.tb.fn 123=some Tryz.f123:=by kernel_rfl
theorem Tryz.fn124:Tryz.tb.fn 124=some Tryz.f124:=by kernel_rfl
theorem Tryz.fn125:Tryz.tb.fn 125=some Tryz.f125:=by kernel_rfl
theorem Tryz.fn126:Tryz.tb.fn 126=some Tryz.f126:=by kernel_rfl
theorem Tryz.hb126:Tryz.f126.body.isSome=true:=rfl
theorem Tryz.fn127:Tryz.tb.fn 127=some Tryz.f127:=by kernel_rfl
theorem Tryz.fn128:Tryz.tb.fn 128=some Tryz.f128:=by kernel_rfl
theorem Tryz.fn129:Tryz.tb.fn 129=some Tryz.f129:=by kernel_rfl
theorem Tryz.fn130:Tryz.tb.fn 130=some Tryz.f130:=by kernel_rfl
theorem Tryz.fn131:Tryz.tb.fn 131=some Tryz.f131:=by kernel_rfl
theorem Tryz.fn132:Tryz.tb.fn 132=some Tryz.f132:=by kernel_rfl
theorem Tryz.fn133:Tryz.tb.fn 133=some Tryz.f133:=by kernel_rfl
theorem Tryz.fn140:Tryz.tb.fn 140=some Tryz.f140:=by kernel_rfl
theorem Tryz.fn141:Tryz.tb.fn 141=some Tryz.f141:=by kernel_rfl
theorem Tryz.fn146:Tryz.tb.fn 146=some Tryz.f146:=by kernel_rfl
theorem Tryz.fn147:Tryz.tb.fn 147=some Tryz.f147:=by kernel_rfl
theorem Tryz.fn148:Tryz.tb.fn 148=some Tryz.f148:=by kernel_rfl
theorem Tryz.fn149:Tryz.tb.fn 149=some Tryz.f149:=by kernel_rfl
theorem Tryz.fn150:Tryz.tb.fn 150=some Tryz.f150:=by kernel_rfl
theorem Tryz.fn151:Tryz.tb.fn 151=some Tryz.f151:=by kernel_rfl
theorem Tryz.fn152:Tryz.tb.fn 152=some Tryz.f152:=by kernel_rfl
theorem Tryz.fn153:Tryz.tb.fn 153=some Tryz.f153:=by kernel_rfl
end Go.Proofs
end
section
namespace Go.Proofs
open Go Go.Rx Go.Vx Tryz
instance:TbP Tryz.prog Tryz.tb:=⟨Tryz.tb_ok⟩
set_option maxRecDepth 20000
structure q28 where
 Feat:Int
 To:Int
def q0o (x:q28):List U:=[.int .i64 x.Feat,.int .i64 x.To]
theorem qip (n:Nat) (x:q28):q1p n (q0o x):=by
 simp only [q0o,q1p,Bel,true_and,and_true]
theorem q5h (x:q28):(q0o x).length=2:=rfl
instance:qqo q0o 2:=⟨q5h⟩
instance:BF q0o:=⟨qip⟩
instance (n:Nat) (x:q28):BUL n (q0o x):=⟨qip n x⟩
def qf4 (n:Nat) (p1:Int):Option (Bool) :=
 some (p1 != p1)
def qiw (n:Nat) (p1:Int) (p2:Int):Option (Int) :=
 q03 (qf4 n p1) fun r3 =>
 q03 (qf4 n p2) fun r5 =>
 cond r3
  (cond r5
   (some 0)
   (some (-1)))
  (cond r5
   (some 1)
   (cond (decide (p1<p2))
    (some (-1))
    (cond (decide (p1 > p2))
     (some 1)
     (some 0))))
def qj9 (n:Nat) (p1:q28) (p2:q28):Option (Int) :=
 q03 (qiw n p1.Feat p2.Feat) fun r3 =>
 some r3
end Go.Proofs
end
