/-
  Texts of the walk: Srt8.
-/
import Derived.Shelf.SlSortCmp.WholeK
import Derived.Shelf.Strings.Split
import Derived.Shelf.Strings.Search3
import Derived.Shelf.Strings.OnBuilder
import Derived.Test.YtkgbipeaeamohaaGreatDoorP13
set_option linter.unusedSimpArgs false
set_option linter.unusedVariables false
section
namespace Go.Proofs
open Go
set_option maxRecDepth 100000
def Tryz.layJ_ren:Shelf.Ren where
 f:=fun x=>match x with
  | 156=>52
  | 165=>75
  | 166=>76
  | 169=>77
  | 240=>103
  | 241=>104
  | 276=>134
  | 277=>135
  | n=>n
 t:=fun x=>match x with
  | 31=>80
  | 9=>9
  | 3=>3
  | 4=>4
  | 0=>0
  | 20=>20
  | 72=>114
  | 76=>118
  | 70=>112
  | 37=>39
  | 75=>117
  | 127=>157
  | 164=>180
  | 5=>5
  | 80=>120
  | n=>n
 g:=fun x=>x
theorem Tryz.layJ:Lays.n156 Tryz.prog Tryz.layJ_ren where
 mixed:=rfl
 f156:=Tryz.func52.trans rfl
 f165:=Tryz.func75.trans rfl
 f166:=Tryz.func76.trans rfl
 f169:=Tryz.func77.trans rfl
 f240:=Tryz.func103.trans rfl
 f241:=Tryz.func104.trans rfl
 f276:=Tryz.func134.trans rfl
 f277:=Tryz.func135.trans rfl
 t0:=Tryz.underlying0
 a0:=Tryz.isAgg0
 z0:=Tryz.sizeOf0
 v0:=Tryz.zeroValue0
 t3:=Tryz.underlying3
 a3:=Tryz.isAgg3
 z3:=Tryz.sizeOf3
 v3:=Tryz.zeroValue3
 t4:=Tryz.underlying4
 a4:=Tryz.isAgg4
 z4:=Tryz.sizeOf4
 v4:=Tryz.zeroValue4
 t9:=Tryz.underlying9
 a9:=Tryz.isAgg9
 z9:=Tryz.sizeOf9
 v9:=Tryz.zeroValue9
 t20:=Tryz.underlying20
 a20:=Tryz.isAgg20
 z20:=Tryz.sizeOf20
 v20:=Tryz.zeroValue20
 t31:=Tryz.underlying80
 a31:=Tryz.isAgg80
 z31:=Tryz.sizeOf80
 v31:=Tryz.zeroValue80
 t37:=Tryz.underlying39
 a37:=Tryz.isAgg39
 z37:=Tryz.sizeOf39
 v37:=Tryz.zeroValue39
 t70:=Tryz.underlying112
 a70:=Tryz.isAgg112
 z70:=Tryz.sizeOf112
 v70:=Tryz.zeroValue112
 t72:=Tryz.underlying114
 a72:=Tryz.isAgg114
 z72:=Tryz.sizeOf114
 v72:=Tryz.zeroValue114
 t75:=Tryz.underlying117
 a75:=Tryz.isAgg117
 z75:=Tryz.sizeOf117
 v75:=Tryz.zeroValue117
 t76:=Tryz.underlying118
 a76:=Tryz.isAgg118
 z76:=Tryz.sizeOf118
 v76:=Tryz.zeroValue118
 t127:=Tryz.underlying157
 a127:=Tryz.isAgg157
 z127:=Tryz.sizeOf157
 v127:=Tryz.zeroValue157
 t164:=Tryz.underlying180
 a164:=Tryz.isAgg180
 z164:=Tryz.sizeOf180
 v164:=Tryz.zeroValue180
def Tryz.layS_ren:Shelf.Ren where
 f:=fun x=>match x with
  | 146=>53
  | 221=>78
  | 268=>105
  | 138=>106
  | 143=>107
  | 195=>136
  | 197=>137
  | 218=>138
  | 219=>139
  | 260=>154
  | 217=>155
  | 225=>156
  | 224=>157
  | 267=>158
  | 266=>169
  | 314=>170
  | n=>n
 t:=fun x=>match x with
  | 9=>9
  | 31=>80
  | 3=>3
  | 4=>4
  | 0=>0
  | 105=>184
  | 21=>21
  | 5=>5
  | 46=>190
  | 119=>207
  | 139=>210
  | 138=>209
  | 146=>211
  | 51=>205
  | n=>n
 g:=fun x=>match x with
  | 1=>0
  | 3=>1
  | 4=>2
  | n=>n
theorem Tryz.layS:Lays.n146 Tryz.prog Tryz.layS_ren where
 mixed:=rfl
 f138:=Tryz.func106.trans rfl
 f143:=Tryz.func107.trans rfl
 f146:=Tryz.func53.trans rfl
 f195:=Tryz.func136.trans rfl
 f197:=Tryz.func137.trans rfl
 f217:=Tryz.func155.trans rfl
 f218:=Tryz.func138.trans rfl
 f219:=Tryz.func139.trans rfl
 f221:=Tryz.func78.trans rfl
 f224:=Tryz.func157.trans rfl
 f225:=Tryz.func156.trans rfl
 f260:=Tryz.func154.trans rfl
 f266:=Tryz.func169.trans rfl
 f267:=Tryz.func158.trans rfl
 f268:=Tryz.func105.trans rfl
 f314:=Tryz.func170.trans rfl
 t0:=Tryz.underlying0
 a0:=Tryz.isAgg0
 z0:=Tryz.sizeOf0
 v0:=Tryz.zeroValue0
 t3:=Tryz.underlying3
 a3:=Tryz.isAgg3
 z3:=Tryz.sizeOf3
 v3:=Tryz.zeroValue3
 t4:=Tryz.underlying4
 a4:=Tryz.isAgg4
 z4:=Tryz.sizeOf4
 v4:=Tryz.zeroValue4
 t5:=Tryz.underlying5
 a5:=Tryz.isAgg5
 z5:=Tryz.sizeOf5
 v5:=Tryz.zeroValue5
 t9:=Tryz.underlying9
 a9:=Tryz.isAgg9
 z9:=Tryz.sizeOf9
 v9:=Tryz.zeroValue9
 t21:=Tryz.underlying21
 a21:=Tryz.isAgg21
 z21:=Tryz.sizeOf21
 v21:=Tryz.zeroValue21
 t31:=Tryz.underlying80
 a31:=Tryz.isAgg80
 z31:=Tryz.sizeOf80
 v31:=Tryz.zeroValue80
 t46:=Tryz.underlying190
 a46:=Tryz.isAgg190
 z46:=Tryz.sizeOf190
 v46:=Tryz.zeroValue190
 t51:=Tryz.underlying205
 a51:=Tryz.isAgg205
 z51:=Tryz.sizeOf205
 v51:=Tryz.zeroValue205
 t105:=Tryz.underlying184
 a105:=Tryz.isAgg184
 z105:=Tryz.sizeOf184
 v105:=Tryz.zeroValue184
 t119:=Tryz.underlying207
 a119:=Tryz.isAgg207
 z119:=Tryz.sizeOf207
 t138:=Tryz.underlying209
 a138:=Tryz.isAgg209
 z138:=Tryz.sizeOf209
 v138:=Tryz.zeroValue209
 t139:=Tryz.underlying210
 a139:=Tryz.isAgg210
 z139:=Tryz.sizeOf210
 v139:=Tryz.zeroValue210
 t146:=Tryz.underlying211
 a146:=Tryz.isAgg211
 z146:=Tryz.sizeOf211
 v146:=Tryz.zeroValue211
 g1:=by kernel_rfl
 g3:=by kernel_rfl
 g4:=by kernel_rfl
end Go.Proofs
end
