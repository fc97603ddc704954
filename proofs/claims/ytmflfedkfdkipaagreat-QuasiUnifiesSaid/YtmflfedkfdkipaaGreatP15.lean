import Derived.Shelf.SlSortCmp.WholeK
import Derived.Test.YtmflfedkfdkipaaGreatP14
set_option linter.all false
set_option maxRecDepth 100000
namespace Go.Proofs
open Go
def Tryz.fX:Shelf.Ren where
 f:=fun x=>match x with
  |6=>73|15=>110
  |14=>109|28=>151
  |29=>152|20=>143
  |21=>144|22=>145
  |23=>146|24=>147
  |25=>148|26=>149
  |27=>150|46=>167
  |47=>168|48=>169
  |49=>170|50=>171
  |57=>175|n=>n
 t:=fun x=>match x with
  |22=>93|24=>107
  |25=>169|3=>3
  |39=>212|0=>0
  |53=>246|55=>213
  |4=>4|46=>240
  |45=>239|50=>52
  |5=>5|9=>9
  |66=>255|70=>259
  |76=>264|77=>265
  |n=>n
 g:=fun x=>x
def Tryz.oI:SlLaysF0.n6 Tryz.prog Tryz.fX where
 mixed:=rfl
 f6:=⟨Tryz.f73.name,by decide,Tryz.func73.trans rfl⟩
 f14:=⟨Tryz.f109.name,by decide,Tryz.func109.trans rfl⟩
 f15:=Tryz.func110.trans rfl
 f20:=⟨Tryz.f143.name,by decide,Tryz.func143.trans rfl⟩
 f21:=⟨Tryz.f144.name,by decide,Tryz.func144.trans rfl⟩
 f22:=⟨Tryz.f145.name,by decide,Tryz.func145.trans rfl⟩
 f23:=⟨Tryz.f146.name,by decide,Tryz.func146.trans rfl⟩
 f24:=⟨Tryz.f147.name,by decide,Tryz.func147.trans rfl⟩
 f25:=⟨Tryz.f148.name,by decide,Tryz.func148.trans rfl⟩
 f26:=⟨Tryz.f149.name,by decide,Tryz.func149.trans rfl⟩
 f27:=⟨Tryz.f150.name,by decide,Tryz.func150.trans rfl⟩
 f28:=Tryz.func151.trans rfl
 f29:=Tryz.func152.trans rfl
 f46:=⟨Tryz.f167.name,by decide,Tryz.func167.trans rfl⟩
 f47:=Tryz.func168.trans rfl
 f48:=Tryz.func169.trans rfl
 f49:=⟨Tryz.f170.name,by decide,Tryz.func170.trans rfl⟩
 f50:=⟨Tryz.f171.name,by decide,Tryz.func171.trans rfl⟩
 f57:=⟨Tryz.f175.name,by decide,Tryz.func175.trans rfl⟩
 t0:=Tryz.underlying0
 a0:=Tryz.isAgg0
 z0:=Tryz.sizeOf0
 v0:=Tryz.zeroValue0
 t3:=Tryz.underlying3
 a3:=Tryz.isAgg3
 z3:=Tryz.sizeOf3
 v3:=Tryz.zeroValue3
 t4:=Tryz.underlying4
 a4:=Tryz.isAgg4
 z4:=Tryz.sizeOf4
 v4:=Tryz.zeroValue4
 t5:=Tryz.underlying5
 a5:=Tryz.isAgg5
 z5:=Tryz.sizeOf5
 v5:=Tryz.zeroValue5
 t9:=Tryz.underlying9
 a9:=Tryz.isAgg9
 z9:=Tryz.sizeOf9
 v9:=Tryz.zeroValue9
 t22:=Tryz.underlying93
 a22:=Tryz.isAgg93
 z22:=Tryz.sizeOf93
 v22:=Tryz.zeroValue93
 t25:=Tryz.underlying169
 a25:=Tryz.isAgg169
 z25:=Tryz.sizeOf169
 v25:=Tryz.zeroValue169
 t39:=Tryz.underlying212
 a39:=Tryz.isAgg212
 z39:=Tryz.sizeOf212
 v39:=Tryz.zeroValue212
 t45:=Tryz.underlying239
 a45:=Tryz.isAgg239
 z45:=Tryz.sizeOf239
 v45:=Tryz.zeroValue239
 t46:=Tryz.underlying240
 a46:=Tryz.isAgg240
 z46:=Tryz.sizeOf240
 v46:=Tryz.zeroValue240
 t50:=Tryz.underlying52
 a50:=Tryz.isAgg52
 z50:=Tryz.sizeOf52
 v50:=Tryz.zeroValue52
 t53:=Tryz.underlying246
 a53:=Tryz.isAgg246
 z53:=Tryz.sizeOf246
 v53:=Tryz.zeroValue246
 t55:=Tryz.underlying213
 a55:=Tryz.isAgg213
 z55:=Tryz.sizeOf213
 v55:=Tryz.zeroValue213
 t66:=Tryz.underlying255
 a66:=Tryz.isAgg255
 z66:=Tryz.sizeOf255
 v66:=Tryz.zeroValue255
 t70:=Tryz.underlying259
 a70:=Tryz.isAgg259
 z70:=Tryz.sizeOf259
 v70:=Tryz.zeroValue259
 t76:=Tryz.underlying264
 a76:=Tryz.isAgg264
 z76:=Tryz.sizeOf264
 v76:=Tryz.zeroValue264
 t77:=Tryz.underlying265
 a77:=Tryz.isAgg265
 z77:=Tryz.sizeOf265
 v77:=Tryz.zeroValue265
end Go.Proofs
