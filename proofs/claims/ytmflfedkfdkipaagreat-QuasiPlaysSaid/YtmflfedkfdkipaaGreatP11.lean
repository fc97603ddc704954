import Derived.Test.YtmflfedkfdkipaaGreatP10
set_option linter.all false
namespace Go.Proofs
open Go Go.Rx Go.Vx Tryz
instance:TbP prog tb:=⟨tb_ok⟩
set_option maxRecDepth 20000
set_option maxHeartbeats 4000000
set_option synthInstance.maxSize 4000
set_option synthInstance.maxHeartbeats 200000
structure nJ where
 Feat:Int
 Value:Int
def sH(x:nJ):X U:=[.int .i64 x.Feat,.int .i64 x.Value]
instance{a0:Int}{a1:Int}:DeC sH [.int .i64 a0,.int .i64 a1] (nJ.mk a0 a1):=⟨rfl⟩
theorem qjg(n:Nat)(x:nJ):aG n (sH x):=by simp only[sH,aG,aT,true_and,and_true]
theorem qr2(x:nJ):(sH x).length=2:=rfl
instance:fX sH 2:=⟨qr2⟩
instance:BF sH:=⟨qjg⟩
structure oO where
 Name:X Yv
 Code:X Int
 Supers:X Int
 Feats:X nJ
def jW(x:oO):X U:=[.str x.Name,.isl false (x.Code.map (cI .u64)),.isl false (x.Supers.map (cI .i64)),.isl false (x.Feats.map sH)]
instance{a0:X Yv}{a1:X Int}{a2:X Int}{a3:X nJ}:DeC jW [.str a0,.isl false (a1.map (cI .u64)),.isl false (a2.map (cI .i64)),.isl false (a3.map sH)] (oO.mk a0 a1 a2 a3):=⟨rfl⟩
theorem Ia(n:Nat)(x:oO):aG n (jW x):=by simp only[jW,aG,aT,true_and,and_true];exact⟨sJ _ (fun q=>xg _ .u64 q) _,sJ _ (fun q=>xg _ .i64 q) _,sJ _ (fun q=>qjg _ q) _⟩
theorem g?(x:oO):(jW x).length=4:=rfl
instance:fX jW 4:=⟨g?⟩
instance:BF jW:=⟨Ia⟩
instance(n:Nat)(x:oO):m9 n (jW x):=⟨Ia n x⟩
structure wK where
 Name:X Yv
 Intro:Int
def mN(x:wK):X U:=[.str x.Name,.int .i64 x.Intro]
instance{a0:X Yv}{a1:Int}:DeC mN [.str a0,.int .i64 a1] (wK.mk a0 a1):=⟨rfl⟩
theorem Rk(n:Nat)(x:wK):aG n (mN x):=by simp only[mN,aG,aT,true_and,and_true]
theorem qoi(x:wK):(mN x).length=2:=rfl
instance:fX mN 2:=⟨qoi⟩
instance:BF mN:=⟨Rk⟩
structure cZ where
 Types:X oO
 Feats:X wK
def gE(x:cZ):X U:=[.isl false (x.Types.map jW),.isl false (x.Feats.map mN)]
theorem qeu(n:Nat)(x:cZ):aG n (gE x):=by simp only[gE,aG,aT,true_and,and_true];exact⟨sJ _ (fun q=>Ia _ q) _,sJ _ (fun q=>Rk _ q) _⟩
theorem qlf(x:cZ):(gE x).length=2:=rfl
instance:fX gE 2:=⟨qlf⟩
instance(n:Nat)(x:cZ):m9 n (gE x):=⟨qeu n x⟩
theorem qgc(K:Nat)(b:B)(sz:Nat)(x:cZ):gU K b sz (gE x)=gE x:=tP _ _ _ (qeu K x)
structure qF where
 Feat:X Yv
 Value:X Yv
def lA(x:qF):X U:=[.str x.Feat,.str x.Value]
instance{a0:X Yv}{a1:X Yv}:DeC lA [.str a0,.str a1] (qF.mk a0 a1):=⟨rfl⟩
theorem qg8(n:Nat)(x:qF):aG n (lA x):=by simp only[lA,aG,aT,true_and,and_true]
theorem qmo(x:qF):(lA x).length=2:=rfl
instance:fX lA 2:=⟨qmo⟩
instance:BF lA:=⟨qg8⟩
structure bG where
 Name:X Yv
 Supers:X (X Yv)
 Feats:X qF
def bL(x:bG):X U:=[.str x.Name,.isl false (x.Supers.map cS),.isl false (x.Feats.map lA)]
theorem qg9(n:Nat)(x:bG):aG n (bL x):=by simp only[bL,aG,aT,true_and,and_true];exact⟨sJ _ (fun q=>z71 _ q) _,sJ _ (fun q=>qg8 _ q) _⟩
theorem qmp(x:bG):(bL x).length=3:=rfl
instance:fX bL 3:=⟨qmp⟩
instance:BF bL:=⟨qg9⟩
instance(n:Nat)(x:bG):m9 n (bL x):=⟨qg9 n x⟩
structure dN where
 Name:X Yv
 Code:X Int
instance:Inhabited dN:=⟨.mk default default⟩
def fF(x:dN):X U:=[.str x.Name,.isl false (x.Code.map (cI .u64))]
instance{a0:X Yv}{a1:X Int}:DeC fF [.str a0,.isl false (a1.map (cI .u64))] (dN.mk a0 a1):=⟨rfl⟩
theorem qkt(n:Nat)(x:dN):aG n (fF x):=by simp only[fF,aG,aT,true_and,and_true];exact sJ _ (fun q=>xg _ .u64 q) _
theorem SA(x:dN):(fF x).length=2:=rfl
instance:fX fF 2:=⟨SA⟩
instance:BF fF:=⟨qkt⟩
instance(n:Nat)(x:dN):m9 n (fF x):=⟨qkt n x⟩
structure aR where
 Feat:Int
 To:Int
def bF(x:aR):X U:=[.int .i64 x.Feat,.int .i64 x.To]
instance{a0:Int}{a1:Int}:DeC bF [.int .i64 a0,.int .i64 a1] (aR.mk a0 a1):=⟨rfl⟩
theorem kj(n:Nat)(x:aR):aG n (bF x):=by simp only[bF,aG,aT,true_and,and_true]
theorem vI(x:aR):(bF x).length=2:=rfl
instance:fX bF 2:=⟨vI⟩
instance:BF bF:=⟨kj⟩
instance(n:Nat)(x:aR):m9 n (bF x):=⟨kj n x⟩
structure aO where
 Typex:Int
 Arcs:X aR
def b7(x:aO):X U:=[.int .i64 x.Typex,.isl false (x.Arcs.map bF)]
instance{a0:Int}{a1:X aR}:DeC b7 [.int .i64 a0,.isl false (a1.map bF)] (aO.mk a0 a1):=⟨rfl⟩
theorem vJ(n:Nat)(x:aO):aG n (b7 x):=by simp only[b7,aG,aT,true_and,and_true];exact sJ _ (fun q=>kj _ q) _
theorem vd(x:aO):(b7 x).length=2:=rfl
instance:fX b7 2:=⟨vd⟩
instance:BF b7:=⟨vJ⟩
instance(n:Nat)(x:aO):m9 n (b7 x):=⟨vJ n x⟩
structure GFS where
 Nodes:X aO
def kI(x:GFS):X U:=[.isl false (x.Nodes.map b7)]
theorem jq(n:Nat)(x:GFS):aG n (kI x):=by simp only[kI,aG,aT,true_and,and_true];exact sJ _ (fun q=>vJ _ q) _
theorem qvc(x:GFS):(kI x).length=1:=rfl
instance:fX kI 1:=⟨qvc⟩
instance:BF kI:=⟨jq⟩
instance(n:Nat)(x:GFS):m9 n (kI x):=⟨jq n x⟩
instance:uS tb 27 [.nils,.nils] [(0,1),(1,1)]:=⟨vV sU.h B2.h rfl qq1⟩
instance:uS tb 39 [.nils] [(0,1)]:=⟨vV fT.h hJ.h rfl qq1⟩
instance:uS tb 79 [.int .i64 0,.nils] [(0,1),(1,1)]:=⟨vV u9.h mX.h rfl qq1⟩
instance:uS tb 105 [.int .i64 0,.int .i64 0] [(0,1),(1,1)]:=⟨vV tH.h hX.h rfl qq1⟩
instance Zr:uS tb 143 [.str [],.nils] [(0,1),(1,1)]:=⟨vV QR.h rG.h rfl qq1⟩
instance:uS tb 147 [.str [],.nils,.nils,.nils] [(0,1),(1,1),(2,1),(3,1)]:=⟨vV GH.h I1.h rfl qq1⟩
instance:uS tb 153 [.str [],.nils,.nils] [(0,1),(1,1),(2,1)]:=⟨vV w4.h wO.h rfl qq1⟩
instance:uS tb 156 [.str [],.str []] [(0,1),(1,1)]:=⟨vV Nc.h TG.h rfl qq1⟩
instance:uS tb 186 [.int .i64 0,.int .i64 0] [(0,1),(1,1)]:=⟨vV Nb.h Ur.h rfl qq1⟩
instance:uS tb 197 [.str [],.int .i64 0] [(0,1),(1,1)]:=⟨vV Na.h Uq.h rfl qq1⟩
abbrev S2(a)(b:Nat):=([(1,.bv (cL (cI .u64)) a 141 1 b),(0,.row [] 141)]:X (Nat×B))
abbrev mM(a)(b:Nat):=([(0,.bv cS a 9 1 b)]:X (Nat×B))
abbrev Hq(a)(b:Nat)(c):=([(1,.bv (cI .i64) a 3 1 b),(0,.row [.iM b7 c] 39)]:X (Nat×B))
abbrev DP(a)(b:Nat):=([(0,.bv (cI .i64) a 3 1 b)]:X (Nat×B))
abbrev Ho:=([(0,.row [.str [],.nils,.nils] 153)]:X (Nat×B))
abbrev Ph(a:U)(b)(c)(d:Nat):=([(2,.row [a,.iM (cI .u64) b] 143),(1,.bv fF c 143 2 d)]:X (Nat×B))
abbrev qv4:=([(1,.row [.str ([70]),.str ([116,111,112]),.str ([71]),.str ([116,111,112])] 156),(0,.row [.nils,.nils] 27)]:X (Nat×B))
def mn: V (Int):=
 some 0
def Z7(p1:X bG):Nat->Int->V (Int)
 |0,_=>none|m1+1,z5=>cond (decide (z5<(p1.length:Int))) (a8 (a8 (aB p1 z5) fun x7=>cond (decide ((x7.Supers.length:Int)>256)) (some true) (a8 (aB p1 z5) fun x10=>some (decide ((x10.Feats.length:Int)>256)))) fun JM=>cond JM (some 7) ((Z7 p1 m1) (IntKind.i64.wrap (z5+1)))) (mn)
def Qn(n:Nat)(p1:X bG):V (Int):=
 cond (decide ((p1.length:Int)>256)) (some 7) (Z7 p1 n 0)
theorem qpa(n:Nat)(p1:X bG)(r:Int)(O:Qn n p1=some r):cY prog 121 [.isl false (p1.map bL)] (.int .i64 r):=by unfold Qn at O;refine lG 29 V8 ?_;refine gF O ?_ ?_<;>intro h2 O;exact gx O;refine go ?_;refine oG (Z7 p1) (fun z5=>[(0,.iM bL p1),(3,.i6 z5)]) (fun _=>⟨[],0⟩) (pK mn [] ⟨[],0⟩) O (rY ?_) ?_;intro O;unfold mn at O;exact gx O;intro m1 z5 O;unfold Z7 at O;refine gG O ?_ ?_<;>intro h6 O;obtain⟨JM,eB,O⟩:=aI O;refine gn ?_;refine nE [(0,.iM bL p1),(3,.i6 z5),(28,.bool JM)] ⟨[],0⟩ ?_ ?_;refine gF O ?_ ?_<;>intro i7 O;exact gx O;exact wx O;obtain⟨x7,h8,eB⟩:=aI eB;refine gI h8 ?_;rcases gB eB with⟨h9,eB⟩|⟨h9,eB⟩;exact gy eB;obtain⟨x10,jT,eB⟩:=aI eB;obtain rfl:=sI eB;refine gI jT ?_;exact mS;exact wx O
def YU(n:Nat)(p1:Int):V (PE):=
 a8 (cond (decide (p1>=48)) (some (decide (p1<=57))) (some false)) fun b3=>some b3
theorem qi7(n:Nat)(p1:Int)(r:PE)(O:YU n p1=some r):cY prog 176 [.int .u8 p1] (.bool r):=by unfold YU at O;refine lG 9 IZ ?_;obtain⟨b3,h4,O⟩:=aI O;refine gr ?_;refine nE [(2,.bool b3)] ⟨[],0⟩ ?_ ?_;exact gx O;refine go ?_;rcases gB h4 with⟨h2,h4⟩|⟨h2,h4⟩;exact gy h4;exact gy h4
def vq(n:Nat)(p1:Int):V (PE):=
 a8 (cond (decide (p1>=65)) (some (decide (p1<=90))) (some false)) fun b3=>some b3
theorem qp2(n:Nat)(p1:Int)(r:PE)(O:vq n p1=some r):cY prog 178 [.int .u8 p1] (.bool r):=by unfold vq at O;refine lG 9 UC ?_;obtain⟨b3,h4,O⟩:=aI O;refine gr ?_;refine nE [(2,.bool b3)] ⟨[],0⟩ ?_ ?_;exact gx O;refine go ?_;rcases gB h4 with⟨h2,h4⟩|⟨h2,h4⟩;exact gy h4;exact gy h4
def Qt(n:Nat)(p1:Int):V (PE):=
 a8 (cond (decide (p1>=97)) (some (decide (p1<=122))) (some false)) fun b3=>some b3
theorem qi8(n:Nat)(p1:Int)(r:PE)(O:Qt n p1=some r):cY prog 179 [.int .u8 p1] (.bool r):=by unfold Qt at O;refine lG 9 IY ?_;obtain⟨b3,h4,O⟩:=aI O;refine gr ?_;refine nE [(2,.bool b3)] ⟨[],0⟩ ?_ ?_;exact gx O;refine go ?_;rcases gB h4 with⟨h2,h4⟩|⟨h2,h4⟩;exact gy h4;exact gy h4
def Qb(n:Nat)(p1:Int)(p2:PE):V (PE):=
 a8 (a8 (YU n p1) fun r3=>cond r3 (some true) (cond (p1==45) (some true) (cond p2 (a8 (vq n p1) fun r8=>cond r8 (some true) (cond (!p2) (a8 (Qt n p1) fun fV=>some fV) (some false))) (cond (!p2) (a8 (Qt n p1) fun oI=>some oI) (some false))))) fun tW=>some tW
theorem qrk(n:Nat)(p1:Int)(p2:PE)(r:PE)(O:Qb n p1 p2=some r):cY prog 177 [.int .u8 p1,.bool p2] (.bool r):=by
 unfold Qb at O;refine eL 26 UD ?_;obtain⟨tW,dO,O⟩:=aI O;refine gr ?_;refine nE [(4,.bool tW)] ⟨[],0⟩ ?_ ?_;exact gx O;obtain⟨r3,h4,dO⟩:=aI dO;refine go ?_;refine aK rfl (pC (qi7 n p1 r3 h4) _) IZ ?_;refine go ?_;rcases gB dO with⟨h5,dO⟩|⟨h5,dO⟩;obtain rfl:=sI dO;refine go ?_
 repeat refine RS.no (GS rfl rfl rfl) rfl rfl ?_
 refine go ?_
 repeat refine RS.no (GS rfl rfl rfl) rfl rfl ?_
 refine go ?_;exact mS;refine go ?_;rcases gB dO with⟨h6,dO⟩|⟨h6,dO⟩;obtain rfl:=sI dO;refine go ?_
 repeat refine RS.no (GS rfl rfl rfl) rfl rfl ?_
 refine go ?_
 repeat refine RS.no (GS rfl rfl rfl) rfl rfl ?_
 refine go ?_;exact mS;refine go ?_;rcases gB dO with⟨h7,dO⟩|⟨h7,dO⟩;obtain⟨r8,h9,dO⟩:=aI dO;refine go ?_;refine aK rfl (pC (qp2 n p1 r8 h9) _) UC ?_;refine go ?_;rcases gB dO with⟨gC,dO⟩|⟨gC,dO⟩;obtain rfl:=sI dO;refine go ?_
 repeat refine RS.no (GS rfl rfl rfl) rfl rfl ?_
 refine go ?_;exact mS;refine go ?_;rcases gB dO with⟨jT,dO⟩|⟨jT,dO⟩;obtain⟨fV,eB,dO⟩:=aI dO;obtain rfl:=sI dO;refine go ?_;refine aK rfl (pC (qi8 n p1 fV eB) _) IY ?_;refine go ?_;exact mS;exact gy dO;refine go ?_;rcases gB dO with⟨i7,dO⟩|⟨i7,dO⟩;obtain⟨oI,qL,dO⟩:=aI dO;obtain rfl:=sI dO;refine go ?_;refine aK rfl (pC (qi8 n p1 oI qL) _) IY ?_;refine go ?_;exact mS;exact gy dO
def ul: V (PE):=
 some true
def ZB(p1:X Yv)(p2:PE)(n:Nat):Nat->Int->V (PE)
 |0,_=>none|m1+1,dS=>cond (decide (dS<(p1.length:Int))) (a8 (XS p1 dS) fun D9=>a8 (Qb n D9 p2) fun KO=>cond (!KO) (some false) ((ZB p1 p2 n m1) (IntKind.i64.wrap (dS+1)))) (ul)
def Ij(n:Nat)(p1:X Yv)(p2:PE):V (PE):=
 a8 (cond (decide ((p1.length:Int)<1)) (some true) (cond (decide ((p1.length:Int)>32)) (some true) (a8 (XS p1 0) fun x5=>a8 (YU n x5) fun r7=>cond r7 (some true) (a8 (XS p1 0) fun x10=>some (x10==45))))) fun JM=>cond JM (some false) (ZB p1 p2 n n 0)
theorem qi9(n:Nat)(p1:X Yv)(p2:PE)(r:PE)(O:Ij n p1 p2=some r):cY prog 173 [.str p1,.bool p2] (.bool r):=by unfold Ij at O;refine eL 36 J0 ?_;obtain⟨JM,eB,O⟩:=aI O;refine gr ?_;refine nE [(0,.str p1),(1,.bool p2),(23,.bool JM)] ⟨[],0⟩ ?_ ?_;refine gF O ?_ ?_<;>intro i7 O;exact gx O;refine go ?_;refine oG (ZB p1 p2 n) (fun dS=>[(0,.str p1),(1,.bool p2),(5,.i6 dS)]) (fun _=>⟨[],0⟩) (pK ul [] ⟨[],0⟩) O (rY ?_) ?_;intro O;unfold ul at O;exact gx O;intro m1 dS O;unfold ZB at O;refine go ?_;refine aY (u:=.i6 (p1.length:Int)) rfl (H5 rfl rfl rfl (by simp only[w6,KI.h])) ?_;refine gG O ?_ ?_<;>intro kE O;obtain⟨D9,tU,KO,tD,O⟩:=bO O;refine go ?_;refine aY (u:=.int .u8 D9) rfl (oh KI.h rfl rfl tU) ?_;refine go ?_;refine aK rfl (pC (qrk n D9 p2 KO tD) _) UD ?_;refine gF O ?_ ?_<;>intro pJ O;exact gx O;exact wx O;exact wx O;refine go ?_;refine aY (u:=.i6 (p1.length:Int)) rfl (H5 rfl rfl rfl (by simp only[w6,KI.h])) ?_;refine go ?_;rcases gB eB with⟨h3,eB⟩|⟨h3,eB⟩;exact gy eB;refine go ?_;refine RS.w (u:=.i6 (p1.length:Int)) rfl (H5 rfl rfl rfl (by simp only[w6,KI.h])) ?_;refine go ?_;rcases gB eB with⟨h4,eB⟩|⟨h4,eB⟩;exact gy eB;obtain⟨x5,h6,eB⟩:=aI eB;obtain⟨r7,h8,eB⟩:=aI eB;refine go ?_;refine RS.w (u:=.int .u8 x5) rfl (oh KI.h rfl rfl h6) (aK rfl (pC (qi7 n x5 r7 h8) _) IZ ?_);refine go ?_;rcases gB eB with⟨h9,eB⟩|⟨h9,eB⟩;exact gy eB;obtain⟨x10,jT,eB⟩:=aI eB;obtain rfl:=sI eB;refine go ?_;refine RS.w (u:=.int .u8 x10) rfl (oh KI.h rfl rfl jT) ?_;refine go ?_;exact mS
def Qc(n:Nat)(p1:X Yv):V (PE):=
 a8 (Ij n p1 false) fun r2=>some r2
theorem qrj(n:Nat)(p1:X Yv)(r:PE)(O:Qc n p1=some r):cY prog 157 [.str p1] (.bool r):=by unfold Qc at O;refine lG 5 UN ?_;obtain⟨r2,h3,O⟩:=aI O;refine go ?_;refine aK rfl (pC (qi9 n p1 false r2 h3) _) J0 ?_;exact gx O
def ld: V (Int):=
 some (-1)
def YZ(p1:X bG)(p2:X Yv):Nat->Int->V (Int)
 |0,_=>none|m1+1,z6=>cond (decide (z6<(p1.length:Int))) (a8 (aB p1 z6) fun x8=>cond (lO x8.Name p2) (some z6) ((YZ p1 p2 m1) (IntKind.i64.wrap (z6+1)))) (ld)
def HB(n:Nat)(p1:X bG)(p2:X Yv):V (Int):=
 YZ p1 p2 n 0
theorem Io(n:Nat)(p1:X bG)(p2:X Yv)(r:Int)(O:HB n p1 p2=some r):cY prog 158 [.isl false (p1.map bL),.str p2] (.int .i64 r):=by unfold HB at O;refine eL 20 rR ?_;refine go ?_;refine oG (YZ p1 p2) (fun z6=>[(0,.iM bL p1),(1,.str p2),(5,.i6 z6)]) (fun _=>⟨[],0⟩) (pK ld [] ⟨[],0⟩) O (rY ?_) ?_;intro O;unfold ld at O;exact gx O;intro m1 z6 O;unfold YZ at O;refine gG O ?_ ?_<;>intro h7 O;obtain⟨x8,h9,O⟩:=aI O;refine gI h9 ?_;refine aY (u:=.bool (lO x8.Name p2)) rfl (FA rfl rfl rfl rfl) ?_;refine gF O ?_ ?_<;>intro gC O;exact gx O;exact wx O;exact wx O
def mu: V (Int):=
 some 0
def Z9(p1:X bG)(n:Nat):Nat->Int->V (Int)
 |0,_=>none|m1+1,z4=>cond (decide (z4<(p1.length:Int))) (a8 (aB p1 z4) fun x6=>a8 (Qc n x6.Name) fun r8=>cond (!r8) (some 1) (a8 (aB p1 z4) fun mT=>a8 (HB n p1 mT.Name) fun mJ=>cond (decide (mJ<z4)) (some 4) ((Z9 p1 n m1) (IntKind.i64.wrap (z4+1))))) (mu)
def vn(n:Nat)(p1:X bG):V (Int):=
 Z9 p1 n n 0
theorem qp8(n:Nat)(p1:X bG)(r:Int)(O:vn n p1=some r):cY prog 122 [.isl false (p1.map bL)] (.int .i64 r):=by unfold vn at O;refine lG 26 V7 ?_;refine go ?_;refine oG (Z9 p1 n) (fun z4=>[(0,.iM bL p1),(3,.i6 z4)]) (fun _=>⟨[],0⟩) (pK mu [] ⟨[],0⟩) O (rY ?_) ?_;intro O;unfold mu at O;exact gx O;intro m1 z4 O;unfold Z9 at O;refine gG O ?_ ?_<;>intro h5 O;obtain⟨x6,h7,r8,h9,O⟩:=bO O;refine gI h7 ?_;refine aK rfl (pC (qrj n x6.Name r8 h9) _) UN ?_;refine gF O ?_ ?_<;>intro gC O;exact gx O;obtain⟨mT,g9,mJ,i7,O⟩:=bO O;refine gI g9 ?_;refine aK rfl (pC (Io n p1 mT.Name mJ i7) _) rR ?_;refine gF O ?_ ?_<;>intro lV O;exact gx O;exact wx O;exact wx O
def uf: V (PE):=
 some false
def Jg(p1:X (X Yv))(p2:X Yv):Nat->Int->V (PE)
 |0,_=>none|m1+1,z6=>cond (decide (z6<(p1.length:Int))) (a8 (aB p1 z6) fun x8=>cond (lO x8 p2) (some true) ((Jg p1 p2 m1) (IntKind.i64.wrap (z6+1)))) (uf)
def FH(n:Nat)(p1:X (X Yv))(p2:X Yv):V (PE):=
 Jg p1 p2 n 0
theorem O4(n:Nat)(p1:X (X Yv))(p2:X Yv)(r:PE)(O:FH n p1 p2=some r):cY prog 126 [.isl false (p1.map cS),.str p2] (.bool r):=by unfold FH at O;refine eL 18 mQ ?_;refine go ?_;refine oG (Jg p1 p2) (fun z6=>[(0,.iM cS p1),(1,.str p2),(5,.i6 z6)]) (fun _=>⟨[],0⟩) (pK uf [] ⟨[],0⟩) O (rY ?_) ?_;intro O;unfold uf at O;exact gx O;intro m1 z6 O;unfold Jg at O;refine gG O ?_ ?_<;>intro h7 O;obtain⟨x8,h9,O⟩:=aI O;refine gI h9 ?_;refine aY (u:=.bool (lO x8 p2)) rfl (FA rfl rfl rfl rfl) ?_;refine gF O ?_ ?_<;>intro gC O;exact gx O;exact wx O;exact wx O
def sa(z4:Int)(cA:Int->V (Int)): V (Int):=
 cA (IntKind.i64.wrap (z4+1))
def ZF(p1:X bG)(n:Nat)(z4:Int)(cA:Int->V (Int))(x6:bG):Nat->Int->V (Int)
 |0,_=>none|m2+1,eJ=>
  cond (decide (eJ<(x6.Supers.length:Int))) (a8 (aB x6.Supers eJ) fun vW=>
   a8 (HB n p1 vW) fun XR=>cond (decide (XR<0)) (some 5) (a8 (w7 x6.Supers 0 eJ) fun lD=>
    a8 (aB x6.Supers eJ) fun BT=>
    a8 (FH n lD BT) fun qS=>cond qS (some 4) ((ZF p1 n z4 cA x6 m2) (IntKind.i64.wrap (eJ+1))))) (sa z4 cA)
def sb: V (Int):=
 some 0
def LH(p1:X bG)(n:Nat):Nat->Int->V (Int)
 |0,_=>none|m1+1,z4=>cond (decide (z4<(p1.length:Int))) (a8 (aB p1 z4) fun x6=>ZF p1 n z4 (LH p1 n m1) x6 n 0) (sb)
def yg(n:Nat)(p1:X bG):V (Int):=
 LH p1 n n 0
theorem qms(n:Nat)(p1:X bG)(r:Int)(O:yg n p1=some r):cY prog 123 [.isl false (p1.map bL)] (.int .i64 r):=by unfold yg at O;refine lG 38 V6 ?_;refine go ?_;refine oG (LH p1 n) (fun z4=>[(0,.iM bL p1),(3,.i6 z4)]) (fun _=>⟨[],0⟩) (pK sb [] ⟨[],0⟩) O (rY ?_) ?_;intro O;unfold sb at O;exact gx O;intro m1 z4 O;unfold LH at O;refine gG O ?_ ?_<;>intro h5 O;obtain⟨x6,h7,O⟩:=aI O;refine gI h7 ?_;refine oG (ZF p1 n z4 (LH p1 n m1) x6) (fun eJ=>[(0,.iM bL p1),(3,.i6 z4),(4,.iM cS x6.Supers),(5,.i6 eJ)]) (fun _=>⟨[],0⟩) (pK (sa z4 (LH p1 n m1)) [(0,.iM bL p1),(3,.i6 z4)] ⟨[],0⟩) O (rY ?_) ?_;intro O;unfold sa at O;exact wx O;intro m2 eJ O;unfold ZF at O;refine gG O ?_ ?_<;>intro eB O;obtain⟨vW,lV,XR,jK,O⟩:=bO O;refine gI lV ?_;refine aK rfl (pC (Io n p1 vW XR jK) _) rR ?_;refine gF O ?_ ?_<;>intro dO O;exact gx O;obtain⟨lD,tE,O⟩:=aI O;obtain⟨tU,uP⟩:=xf cS .i64 tE;obtain⟨BT,pJ,qS,o4,O⟩:=bO O;refine go ?_;refine dE [] ?_;refine gd ?_;refine aV (u:=.iM cS lD) rfl (L1 rfl MD (MC rfl) (Oc cS jZ.h (bB I0.h) N6 tU uP)) ?_;refine gJ pJ ?_;refine dK rfl (pC (O4 n lD BT qS o4)) mQ ?_;refine bC ⟨by kernel_rfl,trivial,?_⟩;refine gF O ?_ ?_<;>intro EG O;exact gx O;exact wx O;exact wx O;exact wx O
def mq: V (PE):=
 some true
def Z8(p1:bG)(p2:X (X Yv))(n:Nat):Nat->Int->V (PE)
 |0,_=>none|m1+1,z8=>cond (decide (z8<(p1.Supers.length:Int))) (a8 (aB p1.Supers z8) fun x10=>a8 (FH n p2 x10) fun fV=>cond (!fV) (some false) ((Z8 p1 p2 n m1) (IntKind.i64.wrap (z8+1)))) (mq)
def vm(n:Nat)(p1:bG)(p2:X (X Yv)):V (PE):=
 Z8 p1 p2 n n 0
theorem qp9(n:Nat)(p1:bG)(p2:X (X Yv))(r:PE)(O:vm n p1 p2=some r):cY prog 159 [.agg (bL p1),.isl false (p2.map cS)] (.bool r):=by unfold vm at O;refine eL 21 UM ?_;refine go ?_;refine oG (Z8 p1 p2 n) (fun z8=>[(1,.iM cS p2),(2,.ptr 0 0 0),(5,.i6 z8)]) (fun _=>⟨[(0,.row (bL p1) 153)],1⟩) (pK mq [] ⟨[(0,.row (bL p1) 153)],1⟩) O (rY ?_) ?_;intro O;unfold mq at O;exact gx O;intro m1 z8 O;unfold Z8 at O;refine gG O ?_ ?_<;>intro h9 O;obtain⟨x10,jT,fV,eB,O⟩:=bO O;refine gI jT ?_;refine aK rfl (pC (O4 n p2 x10 fV eB) _) mQ ?_;refine gF O ?_ ?_<;>intro i7 O;exact gx O;exact wx O;exact wx O
def Sk(cA:PE->(X (X Yv))->V ((X (X Yv))))(M5:PE)(lB:X (X Yv)):V ((X (X Yv))):=
 cA M5 lB
def Sj(eU:Int)(i8:PE->(X Yv)->Int->V ((X (X Yv))))(zx:X Yv):V ((X (X Yv))):=
 i8 true zx (IntKind.i64.wrap (eU+1))
def sc(l7:X (X Yv))(cA:PE->(X (X Yv))->V ((X (X Yv))))(M5:PE)(DD:X Yv):V ((X (X Yv))):=
 cond M5 (aF ((l7.length+1)*16<=140737488355328/\l7.length+1<=140737488355328) (
  Sk cA M5 (l7++[DD]))) (Sk cA M5 l7)
def LI(p1:X bG)(n:Nat)(l7:X (X Yv))(cA:PE->(X (X Yv))->V ((X (X Yv)))):Nat->PE->(X Yv)->Int->V ((X (X Yv)))
 |0,_,_,_=>none|m2+1,JL,KN,eU=>cond (decide (eU<(p1.length:Int))) (a8 (a8 (aB p1 eU) fun xZ=>a8 (FH n l7 xZ.Name) fun XQ=>cond XQ (some true) (a8 (aB p1 eU) fun pZ=>a8 (vm n pZ l7) fun jM=>some (!jM))) fun Fa=>cond Fa ((LI p1 n l7 cA m2) JL KN (IntKind.i64.wrap (eU+1))) (a8 (cond (!JL) (some true) (a8 (aB p1 eU) fun sQ=>some (kD sQ.Name KN))) fun Ez=>cond Ez (a8 (aB p1 eU) fun x47=>Sj eU (LI p1 n l7 cA m2) x47.Name) (Sj eU (LI p1 n l7 cA m2) KN))) (sc l7 cA JL KN)
def sd  (l9:X (X Yv)):V ((X (X Yv))):=
 some l9
def HE(p1:X bG)(n:Nat):Nat->PE->(X (X Yv))->V ((X (X Yv)))
 |0,_,_=>none|m1+1,b6,l7=>cond b6 (LI p1 n l7 (HE p1 n m1) n false [] 0) (sd l7)
def yh(n:Nat)(p1:X bG):V ((X (X Yv))):=
 HE p1 n n true ([]:X (X Yv))
theorem qmr(n:Nat)(p1:X bG)(r:(X (X Yv)))(O:yh n p1=some r):cY prog 124 [.isl false (p1.map bL)] (.isl false (r.map cS)):=by unfold yh at O;refine lG 52 V5 ?_;refine gr ?_;refine gr ?_;refine gr ?_;refine gV 3 9 1 1 ?_;refine nN (a3:=0) (fun m b6 l7 _=>HE p1 n m b6 l7) (fun b6 l7 t8=>[(0,.iM bL p1),(3,.vl 0 t8 0 l7.length),(4,.bool b6)]) (fun _ l7 t8=>⟨mM l7 t8,1⟩) (lH (fun l9 _=>sd l9) (fun l9 eQ=>[(3,.vl 0 eQ 0 l9.length)]) (fun l9 eQ=>⟨mM l9 eQ,1⟩)) O (nD ?_) ?_;intro l9 eQ O;unfold sd at O;refine go ?_;obtain rfl:=sI O;exact rT (us:=[.vl 0 eQ 0 l9.length]) (u:=.iM cS l9) (dT rfl (eD)) (fR 0 1);intro m1 b6 l7 t8 O;unfold HE at O;refine gG O ?_ ?_<;>intro jT O;refine go ?_;refine nN (LI p1 n l7 (HE p1 n m1)) (fun JL KN eU=>[(0,.iM bL p1),(3,.vl 0 t8 0 l7.length),(4,.bool JL),(5,.str KN),(6,.i6 eU)]) (fun _ _ _=>⟨mM l7 t8,1⟩) (lH (sc l7 (HE p1 n m1)) (fun M5 DD=>[(0,.iM bL p1),(3,.vl 0 t8 0 l7.length),(4,.bool M5),(5,.str DD)]) (fun _ _=>⟨mM l7 t8,1⟩)) O (nD ?_) ?_;intro M5 DD O;unfold sc at O;refine gr ?_;refine M7 r (fun lB _=>Sk (HE p1 n m1) M5 lB) (fun lB t25=>[(0,.iM bL p1),(3,.vl 0 t25 0 lB.length),(4,.bool M5)]) (fun lB t25=>⟨mM lB t25,1⟩) ?_ ?_;intro lB t25 O;unfold Sk at O;exact wx O;refine cF O ?_ ?_<;>intro tD O;obtain⟨o4,O⟩:=c6 O;refine go ?_;refine c5 ?_;refine c5 ?_;exact wx O;exact wx O;intro m2 JL KN eU O;unfold LI at O;refine gG O ?_ ?_<;>intro EG O;obtain⟨Fa,lE,O⟩:=aI O;refine gn ?_;refine nE [(0,.iM bL p1),(3,.vl 0 t8 0 l7.length),(4,.bool JL),(5,.str KN),(6,.i6 eU),(29,.bool Fa)] ⟨mM l7 t8,1⟩ ?_ ?_;refine gF O ?_ ?_<;>intro A3 O;exact wx O;obtain⟨Ez,kS,O⟩:=aI O;refine gn ?_;refine nE [(0,.iM bL p1),(3,.vl 0 t8 0 l7.length),(5,.str KN),(6,.i6 eU),(40,.bool Ez)] ⟨mM l7 t8,1⟩ ?_ ?_;refine gn ?_;refine Zy r (Sj eU (LI p1 n l7 (HE p1 n m1) m2)) (fun zx=>[(0,.iM bL p1),(3,.vl 0 t8 0 l7.length),(5,.str zx),(6,.i6 eU)]) (fun _=>⟨mM l7 t8,1⟩) ?_ ?_;intro zx O;unfold Sj at O;exact wx O;refine cF O ?_ ?_<;>intro sO O;obtain⟨x47,La,O⟩:=aI O;refine gI La ?_;exact cq O;exact wx O;refine go ?_;rcases gB kS with⟨xM,kS⟩|⟨xM,kS⟩;exact gy kS;obtain⟨sQ,vS,kS⟩:=aI kS;obtain rfl:=sI kS;refine gI vS ?_;refine RS.w (u:=.bool (kD sQ.Name KN)) rfl (FA rfl rfl rfl rfl) ?_;refine go ?_;exact mS;obtain⟨xZ,sP,lE⟩:=aI lE;obtain⟨XQ,BM,lE⟩:=aI lE;refine gI sP ?_;refine aK rfl (vw (O4 n l7 xZ.Name XQ BM) (sC 0 1)) mQ ?_;refine go ?_;rcases gB lE with⟨oE,lE⟩|⟨oE,lE⟩;exact gy lE;obtain⟨pZ,nM,lE⟩:=aI lE;obtain⟨jM,xN,lE⟩:=aI lE;obtain rfl:=sI lE;refine gI nM ?_;refine aK rfl (vw (qp9 n pZ l7 jM xN) (sC 0 1)) UM ?_;refine go ?_;exact mS;exact wx O;exact wx O
def Ry(fY:Int)(cA:Int->Int->V (Int))(z25:Int):V (Int):=
 cA z25 (IntKind.i64.wrap (fY+1))
def ub(p1:X bG)(n:Nat)(mA:Int):V (Int):=
 cond (mA != 1) (some 1) (a8 (yh n p1) fun kA=>cond (decide ((kA.length:Int)<(p1.length:Int))) (some 6) (some 0))
def OA(p1:X bG)(n:Nat):Nat->Int->Int->V (Int)
 |0,_,_=>none|m1+1,kG,fY=>cond (decide (fY<(p1.length:Int))) (a8 (aB p1 fY) fun oW=>cond ((oW.Supers.length:Int)==0) (Ry fY (OA p1 n m1) (IntKind.i64.wrap (kG+1))) (Ry fY (OA p1 n m1) kG)) (ub p1 n kG)
def Qp(n:Nat)(p1:X bG):V (Int):=
 a8 (Qn n p1) fun r2=>cond (r2 != 0) (some r2) (a8 (vn n p1) fun r5=>cond (r5 != 0) (some r5) (a8 (yg n p1) fun r8=>cond (r8 != 0) (some r8) (OA p1 n n 0 0)))
theorem qp7(n:Nat)(p1:X bG)(r:Int)(O:Qp n p1=some r):cY prog 90 [.isl false (p1.map bL)] (.int .i64 r):=by unfold Qp at O;refine lG 46 Ya ?_;obtain⟨r2,h3,O⟩:=aI O;refine go ?_;refine aK rfl (pC (qpa n p1 r2 h3) _) V8 ?_;refine gF O ?_ ?_<;>intro h4 O;exact gx O;obtain⟨r5,h6,O⟩:=aI O;refine go ?_;refine aK rfl (pC (qp8 n p1 r5 h6) _) V7 ?_;refine gF O ?_ ?_<;>intro h7 O;exact gx O;obtain⟨r8,h9,O⟩:=aI O;refine go ?_;refine aK rfl (pC (qms n p1 r8 h9) _) V6 ?_;refine gF O ?_ ?_<;>intro gC O;exact gx O;refine go ?_;refine D3 (OA p1 n) (fun kG fY=>[(0,.iM bL p1),(6,.i6 kG),(7,.i6 fY)]) (fun _ _=>⟨[],0⟩) (pW (ub p1 n) (fun mA=>[(0,.iM bL p1),(6,.i6 mA)]) (fun _=>⟨[],0⟩)) O (tX ?_) ?_;intro mA O;unfold ub at O;refine gF O ?_ ?_<;>intro jK O;exact gx O;obtain⟨kA,kE,O⟩:=aI O;refine go ?_;refine aK rfl (pC (qmr n p1 kA kE) _) V5 ?_;refine gF O ?_ ?_<;>intro tE O;exact gx O;exact gx O;intro m1 kG fY O;unfold OA at O;refine gG O ?_ ?_<;>intro tU O;obtain⟨oW,tD,O⟩:=aI O;refine go ?_;refine cB tD ?_;refine gn ?_;refine Zy r (Ry fY (OA p1 n m1)) (fun z25=>[(0,.iM bL p1),(6,.i6 z25),(7,.i6 fY)]) (fun _=>⟨[],0⟩) ?_ ?_;intro z25 O;unfold Ry at O;exact wx O;refine cF O ?_ ?_<;>intro pJ O;exact wx O;exact wx O;exact wx O
def Qy(p1:X (X Yv))(p2:X Yv)(z7:Int):V ((X (X Yv))):=
 a8 (cond (decide (z7<(p1.length:Int))) (a8 (aB p1 z7) fun x9=>some (lO x9 p2)) (some false)) fun b11=>cond b11 (some p1) (a8 (w7 p1 0 z7) fun iC=>
  aF (iC.length*16<=140737488355328/\iC.length<=140737488355328) (
  aF ((iC.length+1)*16<=140737488355328/\iC.length+1<=140737488355328) (
  a8 (w7 p1 z7 (p1.length:Int)) fun gQ=>
  aF (((iC++[p2]).length+gQ.length)*16<=140737488355328/\(iC++[p2]).length+gQ.length<=140737488355328) (some ((iC++[p2])++gQ)))))
def Ip(p1:X (X Yv))(p2:X Yv):Nat->Int->V ((X (X Yv)))
 |0,_=>none|m1+1,z6=>a8 (cond (decide (z6<(p1.length:Int))) (a8 (aB p1 z6) fun MJ=>some (kD MJ p2)) (some false)) fun Q1=>cond Q1 ((Ip p1 p2 m1) (IntKind.i64.wrap (z6+1))) (Qy p1 p2 z6)
def NQ(n:Nat)(p1:X (X Yv))(p2:X Yv):V ((X (X Yv))):=
 Ip p1 p2 n 0
theorem Ig(n:Nat)(p1:X (X Yv))(p2:X Yv)(r:(X (X Yv)))(O:NQ n p1 p2=some r):cY prog 116 [.isl false (p1.map cS),.str p2] (.isl false (r.map cS)):=by unfold NQ at O;refine eL 48 rV ?_;refine go ?_;refine oG (Ip p1 p2) (fun z6=>[(0,.iM cS p1),(1,.str p2),(5,.nils),(6,.i6 z6)]) (fun _=>⟨[],0⟩) (pW (Qy p1 p2) (fun z7=>[(0,.iM cS p1),(1,.str p2),(5,.nils),(6,.i6 z7)]) (fun _=>⟨[],0⟩)) O (tX ?_) ?_;intro z7 O;unfold Qy at O;obtain⟨b11,g9,O⟩:=aI O;refine gn ?_;refine nE [(0,.iM cS p1),(1,.str p2),(5,.nils),(6,.i6 z7),(32,.bool b11)] ⟨[],0⟩ ?_ ?_;refine gF O ?_ ?_<;>intro eB O;exact gx O;obtain⟨iC,lV,O⟩:=aI O;obtain⟨qL,jK⟩:=xf cS .i64 lV;obtain⟨dO,O⟩:=c6 O;refine go ?_;refine aY (u:=.iM cS iC) rfl (L1 rfl MD (MC rfl) (Oc cS jZ.h (bB I0.h) N6 qL jK)) (aY (u:=.vl 0 0 0 iC.length) (Y':=⟨[(0,.bv cS iC 9 1 0)],1⟩) rfl (pQ rfl rfl rfl rfl (rk cS iC jZ.h jZ.h I0.h rfl (NB cS N6) dO)) ?_);obtain⟨kE,O⟩:=c6 O;refine go ?_;refine c5 ?_;refine c5 ?_;obtain⟨gQ,tU,O⟩:=aI O;obtain⟨uP,tD⟩:=Ed cS .i64 tU;obtain⟨pJ,O⟩:=c6 O;refine go ?_;refine aY (u:=.iM cS gQ) rfl (L1 rfl (MC rfl) MD (Oc cS jZ.h (bB I0.h) N6 uP tD)) ?_;refine c5 ?_;refine go ?_;obtain rfl:=sI O;exact rT (us:=[.vl 0 2 0 (((iC++[p2])++gQ).length)]) (u:=.iM cS ((iC++[p2])++gQ)) (dT rfl (eD)) (fR 0 1);refine go ?_;rcases gB g9 with⟨h8,g9⟩|⟨h8,g9⟩;obtain⟨x9,gC,g9⟩:=aI g9;obtain rfl:=sI g9;refine gI gC ?_;refine RS.w (u:=.bool (lO x9 p2)) rfl (FA rfl rfl rfl rfl) ?_;refine go ?_;exact mS;exact gy g9;intro m1 z6 O;unfold Ip at O;obtain⟨Q1,sP,O⟩:=aI O;refine gn ?_;refine nE [(0,.iM cS p1),(1,.str p2),(5,.nils),(6,.i6 z6),(18,.bool Q1)] ⟨[],0⟩ ?_ ?_;refine gG O ?_ ?_<;>intro tT O;exact wx O;exact wx O;refine go ?_;rcases gB sP with⟨IR,sP⟩|⟨IR,sP⟩;obtain⟨MJ,EG,sP⟩:=aI sP;obtain rfl:=sI sP;refine gI EG ?_;refine RS.w (u:=.bool (kD MJ p2)) rfl (FA rfl rfl rfl rfl) ?_;refine go ?_;exact mS;exact gy sP
def mz  (l7:X (X Yv)):V ((X (X Yv))):=
 some l7
def ZA(p1:X bG)(n:Nat):Nat->(X (X Yv))->Int->V ((X (X Yv)))
 |0,_,_=>none|m1+1,l5,z6=>cond (decide (z6<(p1.length:Int))) (a8 (aB p1 z6) fun x9=>a8 (NQ n l5 x9.Name) fun qB=>(ZA p1 n m1) qB (IntKind.i64.wrap (z6+1))) (mz l5)
def Qo(n:Nat)(p1:X bG):V ((X (X Yv))):=
 ZA p1 n n [] 0
theorem qic(n:Nat)(p1:X bG)(r:(X (X Yv)))(O:Qo n p1=some r):cY prog 91 [.isl false (p1.map bL)] (.isl false (r.map cS)):=by unfold Qo at O;refine lG 19 Dm ?_;refine gr ?_;refine gr ?_;refine gr ?_;refine dF (tm':=fr 19 [(0,.iM bL p1),(3,.iM cS []),(4,.i6 0)]) (Gh.trans (Gh.sub (l':=[(0,.iM bL p1),(3,.nils),(4,.i6 0)]) ⟨rfl,rfl,rfl,trivial⟩) (Gh.wkS (l':=[(0,.iM bL p1),(3,.iM cS []),(4,.i6 0)]) (.cons (.refl _) (.cons (.nil false) (.cons (.refl _) .nil))))) NZ ?_;refine D3 (ZA p1 n) (fun l5 z6=>[(0,.iM bL p1),(3,.iM cS l5),(4,.i6 z6)]) (fun _ _=>⟨[],0⟩) (pW mz (fun l7=>[(3,.iM cS l7)]) (fun _=>⟨[],0⟩)) O (tX ?_) ?_;intro l7 O;unfold mz at O;exact gx O;intro m1 l5 z6 O;unfold ZA at O;refine gG O ?_ ?_<;>intro h8 O;obtain⟨x9,gC,qB,g9,O⟩:=bO O;refine gI gC ?_;refine aK rfl (pC (Ig n l5 x9.Name qB g9) _) rV ?_;exact wx O;exact wx O
def ud  (pA:X (X Yv)):V ((X (X Yv))):=
 some pA
def SG(n:Nat)(c7:X (X Yv)):Nat->(X (X Yv))->Int->V ((X (X Yv)))
 |0,_,_=>none|m2+1,lD,eU=>cond (decide (eU<(c7.length:Int))) (a8 (aB c7 eU) fun BT=>a8 (NQ n lD BT) fun qS=>(SG n c7 m2) qS (IntKind.i64.wrap (eU+1))) (ud lD)
def Rz(xY:Int)(XN:Int->(X (X Yv))->V ((X (X Yv))))(sK:X (X Yv)):V ((X (X Yv))):=
 XN (IntKind.i64.wrap (xY+1)) sK
def uc(dX:Int)(cA:Int->(X (X Yv))->V ((X (X Yv))))(AW:X (X Yv)):V ((X (X Yv))):=
 cA (IntKind.i64.wrap (dX+1)) AW
def OB(p1:X bG)(n:Nat)(dX:Int)(cA:Int->(X (X Yv))->V ((X (X Yv)))):Nat->Int->(X (X Yv))->V ((X (X Yv)))
 |0,_,_=>none|m3+1,xY,rD=>
  cond (decide (xY<(p1.length:Int))) (a8 (a8 (aB p1 xY) fun x39=>
   a8 (aB rD dX) fun sQ=>
   a8 (FH n x39.Supers sQ) fun ff=>cond ff (a8 (aB p1 xY) fun QE=>
    a8 (FH n rD QE.Name) fun QZ=>some (!QZ)) (some false)) fun b50=>cond b50 (a8 (aB p1 xY) fun W2=>
    aF ((rD.length+1)*16<=140737488355328/\rD.length+1<=140737488355328) (
    Rz xY (OB p1 n dX cA m3) (rD++[W2.Name]))) (Rz xY (OB p1 n dX cA m3) rD)) (uc dX cA rD)
def ue(n:Nat)(c7:X (X Yv)):V ((X (X Yv))):=
 SG n c7 n [] 0
def LC(p1:X bG)(n:Nat):Nat->Int->(X (X Yv))->V ((X (X Yv)))
 |0,_,_=>none|m1+1,dX,dB=>cond (decide (dX<(dB.length:Int))) (OB p1 n dX (LC p1 n m1) n 0 dB) (ue n dB)
def Qq(n:Nat)(p1:X bG)(p2:X Yv):V ((X (X Yv))):=
 a8 (HB n p1 p2) fun r3=>cond (decide (r3<0)) (some []) (LC p1 n n 0 ([p2]))
theorem qp6(n:Nat)(p1:X bG)(p2:X Yv)(r:(X (X Yv)))(O:Qq n p1 p2=some r):cY prog 125 [.isl false (p1.map bL),.str p2] (.isl false (r.map cS)):=by unfold Qq at O;refine eL 69 V4 ?_;obtain⟨r3,h4,O⟩:=aI O;refine go ?_;refine aK rfl (pC (Io n p1 p2 r3 h4) _) rR ?_;refine gF O ?_ ?_<;>intro h5 O;refine go ?_;obtain rfl:=sI O;exact rT (us:=[.nils]) (u:=.isl false []) (dT rfl (eD)) wR;refine go ?_;refine RS.step (u:=.vl 0 0 0 ([p2].length)) (Y':=⟨[(0,.bv cS ([p2]) 9 1 0)],1⟩) rfl (fN.bslv (cs:=(List.map cS [p2]).flatten) tb_ok rfl jZ.h I0.h rfl rfl rfl rfl rfl rfl rfl rfl) rfl rfl ?_;refine go ?_;refine nN (a3:=0) (fun m dX dB _=>LC p1 n m dX dB) (fun dX dB jL=>[(0,.iM bL p1),(5,.vl 0 jL 0 dB.length),(6,.i6 dX)]) (fun _ dB jL=>⟨mM dB jL,1⟩) (lH (fun c7 _=>ue n c7) (fun c7 gT=>[(5,.vl 0 gT 0 c7.length)]) (fun c7 gT=>⟨mM c7 gT,1⟩)) O (nD ?_) ?_;intro c7 gT O;unfold ue at O;refine gr ?_;refine gr ?_;refine dF (tm':=fr 69 [(5,.vl 0 gT 0 c7.length),(8,.iM cS []),(9,.i6 0)]) (Gh.trans (Gh.sub (l':=[(5,.vl 0 gT 0 c7.length),(8,.nils),(9,.i6 0)]) ⟨rfl,rfl,rfl,trivial⟩) (Gh.wkS (l':=[(5,.vl 0 gT 0 c7.length),(8,.iM cS []),(9,.i6 0)]) (.cons (.refl _) (.cons (.nil false) (.cons (.refl _) .nil))))) NZ ?_;refine D3 (SG n c7) (fun lD eU=>[(5,.vl 0 gT 0 c7.length),(8,.iM cS lD),(9,.i6 eU)]) (fun _ _=>⟨mM c7 gT,1⟩) (pW ud (fun pA=>[(8,.iM cS pA)]) (fun _=>⟨mM c7 gT,1⟩)) O (tX ?_) ?_;intro pA O;unfold ud at O;exact gx O;intro m2 lD eU O;unfold SG at O;refine gG O ?_ ?_<;>intro uP O;obtain⟨BT,pJ,qS,o4,O⟩:=bO O;refine go ?_;refine aY rfl (dZ rfl rfl (kC cS jZ.h (bB I0.h) qq3 N6 (vo rfl) pJ)) ?_;refine aY rfl (sY cS (fun x=>.str x) KI.h rfl (fun _=>rfl) rfl rfl pJ) (aK rfl (pC (Ig n lD BT qS o4) _) rV ?_);exact wx O;exact wx O;intro m1 dX dB jL O;unfold LC at O;refine gG O ?_ ?_<;>intro EG O;refine go ?_;refine nN (a3:=jL) (fun m xY rD _=>OB p1 n dX (LC p1 n m1) m xY rD) (fun xY rD XD=>[(0,.iM bL p1),(5,.vl 0 XD 0 rD.length),(6,.i6 dX),(7,.i6 xY)]) (fun _ rD XD=>⟨mM rD XD,1⟩) (lH (fun AW _=>uc dX (LC p1 n m1) AW) (fun AW zt=>[(0,.iM bL p1),(5,.vl 0 zt 0 AW.length),(6,.i6 dX)]) (fun AW zt=>⟨mM AW zt,1⟩)) O (nD ?_) ?_;intro AW zt O;unfold uc at O;exact wx O;intro m3 xY rD XD O;unfold OB at O;refine gG O ?_ ?_<;>intro lE O;obtain⟨b50,vR,O⟩:=aI O;refine gn ?_;refine nE [(0,.iM bL p1),(5,.vl 0 XD 0 rD.length),(6,.i6 dX),(7,.i6 xY),(47,.bool b50)] ⟨mM rD XD,1⟩ ?_ ?_;refine gn ?_;refine M7 r (fun sK _=>Rz xY (OB p1 n dX (LC p1 n m1) m3) sK) (fun sK zo=>[(0,.iM bL p1),(5,.vl 0 zo 0 sK.length),(6,.i6 dX),(7,.i6 xY)]) (fun sK zo=>⟨mM sK zo,1⟩) ?_ ?_;intro sK zo O;unfold Rz at O;exact wx O;refine cF O ?_ ?_<;>intro Df O;obtain⟨W2,U4,O⟩:=aI O;obtain⟨h57,O⟩:=c6 O;refine gI U4 ?_;refine c5 ?_;refine c5 ?_;exact wx O;exact wx O;obtain⟨x39,xM,vR⟩:=aI vR;obtain⟨sQ,vS,vR⟩:=aI vR;obtain⟨ff,kS,vR⟩:=aI vR;refine dE [] ?_;refine gJ xM ?_;refine aV rfl (dZ rfl rfl (kC cS jZ.h (bB I0.h) qq3 N6 (vo rfl) vS)) ?_;refine aV rfl (sY cS (fun x=>.str x) KI.h rfl (fun _=>rfl) rfl rfl vS) (dK rfl (pC (O4 n x39.Supers sQ ff kS)) mQ ?_);refine gd ?_;rcases gB vR with⟨sO,vR⟩|⟨sO,vR⟩;obtain⟨QE,bq,vR⟩:=aI vR;obtain⟨QZ,h49,vR⟩:=aI vR;obtain rfl:=sI vR;refine gJ bq ?_;refine RD.call (u:=.bool QZ) (args:=[.vl 0 XD 0 rD.length,.str QE.Name]) (td rfl rfl rfl sO) (yN rfl rfl mQ rfl rfl rfl) (vw (O4 n rD QE.Name QZ h49) (sC 0 1)) rfl rfl ?_;refine gd ?_;refine bC ⟨by kernel_rfl,trivial,?_⟩;refine go ?_;exact mS;obtain rfl:=sI vR;refine gd ?_;refine bC ⟨by kernel_rfl,trivial,?_⟩;refine go ?_;exact mS;exact wx O;exact wx O
def Sl(p1:X Int)(z5:Int):V ((X Int)):=
 a8 (w7 p1 0 z5) fun l6=>
 aF (l6.length*8<=140737488355328/\l6.length<=140737488355328) (some l6)
def SK(p1:X Int):Nat->Int->V ((X Int))
 |0,_=>none|m1+1,z4=>a8 (cond (decide (z4>0)) (a8 (aB p1 (IntKind.i64.wrap (z4-1))) fun qA=>some (qA==0)) (some false)) fun D2=>cond D2 ((SK p1 m1) (IntKind.i64.wrap (z4-1))) (Sl p1 z4)
def L8(n:Nat)(p1:X Int):V ((X Int)):=
 SK p1 n (p1.length:Int)
theorem uk(n:Nat)(p1:X Int)(r:(X Int))(O:L8 n p1=some r):cY prog 119 [.isl false (p1.map (cI .u64))] (.isl false (r.map (cI .u64))):=by unfold L8 at O;refine lG 23 xS ?_;refine go ?_;refine oG (SK p1) (fun z4=>[(0,.iM (cI .u64) p1),(3,.i6 z4)]) (fun _=>⟨[],0⟩) (pW (Sl p1) (fun z5=>[(0,.iM (cI .u64) p1),(3,.i6 z5)]) (fun _=>⟨[],0⟩)) O (tX ?_) ?_;intro z5 O;unfold Sl at O;obtain⟨l6,h7,O⟩:=aI O;obtain⟨h8,h9⟩:=xf (cI .u64) .i64 h7;obtain⟨gC,O⟩:=c6 O;refine go ?_;refine aY (u:=.sl 0 0 0 0) (Y':=⟨[(0,.row [] 213)],1⟩) rfl (yJ fU.h lQ.h rfl rfl rfl rfl rfl rfl rfl) ?_;refine go ?_;refine aY (u:=.iM (cI .u64) l6) rfl (L1 rfl MD (MC rfl) (Oc (cI .u64) fU.h (bB lQ.h) (mC .u64) h8 h9)) (aY (u:=.vl 1 0 0 l6.length) (Y':=⟨[(1,.bv (cI .u64) l6 213 1 0),(0,.row [] 213)],2⟩) rfl (pQ rfl rfl rfl rfl (YE (cI .u64) l6 fU.h fU.h lQ.h rfl rfl rfl (NB (cI .u64) (mC .u64)) gC)) ?_);refine go ?_;obtain rfl:=sI O;exact rT (us:=[.vl 1 0 0 l6.length]) (u:=.iM (cI .u64) l6) (dT rfl (eD)) (fR 1 1);intro m1 z4 O;unfold SK at O;obtain⟨D2,lV,O⟩:=aI O;refine gn ?_;refine nE [(0,.iM (cI .u64) p1),(3,.i6 z4),(15,.bool D2)] ⟨[],0⟩ ?_ ?_;refine gG O ?_ ?_<;>intro qL O;exact wx O;exact wx O;refine go ?_;rcases gB lV with⟨jT,lV⟩|⟨jT,lV⟩;obtain⟨qA,eB,lV⟩:=aI lV;obtain rfl:=sI lV;refine gI eB ?_;exact mS;exact gy lV
def vp(n:Nat)(l8:X Int):V ((X Int)×Int):=
 aF ((64:Int).toNat=l8.length) (
 a8 (L8 n l8) fun nQ=>some (nQ,0))
def YT(p1:X Int)(n:Nat):Nat->Int->(X Int)->V ((X Int)×Int)
 |0,_,_=>none|m1+1,z6,l7=>
  cond (decide (z6<(p1.length:Int))) (a8 (a8 (aB p1 z6) fun QF=>cond (decide (QF<0)) (some true) (a8 (aB p1 z6) fun lW=>some (decide (lW>4095)))) fun JL=>cond JL (some ([],2)) (a8 (aB p1 z6) fun A8=>
    a8 (aB p1 z6) fun Lu=>
    a8 (i9 l7 0 ((64:Int).toNat) (IntKind.i64.wrap (Lu.tdiv 64))) fun y3=>
    a8 (aB p1 z6) fun uU=>
    aF (¬ (IntKind.u64.wrap (uU.tmod 64))<0) (
    a8 (i9 l7 0 ((64:Int).toNat) (IntKind.i64.wrap (A8.tdiv 64))) fun pZ=>(YT p1 n m1) (IntKind.i64.wrap (z6+1)) (l7.set (IntKind.i64.wrap (A8.tdiv 64)).toNat (Te .u64 y3 (IntKind.u64.wrap (1*(2^(min (IntKind.u64.wrap (uU.tmod 64)).toNat IntKind.u64.bits))))))))) (vp n l7)
def Pb(n:Nat)(p1:X Int):V ((X Int)×Int):=
 aF (0<=(64:Int)/\8*(64:Int).toNat<=281474976710656/\(64:Int)<=281474976710656) (
 YT p1 n n 0 (List.replicate (64:Int).toNat 0))
theorem qxx(n:Nat)(p1:X Int)(r:(X Int)×Int)(O:Pb n p1=some r):cY prog 127 [.isl false (p1.map (cI .i64))] (.tup [.isl false (r.1.map (cI .u64)),.int .i64 r.2]):=by unfold Pb at O;refine lG 50 V3 ?_;obtain⟨h2,O⟩:=c6 O;refine go ?_;refine aY (u:=.sl 0 0 ((64:Int).toNat) ((64:Int).toNat)) (Y':=⟨[(0,.row (List.map (cI .u64) (List.replicate (64:Int).toNat 0)).flatten 213)],1⟩) rfl (Oe (cI .u64) 0 rfl rfl fU.h lQ.h rfl rfl rfl rfl h2) ?_;refine go ?_;refine D3 (YT p1 n) (fun z6 _=>[(0,.iM (cI .i64) p1),(4,.sl 0 0 ((64:Int).toNat) ((64:Int).toNat)),(5,.i6 z6)]) (fun _ l7=>⟨[(0,.row (l7.map (cI .u64)).flatten 213)],1⟩) (pW (vp n) (fun _=>[(4,.sl 0 0 ((64:Int).toNat) ((64:Int).toNat))]) (fun l8=>⟨[(0,.row (l8.map (cI .u64)).flatten 213)],1⟩)) O (tX ?_) ?_;intro l8 O;unfold vp at O;obtain⟨h9,O⟩:=c6 O;refine gn ?_;refine dF (tm':=fr 50 [(4,.iM (cI .u64) l8)]) (Y':=⟨[],1⟩) (Gh.trans (Gh.sub (l':=[(4,.sl 0 0 ((64:Int).toNat) ((64:Int).toNat))]) ⟨rfl,trivial⟩) (Gh.fzS (l':=[(4,.iM (cI .u64) l8)]) (h':=[]) 0 (.row (l8.map (cI .u64)).flatten 213) 1 rfl qq4 (by simp only[fzS,m5,vF,sZ,DL,KY,RM,ND,Y9,YA,YB,RW,H6,Y6,N8,RL,R9,GW,Gg (mC .u64) h9]) (by simp only[fzH,fzB,ug,Nat.beq,zC,zD,m5,vF,sZ,DL,KY,RM,ND,Y9,YA,YB,RW,H6,Y6,N8,RL,R9,GW,Gg (mC .u64) h9]))) NZ ?_;obtain⟨nQ,jT,O⟩:=aI O;refine go ?_;refine aK rfl (pC (uk n l8 nQ jT) _) xS ?_;refine go ?_;obtain rfl:=sI O;exact y5 rfl rfl rfl rfl rfl;intro m1 z6 l7 O;unfold YT at O;refine gG O ?_ ?_<;>intro g9 O;obtain⟨JL,kE,O⟩:=aI O;refine gn ?_;refine nE [(0,.iM (cI .i64) p1),(4,.sl 0 0 ((64:Int).toNat) ((64:Int).toNat)),(5,.i6 z6),(24,.bool JL)] ⟨[(0,.row (l7.map (cI .u64)).flatten 213)],1⟩ ?_ ?_;refine gF O ?_ ?_<;>intro tE O;refine go ?_;obtain rfl:=sI O;exact rT (us:=[.nils,.i6 2]) (u:=.tup [.isl false [],.i6 2]) (dT rfl (dT rfl (eD))) wR;obtain⟨A8,uP,Lu,IR,y3,xO,uU,tT,O⟩:=qZ O;obtain⟨oE,O⟩:=c6 O;obtain⟨pZ,nM,O⟩:=aI O;refine go ?_;refine dE [] ?_;refine gJ uP ?_;refine aV rfl (yI rfl rfl (wq _ qq3) rfl) ?_;refine gJ IR ?_;refine aV rfl (yI rfl rfl (wq _ qq3) rfl) ?_;refine aV rfl (dZ rfl rfl (sW fU.h (bB lQ.h) rfl xO)) (aV (u:=.int .u64 y3) rfl (C2 (cI .u64) (fun x=>.int .u64 x) Mz.h rfl (fun _=>rfl) rfl rfl xO) ?_);refine gJ tT ?_;refine aV rfl (yI rfl rfl (z7r _ qq3) rfl) ?_;refine aV (u:=.int .u64 (IntKind.u64.wrap (uU.tmod 64))) rfl (z0p rfl rfl (by simp only[XX,sD.h,QO.h]<;>rfl) rfl) ?_;refine aV rfl (yI rfl rfl (Ai _ oE) rfl) (aV rfl (yI rfl rfl (Tx _ _ _) rfl) (aV rfl (dZ rfl rfl (sW fU.h (bB lQ.h) rfl nM)) (Fj (u:=.junk) (Y':=⟨[(0,.row (List.map (cI .u64) (l7.set (IntKind.i64.wrap (A8.tdiv 64)).toNat (Te .u64 y3 (IntKind.u64.wrap (1*(2^(min (IntKind.u64.wrap (uU.tmod 64)).toNat IntKind.u64.bits))))))).flatten 213)],1⟩) rfl (XT (cI .u64) (bB lQ.h) (mC .u64) rfl rfl rfl rfl rfl rfl nM rfl) rfl ?_)));refine bC ⟨by kernel_rfl,trivial,?_⟩;exact wx O;obtain⟨QF,i7,kE⟩:=aI kE;refine gI i7 ?_;rcases gB kE with⟨lV,kE⟩|⟨lV,kE⟩;exact gy kE;obtain⟨lW,jK,kE⟩:=aI kE;obtain rfl:=sI kE;refine gI jK ?_;exact mS;exact wx O
def Ri(jD:Int)(cA:Int->(X Int)->V ((X Int)))(lB:X Int):V ((X Int)):=
 cA (IntKind.i64.wrap (jD+1)) lB
def yx(n:Nat)(iC:X Int):V ((X Int)):=
 a8 (Pb n iC) fun XR=>some XR.1
def O3(p2:X (X Yv))(n:Nat)(r4:(X (X Yv))):Nat->Int->(X Int)->V ((X Int))
 |0,_,_=>none|m1+1,jD,fQ=>
  cond (decide (jD<(p2.length:Int))) (a8 (aB p2 jD) fun MK=>
   a8 (FH n r4 MK) fun GO=>cond GO (aF ((fQ.length+1)*8<=140737488355328/\fQ.length+1<=140737488355328) (
    Ri jD (O3 p2 n r4 m1) (fQ++[jD]))) (Ri jD (O3 p2 n r4 m1) fQ)) (yx n fQ)
def Pz(n:Nat)(p1:X bG)(p2:X (X Yv))(p3:X Yv):V ((X Int)):=
 a8 (Qq n p1 p3) fun r4=>
 O3 p2 n r4 n 0 ([]:X Int)
theorem qrn(n:Nat)(p1:X bG)(p2:X (X Yv))(p3:X Yv)(r:(X Int))(O:Pz n p1 p2 p3=some r):cY prog 92 [.isl false (p1.map bL),.isl false (p2.map cS),.str p3] (.isl false (r.map (cI .u64))):=by unfold Pz at O;refine xU 37 Xz ?_;obtain⟨r4,h5,O⟩:=aI O;refine go ?_;refine aK rfl (pC (qp6 n p1 p3 r4 h5) _) V4 ?_;refine gr ?_;refine gr ?_;refine gV 8 3 1 1 ?_;refine nN (a3:=0) (fun m jD fQ _=>O3 p2 n r4 m jD fQ) (fun jD fQ mU=>[(1,.iM cS p2),(7,.iM cS r4),(8,.vl 0 mU 0 fQ.length),(9,.i6 jD)]) (fun _ fQ mU=>⟨DP fQ mU,1⟩) (lH (fun iC _=>yx n iC) (fun iC MU=>[(8,.vl 0 MU 0 iC.length)]) (fun iC MU=>⟨DP iC MU,1⟩)) O (nD ?_) ?_;intro iC MU O;unfold yx at O;refine gn ?_;refine dF (tm':=fr 37 [(8,.iM (cI .i64) iC)]) (Y':=⟨[],1⟩) (Gh.trans (Gh.sub (l':=[(8,.vl 0 MU 0 iC.length)]) ⟨rfl,trivial⟩) (JV 0 1)) NZ ?_;obtain⟨XR,jK,O⟩:=aI O;refine go ?_;refine aK rfl (pC (qxx n iC XR jK) _) V3 ?_;exact gx O;intro m1 jD fQ mU O;unfold O3 at O;refine gG O ?_ ?_<;>intro dO O;obtain⟨MK,tE,GO,uP,O⟩:=bO O;refine gI tE ?_;refine aK rfl (pC (O4 n r4 MK GO uP) _) mQ ?_;refine gn ?_;refine M7 r (fun lB _=>Ri jD (O3 p2 n r4 m1) lB) (fun lB t25=>[(1,.iM cS p2),(7,.iM cS r4),(8,.vl 0 t25 0 lB.length),(9,.i6 jD)]) (fun lB t25=>⟨DP lB t25,1⟩) ?_ ?_;intro lB t25 O;unfold Ri at O;exact wx O;refine cF O ?_ ?_<;>intro tD O;obtain⟨o4,O⟩:=c6 O;refine go ?_;refine c5 ?_;refine c5 ?_;exact wx O;exact wx O;exact wx O
def S7(n:Nat)(p1:X Int)(p2:Int):V (Int):=
 cond (decide (p2<(p1.length:Int))) (a8 (aB p1 p2) fun x4=>some x4) (some 0)
theorem qju(n:Nat)(p1:X Int)(p2:Int)(r:Int)(O:S7 n p1 p2=some r):cY prog 156 [.isl false (p1.map (cI .u64)),.int .i64 p2] (.int .u64 r):=by unfold S7 at O;refine eL 13 J1 ?_;refine gF O ?_ ?_<;>intro h3 O;obtain⟨x4,h5,O⟩:=aI O;refine go ?_;refine cB h5 ?_;exact gx O;exact gx O
def NW(n:Nat)(dB:X Int):V ((X Int)):=
 a8 (L8 n dB) fun mJ=>some mJ
def Iq(p1:X Int)(p2:X Int)(n:Nat):Nat->Int->(X Int)->V ((X Int))
 |0,_,_=>none|m1+1,z8,l9=>
  cond (decide (z8<(p1.length:Int))) (a8 (aB p1 z8) fun lW=>
   a8 (S7 n p2 z8) fun kA=>
   aF ((l9.length+1)*8<=140737488355328/\l9.length+1<=140737488355328) ((Iq p1 p2 n m1) (IntKind.i64.wrap (z8+1)) (l9++[(K5 .u64 lW kA)]))) (NW n l9)
def H8(n:Nat)(p1:X Int)(p2:X Int):V ((X Int)):=
 Iq p1 p2 n n 0 ([]:X Int)
theorem o?(n:Nat)(p1:X Int)(p2:X Int)(r:(X Int))(O:H8 n p1 p2=some r):cY prog 118 [.isl false (p1.map (cI .u64)),.isl false (p2.map (cI .u64))] (.isl false (r.map (cI .u64))):=by unfold H8 at O;refine eL 26 CZ ?_;refine gr ?_;refine gr ?_;refine gr ?_;refine gV 5 213 1 1 ?_;refine nN (a3:=0) (fun m z8 l9 _=>Iq p1 p2 n m z8 l9) (fun z8 l9 eQ=>[(0,.iM (cI .u64) p1),(1,.iM (cI .u64) p2),(5,.vl 0 eQ 0 l9.length),(6,.i6 z8)]) (fun _ l9 eQ=>⟨[(0,.bv (cI .u64) l9 213 1 eQ)],1⟩) (lH (fun dB _=>NW n dB) (fun dB jL=>[(5,.vl 0 jL 0 dB.length)]) (fun dB jL=>⟨[(0,.bv (cI .u64) dB 213 1 jL)],1⟩)) O (nD ?_) ?_;intro dB jL O;unfold NW at O;refine gn ?_;refine dF (tm':=fr 26 [(5,.iM (cI .u64) dB)]) (Y':=⟨[],1⟩) (Gh.trans (Gh.sub (l':=[(5,.vl 0 jL 0 dB.length)]) ⟨rfl,trivial⟩) (JV 0 1)) NZ ?_;obtain⟨mJ,i7,O⟩:=aI O;refine go ?_;refine aK rfl (pC (uk n dB mJ i7) _) xS ?_;exact gx O;intro m1 z8 l9 eQ O;unfold Iq at O;refine gG O ?_ ?_<;>intro lV O;obtain⟨lW,jK,kA,kE,O⟩:=bO O;obtain⟨tE,O⟩:=c6 O;refine go ?_;refine dE [(0,9)] ?_;refine gJ jK ?_;refine dK rfl (pC (qju n p2 z8 kA kE)) J1 (aV rfl (yI rfl rfl (am _ _ _) rfl) ?_);refine eN ?_;refine eN ?_;refine gd ?_;refine bC ⟨by kernel_rfl,⟨oD rfl,trivial⟩,?_⟩;exact wx O;exact wx O
def E?: V (PE):=
 some true
def lh(p1:X Int)(p2:X Int):Nat->Int->V (PE)
 |0,_=>none|m1+1,z7=>cond (decide (z7<(p1.length:Int))) (a8 (aB p1 z7) fun x9=>a8 (aB p2 z7) fun mT=>cond (x9 != mT) (some false) ((lh p1 p2 m1) (IntKind.i64.wrap (z7+1)))) (E?)
def NR(n:Nat)(p1:X Int)(p2:X Int):V (PE):=
 cond ((p1.length:Int) != (p2.length:Int)) (some false) (lh p1 p2 n 0)
theorem z?(n:Nat)(p1:X Int)(p2:X Int)(r:PE)(O:NR n p1 p2=some r):cY prog 120 [.isl false (p1.map (cI .u64)),.isl false (p2.map (cI .u64))] (.bool r):=by unfold NR at O;refine eL 26 CY ?_;refine gF O ?_ ?_<;>intro h3 O;exact gx O;refine go ?_;refine oG (lh p1 p2) (fun z7=>[(0,.iM (cI .u64) p1),(1,.iM (cI .u64) p2),(5,.i6 z7)]) (fun _=>⟨[],0⟩) (pK E? [] ⟨[],0⟩) O (rY ?_) ?_;intro O;unfold E? at O;exact gx O;intro m1 z7 O;unfold lh at O;refine gG O ?_ ?_<;>intro h8 O;obtain⟨x9,gC,mT,g9,O⟩:=bO O;refine go ?_;refine dE [] ?_;refine gJ gC ?_;refine dU g9 ?_;refine gd ?_;refine bC ⟨by kernel_rfl,trivial,?_⟩;refine gF O ?_ ?_<;>intro eB O;exact gx O;exact wx O;exact wx O
def vk: V (PE):=
 some false
def YS(p1:X (X Int))(p2:X Int)(n:Nat):Nat->Int->V (PE)
 |0,_=>none|m1+1,z6=>cond (decide (z6<(p1.length:Int))) (a8 (aB p1 z6) fun x8=>a8 (NR n x8 p2) fun nQ=>cond nQ (some true) ((YS p1 p2 n m1) (IntKind.i64.wrap (z6+1)))) (vk)
def jh(n:Nat)(p1:X (X Int))(p2:X Int):V (PE):=
 YS p1 p2 n n 0
theorem qxy(n:Nat)(p1:X (X Int))(p2:X Int)(r:PE)(O:jh n p1 p2=some r):cY prog 128 [.isl false (List.map (cL (cI .u64)) p1),.isl false (p2.map (cI .u64))] (.bool r):=by unfold jh at O;refine eL 18 V2 ?_;refine go ?_;refine oG (YS p1 p2 n) (fun z6=>[(0,.iM (cL (cI .u64)) p1),(1,.iM (cI .u64) p2),(5,.i6 z6)]) (fun _=>⟨[],0⟩) (pK vk [] ⟨[],0⟩) O (rY ?_) ?_;intro O;unfold vk at O;exact gx O;intro m1 z6 O;unfold YS at O;refine gG O ?_ ?_<;>intro h7 O;obtain⟨x8,h9,nQ,jT,O⟩:=bO O;refine gI h9 ?_;refine aK rfl (pC (z? n x8 p2 nQ jT) _) CY ?_;refine gF O ?_ ?_<;>intro g9 O;exact gx O;exact wx O;exact wx O
def Sh(A7:Int)(i8:Int->(X (X Int))->V ((X (X Int))))(T6:X (X Int)):V ((X (X Int))):=
 i8 (IntKind.i64.wrap (A7+1)) T6
def Se(z6:Int)(cA:Int->(X (X Int))->V ((X (X Int))))(uE:X (X Int)):V ((X (X Int))):=
 cA (IntKind.i64.wrap (z6+1)) uE
def SI(n:Nat)(z6:Int)(cA:Int->(X (X Int))->V ((X (X Int)))):Nat->Int->(X (X Int))->V ((X (X Int)))
 |0,_,_=>none|m2+1,A7,gQ=>
  a8 (cond (decide (A7<z6)) (some (decide ((gQ.length:Int)<=256))) (some false)) fun b25=>cond b25 (a8 (aB gQ z6) fun xZ=>
   a8 (aB gQ A7) fun W3=>
   a8 (H8 n xZ W3) fun GN=>
   a8 (cond (decide ((GN.length:Int)>0)) (a8 (jh n gQ GN) fun jM=>some (!jM)) (some false)) fun Fa=>cond Fa (aF ((gQ.length+1)*24<=140737488355328/\gQ.length+1<=140737488355328) (
    Sh A7 (SI n z6 cA m2) (gQ++[GN]))) (Sh A7 (SI n z6 cA m2) gQ)) (Se z6 cA gQ)
def Sf  (l9:X (X Int)):V ((X (X Int))):=
 some l9
def LF(n:Nat):Nat->Int->(X (X Int))->V ((X (X Int)))
 |0,_,_=>none|m1+1,z6,l7=>a8 (cond (decide (z6<(l7.length:Int))) (some (decide ((l7.length:Int)<=256))) (some false)) fun JM=>cond JM (SI n z6 (LF n m1) n 0 l7) (Sf l7)
def Qw(n:Nat)(p1:X (X Int)):V ((X (X Int))):=
 aF (p1.length*24<=140737488355328/\p1.length<=140737488355328) (
 LF n n 0 p1)
theorem qmv(n:Nat)(p1:X (X Int))(r:(X (X Int)))(O:Qw n p1=some r):cY prog 93 [.isl false (List.map (cL (cI .u64)) p1)] (.isl false (List.map (cL (cI .u64)) r)):=by unfold Qw at O;refine lG 54 Xy ?_;obtain⟨h2,O⟩:=c6 O;refine go ?_;refine aY (u:=.sl 0 0 0 0) (Y':=⟨[(0,.row [] 141)],1⟩) rfl (yJ qN.h pB.h rfl rfl rfl rfl rfl rfl rfl) ?_;refine go ?_;refine aY (u:=.vl 1 0 0 p1.length) (Y':=⟨[(1,.bv (cL (cI .u64)) p1 141 1 0),(0,.row [] 141)],2⟩) rfl (pQ rfl rfl rfl rfl (YE (cL (cI .u64)) p1 qN.h qN.h pB.h rfl rfl rfl (NB (cL (cI .u64)) (RJ (cI .u64))) h2)) ?_;refine go ?_;refine nN (a3:=0) (fun m z6 l7 _=>LF n m z6 l7) (fun z6 l7 t8=>[(3,.vl 1 t8 0 l7.length),(4,.i6 z6)]) (fun _ l7 t8=>⟨S2 l7 t8,2⟩) (lH (fun l9 _=>Sf l9) (fun l9 eQ=>[(3,.vl 1 eQ 0 l9.length)]) (fun l9 eQ=>⟨S2 l9 eQ,2⟩)) O (nD ?_) ?_;intro l9 eQ O;unfold Sf at O;refine go ?_;obtain rfl:=sI O;exact rT (us:=[.vl 1 eQ 0 l9.length]) (u:=.iM (cL (cI .u64)) l9) (dT rfl (eD)) (fR 1 1);intro m1 z6 l7 t8 O;unfold LF at O;obtain⟨JM,eB,O⟩:=aI O;refine gn ?_;refine nE [(3,.vl 1 t8 0 l7.length),(4,.i6 z6),(18,.bool JM)] ⟨S2 l7 t8,2⟩ ?_ ?_;refine gG O ?_ ?_<;>intro i7 O;refine go ?_;refine nN (a3:=t8) (fun m A7 gQ _=>SI n z6 (LF n m1) m A7 gQ) (fun A7 gQ QT=>[(3,.vl 1 QT 0 gQ.length),(4,.i6 z6),(5,.i6 A7)]) (fun _ gQ QT=>⟨S2 gQ QT,2⟩) (lH (fun uE _=>Se z6 (LF n m1) uE) (fun uE zw=>[(3,.vl 1 zw 0 uE.length),(4,.i6 z6)]) (fun uE zw=>⟨S2 uE zw,2⟩)) O (nD ?_) ?_;intro uE zw O;unfold Se at O;exact wx O;intro m2 A7 gQ QT O;unfold SI at O;obtain⟨b25,o4,O⟩:=aI O;refine gn ?_;refine nE [(3,.vl 1 QT 0 gQ.length),(4,.i6 z6),(5,.i6 A7),(28,.bool b25)] ⟨S2 gQ QT,2⟩ ?_ ?_;refine gG O ?_ ?_<;>intro EG O;obtain⟨xZ,sP,W3,BM,GN,vT,O⟩:=oM O;refine go ?_;refine dE [] ?_;refine gd ?_;refine aV rfl (dZ rfl rfl (kC (cL (cI .u64)) qN.h (bB pB.h) qq3 (RJ (cI .u64)) (vo rfl) sP)) ?_;refine aV rfl (sY (cL (cI .u64)) (fun x=>.iM (cI .u64) x) fU.h rfl (fun _=>rfl) rfl rfl sP) ?_;refine gd ?_;refine aV rfl (dZ rfl rfl (kC (cL (cI .u64)) qN.h (bB pB.h) qq3 (RJ (cI .u64)) (vo rfl) BM)) ?_;refine aV rfl (sY (cL (cI .u64)) (fun x=>.iM (cI .u64) x) fU.h rfl (fun _=>rfl) rfl rfl BM) (dK rfl (pC (o? n xZ W3 GN vT)) CZ ?_);refine gd ?_;refine bC ⟨by kernel_rfl,trivial,?_⟩;obtain⟨Fa,lE,O⟩:=aI O;refine gn ?_;refine nE [(3,.vl 1 QT 0 gQ.length),(4,.i6 z6),(5,.i6 A7),(6,.iM (cI .u64) GN),(48,.bool Fa)] ⟨S2 gQ QT,2⟩ ?_ ?_;refine gn ?_;refine M7 r (fun T6 _=>Sh A7 (SI n z6 (LF n m1) m2) T6) (fun T6 zr=>[(3,.vl 1 zr 0 T6.length),(4,.i6 z6),(5,.i6 A7)]) (fun T6 zr=>⟨S2 T6 zr,2⟩) ?_ ?_;intro T6 zr O;unfold Sh at O;exact wx O;refine cF O ?_ ?_<;>intro A3 O;obtain⟨vS,O⟩:=c6 O;refine go ?_;refine c5 ?_;refine c5 ?_;exact wx O;exact wx O;refine go ?_;rcases gB lE with⟨nM,lE⟩|⟨nM,lE⟩;obtain⟨jM,xN,lE⟩:=aI lE;obtain rfl:=sI lE;refine go ?_;refine aK rfl (vw (qxy n gQ GN jM xN) (sC 1 1)) V2 ?_;refine go ?_;exact mS;exact gy lE;exact wx O;refine go ?_;rcases gB o4 with⟨pJ,o4⟩|⟨pJ,o4⟩;exact gy o4;exact gy o4;exact wx O;refine go ?_;rcases gB eB with⟨jT,eB⟩|⟨jT,eB⟩;exact gy eB;exact gy eB
def Jh(n:Nat)(dB:X Int):V ((X Int)):=
 a8 (L8 n dB) fun mJ=>some mJ
def Sb(p1:X Int)(p2:X Int)(n:Nat):Nat->Int->(X Int)->V ((X Int))
 |0,_,_=>none|m1+1,z8,l9=>
  cond (decide (z8<(p1.length:Int))) (a8 (aB p1 z8) fun lW=>
   a8 (S7 n p2 z8) fun kA=>
   aF ((l9.length+1)*8<=140737488355328/\l9.length+1<=140737488355328) ((Sb p1 p2 n m1) (IntKind.i64.wrap (z8+1)) (l9++[(v06 .u64 lW kA)]))) (Jh n l9)
def Ih(n:Nat)(p1:X Int)(p2:X Int):V ((X Int)):=
 Sb p1 p2 n n 0 ([]:X Int)
theorem qp4(n:Nat)(p1:X Int)(p2:X Int)(r:(X Int))(O:Ih n p1 p2=some r):cY prog 163 [.isl false (p1.map (cI .u64)),.isl false (p2.map (cI .u64))] (.isl false (r.map (cI .u64))):=by unfold Ih at O;refine eL 26 UI ?_;refine gr ?_;refine gr ?_;refine gr ?_;refine gV 5 213 1 1 ?_;refine nN (a3:=0) (fun m z8 l9 _=>Sb p1 p2 n m z8 l9) (fun z8 l9 eQ=>[(0,.iM (cI .u64) p1),(1,.iM (cI .u64) p2),(5,.vl 0 eQ 0 l9.length),(6,.i6 z8)]) (fun _ l9 eQ=>⟨[(0,.bv (cI .u64) l9 213 1 eQ)],1⟩) (lH (fun dB _=>Jh n dB) (fun dB jL=>[(5,.vl 0 jL 0 dB.length)]) (fun dB jL=>⟨[(0,.bv (cI .u64) dB 213 1 jL)],1⟩)) O (nD ?_) ?_;intro dB jL O;unfold Jh at O;refine gn ?_;refine dF (tm':=fr 26 [(5,.iM (cI .u64) dB)]) (Y':=⟨[],1⟩) (Gh.trans (Gh.sub (l':=[(5,.vl 0 jL 0 dB.length)]) ⟨rfl,trivial⟩) (JV 0 1)) NZ ?_;obtain⟨mJ,i7,O⟩:=aI O;refine go ?_;refine aK rfl (pC (uk n dB mJ i7) _) xS ?_;exact gx O;intro m1 z8 l9 eQ O;unfold Sb at O;refine gG O ?_ ?_<;>intro lV O;obtain⟨lW,jK,kA,kE,O⟩:=bO O;obtain⟨tE,O⟩:=c6 O;refine go ?_;refine dE [(0,9)] ?_;refine gJ jK ?_;refine dK rfl (pC (qju n p2 z8 kA kE)) J1 (aV rfl (yI rfl rfl (qqz _ _ _) rfl) ?_);refine eN ?_;refine eN ?_;refine gd ?_;refine bC ⟨by kernel_rfl,⟨oD rfl,trivial⟩,?_⟩;exact wx O;exact wx O
def YV(n:Nat)(p1:X Int)(p2:X Int):V (PE):=
 a8 (Ih n p1 p2) fun r3=>some ((r3.length:Int)==0)
theorem H?(n:Nat)(p1:X Int)(p2:X Int)(r:PE)(O:YV n p1 p2=some r):cY prog 133 [.isl false (p1.map (cI .u64)),.isl false (p2.map (cI .u64))] (.bool r):=by unfold YV at O;refine eL 10 CX ?_;obtain⟨r3,h4,O⟩:=aI O;refine go ?_;refine aK rfl (pC (qp4 n p1 p2 r3 h4) _) UI ?_;exact gx O
def Qs(n:Nat)(p1:X Int)(p2:X Int):V (PE):=
 a8 (a8 (YV n p1 p2) fun r3=>cond r3 (a8 (YV n p2 p1) fun r6=>some r6) (some false)) fun b8=>some b8
theorem qp3(n:Nat)(p1:X Int)(p2:X Int)(r:PE)(O:Qs n p1 p2=some r):cY prog 129 [.isl false (p1.map (cI .u64)),.isl false (p2.map (cI .u64))] (.bool r):=by unfold Qs at O;refine eL 13 V0 ?_;obtain⟨b8,h9,O⟩:=aI O;refine gr ?_;refine nE [(4,.bool b8)] ⟨[],0⟩ ?_ ?_;exact gx O;obtain⟨r3,h4,h9⟩:=aI h9;refine go ?_;refine aK rfl (pC (H? n p1 p2 r3 h4) _) CX ?_;refine go ?_;rcases gB h9 with⟨h5,h9⟩|⟨h5,h9⟩;obtain⟨r6,h7,h9⟩:=aI h9;obtain rfl:=sI h9;refine go ?_;refine aK rfl (pC (H? n p2 p1 r6 h7) _) CX ?_;refine go ?_;exact mS;exact gy h9
def Hw(n:Nat)(p1:X Int)(p2:Int):V (PE):=
 a8 (cond (decide (p2<0)) (some true) (some (decide ((IntKind.i64.wrap (p2.tdiv 64))>=(p1.length:Int))))) fun b5=>cond b5 (some false) (a8 (aB p1 (IntKind.i64.wrap (p2.tdiv 64))) fun x9=>aF (¬ (IntKind.u64.wrap (p2.tmod 64))<0) (some ((K5 .u64 (x9.fdiv (2^(min (IntKind.u64.wrap (p2.tmod 64)).toNat IntKind.u64.bits))) 1)==1)))
theorem qly(n:Nat)(p1:X Int)(p2:Int)(r:PE)(O:Hw n p1 p2=some r):cY prog 130 [.isl false (p1.map (cI .u64)),.int .i64 p2] (.bool r):=by unfold Hw at O;refine eL 25 J7 ?_;obtain⟨b5,h6,O⟩:=aI O;refine gr ?_;refine nE [(0,.iM (cI .u64) p1),(1,.i6 p2),(13,.bool b5)] ⟨[],0⟩ ?_ ?_;refine gF O ?_ ?_<;>intro h7 O;exact gx O;obtain⟨x9,gC,O⟩:=aI O;obtain⟨g9,O⟩:=c6 O;refine go ?_;refine aY rfl (yI rfl rfl (wq _ qq3) rfl) ?_;refine cB gC ?_;refine go ?_;refine aY rfl (yI rfl rfl (z7r _ qq3) rfl) ?_;refine aY (u:=.int .u64 (IntKind.u64.wrap (p2.tmod 64))) rfl (z0p rfl rfl (by simp only[XX,sD.h,QO.h]<;>rfl) rfl) ?_;refine aY rfl (yI rfl rfl (Ah _ g9) rfl) (aY rfl (yI rfl rfl (am _ _ _) rfl) ?_);exact gx O;refine go ?_;rcases gB h6 with⟨h3,h6⟩|⟨h3,h6⟩;exact gy h6;obtain rfl:=sI h6;refine go ?_;refine RS.w rfl (yI rfl rfl (wq _ qq3) rfl) ?_;refine go ?_;exact mS
def Sr(z8:Int)(cA:(X (X Yv))->Int->V ((X (X Yv))))(fL:X (X Yv)):V ((X (X Yv))):=
 cA fL (IntKind.i64.wrap (z8+1))
def su  (l9:X (X Yv)):V ((X (X Yv))):=
 some l9
def OG(p1:X bG)(p2:X (X Yv))(n:Nat):Nat->(X (X Yv))->Int->V ((X (X Yv)))
 |0,_,_=>none|m1+1,l7,z8=>
  cond (decide (z8<(p2.length:Int))) (a8 (aB p2 z8) fun mT=>
   a8 (HB n p1 mT) fun mJ=>cond (decide (mJ>=0)) (a8 (aB p2 z8) fun ML=>
    a8 (NQ n l7 ML) fun GP=>
    Sr z8 (OG p1 p2 n m1) GP) (Sr z8 (OG p1 p2 n m1) l7)) (su l7)
def mw(n:Nat)(p1:X bG)(p2:X (X Yv)):V ((X (X Yv))):=
 OG p1 p2 n n [] 0
theorem qk4(n:Nat)(p1:X bG)(p2:X (X Yv))(r:(X (X Yv)))(O:mw n p1 p2=some r):cY prog 160 [.isl false (p1.map bL),.isl false (p2.map cS)] (.isl false (r.map cS)):=by unfold mw at O;refine eL 27 UL ?_;refine gr ?_;refine gr ?_;refine gr ?_;refine dF (tm':=fr 27 [(0,.iM bL p1),(1,.iM cS p2),(5,.iM cS []),(6,.i6 0)]) (Gh.trans (Gh.sub (l':=[(0,.iM bL p1),(1,.iM cS p2),(5,.nils),(6,.i6 0)]) ⟨rfl,rfl,rfl,rfl,trivial⟩) (Gh.wkS (l':=[(0,.iM bL p1),(1,.iM cS p2),(5,.iM cS []),(6,.i6 0)]) (.cons (.refl _) (.cons (.refl _) (.cons (.nil false) (.cons (.refl _) .nil)))))) NZ ?_;refine D3 (OG p1 p2 n) (fun l7 z8=>[(0,.iM bL p1),(1,.iM cS p2),(5,.iM cS l7),(6,.i6 z8)]) (fun _ _=>⟨[],0⟩) (pW su (fun l9=>[(5,.iM cS l9)]) (fun _=>⟨[],0⟩)) O (tX ?_) ?_;intro l9 O;unfold su at O;exact gx O;intro m1 l7 z8 O;unfold OG at O;refine gG O ?_ ?_<;>intro gC O;obtain⟨mT,g9,mJ,i7,O⟩:=bO O;refine gI g9 ?_;refine aK rfl (pC (Io n p1 mT mJ i7) _) rR ?_;refine gn ?_;refine Zy r (Sr z8 (OG p1 p2 n m1)) (fun fL=>[(0,.iM bL p1),(1,.iM cS p2),(5,.iM cS fL),(6,.i6 z8)]) (fun _=>⟨[],0⟩) ?_ ?_;intro fL O;unfold Sr at O;exact wx O;refine cF O ?_ ?_<;>intro lV O;obtain⟨ML,dO,GP,tE,O⟩:=bO O;refine gI dO ?_;refine aK rfl (pC (Ig n l7 ML GP tE) _) rV ?_;exact wx O;exact wx O;exact wx O
def ui  (pA:X (X Yv)):V ((X (X Yv))):=
 some pA
def SH(n:Nat)(c7:X (X Yv)):Nat->(X (X Yv))->Int->V ((X (X Yv)))
 |0,_,_=>none|m2+1,lD,eU=>cond (decide (eU<(c7.length:Int))) (a8 (aB c7 eU) fun BT=>a8 (NQ n lD BT) fun qS=>(SH n c7 m2) qS (IntKind.i64.wrap (eU+1))) (ui lD)
def Sa(BP:Int)(XN:Int->(X (X Yv))->V ((X (X Yv))))(T5:X (X Yv)):V ((X (X Yv))):=
 XN (IntKind.i64.wrap (BP+1)) T5
def uh(dX:Int)(cA:Int->(X (X Yv))->V ((X (X Yv))))(qH:X (X Yv)):V ((X (X Yv))):=
 cA (IntKind.i64.wrap (dX+1)) qH
def OC(n:Nat)(dX:Int)(cA:Int->(X (X Yv))->V ((X (X Yv))))(sR:bG):Nat->Int->(X (X Yv))->V ((X (X Yv)))
 |0,_,_=>none|m3+1,BP,C8=>
  cond (decide (BP<(sR.Supers.length:Int))) (a8 (aB sR.Supers BP) fun QE=>
   a8 (FH n C8 QE) fun QZ=>cond (!QZ) (a8 (aB sR.Supers BP) fun x53=>
    aF ((C8.length+1)*16<=140737488355328/\C8.length+1<=140737488355328) (
    Sa BP (OC n dX cA sR m3) (C8++[x53]))) (Sa BP (OC n dX cA sR m3) C8)) (uh dX cA C8)
def uj(n:Nat)(c7:X (X Yv)):V ((X (X Yv))):=
 SH n c7 n [] 0
def LD(p1:X bG)(n:Nat):Nat->Int->(X (X Yv))->V ((X (X Yv)))
 |0,_,_=>none|m1+1,dX,dB=>
  cond (decide (dX<(dB.length:Int))) (a8 (aB dB dX) fun xZ=>
   a8 (HB n p1 xZ) fun XQ=>
   a8 (aB p1 XQ) fun sR=>
   OC n dX (LD p1 n m1) sR n 0 dB) (uj n dB)
def Qr(n:Nat)(p1:X bG)(p2:X Yv):V ((X (X Yv))):=
 a8 (HB n p1 p2) fun r3=>cond (decide (r3<0)) (some []) (LD p1 n n 0 ([p2]))
theorem qp5(n:Nat)(p1:X bG)(p2:X Yv)(r:(X (X Yv)))(O:Qr n p1 p2=some r):cY prog 161 [.isl false (p1.map bL),.str p2] (.isl false (r.map cS)):=by unfold Qr at O;refine eL 66 UK ?_;obtain⟨r3,h4,O⟩:=aI O;refine go ?_;refine aK rfl (pC (Io n p1 p2 r3 h4) _) rR ?_;refine gF O ?_ ?_<;>intro h5 O;refine go ?_;obtain rfl:=sI O;exact rT (us:=[.nils]) (u:=.isl false []) (dT rfl (eD)) wR;refine go ?_;refine RS.step (u:=.vl 0 0 0 ([p2].length)) (Y':=⟨[(0,.bv cS ([p2]) 9 1 0)],1⟩) rfl (fN.bslv (cs:=(List.map cS [p2]).flatten) tb_ok rfl jZ.h I0.h rfl rfl rfl rfl rfl rfl rfl rfl) rfl rfl ?_;refine go ?_;refine nN (a3:=0) (fun m dX dB _=>LD p1 n m dX dB) (fun dX dB jL=>[(0,.iM bL p1),(5,.vl 0 jL 0 dB.length),(6,.i6 dX)]) (fun _ dB jL=>⟨mM dB jL,1⟩) (lH (fun c7 _=>uj n c7) (fun c7 gT=>[(5,.vl 0 gT 0 c7.length)]) (fun c7 gT=>⟨mM c7 gT,1⟩)) O (nD ?_) ?_;intro c7 gT O;unfold uj at O;refine gr ?_;refine gr ?_;refine dF (tm':=fr 66 [(5,.vl 0 gT 0 c7.length),(9,.iM cS []),(10,.i6 0)]) (Gh.trans (Gh.sub (l':=[(5,.vl 0 gT 0 c7.length),(9,.nils),(10,.i6 0)]) ⟨rfl,rfl,rfl,trivial⟩) (Gh.wkS (l':=[(5,.vl 0 gT 0 c7.length),(9,.iM cS []),(10,.i6 0)]) (.cons (.refl _) (.cons (.nil false) (.cons (.refl _) .nil))))) NZ ?_;refine D3 (SH n c7) (fun lD eU=>[(5,.vl 0 gT 0 c7.length),(9,.iM cS lD),(10,.i6 eU)]) (fun _ _=>⟨mM c7 gT,1⟩) (pW ui (fun pA=>[(9,.iM cS pA)]) (fun _=>⟨mM c7 gT,1⟩)) O (tX ?_) ?_;intro pA O;unfold ui at O;exact gx O;intro m2 lD eU O;unfold SH at O;refine gG O ?_ ?_<;>intro uP O;obtain⟨BT,pJ,qS,o4,O⟩:=bO O;refine go ?_;refine aY rfl (dZ rfl rfl (kC cS jZ.h (bB I0.h) qq3 N6 (vo rfl) pJ)) ?_;refine aY rfl (sY cS (fun x=>.str x) KI.h rfl (fun _=>rfl) rfl rfl pJ) (aK rfl (pC (Ig n lD BT qS o4) _) rV ?_);exact wx O;exact wx O;intro m1 dX dB jL O;unfold LD at O;refine gG O ?_ ?_<;>intro EG O;obtain⟨xZ,sP,XQ,BM,sR,vT,O⟩:=oM O;refine go ?_;refine aY rfl (dZ rfl rfl (kC cS jZ.h (bB I0.h) qq3 N6 (vo rfl) sP)) ?_;refine aY rfl (sY cS (fun x=>.str x) KI.h rfl (fun _=>rfl) rfl rfl sP) (aK rfl (pC (Io n p1 xZ XQ BM) _) rR ?_);refine cB vT ?_;refine go ?_;refine nN (a3:=jL) (fun m BP C8 _=>OC n dX (LD p1 n m1) sR m BP C8) (fun BP C8 zq=>[(0,.iM bL p1),(5,.vl 0 zq 0 C8.length),(6,.i6 dX),(7,.iM cS sR.Supers),(8,.i6 BP)]) (fun _ C8 zq=>⟨mM C8 zq,1⟩) (lH (fun qH _=>uh dX (LD p1 n m1) qH) (fun qH MR=>[(0,.iM bL p1),(5,.vl 0 MR 0 qH.length),(6,.i6 dX)]) (fun qH MR=>⟨mM qH MR,1⟩)) O (nD ?_) ?_;intro qH MR O;unfold uh at O;exact wx O;intro m3 BP C8 zq O;unfold OC at O;refine gG O ?_ ?_<;>intro sO O;obtain⟨QE,bq,QZ,h49,O⟩:=bO O;refine gI bq ?_;refine aK rfl (vw (O4 n C8 QE QZ h49) (sC 0 1)) mQ ?_;refine gn ?_;refine M7 r (fun T5 _=>Sa BP (OC n dX (LD p1 n m1) sR m3) T5) (fun T5 zp=>[(0,.iM bL p1),(5,.vl 0 zp 0 T5.length),(6,.i6 dX),(7,.iM cS sR.Supers),(8,.i6 BP)]) (fun T5 zp=>⟨mM T5 zp,1⟩) ?_ ?_;intro T5 zp O;unfold Sa at O;exact wx O;refine cF O ?_ ?_<;>intro Xl O;obtain⟨x53,h54,O⟩:=aI O;obtain⟨bo,O⟩:=c6 O;refine gI h54 ?_;refine c5 ?_;refine c5 ?_;exact wx O;exact wx O;exact wx O;exact wx O
def So(dX:Int)(cA:Int->(X (X Yv))->V ((X (X Yv))))(qI:X (X Yv)):V ((X (X Yv))):=
 cA (IntKind.i64.wrap (dX+1)) qI
def sk(r3:(X (X Yv)))(dX:Int)(dB:X (X Yv))(cA:Int->(X (X Yv))->V ((X (X Yv))))(ce:PE):V ((X (X Yv))):=
 cond ce (a8 (aB r3 dX) fun oV=>
  aF ((dB.length+1)*16<=140737488355328/\dB.length+1<=140737488355328) (
  So dX cA (dB++[oV]))) (So dX cA dB)
def ZH(n:Nat)(r3:(X (X Yv)))(dX:Int)(dB:X (X Yv))(cA:Int->(X (X Yv))->V ((X (X Yv))))(kA:(X (X Yv))):Nat->PE->Int->V ((X (X Yv)))
 |0,_,_=>none|m2+1,Q1,pL=>cond (decide (pL<(r3.length:Int))) (a8 (cond Q1 (cond (pL==dX) (some true) (a8 (aB r3 pL) fun aq=>a8 (FH n kA aq) fun fg=>some (!fg))) (some false)) fun b44=>(ZH n r3 dX dB cA kA m2) b44 (IntKind.i64.wrap (pL+1))) (sk r3 dX dB cA Q1)
def sn  (c7:X (X Yv)):V ((X (X Yv))):=
 some c7
def HF(p1:X bG)(n:Nat)(r3:(X (X Yv))):Nat->Int->(X (X Yv))->V ((X (X Yv)))
 |0,_,_=>none|m1+1,dX,dB=>
  cond (decide (dX<(r3.length:Int))) (a8 (aB r3 dX) fun lW=>
   a8 (Qr n p1 lW) fun kA=>
   ZH n r3 dX dB (HF p1 n r3 m1) kA n true 0) (sn dB)
def Iy(n:Nat)(p1:X bG)(p2:X (X Yv)):V ((X (X Yv))):=
 a8 (mw n p1 p2) fun r3=>
 HF p1 n r3 n 0 ([]:X (X Yv))
theorem qfc(n:Nat)(p1:X bG)(p2:X (X Yv))(r:(X (X Yv)))(O:Iy n p1 p2=some r):cY prog 131 [.isl false (p1.map bL),.isl false (p2.map cS)] (.isl false (r.map cS)):=by
 unfold Iy at O;refine eL 56 J6 ?_;obtain⟨r3,h4,O⟩:=aI O;refine go ?_;refine aK rfl (pC (qk4 n p1 p2 r3 h4) _) UL ?_;refine gr ?_;refine gV 5 9 1 1 ?_;refine nN (a3:=0) (fun m dX dB _=>HF p1 n r3 m dX dB) (fun dX dB jL=>[(0,.iM bL p1),(5,.vl 0 jL 0 dB.length),(6,.iM cS r3),(7,.i6 dX)]) (fun _ dB jL=>⟨mM dB jL,1⟩) (lH (fun c7 _=>sn c7) (fun c7 gT=>[(5,.vl 0 gT 0 c7.length)]) (fun c7 gT=>⟨mM c7 gT,1⟩)) O (nD ?_) ?_;intro c7 gT O;unfold sn at O;refine go ?_;obtain rfl:=sI O;exact rT (us:=[.vl 0 gT 0 c7.length]) (u:=.iM cS c7) (dT rfl (eD)) (fR 0 1);intro m1 dX dB jL O;unfold HF at O;refine gG O ?_ ?_<;>intro lV O;obtain⟨lW,jK,kA,kE,O⟩:=bO O;refine gI jK ?_;refine aK rfl (pC (qp5 n p1 lW kA kE) _) UK ?_;refine go ?_;refine D3 (ZH n r3 dX dB (HF p1 n r3 m1) kA) (fun Q1 pL=>[(0,.iM bL p1),(5,.vl 0 jL 0 dB.length),(6,.iM cS r3),(7,.i6 dX),(8,.iM cS kA),(9,.bool Q1),(10,.i6 pL)]) (fun _ _=>⟨mM dB jL,1⟩) (pW (sk r3 dX dB (HF p1 n r3 m1)) (fun ce=>[(0,.iM bL p1),(5,.vl 0 jL 0 dB.length),(6,.iM cS r3),(7,.i6 dX),(9,.bool ce)]) (fun _=>⟨mM dB jL,1⟩)) O (tX ?_) ?_;intro ce O;unfold sk at O;refine gr ?_;refine M7 r (fun qI _=>So dX (HF p1 n r3 m1) qI) (fun qI EW=>[(0,.iM bL p1),(5,.vl 0 EW 0 qI.length),(6,.iM cS r3),(7,.i6 dX)]) (fun qI EW=>⟨mM qI EW,1⟩) ?_ ?_;intro qI EW O;unfold So at O;exact wx O;refine cF O ?_ ?_<;>intro BM O;obtain⟨oV,rQ,O⟩:=aI O;obtain⟨xN,O⟩:=c6 O;refine gI rQ ?_;refine c5 ?_;refine c5 ?_;exact wx O;exact wx O;intro m2 Q1 pL O;unfold ZH at O;refine gG O ?_ ?_<;>intro FX O;obtain⟨b44,sO,O⟩:=aI O;refine gn ?_;refine nE [(0,.iM bL p1),(5,.vl 0 jL 0 dB.length),(6,.iM cS r3),(7,.i6 dX),(8,.iM cS kA),(9,.bool b44),(10,.i6 pL)] ⟨mM dB jL,1⟩ ?_ ?_;exact wx O;refine go ?_;rcases gB sO with⟨lE,sO⟩|⟨lE,sO⟩;refine go ?_;rcases gB sO with⟨A3,sO⟩|⟨A3,sO⟩;exact gy sO;obtain⟨aq,Lc,sO⟩:=aI sO;obtain⟨fg,h43,sO⟩:=aI sO;obtain rfl:=sI sO;refine gI Lc ?_;refine aK rfl (pC (O4 n kA aq fg h43) _) mQ ?_;refine go ?_;exact mS;obtain rfl:=sI sO;refine go ?_
 repeat refine RS.no (GS rfl rfl rfl) rfl rfl ?_
 refine go ?_;exact mS;exact wx O;exact wx O
def Rh(iK:(X (X Yv)))(fA:Int)(i8:(X Yv)->Int->V ((X Yv)))(Fu:X Yv):V ((X Yv)):=
 a8 (aB iK fA) fun xZ=>
 aF (Fu.length+xZ.length<=9223372036854775807) (
 i8 (Fu++xZ) (IntKind.i64.wrap (fA+1)))
def yu  (zy:X Yv):V ((X Yv)):=
 some zy
def L9(iK:(X (X Yv))):Nat->(X Yv)->Int->V ((X Yv))
 |0,_,_=>none|m2+1,DD,fA=>
  cond (decide (fA<(iK.length:Int))) (cond (decide (fA>0)) (aF (DD.length+([38]).length<=9223372036854775807) (
    Rh iK fA (L9 iK m2) (DD++[38]))) (Rh iK fA (L9 iK m2) DD)) (yu DD)
def Rg(eJ:Int)(cA:Int->(X (X Yv))->V ((X Yv)))(qH:X (X Yv)):V ((X Yv)):=
 cA (IntKind.i64.wrap (eJ+1)) qH
def yw(p1:X bG)(n:Nat)(dA:X (X Yv)):V ((X Yv)):=
 a8 (Iy n p1 dA) fun iK=>
 L9 iK n [] 0
def O2(p1:X bG)(p2:X (X Yv))(p3:X (X Int))(p4:X Int)(n:Nat):Nat->Int->(X (X Yv))->V ((X Yv))
 |0,_,_=>none|m1+1,eJ,c7=>
  cond (decide (eJ<(p2.length:Int))) (a8 (aB p3 eJ) fun pZ=>
   a8 (Qs n pZ p4) fun jM=>cond jM (a8 (aB p2 eJ) fun KD=>some KD) (a8 (Hw n p4 eJ) fun XP=>cond XP (a8 (aB p2 eJ) fun Fo=>
     aF ((c7.length+1)*16<=140737488355328/\c7.length+1<=140737488355328) (
     Rg eJ (O2 p1 p2 p3 p4 n m1) (c7++[Fo]))) (Rg eJ (O2 p1 p2 p3 p4 n m1) c7))) (yw p1 n c7)
def Py(n:Nat)(p1:X bG)(p2:X (X Yv))(p3:X (X Int))(p4:X Int):V ((X Yv)):=
 O2 p1 p2 p3 p4 n n 0 ([]:X (X Yv))
theorem qro(n:Nat)(p1:X bG)(p2:X (X Yv))(p3:X (X Int))(p4:X Int)(r:(X Yv))(O:Py n p1 p2 p3 p4=some r):cY prog 94 [.isl false (p1.map bL),.isl false (p2.map cS),.isl false (List.map (cL (cI .u64)) p3),.isl false (p4.map (cI .u64))] (.str r):=by unfold Py at O;refine Lg 59 Xx ?_;refine gr ?_;refine gr ?_;refine gr ?_;refine gV 9 9 1 1 ?_;refine nN (a3:=0) (fun m eJ c7 _=>O2 p1 p2 p3 p4 n m eJ c7) (fun eJ c7 gT=>[(0,.iM bL p1),(1,.iM cS p2),(2,.iM (cL (cI .u64)) p3),(3,.iM (cI .u64) p4),(9,.vl 0 gT 0 c7.length),(10,.i6 eJ)]) (fun _ c7 gT=>⟨mM c7 gT,1⟩) (lH (fun dA _=>yw p1 n dA) (fun dA fK=>[(0,.iM bL p1),(9,.vl 0 fK 0 dA.length)]) (fun dA fK=>⟨mM dA fK,1⟩)) O (nD ?_) ?_;intro dA fK O;unfold yw at O;refine gn ?_;refine dF (tm':=fr 59 [(0,.iM bL p1),(9,.iM cS dA)]) (Y':=⟨[],1⟩) (Gh.trans (Gh.sub (l':=[(0,.iM bL p1),(9,.vl 0 fK 0 dA.length)]) ⟨rfl,rfl,trivial⟩) (JV 0 1)) NZ ?_;obtain⟨iK,dO,O⟩:=aI O;refine go ?_;refine aK rfl (pC (qfc n p1 dA iK dO) _) J6 ?_;refine go ?_;refine D3 (L9 iK) (fun DD fA=>[(9,.iM cS iK),(11,.str DD),(12,.i6 fA)]) (fun _ _=>⟨[],1⟩) (pW yu (fun zy=>[(11,.str zy)]) (fun _=>⟨[],1⟩)) O (tX ?_) ?_;intro zy O;unfold yu at O;exact gx O;intro m2 DD fA O;unfold L9 at O;refine gG O ?_ ?_<;>intro IR O;refine gr ?_;refine Zy r (Rh iK fA (L9 iK m2)) (fun Fu=>[(9,.iM cS iK),(11,.str Fu),(12,.i6 fA)]) (fun _=>⟨[],1⟩) ?_ ?_;intro Fu O;unfold Rh at O;obtain⟨xZ,sP,O⟩:=aI O;obtain⟨tT,O⟩:=c6 O;refine gI sP ?_;refine aY (u:=.str (Fu++xZ)) rfl (FA rfl rfl (z8k tT) rfl) ?_;exact wx O;refine cF O ?_ ?_<;>intro o4 O;obtain⟨BM,O⟩:=c6 O;refine go ?_;refine aY (u:=.str (DD++[38])) rfl (FA rfl rfl (z8k BM) rfl) ?_;exact wx O;exact wx O;exact wx O;intro m1 eJ c7 gT O;unfold O2 at O;refine gG O ?_ ?_<;>intro oE O;obtain⟨pZ,nM,jM,xN,O⟩:=bO O;refine gI nM ?_;refine aK rfl (pC (qp3 n pZ p4 jM xN) _) V0 ?_;refine gF O ?_ ?_<;>intro FX O;obtain⟨KD,A3,O⟩:=aI O;refine go ?_;refine cB A3 ?_;exact gx O;obtain⟨XP,Lc,O⟩:=aI O;refine go ?_;refine aK rfl (pC (qly n p4 eJ XP Lc) _) J7 ?_;refine gn ?_;refine M7 r (fun qH _=>Rg eJ (O2 p1 p2 p3 p4 n m1) qH) (fun qH MR=>[(0,.iM bL p1),(1,.iM cS p2),(2,.iM (cL (cI .u64)) p3),(3,.iM (cI .u64) p4),(9,.vl 0 MR 0 qH.length),(10,.i6 eJ)]) (fun qH MR=>⟨mM qH MR,1⟩) ?_ ?_;intro qH MR O;unfold Rg at O;exact wx O;refine cF O ?_ ?_<;>intro vS O;obtain⟨Fo,Lb,O⟩:=aI O;obtain⟨bq,O⟩:=c6 O;refine gI Lb ?_;refine c5 ?_;refine c5 ?_;exact wx O;exact wx O;exact wx O
def Rj(z6:Int)(cA:Int->(X Int)->V ((X Int)))(dA:X Int):V ((X Int)):=
 cA (IntKind.i64.wrap (z6+1)) dA
def li  (l9:X Int):V ((X Int)):=
 some l9
def O5(p1:X Int)(n:Nat):Nat->Int->(X Int)->V ((X Int))
 |0,_,_=>none|m1+1,z6,l7=>
  cond (decide (z6<(IntKind.i64.wrap (64*(p1.length:Int))))) (a8 (Hw n p1 z6) fun fV=>cond fV (aF ((l7.length+1)*8<=140737488355328/\l7.length+1<=140737488355328) (
    Rj z6 (O5 p1 n m1) (l7++[z6]))) (Rj z6 (O5 p1 n m1) l7)) (li l7)
def kw(n:Nat)(p1:X Int):V ((X Int)):=
 O5 p1 n n 0 ([]:X Int)
theorem qrl(n:Nat)(p1:X Int)(r:(X Int))(O:kw n p1=some r):cY prog 162 [.isl false (p1.map (cI .u64))] (.isl false (r.map (cI .i64))):=by unfold kw at O;refine lG 20 UJ ?_;refine gr ?_;refine gr ?_;refine gr ?_;refine gV 3 3 1 1 ?_;refine nN (a3:=0) (fun m z6 l7 _=>O5 p1 n m z6 l7) (fun z6 l7 t8=>[(0,.iM (cI .u64) p1),(3,.vl 0 t8 0 l7.length),(4,.i6 z6)]) (fun _ l7 t8=>⟨DP l7 t8,1⟩) (lH (fun l9 _=>li l9) (fun l9 eQ=>[(3,.vl 0 eQ 0 l9.length)]) (fun l9 eQ=>⟨DP l9 eQ,1⟩)) O (nD ?_) ?_;intro l9 eQ O;unfold li at O;refine go ?_;obtain rfl:=sI O;exact rT (us:=[.vl 0 eQ 0 l9.length]) (u:=.iM (cI .i64) l9) (dT rfl (eD)) (fR 0 1);intro m1 z6 l7 t8 O;unfold O5 at O;refine gG O ?_ ?_<;>intro jT O;obtain⟨fV,eB,O⟩:=aI O;refine go ?_;refine aK rfl (pC (qly n p1 z6 fV eB) _) J7 ?_;refine gn ?_;refine M7 r (fun dA _=>Rj z6 (O5 p1 n m1) dA) (fun dA fK=>[(0,.iM (cI .u64) p1),(3,.vl 0 fK 0 dA.length),(4,.i6 z6)]) (fun dA fK=>⟨DP dA fK,1⟩) ?_ ?_;intro dA fK O;unfold Rj at O;exact wx O;refine cF O ?_ ?_<;>intro i7 O;obtain⟨jK,O⟩:=c6 O;refine go ?_;refine c5 ?_;refine c5 ?_;exact wx O;exact wx O;exact wx O
def Ii(n:Nat)(p1:X Int):V (Int):=
 a8 (kw n p1) fun r2=>some (r2.length:Int)
theorem qia(n:Nat)(p1:X Int)(r:Int)(O:Ii n p1=some r):cY prog 132 [.isl false (p1.map (cI .u64))] (.int .i64 r):=by unfold Ii at O;refine lG 6 J5 ?_;obtain⟨r2,h3,O⟩:=aI O;refine go ?_;refine aK rfl (pC (qrl n p1 r2 h3) _) UJ ?_;exact gx O
def Qx(n:Nat)(p1:dN)(p2:dN):V (PE):=
 a8 (Ii n p1.Code) fun r3=>
 a8 (Ii n p2.Code) fun r5=>
 a8 (cond (decide (r3>r5)) (some true) (cond (r3==r5) (some (kD p1.Name p2.Name)) (some false))) fun b9=>some b9
theorem qmu(n:Nat)(p1:dN)(p2:dN)(r:PE)(O:Qx n p1 p2=some r):cY prog 95 [.agg (fF p1),.agg (fF p2)] (.bool r):=by
 unfold Qx at O;refine eL 28 Xw ?_;obtain⟨r3,h4,O⟩:=aI O;refine go ?_;refine aK rfl (pC (qia n p1.Code r3 h4) _) J5 ?_;obtain⟨r5,h6,O⟩:=aI O;refine go ?_;refine aK rfl (pC (qia n p2.Code r5 h6) _) J5 ?_;obtain⟨b9,gC,O⟩:=aI O;refine gn ?_;refine nE [(4,.bool b9)] ⟨[(1,.row (fF p2) 143),(0,.row (fF p1) 143)],2⟩ ?_ ?_;exact gx O;refine go ?_;rcases gB gC with⟨h7,gC⟩|⟨h7,gC⟩;obtain rfl:=sI gC;refine go ?_
 repeat refine RS.no (GS rfl rfl rfl) rfl rfl ?_
 refine go ?_;exact mS;refine go ?_;rcases gB gC with⟨h8,gC⟩|⟨h8,gC⟩;obtain rfl:=sI gC;refine go ?_;refine RS.w (u:=.bool (kD p1.Name p2.Name)) rfl (FA rfl rfl rfl rfl) ?_;refine go ?_;exact mS;exact gy gC
def Rw(dP:Int)(bU:X dN)(i8:Int->(X dN)->V ((X dN)×Int))(jM:(X Yv))(iW:X Int)(z50:Int):V ((X dN)×Int):=
 aF ((0:Int)<=z50/\z50<=((bU.length:Nat):Int)) (
 aF (0+z50.toNat<=bU.length) (
 aF (((bU.drop 0).take z50.toNat).length*40<=140737488355328/\((bU.drop 0).take z50.toNat).length<=140737488355328) (
 aF ((((bU.drop 0).take z50.toNat).length+1)*40<=140737488355328/\((bU.drop 0).take z50.toNat).length+1<=140737488355328) (
 aF ((0:Int)<=z50/\z50<=((bU.length:Nat):Int)) (
 aF ((0+z50.toNat)+(bU.length-z50.toNat)<=bU.length) (
 aF (((((bU.drop 0).take z50.toNat)++[(dN.mk jM iW)]).length+((bU.drop (0+z50.toNat)).take (bU.length-z50.toNat)).length)*40<=140737488355328/\(((bU.drop 0).take z50.toNat)++[(dN.mk jM iW)]).length+((bU.drop (0+z50.toNat)).take (bU.length-z50.toNat)).length<=140737488355328) (
 i8 (IntKind.i64.wrap (dP+1)) ((((bU.drop 0).take z50.toNat)++[(dN.mk jM iW)])++((bU.drop (0+z50.toNat)).take (bU.length-z50.toNat))))))))))
def Jf(n:Nat)(dP:Int)(bU:X dN)(i8:Int->(X dN)->V ((X dN)×Int))(jM:(X Yv))(iW:X Int):Nat->Int->V ((X dN)×Int)
 |0,_=>none|m3+1,QC=>a8 (cond (decide (QC>0)) (a8 (aB bU (IntKind.i64.wrap (QC-1))) fun G8=>a8 (Qx n (dN.mk jM iW) G8) fun fa=>some fa) (some false)) fun b63=>cond b63 ((Jf n dP bU i8 jM iW m3) (IntKind.i64.wrap (QC-1))) (Rw dP bU i8 jM iW QC)
def ml  (eI:X dN):V ((X dN)×Int):=
 some (eI,0)
def O9(p1:X bG)(n:Nat)(r5:(X (X Yv)))(dA:X (X Int))(iK:(X (X Int))):Nat->Int->(X dN)->V ((X dN)×Int)
 |0,_,_=>none|m2+1,dP,bU=>
  cond (decide (dP<(iK.length:Int))) (a8 (aB iK dP) fun pZ=>
   a8 (Py n p1 r5 dA pZ) fun jM=>
   a8 (aB iK dP) fun iW=>
   Jf n dP bU (O9 p1 n r5 dA iK m2) jM iW n (bU.length:Int)) (ml bU)
def mm(p1:X bG)(n:Nat)(r5:(X (X Yv)))(dA:X (X Int)):V ((X dN)×Int):=
 a8 (Qw n dA) fun iK=>cond (decide ((iK.length:Int)>256)) (some ([],7)) (O9 p1 n r5 dA iK n 0 ([]:X dN))
def Z6(p1:X bG)(n:Nat)(r5:(X (X Yv))):Nat->Int->(X (X Int))->V ((X dN)×Int)
 |0,_,_=>none|m1+1,eJ,c7=>
  cond (decide (eJ<(r5.length:Int))) (a8 (aB r5 eJ) fun ap=>
   a8 (Pz n p1 r5 ap) fun dz=>
   aF ((c7.length+1)*24<=140737488355328/\c7.length+1<=140737488355328) ((Z6 p1 n r5 m1) (IntKind.i64.wrap (eJ+1)) (c7++[dz]))) (mm p1 n r5 c7)
def NU(n:Nat)(p1:X bG):V ((X dN)×Int):=
 a8 (Qp n p1) fun r2=>cond (r2 != 0) (some ([],r2)) (a8 (Qo n p1) fun r5=>Z6 p1 n r5 n 0 ([]:X (X Int)))
theorem yz(n:Nat)(p1:X bG)(r:(X dN)×Int)(O:NU n p1=some r):cY prog 58 [.isl false (p1.map bL)] (.tup [.isl false (r.1.map fF),.int .i64 r.2]):=by unfold NU at O;refine lG 92 IT ?_;obtain⟨r2,h3,O⟩:=aI O;refine go ?_;refine aK rfl (pC (qp7 n p1 r2 h3) _) Ya ?_;refine gF O ?_ ?_<;>intro h4 O;refine go ?_;obtain rfl:=sI O;exact rT (us:=[.nils,.i6 r2]) (u:=.tup [.isl false [],.i6 r2]) (dT rfl (dT rfl (eD))) wR;obtain⟨r5,h6,O⟩:=aI O;refine go ?_;refine aK rfl (pC (qic n p1 r5 h6) _) Dm ?_;refine gr ?_;refine gr ?_;refine gV 6 141 1 1 ?_;refine nN (a3:=0) (fun m eJ c7 _=>Z6 p1 n r5 m eJ c7) (fun eJ c7 gT=>[(0,.iM bL p1),(5,.iM cS r5),(6,.vl 0 gT 0 c7.length),(7,.i6 eJ)]) (fun _ c7 gT=>⟨[(0,.bv (cL (cI .u64)) c7 141 1 gT)],1⟩) (lH (fun dA _=>mm p1 n r5 dA) (fun dA fK=>[(0,.iM bL p1),(5,.iM cS r5),(6,.vl 0 fK 0 dA.length)]) (fun dA fK=>⟨[(0,.bv (cL (cI .u64)) dA 141 1 fK)],1⟩)) O (nD ?_) ?_;intro dA fK O;unfold mm at O;refine gn ?_;refine dF (tm':=fr 92 [(0,.iM bL p1),(5,.iM cS r5),(6,.iM (cL (cI .u64)) dA)]) (Y':=⟨[],1⟩) (Gh.trans (Gh.sub (l':=[(0,.iM bL p1),(5,.iM cS r5),(6,.vl 0 fK 0 dA.length)]) ⟨rfl,rfl,rfl,trivial⟩) (JV 0 1)) NZ ?_;obtain⟨iK,dO,O⟩:=aI O;refine go ?_;refine aK rfl (pC (qmv n dA iK dO) _) Xy ?_;refine gF O ?_ ?_<;>intro kE O;refine go ?_;obtain rfl:=sI O;exact rT (us:=[.nils,.i6 7]) (u:=.tup [.isl false [],.i6 7]) (dT rfl (dT rfl (eD))) wR;refine gr ?_;refine gr ?_;refine gV 9 143 2 2 ?_;refine nN (a3:=0) (fun m dP bU _=>O9 p1 n r5 dA iK m dP bU) (fun dP bU iX=>[(0,.iM bL p1),(5,.iM cS r5),(6,.iM (cL (cI .u64)) dA),(8,.iM (cL (cI .u64)) iK),(9,.vl 1 iX 0 bU.length),(10,.i6 dP)]) (fun _ bU iX=>⟨[(1,.bv fF bU 143 2 iX)],2⟩) (lH (fun eI _=>ml eI) (fun eI MT=>[(9,.vl 1 MT 0 eI.length)]) (fun eI MT=>⟨[(1,.bv fF eI 143 2 MT)],2⟩)) O (nD ?_) ?_;intro eI MT O;unfold ml at O;refine go ?_;obtain rfl:=sI O;exact rT (us:=[.vl 1 MT 0 eI.length,.i6 0]) (u:=.tup [.iM fF eI,.i6 0]) (dT rfl (dT rfl (eD))) (fR 1 2);intro m2 dP bU iX O;unfold O9 at O;refine gG O ?_ ?_<;>intro oE O;obtain⟨pZ,nM,jM,xN,iW,lE,O⟩:=oM O;refine go ?_;refine dE [(0,13),(1,13),(2,13),(3,13),(4,13),(5,13),(6,13),(8,13),(9,13),(10,13),(11,13),(12,13)] ?_;refine gJ nM ?_;refine dK rfl (pC (qro n p1 r5 dA pZ jM xN)) Xx ?_;refine gJ lE ?_;refine eN ?_;refine qM ?_;refine bC ⟨by kernel_rfl,⟨oD rfl,⟨oD rfl,⟨oD rfl,⟨oD rfl,⟨oD rfl,⟨dZ rfl rfl (Gq (cL (cI .u64)) qN.h (bB pB.h) (RJ (cI .u64)) nM rfl),⟨Of fU.h rfl rfl rfl,⟨oD rfl,⟨oD rfl,⟨dZ rfl rfl (Gq (cL (cI .u64)) qN.h (bB pB.h) (RJ (cI .u64)) lE rfl),⟨Of fU.h rfl rfl rfl,⟨ab Zr.h rfl rfl rfl,trivial⟩⟩⟩⟩⟩⟩⟩⟩⟩⟩⟩⟩,?_⟩;refine go ?_;refine oG (Jf n dP bU (O9 p1 n r5 dA iK m2) jM iW) (fun QC=>[(0,.iM bL p1),(5,.iM cS r5),(6,.iM (cL (cI .u64)) dA),(8,.iM (cL (cI .u64)) iK),(9,.vl 1 iX 0 bU.length),(10,.i6 dP),(11,.ptr 2 0 0),(12,.i6 QC)]) (fun _=>⟨Ph (.str jM) iW bU iX,3⟩) (pW (Rw dP bU (O9 p1 n r5 dA iK m2) jM iW) (fun z50=>[(0,.iM bL p1),(5,.iM cS r5),(6,.iM (cL (cI .u64)) dA),(8,.iM (cL (cI .u64)) iK),(9,.vl 1 iX 0 bU.length),(10,.i6 dP),(11,.ptr 2 0 0),(12,.i6 z50)]) (fun _=>⟨Ph (.str jM) iW bU iX,3⟩)) O (tX ?_) ?_;intro z50 O;unfold Rw at O;obtain⟨vR,O⟩:=c6 O;obtain⟨Df,O⟩:=c6 O;obtain⟨h53,O⟩:=c6 O;refine go ?_;refine aY (u:=.vl 1 iX 0 z50.toNat) rfl (L1 rfl MD (MC rfl) (Ln fF qO.h (bB rG.h) SA (vo rfl) (Nat.le_of_eq (Nat.zero_add _)) (ij vR.1 vR.2))) (aY (u:=.vl 3 0 0 (((bU.drop 0).take z50.toNat).length)) (Y':=⟨(3,.bv fF ((bU.drop 0).take z50.toNat) 143 2 0)::Ph (.str jM) iW bU iX,4⟩) rfl (pQ rfl rfl rfl rfl (rk fF ((bU.drop 0).take z50.toNat) qO.h qO.h rG.h rfl (wb fF SA (vo rfl) Df) h53)) ?_);obtain⟨h54,O⟩:=c6 O;refine go ?_;refine c5 ?_;refine c5 ?_;obtain⟨bo,O⟩:=c6 O;obtain⟨U4,O⟩:=c6 O;obtain⟨h57,O⟩:=c6 O;refine go ?_;refine aY (u:=.vl 1 iX (0+z50.toNat) (bU.length-z50.toNat)) rfl (L1 rfl (MC rfl) MD (Ln fF qO.h (bB rG.h) SA (vo rfl) (Nat.le_of_eq (Nat.zero_add _)) (ii bo.1 bo.2))) (aY (u:=.vl 3 2 0 (((((bU.drop 0).take z50.toNat)++[(dN.mk jM iW)])++((bU.drop (0+z50.toNat)).take (bU.length-z50.toNat))).length)) (Y':=⟨(4,.row [.str jM,.iM (cI .u64) iW] 143)::(3,.bv fF ((((bU.drop 0).take z50.toNat)++[(dN.mk jM iW)])++((bU.drop (0+z50.toNat)).take (bU.length-z50.toNat))) 143 2 2)::Ph (.str jM) iW bU iX,5⟩) rfl (pQ rfl rfl rfl rfl (DN fF ((bU.drop (0+z50.toNat)).take (bU.length-z50.toNat)) qO.h qO.h rG.h rfl SA rfl (wb fF SA (vo rfl) U4) h57)) ?_);refine go ?_;exact⟨m2,_,_,zN _,⟨(IntKind.i64.wrap (dP+1)),((((bU.drop 0).take z50.toNat)++[(dN.mk jM iW)])++((bU.drop (0+z50.toNat)).take (bU.length-z50.toNat))),2,O,rfl,rfl⟩,NZ,Gh.trans (Gh.sub (l':=[(0,.iM bL p1),(5,.iM cS r5),(6,.iM (cL (cI .u64)) dA),(8,.iM (cL (cI .u64)) iK),(9,.vl 3 2 0 (((((bU.drop 0).take z50.toNat)++[(dN.mk jM iW)])++((bU.drop (0+z50.toNat)).take (bU.length-z50.toNat))).length)),(10,.i6 (IntKind.i64.wrap (dP+1)))]) ⟨rfl,rfl,rfl,rfl,rfl,rfl,trivial⟩) (Gh.trans (Gh.mv (l':=[(0,.iM bL p1),(5,.iM cS r5),(6,.iM (cL (cI .u64)) dA),(8,.iM (cL (cI .u64)) iK),(9,.vl 1 2 0 (((((bU.drop 0).take z50.toNat)++[(dN.mk jM iW)])++((bU.drop (0+z50.toNat)).take (bU.length-z50.toNat))).length)),(10,.i6 (IntKind.i64.wrap (dP+1)))]) (h':=[(4,.row [.str jM,.iM (cI .u64) iW] 143),(1,.bv fF ((((bU.drop 0).take z50.toNat)++[(dN.mk jM iW)])++((bU.drop (0+z50.toNat)).take (bU.length-z50.toNat))) 143 2 2),(2,.row [.str jM,.iM (cI .u64) iW] 143)]) 1 3 NZ rfl rfl (by simp only[rS,rU,fB,RT,yS,Nat.beq,zC,zD]) rfl (by simp only[Zt,rB,Gl,fB,rU,RT,wg,yS,Nat.beq,zC,zD,and_self])) (M8 (n1:=2) ⟨rfl,rfl,rfl,rfl,rfl,rfl,trivial⟩ rfl NZ qq4))⟩;intro m3 QC O;unfold Jf at O;obtain⟨b63,vQ,O⟩:=aI O;refine gn ?_;refine nE [(0,.iM bL p1),(5,.iM cS r5),(6,.iM (cL (cI .u64)) dA),(8,.iM (cL (cI .u64)) iK),(9,.vl 1 iX 0 bU.length),(10,.i6 dP),(11,.ptr 2 0 0),(12,.i6 QC),(73,.bool b63)] ⟨Ph (.str jM) iW bU iX,3⟩ ?_ ?_;refine gG O ?_ ?_<;>intro h65 O;exact wx O;exact wx O;refine dE [] ?_;refine gd ?_;rcases gB vQ with⟨Kz,vQ⟩|⟨Kz,vQ⟩;obtain⟨G8,Xk,vQ⟩:=aI vQ;obtain⟨fa,Xj,vQ⟩:=aI vQ;obtain rfl:=sI vQ;refine gd ?_;refine RD.w rfl (dZ rfl rfl (kC fF qO.h (bB rG.h) qq3 SA (vo rfl) Xk)) ?_;refine RD.w (u:=.agg (fF G8)) rfl (Ae fF QR.h rfl (bB rG.h) SA rfl rfl Xk rfl) (dK rfl (pC (qmu n (dN.mk jM iW) G8 fa Xj)) Xw ?_);refine gd ?_;refine bC ⟨by kernel_rfl,trivial,?_⟩;refine go ?_;exact mS;obtain rfl:=sI vQ;refine gd ?_;refine bC ⟨by kernel_rfl,trivial,?_⟩;refine go ?_;exact mS;exact wx O;intro m1 eJ c7 gT O;unfold Z6 at O;refine gG O ?_ ?_<;>intro h66 O;obtain⟨ap,h68,dz,h70,O⟩:=bO O;obtain⟨h71,O⟩:=c6 O;refine gI h68 ?_;refine aK rfl (pC (qrn n p1 r5 ap dz h70) _) Xz ?_;refine c5 ?_;refine c5 ?_;exact wx O;exact wx O
def Z0(n:Nat)(p1:X Yv):V (PE):=
 a8 (Ij n p1 true) fun r2=>some r2
theorem qlx(n:Nat)(p1:X Yv)(r:PE)(O:Z0 n p1=some r):cY prog 155 [.str p1] (.bool r):=by unfold Z0 at O;refine lG 5 UO ?_;obtain⟨r2,h3,O⟩:=aI O;refine go ?_;refine aK rfl (pC (qi9 n p1 true r2 h3) _) J0 ?_;exact gx O
def sy(n:Nat)(r2:(X (X Yv)))(x9:bG)(mA:Int)(i8:Int->V (Int)): V (Int):=
 a8 (aB x9.Feats mA) fun W3=>
 a8 (FH n r2 W3.Value) fun GN=>cond (!GN) (some 5) (i8 (IntKind.i64.wrap (mA+1)))
def Jr(n:Nat)(r2:(X (X Yv)))(x9:bG)(mA:Int)(i8:Int->V (Int)):Nat->Int->V (Int)
 |0,_=>none|m3+1,pL=>cond (decide (pL<mA)) (a8 (aB x9.Feats pL) fun G9=>a8 (aB x9.Feats mA) fun KD=>cond (lO G9.Feat KD.Feat) (some 4) ((Jr n r2 x9 mA i8 m3) (IntKind.i64.wrap (pL+1)))) (sy n r2 x9 mA i8)
def pa(z7:Int)(cA:Int->V (Int)): V (Int):=
 cA (IntKind.i64.wrap (z7+1))
def LK(n:Nat)(r2:(X (X Yv)))(z7:Int)(cA:Int->V (Int))(x9:bG):Nat->Int->V (Int)
 |0,_=>none|m2+1,mA=>cond (decide (mA<(x9.Feats.length:Int))) (a8 (aB x9.Feats mA) fun KE=>a8 (Z0 n KE.Feat) fun fm=>cond (!fm) (some 1) (Jr n r2 x9 mA (LK n r2 z7 cA x9 m2) n 0)) (pa z7 cA)
def pb: V (Int):=
 some 0
def DU(p1:X bG)(n:Nat)(r2:(X (X Yv))):Nat->Int->V (Int)
 |0,_=>none|m1+1,z7=>cond (decide (z7<(p1.length:Int))) (a8 (aB p1 z7) fun x9=>LK n r2 z7 (DU p1 n r2 m1) x9 n 0) (pb)
def Ss(n:Nat)(p1:X bG):V (Int):=
 a8 (Qo n p1) fun r2=>
 DU p1 n r2 n 0
theorem qg5(n:Nat)(p1:X bG)(r:Int)(O:Ss n p1=some r):cY prog 115 [.isl false (p1.map bL)] (.int .i64 r):=by unfold Ss at O;refine lG 58 V9 ?_;obtain⟨r2,h3,O⟩:=aI O;refine go ?_;refine aK rfl (pC (qic n p1 r2 h3) _) Dm ?_;refine go ?_;refine oG (DU p1 n r2) (fun z7=>[(0,.iM bL p1),(3,.iM cS r2),(4,.i6 z7)]) (fun _=>⟨[],0⟩) (pK pb [] ⟨[],0⟩) O (rY ?_) ?_;intro O;unfold pb at O;exact gx O;intro m1 z7 O;unfold DU at O;refine gG O ?_ ?_<;>intro h8 O;obtain⟨x9,gC,O⟩:=aI O;refine gI gC ?_;refine oG (LK n r2 z7 (DU p1 n r2 m1) x9) (fun mA=>[(0,.iM bL p1),(3,.iM cS r2),(4,.i6 z7),(5,.iM lA x9.Feats),(6,.i6 mA)]) (fun _=>⟨[],0⟩) (pK (pa z7 (DU p1 n r2 m1)) [(0,.iM bL p1),(3,.iM cS r2),(4,.i6 z7)] ⟨[],0⟩) O (rY ?_) ?_;intro O;unfold pa at O;exact wx O;intro m2 mA O;unfold LK at O;refine gG O ?_ ?_<;>intro jK O;obtain⟨KE,kE,fm,tU,O⟩:=bO O;refine gI kE ?_;refine aK rfl (pC (qlx n KE.Feat fm tU) _) UO ?_;refine gF O ?_ ?_<;>intro uP O;exact gx O;refine go ?_;refine oG (Jr n r2 x9 mA (LK n r2 z7 (DU p1 n r2 m1) x9 m2)) (fun pL=>[(0,.iM bL p1),(3,.iM cS r2),(4,.i6 z7),(5,.iM lA x9.Feats),(6,.i6 mA),(7,.i6 pL)]) (fun _=>⟨[],0⟩) (pK (sy n r2 x9 mA (LK n r2 z7 (DU p1 n r2 m1) x9 m2)) [(0,.iM bL p1),(3,.iM cS r2),(4,.i6 z7),(5,.iM lA x9.Feats),(6,.i6 mA)] ⟨[],0⟩) O (rY ?_) ?_;intro O;unfold sy at O;obtain⟨W3,BM,GN,vT,O⟩:=bO O;refine gI BM ?_;refine aK rfl (pC (O4 n r2 W3.Value GN vT) _) mQ ?_;refine gF O ?_ ?_<;>intro nM O;exact gx O;exact wx O;intro m3 pL O;unfold Jr at O;refine gG O ?_ ?_<;>intro rQ O;obtain⟨G9,FX,KD,A3,O⟩:=bO O;refine go ?_;refine dE [] ?_;refine gJ FX ?_;refine dU A3 ?_;refine gd ?_;refine aV (u:=.bool (lO G9.Feat KD.Feat)) rfl (FA rfl rfl rfl rfl) ?_;refine bC ⟨by kernel_rfl,trivial,?_⟩;refine gF O ?_ ?_<;>intro xM O;exact gx O;exact wx O;exact wx O;exact wx O;exact wx O
def me(z6:Int)(cA:(X (X Yv))->Int->V ((X (X Yv))))(dA:X (X Yv)):V ((X (X Yv))):=
 cA dA (IntKind.i64.wrap (z6+1))
def Z3(p1:X bG)(n:Nat)(z6:Int)(cA:(X (X Yv))->Int->V ((X (X Yv)))):Nat->(X (X Yv))->Int->V ((X (X Yv)))
 |0,_,_=>none|m2+1,c7,kG=>
  a8 (aB p1 z6) fun lW=>cond (decide (kG<(lW.Feats.length:Int))) (a8 (aB p1 z6) fun MK=>
   a8 (aB MK.Feats kG) fun A8=>
   a8 (NQ n c7 A8.Feat) fun y6=>(Z3 p1 n z6 cA m2) y6 (IntKind.i64.wrap (kG+1))) (me z6 cA c7)
def mf  (l7:X (X Yv)):V ((X (X Yv))):=
 some l7
def LA(p1:X bG)(n:Nat):Nat->(X (X Yv))->Int->V ((X (X Yv)))
 |0,_,_=>none|m1+1,l5,z6=>cond (decide (z6<(p1.length:Int))) (Z3 p1 n z6 (LA p1 n m1) n l5 0) (mf l5)
def YR(n:Nat)(p1:X bG):V ((X (X Yv))):=
 LA p1 n n [] 0
theorem D?(n:Nat)(p1:X bG)(r:(X (X Yv)))(O:YR n p1=some r):cY prog 87 [.isl false (p1.map bL)] (.isl false (r.map cS)):=by unfold YR at O;refine lG 34 PR ?_;refine gr ?_;refine gr ?_;refine gr ?_;refine dF (tm':=fr 34 [(0,.iM bL p1),(3,.iM cS []),(4,.i6 0)]) (Gh.trans (Gh.sub (l':=[(0,.iM bL p1),(3,.nils),(4,.i6 0)]) ⟨rfl,rfl,rfl,trivial⟩) (Gh.wkS (l':=[(0,.iM bL p1),(3,.iM cS []),(4,.i6 0)]) (.cons (.refl _) (.cons (.nil false) (.cons (.refl _) .nil))))) NZ ?_;refine D3 (LA p1 n) (fun l5 z6=>[(0,.iM bL p1),(3,.iM cS l5),(4,.i6 z6)]) (fun _ _=>⟨[],0⟩) (pW mf (fun l7=>[(3,.iM cS l7)]) (fun _=>⟨[],0⟩)) O (tX ?_) ?_;intro l7 O;unfold mf at O;exact gx O;intro m1 l5 z6 O;unfold LA at O;refine gG O ?_ ?_<;>intro h8 O;refine go ?_;refine D3 (Z3 p1 n z6 (LA p1 n m1)) (fun c7 kG=>[(0,.iM bL p1),(3,.iM cS c7),(4,.i6 z6),(5,.i6 kG)]) (fun _ _=>⟨[],0⟩) (pW (me z6 (LA p1 n m1)) (fun dA=>[(0,.iM bL p1),(3,.iM cS dA),(4,.i6 z6)]) (fun _=>⟨[],0⟩)) O (tX ?_) ?_;intro dA O;unfold me at O;exact wx O;intro m2 c7 kG O;unfold Z3 at O;obtain⟨lW,jK,O⟩:=aI O;refine go ?_;refine cB jK ?_;refine gG O ?_ ?_<;>intro dO O;obtain⟨MK,tE,A8,uP,y6,pJ,O⟩:=oM O;refine gI tE ?_;refine cB uP ?_;refine go ?_;refine aK rfl (pC (Ig n c7 A8.Feat y6 pJ) _) rV ?_;exact wx O;exact wx O;exact wx O
def lw: V ((X Yv)×PE):=
 some ([],false)
def Z2(p1:bG)(p2:X Yv):Nat->Int->V ((X Yv)×PE)
 |0,_=>none|m1+1,z8=>cond (decide (z8<(p1.Feats.length:Int))) (a8 (aB p1.Feats z8) fun x10=>cond (lO x10.Feat p2) (a8 (aB p1.Feats z8) fun QF=>some (QF.Value,true)) ((Z2 p1 p2 m1) (IntKind.i64.wrap (z8+1)))) (lw)
def Ql(n:Nat)(p1:bG)(p2:X Yv):V ((X Yv)×PE):=
 Z2 p1 p2 n 0
theorem qif(n:Nat)(p1:bG)(p2:X Yv)(r:(X Yv)×PE)(O:Ql n p1 p2=some r):cY prog 117 [.agg (bL p1),.str p2] (.tup [.str r.1,.bool r.2]):=by unfold Ql at O;refine eL 28 J8 ?_;refine go ?_;refine oG (Z2 p1 p2) (fun z8=>[(1,.str p2),(2,.ptr 0 0 0),(6,.i6 z8)]) (fun _=>⟨[(0,.row (bL p1) 153)],1⟩) (pK lw [] ⟨[(0,.row (bL p1) 153)],1⟩) O (rY ?_) ?_;intro O;unfold lw at O;refine go ?_;obtain rfl:=sI O;exact y5 rfl rfl rfl rfl rfl;intro m1 z8 O;unfold Z2 at O;refine gG O ?_ ?_<;>intro h9 O;obtain⟨x10,jT,O⟩:=aI O;refine gI jT ?_;refine aY (u:=.bool (lO x10.Feat p2)) rfl (FA rfl rfl rfl rfl) ?_;refine gF O ?_ ?_<;>intro g9 O;obtain⟨QF,i7,O⟩:=aI O;refine gI i7 ?_;obtain rfl:=sI O;exact y5 rfl rfl rfl rfl rfl;exact wx O;exact wx O
def SF(n:Nat)(p1:X dN)(p2:Int)(p3:Int):V (PE):=
 a8 (aB p1 p3) fun x4=>
 a8 (aB p1 p2) fun x6=>
 a8 (YV n x4.Code x6.Code) fun r8=>some r8
theorem sj(n:Nat)(p1:X dN)(p2:Int)(p3:Int)(r:PE)(O:SF n p1 p2 p3=some r):cY prog 96 [.isl false (p1.map fF),.int .i64 p2,.int .i64 p3] (.bool r):=by unfold SF at O;refine xU 18 IS ?_;obtain⟨x4,h5,x6,h7,r8,h9,O⟩:=oM O;refine go ?_;refine dE [] ?_;refine gJ h5 ?_;refine dU h7 ?_;refine gd ?_;refine dK rfl (pC (H? n x4.Code x6.Code r8 h9)) CX ?_;refine gd ?_;refine bC ⟨by kernel_rfl,trivial,?_⟩;exact gx O
def ut: V (Int):=
 some (-1)
def ZE(p1:X dN)(p2:X Yv):Nat->Int->V (Int)
 |0,_=>none|m1+1,z6=>cond (decide (z6<(p1.length:Int))) (a8 (aB p1 z6) fun x8=>cond (lO x8.Name p2) (some z6) ((ZE p1 p2 m1) (IntKind.i64.wrap (z6+1)))) (ut)
def Im(n:Nat)(p1:X dN)(p2:X Yv):V (Int):=
 ZE p1 p2 n 0
theorem G?(n:Nat)(p1:X dN)(p2:X Yv)(r:Int)(O:Im n p1 p2=some r):cY prog 98 [.isl false (p1.map fF),.str p2] (.int .i64 r):=by unfold Im at O;refine eL 20 PO ?_;refine go ?_;refine oG (ZE p1 p2) (fun z6=>[(0,.iM fF p1),(1,.str p2),(5,.i6 z6)]) (fun _=>⟨[],0⟩) (pK ut [] ⟨[],0⟩) O (rY ?_) ?_;intro O;unfold ut at O;exact gx O;intro m1 z6 O;unfold ZE at O;refine gG O ?_ ?_<;>intro h7 O;obtain⟨x8,h9,O⟩:=aI O;refine gI h9 ?_;refine aY (u:=.bool (lO x8.Name p2)) rfl (FA rfl rfl rfl rfl) ?_;refine gF O ?_ ?_<;>intro gC O;exact gx O;exact wx O;exact wx O
def sw  (tW:PE) (m7:X Int):V ((X Int)×PE):=
 some (m7,tW)
def SM(p1:X bG)(p2:X dN)(p3:Int)(p4:X Yv)(n:Nat):Nat->PE->(X Int)->Int->V ((X Int)×PE)
 |0,_,_,_=>none|m1+1,D2,dA,mA=>
  cond (decide (mA<(p1.length:Int))) (a8 (aB p1 mA) fun D9=>
   a8 (Ql n D9 p4) fun KO=>
   a8 (cond (!KO.2) (some true) (a8 (aB p1 mA) fun ET=>
    a8 (Im n p2 ET.Name) fun R4=>
    a8 (SF n p2 R4 p3) fun fi=>some (!fi))) fun b31=>cond b31 ((SM p1 p2 p3 p4 n m1) D2 dA (IntKind.i64.wrap (mA+1))) (a8 (Im n p2 KO.1) fun fh=>
    a8 (aB p2 fh) fun G9=>
    a8 (H8 n dA G9.Code) fun BW=>(SM p1 p2 p3 p4 n m1) true BW (IntKind.i64.wrap (mA+1)))) (sw D2 dA)
def Jl(n:Nat)(p1:X bG)(p2:X dN)(p3:Int)(p4:X Yv):V ((X Int)×PE):=
 a8 (aB p2 0) fun x5=>
 SM p1 p2 p3 p4 n n false x5.Code 0
theorem qdk(n:Nat)(p1:X bG)(p2:X dN)(p3:Int)(p4:X Yv)(r:(X Int)×PE)(O:Jl n p1 p2 p3 p4=some r):cY prog 88 [.isl false (p1.map bL),.isl false (p2.map fF),.int .i64 p3,.str p4] (.tup [.isl false (r.1.map (cI .u64)),.bool r.2]):=by unfold Jl at O;refine Lg 60 Dn ?_;obtain⟨x5,h6,O⟩:=aI O;refine gI h6 ?_;refine nN (SM p1 p2 p3 p4 n) (fun D2 dA mA=>[(0,.iM bL p1),(1,.iM fF p2),(2,.i6 p3),(3,.str p4),(10,.bool D2),(11,.iM (cI .u64) dA),(12,.i6 mA)]) (fun _ _ _=>⟨[],0⟩) (lH sw (fun tW m7=>[(10,.bool tW),(11,.iM (cI .u64) m7)]) (fun _ _=>⟨[],0⟩)) O (nD ?_) ?_;intro tW m7 O;unfold sw at O;refine go ?_;obtain rfl:=sI O;exact y5 rfl rfl rfl rfl rfl;intro m1 D2 dA mA O;unfold SM at O;refine gG O ?_ ?_<;>intro kE O;obtain⟨D9,tU,KO,tD,O⟩:=bO O;refine gI tU ?_;refine aK rfl (pC (qif n D9 p4 KO tD) _) J8 ?_;obtain⟨b31,oE,O⟩:=aI O;refine gn ?_;refine nE [(0,.iM bL p1),(1,.iM fF p2),(2,.i6 p3),(3,.str p4),(10,.bool D2),(11,.iM (cI .u64) dA),(12,.i6 mA),(13,.str KO.1),(48,.bool b31)] ⟨[],0⟩ ?_ ?_;refine gF O ?_ ?_<;>intro vT O;exact wx O;obtain⟨fh,rQ,G9,FX,BW,A3,O⟩:=oM O;refine go ?_;refine aK rfl (pC (G? n p2 KO.1 fh rQ) _) PO ?_;refine cB FX ?_;refine go ?_;refine aK rfl (pC (o? n dA G9.Code BW A3) _) CZ ?_;exact wx O;refine go ?_;rcases gB oE with⟨pJ,oE⟩|⟨pJ,oE⟩;exact gy oE;obtain⟨ET,o4,oE⟩:=aI oE;obtain⟨R4,xO,oE⟩:=aI oE;obtain⟨fi,tT,oE⟩:=aI oE;obtain rfl:=sI oE;refine gI o4 ?_;refine aK rfl (pC (G? n p2 ET.Name R4 xO) _) PO ?_;refine go ?_;refine aK rfl (pC (sj n p2 R4 p3 fi tT) _) IS ?_;refine go ?_;exact mS;exact wx O
def Ru(z8:Int)(cA:(X (X Yv))->Int->V ((X Yv)×PE))(pA:X (X Yv)):V ((X Yv)×PE):=
 cA pA (IntKind.i64.wrap (z8+1))
def mc(p1:X bG)(n:Nat)(l9:X (X Yv)):V ((X Yv)×PE):=
 a8 (Iy n p1 l9) fun nQ=>cond ((nQ.length:Int) != 1) (some ([],false)) (a8 (aB nQ 0) fun QF=>some (QF,true))
def O8(p1:X bG)(p2:X Yv)(n:Nat):Nat->(X (X Yv))->Int->V ((X Yv)×PE)
 |0,_,_=>none|m1+1,l7,z8=>
  cond (decide (z8<(p1.length:Int))) (a8 (aB p1 z8) fun lW=>
   a8 (Ql n lW p2) fun kA=>cond kA.2 (a8 (aB p1 z8) fun oW=>
    a8 (NQ n l7 oW.Name) fun fk=>
    Ru z8 (O8 p1 p2 n m1) fk) (Ru z8 (O8 p1 p2 n m1) l7)) (mc p1 n l7)
def Qm(n:Nat)(p1:X bG)(p2:X Yv):V ((X Yv)×PE):=
 O8 p1 p2 n n [] 0
theorem qie(n:Nat)(p1:X bG)(p2:X Yv)(r:(X Yv)×PE)(O:Qm n p1 p2=some r):cY prog 97 [.isl false (p1.map bL),.str p2] (.tup [.str r.1,.bool r.2]):=by unfold Qm at O;refine eL 43 Dl ?_;refine gr ?_;refine gr ?_;refine gr ?_;refine dF (tm':=fr 43 [(0,.iM bL p1),(1,.str p2),(6,.iM cS []),(7,.i6 0)]) (Gh.trans (Gh.sub (l':=[(0,.iM bL p1),(1,.str p2),(6,.nils),(7,.i6 0)]) ⟨rfl,rfl,rfl,rfl,trivial⟩) (Gh.wkS (l':=[(0,.iM bL p1),(1,.str p2),(6,.iM cS []),(7,.i6 0)]) (.cons (.refl _) (.cons (.refl _) (.cons (.nil false) (.cons (.refl _) .nil)))))) NZ ?_;refine D3 (O8 p1 p2 n) (fun l7 z8=>[(0,.iM bL p1),(1,.str p2),(6,.iM cS l7),(7,.i6 z8)]) (fun _ _=>⟨[],0⟩) (pW (mc p1 n) (fun l9=>[(0,.iM bL p1),(6,.iM cS l9)]) (fun _=>⟨[],0⟩)) O (tX ?_) ?_;intro l9 O;unfold mc at O;obtain⟨nQ,jT,O⟩:=aI O;refine go ?_;refine aK rfl (pC (qfc n p1 l9 nQ jT) _) J6 ?_;refine gF O ?_ ?_<;>intro g9 O;refine go ?_;obtain rfl:=sI O;exact y5 rfl rfl rfl rfl rfl;obtain⟨QF,i7,O⟩:=aI O;refine gI i7 ?_;obtain rfl:=sI O;exact y5 rfl rfl rfl rfl rfl;intro m1 l7 z8 O;unfold O8 at O;refine gG O ?_ ?_<;>intro lV O;obtain⟨lW,jK,kA,kE,O⟩:=bO O;refine gI jK ?_;refine aK rfl (pC (qif n lW p2 kA kE) _) J8 ?_;refine gr ?_;refine Zy r (Ru z8 (O8 p1 p2 n m1)) (fun pA=>[(0,.iM bL p1),(1,.str p2),(6,.iM cS pA),(7,.i6 z8)]) (fun _=>⟨[],0⟩) ?_ ?_;intro pA O;unfold Ru at O;exact wx O;refine cF O ?_ ?_<;>intro tE O;obtain⟨oW,tD,fk,IR,O⟩:=bO O;refine gI tD ?_;refine aK rfl (pC (Ig n l7 oW.Name fk IR) _) rV ?_;exact wx O;exact wx O;exact wx O
def mg(eU:Int)(i8:Int->V (Int)): V (Int):=
 i8 (IntKind.i64.wrap (eU+1))
def Z4(p1:X bG)(n:Nat)(r2:(X dN)×Int)(r5:(X (X Yv)))(eU:Int)(i8:Int->V (Int)):Nat->Int->V (Int)
 |0,_=>none|m3+1,dP=>
  cond (decide (dP<(r5.length:Int))) (a8 (aB r5 dP) fun uU=>
   a8 (Jl n p1 r2.1 eU uU) fun zz=>
   a8 (cond zz.2 (some ((zz.1.length:Int)==0)) (some false)) fun b34=>cond b34 (some 11) ((Z4 p1 n r2 r5 eU i8 m3) (IntKind.i64.wrap (dP+1)))) (mg eU i8)
def mh: V (Int):=
 some 0
def LB(p1:X bG)(n:Nat)(r2:(X dN)×Int)(r5:(X (X Yv))):Nat->Int->V (Int)
 |0,_=>none|m2+1,eU=>cond (decide (eU<(r2.1.length:Int))) (Z4 p1 n r2 r5 eU (LB p1 n r2 r5 m2) n 0) (mh)
def mj(p1:X bG)(n:Nat)(r2:(X dN)×Int)(r5:(X (X Yv))): V (Int):=
 LB p1 n r2 r5 n 0
def Z5(p1:X bG)(n:Nat)(r2:(X dN)×Int)(r5:(X (X Yv))):Nat->Int->V (Int)
 |0,_=>none|m1+1,fY=>cond (decide (fY<(r5.length:Int))) (a8 (aB r5 fY) fun KD=>a8 (Qm n p1 KD) fun XP=>cond (!XP.2) (some 10) ((Z5 p1 n r2 r5 m1) (IntKind.i64.wrap (fY+1)))) (mj p1 n r2 r5)
def S9(n:Nat)(p1:X bG):V (Int):=
 a8 (NU n p1) fun r2=>cond (r2.2 != 0) (some r2.2) (a8 (YR n p1) fun r5=>cond (decide ((r5.length:Int)>64)) (some 7) (a8 (Ss n p1) fun r8=>cond (r8 != 0) (some r8) (Z5 p1 n r2 r5 n 0)))
theorem qid(n:Nat)(p1:X bG)(r:Int)(O:S9 n p1=some r):cY prog 86 [.isl false (p1.map bL)] (.int .i64 r):=by unfold S9 at O;refine lG 78 Do ?_;obtain⟨r2,h3,O⟩:=aI O;refine go ?_;refine aK rfl (pC (yz n p1 r2 h3) _) IT ?_;refine gF O ?_ ?_<;>intro h4 O;exact gx O;obtain⟨r5,h6,O⟩:=aI O;refine go ?_;refine aK rfl (pC (D? n p1 r5 h6) _) PR ?_;refine gF O ?_ ?_<;>intro h7 O;exact gx O;obtain⟨r8,h9,O⟩:=aI O;refine go ?_;refine aK rfl (pC (qg5 n p1 r8 h9) _) V9 ?_;refine gF O ?_ ?_<;>intro gC O;exact gx O;refine go ?_;refine oG (Z5 p1 n r2 r5) (fun fY=>[(0,.iM bL p1),(3,.iM fF r2.1),(5,.iM cS r5),(7,.i6 fY)]) (fun _=>⟨[],0⟩) (pK (mj p1 n r2 r5) [(0,.iM bL p1),(3,.iM fF r2.1),(5,.iM cS r5)] ⟨[],0⟩) O (rY ?_) ?_;intro O;unfold mj at O;refine go ?_;refine oG (LB p1 n r2 r5) (fun eU=>[(0,.iM bL p1),(3,.iM fF r2.1),(5,.iM cS r5),(10,.i6 eU)]) (fun _=>⟨[],0⟩) (pK mh [] ⟨[],0⟩) O (rY ?_) ?_;intro O;unfold mh at O;exact gx O;intro m2 eU O;unfold LB at O;refine gG O ?_ ?_<;>intro tU O;refine go ?_;refine oG (Z4 p1 n r2 r5 eU (LB p1 n r2 r5 m2)) (fun dP=>[(0,.iM bL p1),(3,.iM fF r2.1),(5,.iM cS r5),(10,.i6 eU),(11,.i6 dP)]) (fun _=>⟨[],0⟩) (pK (mg eU (LB p1 n r2 r5 m2)) [(0,.iM bL p1),(3,.iM fF r2.1),(5,.iM cS r5),(10,.i6 eU)] ⟨[],0⟩) O (rY ?_) ?_;intro O;unfold mg at O;exact wx O;intro m3 dP O;unfold Z4 at O;refine gG O ?_ ?_<;>intro xO O;obtain⟨uU,tT,zz,oE,O⟩:=bO O;refine gI tT ?_;refine aK rfl (pC (qdk n p1 r2.1 eU uU zz oE) _) Dn ?_;obtain⟨b34,rQ,O⟩:=aI O;refine gn ?_;refine nE [(0,.iM bL p1),(3,.iM fF r2.1),(5,.iM cS r5),(10,.i6 eU),(11,.i6 dP),(77,.bool b34)] ⟨[],0⟩ ?_ ?_;refine gF O ?_ ?_<;>intro xN O;exact gx O;exact wx O;refine go ?_;rcases gB rQ with⟨vT,rQ⟩|⟨vT,rQ⟩;exact gy rQ;exact gy rQ;exact wx O;exact wx O;intro m1 fY O;unfold Z5 at O;refine gG O ?_ ?_<;>intro FX O;obtain⟨KD,A3,XP,Lc,O⟩:=bO O;refine gI A3 ?_;refine aK rfl (pC (qie n p1 KD XP Lc) _) Dl ?_;refine gF O ?_ ?_<;>intro vS O;exact gx O;exact wx O;exact wx O
def yy: V (Int):=
 some (-1)
def YY(p1:X dN)(n:Nat)(r3:(X Int)):Nat->Int->V (Int)
 |0,_=>none|m1+1,z8=>cond (decide (z8<(p1.length:Int))) (a8 (aB p1 z8) fun x10=>a8 (NR n x10.Code r3) fun fV=>cond fV (some z8) ((YY p1 n r3 m1) (IntKind.i64.wrap (z8+1)))) (yy)
def Qa(n:Nat)(p1:X dN)(p2:X Int):V (Int):=
 a8 (L8 n p2) fun r3=>
 YY p1 n r3 n 0
theorem qrm(n:Nat)(p1:X dN)(p2:X Int)(r:Int)(O:Qa n p1 p2=some r):cY prog 89 [.isl false (p1.map fF),.isl false (p2.map (cI .u64))] (.int .i64 r):=by unfold Qa at O;refine eL 23 v04 ?_;obtain⟨r3,h4,O⟩:=aI O;refine go ?_;refine aK rfl (pC (uk n p2 r3 h4) _) xS ?_;refine go ?_;refine oG (YY p1 n r3) (fun z8=>[(0,.iM fF p1),(5,.iM (cI .u64) r3),(6,.i6 z8)]) (fun _=>⟨[],0⟩) (pK yy [] ⟨[],0⟩) O (rY ?_) ?_;intro O;unfold yy at O;exact gx O;intro m1 z8 O;unfold YY at O;refine gG O ?_ ?_<;>intro h9 O;obtain⟨x10,jT,fV,eB,O⟩:=bO O;refine gI jT ?_;refine aK rfl (pC (z? n x10.Code r3 fV eB) _) CY ?_;refine gF O ?_ ?_<;>intro i7 O;exact gx O;exact wx O;exact wx O
def Sd(BQ:Int)(i8:Int->(X nJ)->V ((X (X nJ))×Int))(rC:X nJ):V ((X (X nJ))×Int):=
 i8 (IntKind.i64.wrap (BQ+1)) rC
def uu(fY:Int)(fL:X (X nJ))(cA:Int->(X (X nJ))->V ((X (X nJ))×Int))(LN:X nJ):V ((X (X nJ))×Int):=
 aF ((fL.length+1)*24<=140737488355328/\fL.length+1<=140737488355328) (
 cA (IntKind.i64.wrap (fY+1)) (fL++[LN]))
def OE(p1:X bG)(n:Nat)(r5:(X dN)×Int)(r7:(X (X Yv)))(fY:Int)(fL:X (X nJ))(cA:Int->(X (X nJ))->V ((X (X nJ))×Int)):Nat->Int->(X nJ)->V ((X (X nJ))×Int)
 |0,_,_=>none|m2+1,BQ,kN=>
  cond (decide (BQ<(r7.length:Int))) (a8 (aB r7 BQ) fun iW=>
   a8 (Jl n p1 r5.1 fY iW) fun Nv=>cond Nv.2 (a8 (Qa n r5.1 Nv.1) fun fe=>
    aF ((kN.length+1)*16<=140737488355328/\kN.length+1<=140737488355328) (
    Sd BQ (OE p1 n r5 r7 fY fL cA m2) (kN++[(nJ.mk BQ fe)]))) (Sd BQ (OE p1 n r5 r7 fY fL cA m2) kN)) (uu fY fL cA kN)
def ux  (m7:X (X nJ)):V ((X (X nJ))×Int):=
 some (m7,0)
def HD(p1:X bG)(n:Nat)(r5:(X dN)×Int)(r7:(X (X Yv))):Nat->Int->(X (X nJ))->V ((X (X nJ))×Int)
 |0,_,_=>none|m1+1,fY,fL=>cond (decide (fY<(r5.1.length:Int))) (OE p1 n r5 r7 fY fL (HD p1 n r5 r7 m1) n 0 ([]:X nJ)) (ux fL)
def In(n:Nat)(p1:X bG):V ((X (X nJ))×Int):=
 a8 (S9 n p1) fun r2=>cond (r2 != 0) (some ([],r2)) (a8 (NU n p1) fun r5=>
  a8 (YR n p1) fun r7=>
  HD p1 n r5 r7 n 0 ([]:X (X nJ)))
theorem qmw(n:Nat)(p1:X bG)(r:(X (X nJ))×Int)(O:In n p1=some r):cY prog 57 [.isl false (p1.map bL)] (.tup [.isl false (r.1.map (cL sH)),.int .i64 r.2]):=by unfold In at O;refine lG 63 Yn ?_;obtain⟨r2,h3,O⟩:=aI O;refine go ?_;refine aK rfl (pC (qid n p1 r2 h3) _) Do ?_;refine gF O ?_ ?_<;>intro h4 O;refine go ?_;obtain rfl:=sI O;exact rT (us:=[.nils,.i6 r2]) (u:=.tup [.isl false [],.i6 r2]) (dT rfl (dT rfl (eD))) wR;obtain⟨r5,h6,O⟩:=aI O;refine go ?_;refine aK rfl (pC (yz n p1 r5 h6) _) IT ?_;obtain⟨r7,h8,O⟩:=aI O;refine go ?_;refine aK rfl (pC (D? n p1 r7 h8) _) PR ?_;refine gr ?_;refine gr ?_;refine gV 8 145 1 1 ?_;refine nN (a3:=0) (fun m fY fL _=>HD p1 n r5 r7 m fY fL) (fun fY fL qQ=>[(0,.iM bL p1),(5,.iM fF r5.1),(7,.iM cS r7),(8,.vl 0 qQ 0 fL.length),(9,.i6 fY)]) (fun _ fL qQ=>⟨[(0,.bv (cL sH) fL 145 1 qQ)],1⟩) (lH (fun m7 _=>ux m7) (fun m7 y4=>[(8,.vl 0 y4 0 m7.length)]) (fun m7 y4=>⟨[(0,.bv (cL sH) m7 145 1 y4)],1⟩)) O (nD ?_) ?_;intro m7 y4 O;unfold ux at O;refine go ?_;obtain rfl:=sI O;exact rT (us:=[.vl 0 y4 0 m7.length,.i6 0]) (u:=.tup [.iM (cL sH) m7,.i6 0]) (dT rfl (dT rfl (eD))) (fR 0 1);intro m1 fY fL qQ O;unfold HD at O;refine gG O ?_ ?_<;>intro tE O;refine gr ?_;refine gr ?_;refine gV 10 186 2 2 ?_;refine nN (a3:=0) (fun m BQ kN _=>OE p1 n r5 r7 fY fL (HD p1 n r5 r7 m1) m BQ kN) (fun BQ kN MS=>[(0,.iM bL p1),(5,.iM fF r5.1),(7,.iM cS r7),(8,.vl 0 qQ 0 fL.length),(9,.i6 fY),(10,.vl 1 MS 0 kN.length),(11,.i6 BQ)]) (fun _ kN MS=>⟨[(1,.bv sH kN 186 2 MS),(0,.bv (cL sH) fL 145 1 qQ)],2⟩) (lH (fun LN _=>uu fY fL (HD p1 n r5 r7 m1) LN) (fun LN Nk=>[(0,.iM bL p1),(5,.iM fF r5.1),(7,.iM cS r7),(8,.vl 0 qQ 0 fL.length),(9,.i6 fY),(10,.vl 1 Nk 0 LN.length)]) (fun LN Nk=>⟨[(1,.bv sH LN 186 2 Nk),(0,.bv (cL sH) fL 145 1 qQ)],2⟩)) O (nD ?_) ?_;intro LN Nk O;unfold uu at O;refine gn ?_;refine dF (tm':=fr 63 [(0,.iM bL p1),(5,.iM fF r5.1),(7,.iM cS r7),(8,.vl 0 qQ 0 fL.length),(9,.i6 fY),(10,.iM sH LN)]) (Y':=⟨[(0,.bv (cL sH) fL 145 1 qQ)],2⟩) (Gh.trans (Gh.sub (l':=[(0,.iM bL p1),(5,.iM fF r5.1),(7,.iM cS r7),(8,.vl 0 qQ 0 fL.length),(9,.i6 fY),(10,.vl 1 Nk 0 LN.length)]) ⟨rfl,rfl,rfl,rfl,rfl,rfl,trivial⟩) (JV 1 2)) NZ ?_;obtain⟨rQ,O⟩:=c6 O;refine go ?_;refine c5 ?_;refine c5 ?_;exact wx O;intro m2 BQ kN MS O;unfold OE at O;refine gG O ?_ ?_<;>intro xN O;obtain⟨iW,lE,Nv,xM,O⟩:=bO O;refine gI lE ?_;refine aK rfl (pC (qdk n p1 r5.1 fY iW Nv xM) _) Dn ?_;refine gr ?_;refine M7 r (fun rC _=>Sd BQ (OE p1 n r5 r7 fY fL (HD p1 n r5 r7 m1) m2) rC) (fun rC Nj=>[(0,.iM bL p1),(5,.iM fF r5.1),(7,.iM cS r7),(8,.vl 0 qQ 0 fL.length),(9,.i6 fY),(10,.vl 1 Nj 0 rC.length),(11,.i6 BQ)]) (fun rC Nj=>⟨[(1,.bv sH rC 186 2 Nj),(0,.bv (cL sH) fL 145 1 qQ)],2⟩) ?_ ?_;intro rC Nj O;unfold Sd at O;exact wx O;refine cF O ?_ ?_<;>intro Lc O;obtain⟨fe,sO,O⟩:=aI O;obtain⟨Lb,O⟩:=c6 O;refine go ?_;refine aK rfl (pC (qrm n r5.1 Nv.1 fe sO) _) v04 ?_;refine go ?_;refine c5 ?_;refine c5 ?_;exact wx O;exact wx O;exact wx O;exact wx O
def Si(z8:Int)(cA:Int->(X Int)->V ((X Int)))(kN:X Int):V ((X Int)):=
 cA (IntKind.i64.wrap (z8+1)) kN
def uy(z8:Int)(l9:X Int)(cA:Int->(X Int)->V ((X Int)))(cj:PE):V ((X Int)):=
 cond cj (aF ((l9.length+1)*8<=140737488355328/\l9.length+1<=140737488355328) (
  Si z8 cA (l9++[z8]))) (Si z8 cA l9)
def SJ(p1:X dN)(p2:Int)(n:Nat)(z8:Int)(l9:X Int)(cA:Int->(X Int)->V ((X Int))):Nat->PE->Int->V ((X Int))
 |0,_,_=>none|m2+1,Zs,ER=>cond (decide (ER<(p1.length:Int))) (a8 (cond Zs (cond (ER==p2) (some true) (cond (ER==z8) (some true) (a8 (SF n p1 z8 ER) fun BW=>cond (!BW) (some true) (a8 (SF n p1 ER p2) fun R3=>some (!R3))))) (some false)) fun Ez=>(SJ p1 p2 n z8 l9 cA m2) Ez (IntKind.i64.wrap (ER+1))) (uy z8 l9 cA Zs)
def uz  (dB:X Int):V ((X Int)):=
 some dB
def DT(p1:X dN)(p2:Int)(n:Nat):Nat->Int->(X Int)->V ((X Int))
 |0,_,_=>none|m1+1,z8,l9=>cond (decide (z8<(p1.length:Int))) (a8 (cond (z8==p2) (some true) (a8 (SF n p1 z8 p2) fun oI=>some (!oI))) fun tW=>cond tW ((DT p1 p2 n m1) (IntKind.i64.wrap (z8+1)) l9) (SJ p1 p2 n z8 l9 (DT p1 p2 n m1) n true 0)) (uz l9)
def yf(n:Nat)(p1:X dN)(p2:Int):V ((X Int)):=
 DT p1 p2 n n 0 ([]:X Int)
theorem qmt(n:Nat)(p1:X dN)(p2:Int)(r:(X Int))(O:yf n p1 p2=some r):cY prog 59 [.isl false (p1.map fF),.int .i64 p2] (.isl false (r.map (cI .i64))):=by
 unfold yf at O;refine eL 62 Ym ?_;refine gr ?_;refine gr ?_;refine gr ?_;refine gV 5 3 1 1 ?_;refine nN (a3:=0) (fun m z8 l9 _=>DT p1 p2 n m z8 l9) (fun z8 l9 eQ=>[(0,.iM fF p1),(1,.i6 p2),(5,.vl 0 eQ 0 l9.length),(6,.i6 z8)]) (fun _ l9 eQ=>⟨DP l9 eQ,1⟩) (lH (fun dB _=>uz dB) (fun dB jL=>[(5,.vl 0 jL 0 dB.length)]) (fun dB jL=>⟨DP dB jL,1⟩)) O (nD ?_) ?_;intro dB jL O;unfold uz at O;refine go ?_;obtain rfl:=sI O;exact rT (us:=[.vl 0 jL 0 dB.length]) (u:=.iM (cI .i64) dB) (dT rfl (eD)) (fR 0 1);intro m1 z8 l9 eQ O;unfold DT at O;refine gG O ?_ ?_<;>intro eB O;obtain⟨tW,dO,O⟩:=aI O;refine gn ?_;refine nE [(0,.iM fF p1),(1,.i6 p2),(5,.vl 0 eQ 0 l9.length),(6,.i6 z8),(24,.bool tW)] ⟨DP l9 eQ,1⟩ ?_ ?_;refine gF O ?_ ?_<;>intro kE O;exact wx O;refine go ?_;refine D3 (SJ p1 p2 n z8 l9 (DT p1 p2 n m1)) (fun Zs ER=>[(0,.iM fF p1),(1,.i6 p2),(5,.vl 0 eQ 0 l9.length),(6,.i6 z8),(7,.bool Zs),(8,.i6 ER)]) (fun _ _=>⟨DP l9 eQ,1⟩) (pW (uy z8 l9 (DT p1 p2 n m1)) (fun cj=>[(0,.iM fF p1),(1,.i6 p2),(5,.vl 0 eQ 0 l9.length),(6,.i6 z8),(7,.bool cj)]) (fun _=>⟨DP l9 eQ,1⟩)) O (tX ?_) ?_;intro cj O;unfold uy at O;refine gr ?_;refine M7 r (fun kN _=>Si z8 (DT p1 p2 n m1) kN) (fun kN MS=>[(0,.iM fF p1),(1,.i6 p2),(5,.vl 0 MS 0 kN.length),(6,.i6 z8)]) (fun kN MS=>⟨DP kN MS,1⟩) ?_ ?_;intro kN MS O;unfold Si at O;exact wx O;refine cF O ?_ ?_<;>intro tT O;obtain⟨vT,O⟩:=c6 O;refine go ?_;refine c5 ?_;refine c5 ?_;exact wx O;exact wx O;intro m2 Zs ER O;unfold SJ at O;refine gG O ?_ ?_<;>intro nM O;obtain⟨Ez,kS,O⟩:=aI O;refine gn ?_;refine nE [(0,.iM fF p1),(1,.i6 p2),(5,.vl 0 eQ 0 l9.length),(6,.i6 z8),(7,.bool Ez),(8,.i6 ER)] ⟨DP l9 eQ,1⟩ ?_ ?_;exact wx O;refine go ?_;rcases gB kS with⟨rQ,kS⟩|⟨rQ,kS⟩;refine go ?_;rcases gB kS with⟨xN,kS⟩|⟨xN,kS⟩;exact gy kS;refine go ?_;rcases gB kS with⟨FX,kS⟩|⟨FX,kS⟩;exact gy kS;obtain⟨BW,A3,kS⟩:=aI kS;refine go ?_;refine aK rfl (pC (sj n p1 z8 ER BW A3) _) IS ?_;refine go ?_;rcases gB kS with⟨xM,kS⟩|⟨xM,kS⟩;exact gy kS;obtain⟨R3,vS,kS⟩:=aI kS;obtain rfl:=sI kS;refine go ?_;refine aK rfl (pC (sj n p1 ER p2 R3 vS) _) IS ?_;refine go ?_;exact mS;obtain rfl:=sI kS;refine go ?_
 repeat refine RS.no (GS rfl rfl rfl) rfl rfl ?_
 refine go ?_
 repeat refine RS.no (GS rfl rfl rfl) rfl rfl ?_
 refine go ?_
 repeat refine RS.no (GS rfl rfl rfl) rfl rfl ?_
 refine go ?_;exact mS;exact wx O;refine go ?_;rcases gB dO with⟨i7,dO⟩|⟨i7,dO⟩;exact gy dO;obtain⟨oI,qL,dO⟩:=aI dO;obtain rfl:=sI dO;refine go ?_;refine aK rfl (pC (sj n p1 z8 p2 oI qL) _) IS ?_;refine go ?_;exact mS;exact wx O
def ss  (m7:X wK):V ((X wK)×Int):=
 some (m7,0)
def ZI(p1:X bG)(n:Nat)(r5:(X dN)×Int)(r7:(X (X Yv))):Nat->Int->(X wK)->V ((X wK)×Int)
 |0,_,_=>none|m1+1,fY,fL=>
  cond (decide (fY<(r7.length:Int))) (a8 (aB r7 fY) fun A8=>
   a8 (Qm n p1 A8) fun y6=>
   a8 (aB r7 fY) fun ET=>
   a8 (Im n r5.1 y6.1) fun R4=>
   aF ((fL.length+1)*24<=140737488355328/\fL.length+1<=140737488355328) ((ZI p1 n r5 r7 m1) (IntKind.i64.wrap (fY+1)) (fL++[(wK.mk ET R4)]))) (ss fL)
def Rv(n:Nat)(p1:X bG):V ((X wK)×Int):=
 a8 (S9 n p1) fun r2=>cond (r2 != 0) (some ([],r2)) (a8 (NU n p1) fun r5=>
  a8 (YR n p1) fun r7=>
  ZI p1 n r5 r7 n 0 ([]:X wK))
theorem qk5(n:Nat)(p1:X bG)(r:(X wK)×Int)(O:Rv n p1=some r):cY prog 60 [.isl false (p1.map bL)] (.tup [.isl false (r.1.map mN),.int .i64 r.2]):=by unfold Rv at O;refine lG 51 Yl ?_;obtain⟨r2,h3,O⟩:=aI O;refine go ?_;refine aK rfl (pC (qid n p1 r2 h3) _) Do ?_;refine gF O ?_ ?_<;>intro h4 O;refine go ?_;obtain rfl:=sI O;exact rT (us:=[.nils,.i6 r2]) (u:=.tup [.isl false [],.i6 r2]) (dT rfl (dT rfl (eD))) wR;obtain⟨r5,h6,O⟩:=aI O;refine go ?_;refine aK rfl (pC (yz n p1 r5 h6) _) IT ?_;obtain⟨r7,h8,O⟩:=aI O;refine go ?_;refine aK rfl (pC (D? n p1 r7 h8) _) PR ?_;refine gr ?_;refine gr ?_;refine gV 8 197 2 1 ?_;refine nN (a3:=0) (fun m fY fL _=>ZI p1 n r5 r7 m fY fL) (fun fY fL qQ=>[(0,.iM bL p1),(5,.iM fF r5.1),(7,.iM cS r7),(8,.vl 0 qQ 0 fL.length),(9,.i6 fY)]) (fun _ fL qQ=>⟨[(0,.bv mN fL 197 2 qQ)],1⟩) (lH (fun m7 _=>ss m7) (fun m7 y4=>[(8,.vl 0 y4 0 m7.length)]) (fun m7 y4=>⟨[(0,.bv mN m7 197 2 y4)],1⟩)) O (nD ?_) ?_;intro m7 y4 O;unfold ss at O;refine go ?_;obtain rfl:=sI O;exact rT (us:=[.vl 0 y4 0 m7.length,.i6 0]) (u:=.tup [.iM mN m7,.i6 0]) (dT rfl (dT rfl (eD))) (fR 0 2);intro m1 fY fL qQ O;unfold ZI at O;refine gG O ?_ ?_<;>intro tE O;obtain⟨A8,uP,y6,pJ,O⟩:=bO O;refine gI uP ?_;refine aK rfl (pC (qie n p1 A8 y6 pJ) _) Dl ?_;obtain⟨ET,o4,R4,xO,O⟩:=bO O;obtain⟨sP,O⟩:=c6 O;refine go ?_;refine dE [(0,9)] ?_;refine gJ o4 ?_;refine dK rfl (pC (G? n r5.1 y6.1 R4 xO)) PO ?_;refine gd ?_;refine eN ?_;refine eN ?_;refine gd ?_;refine bC ⟨by kernel_rfl,⟨oD rfl,trivial⟩,?_⟩;exact wx O;exact wx O
def si(p1:X bG)(n:Nat)(fL:X oO):V (cZ×Int):=
 a8 (Rv n p1) fun kA=>some ((cZ.mk fL kA.1),0)
def ZG(p1:X bG)(n:Nat)(r2:(X (X nJ))×Int)(r5:(X dN)×Int):Nat->Int->(X oO)->V (cZ×Int)
 |0,_,_=>none|m1+1,ES,iC=>
  cond (decide (ES<(r5.1.length:Int))) (a8 (aB r5.1 ES) fun A8=>
   a8 (aB r5.1 ES) fun BT=>
   a8 (yf n r5.1 ES) fun qS=>
   a8 (aB r2.1 ES) fun y3=>
   aF ((iC.length+1)*88<=140737488355328/\iC.length+1<=140737488355328) ((ZG p1 n r2 r5 m1) (IntKind.i64.wrap (ES+1)) (iC++[(oO.mk A8.Name BT.Code qS y3)]))) (si p1 n iC)
def O1(n:Nat)(p1:X bG):V (cZ×Int):=
 a8 (In n p1) fun r2=>cond (r2.2 != 0) (some ((cZ.mk [] []),r2.2)) (a8 (NU n p1) fun r5=>ZG p1 n r2 r5 n 0 ([]:X oO))
theorem J?(n:Nat)(p1:X bG)(r:cZ×Int)(O:O1 n p1=some r):cY prog 32 [.isl false (p1.map bL)] (.tup [.agg (gE r.1),.int .i64 r.2]):=by unfold O1 at O;refine lG 63 PW ?_;obtain⟨r2,h3,O⟩:=aI O;refine go ?_;refine aK rfl (pC (qmw n p1 r2 h3) _) Yn ?_;refine gF O ?_ ?_<;>intro h4 O;refine go ?_;obtain rfl:=sI O;exact rT (us:=[.agg [.nils,.nils],.i6 r2.2]) (u:=.tup [.agg [.isl false [],.isl false []],.i6 r2.2]) (nH (kL sU.h rfl (bB B2.h) rfl rfl rfl) (dT rfl (eD))) wR;obtain⟨r5,h6,O⟩:=aI O;refine go ?_;refine aK rfl (pC (yz n p1 r5 h6) _) IT ?_;refine gr ?_;refine gr ?_;refine dF (tm':=fr 63 [(0,.iM bL p1),(2,.ptr 0 0 0),(4,.iM (cL sH) r2.1),(6,.iM fF r5.1),(8,.ptr 1 0 0),(9,.i6 0)]) (Y':=⟨[(2,.bv jW ([]:X oO) 147 4 0),(1,.row [.vl 2 0 0 (([]:X oO).length),.nils] 27),(0,.row [.nils,.nils] 27)],3⟩) (Gh.trans (BO 1 0 147 4 qq3 NZ rfl rfl) (D7 ⟨rfl,rfl,rfl,rfl,rfl,rfl,trivial⟩ rfl)) NZ ?_;refine nN (a3:=0) (fun m ES iC _=>ZG p1 n r2 r5 m ES iC) (fun ES _ _=>[(0,.iM bL p1),(2,.ptr 0 0 0),(4,.iM (cL sH) r2.1),(6,.iM fF r5.1),(8,.ptr 1 0 0),(9,.i6 ES)]) (fun _ iC MU=>⟨[(2,.bv jW iC 147 4 MU),(1,.row [.vl 2 MU 0 iC.length,.nils] 27),(0,.row [.nils,.nils] 27)],3⟩) (lH (fun fL _=>si p1 n fL) (fun _ _=>[(0,.iM bL p1),(2,.ptr 0 0 0),(8,.ptr 1 0 0)]) (fun fL qQ=>⟨[(2,.bv jW fL 147 4 qQ),(1,.row [.vl 2 qQ 0 fL.length,.nils] 27),(0,.row [.nils,.nils] 27)],3⟩)) O (nD ?_) ?_;intro fL qQ O;unfold si at O;obtain⟨kA,kE,O⟩:=aI O;refine go ?_;refine aK rfl (pC (qk5 n p1 kA kE) _) Yl ?_;refine go ?_;obtain rfl:=sI O;exact rT (us:=[.agg [.vl 2 qQ 0 fL.length,.iM mN kA.1],.i6 0]) (u:=.tup [.agg [.iM jW fL,.iM mN kA.1],.i6 0]) (nH (kL sU.h rfl (bB B2.h) rfl rfl rfl) (dT rfl (eD))) (fR 2 4);intro m1 ES iC MU O;unfold ZG at O;refine gG O ?_ ?_<;>intro tE O;obtain⟨A8,uP,BT,pJ,qS,o4,y3,xO,O⟩:=qZ O;obtain⟨sP,O⟩:=c6 O;refine go ?_;refine dE [(0,20),(1,20)] ?_;refine gJ uP ?_;refine dU pJ ?_;refine gd ?_;refine dK rfl (pC (qmt n r5.1 ES qS o4)) Ym ?_;refine gJ xO ?_;refine eN ?_;refine eN ?_;refine gd ?_;refine qM ?_;refine bC ⟨by kernel_rfl,⟨pO sU.h rfl (bB Az.h) rfl rfl rfl,⟨yL GE.h rfl rfl rfl rfl,trivial⟩⟩,?_⟩;exact wx O;exact wx O
def vr(n:Nat): V (cZ):=
 a8 (O1 n ([(bG.mk ([116,111,112]) [] ([(qF.mk ([70]) ([116,111,112])),(qF.mk ([71]) ([116,111,112]))])),(bG.mk ([120]) ([[116,111,112]]) []),(bG.mk ([121]) ([[116,111,112]]) [])])) fun r1=>some (cZ.mk r1.1.Types r1.1.Feats)
theorem qoh(n:Nat)(r:cZ)(O:vr n  = some r):cY prog 34 [] (.agg (gE r)):=by unfold vr at O;refine bg0 17 v07 ?_;obtain⟨r1,h2,O⟩:=aI O;refine go ?_;refine aY (u:=.sl 1 0 2 2) (Y':=⟨qv4,2⟩) rfl (yJ GG.h TG.h rfl rfl rfl rfl rfl rfl rfl) ?_;refine go ?_;refine c5 ?_;refine go ?_;refine c5 ?_;refine go ?_;refine aY (u:=.sl 4 0 3 3) (Y':=⟨(4,.row [.str ([116,111,112]),.nils,.sl 1 0 2 2,.str ([120]),.sl 2 0 1 1,.nils,.str ([121]),.sl 3 0 1 1,.nils] 153)::(3,.row [.str ([116,111,112])] 9)::(2,.row [.str ([116,111,112])] 9)::qv4,5⟩) rfl (yJ My.h wO.h rfl rfl rfl rfl rfl rfl rfl) (RS.fc rfl (Gh.trans (sC 1 2) (Gh.trans (sC 2 1) (Gh.trans (sC 3 1) (Gh.trans (Gh.rowC 4) (sC 4 3))))) (pC (J? n ([(bG.mk ([116,111,112]) [] ([(qF.mk ([70]) ([116,111,112])),(qF.mk ([71]) ([116,111,112]))])),(bG.mk ([120]) ([[116,111,112]]) []),(bG.mk ([121]) ([[116,111,112]]) [])]) r1 h2) _) PW ?_);refine go ?_;obtain rfl:=sI O;exact rT (nH (kL sU.h rfl (bB B2.h) rfl rfl rfl) (eD)) (uT _ rfl)
def C?(p1:X Yv)(p2:X Yv)(dA:X qF):V (bG):=
 some (bG.mk p1 ([p2]) dA)
def yt(p1:X Yv)(p2:X Yv)(p3:X (X Yv)):Nat->Int->(X qF)->V (bG)
 |0,_,_=>none|m1+1,eJ,c7=>
  cond (decide ((IntKind.i64.wrap (eJ+1))<(p3.length:Int))) (a8 (aB p3 eJ) fun KE=>
   a8 (aB p3 (IntKind.i64.wrap (eJ+1))) fun D9=>
   aF ((c7.length+1)*32<=140737488355328/\c7.length+1<=140737488355328) ((yt p1 p2 p3 m1) (IntKind.i64.wrap (eJ+2)) (c7++[(qF.mk KE D9)]))) (C? p1 p2 c7)
def B?(p1:X Yv)(qI:X qF):V (bG):=
 some (bG.mk p1 [] qI)
def yr(p1:X Yv)(p3:X (X Yv)):Nat->Int->(X qF)->V (bG)
 |0,_,_=>none|m2+1,pL,eI=>
  cond (decide ((IntKind.i64.wrap (pL+1))<(p3.length:Int))) (a8 (aB p3 pL) fun Lt=>
   a8 (aB p3 (IntKind.i64.wrap (pL+1))) fun iW=>
   aF ((eI.length+1)*32<=140737488355328/\eI.length+1<=140737488355328) ((yr p1 p3 m2) (IntKind.i64.wrap (pL+2)) (eI++[(qF.mk Lt iW)]))) (B? p1 eI)
def AR(n:Nat)(p1:X Yv)(p2:X Yv)(p3:X (X Yv)):V (bG):=
 cond (!lO p2 []) (yt p1 p2 p3 n 0 ([]:X qF)) (yr p1 p3 n 0 ([]:X qF))
theorem DS(n:Nat)(p1:X Yv)(p2:X Yv)(p3:X (X Yv))(r:bG)(O:AR n p1 p2 p3=some r):cY prog 61 [.str p1,.str p2,.isl false (p3.map cS)] (.agg (bL r)):=by unfold AR at O;refine xU 39 o5 ?_;refine go ?_;refine aY (u:=.bool (!lO p2 [])) rfl (FA rfl rfl rfl rfl) ?_;refine gF O ?_ ?_<;>intro h4 O;refine go ?_;refine c5 ?_;refine gr ?_;refine dF (tm':=fr 39 [(2,.iM cS p3),(6,.ptr 0 0 0),(7,.ptr 1 0 0),(8,.i6 0)]) (Y':=⟨(3,.bv lA ([]:X qF) 156 2 0)::(2,.row [.str p2] 9)::(1,.row [.str p1,.sl 2 0 1 1,.vl 3 0 0 (([]:X qF).length)] 153)::Ho,4⟩) (Gh.trans (BO 1 2 156 2 qq3 NZ rfl rfl) (D7 ⟨rfl,rfl,rfl,rfl,trivial⟩ rfl)) NZ ?_;refine nN (a3:=0) (fun m eJ c7 _=>yt p1 p2 p3 m eJ c7) (fun eJ _ _=>[(2,.iM cS p3),(6,.ptr 0 0 0),(7,.ptr 1 0 0),(8,.i6 eJ)]) (fun _ c7 gT=>⟨(3,.bv lA c7 156 2 gT)::(2,.row [.str p2] 9)::(1,.row [.str p1,.sl 2 0 1 1,.vl 3 gT 0 c7.length] 153)::Ho,4⟩) (lH (fun dA _=>C? p1 p2 dA) (fun _ _=>[(6,.ptr 0 0 0),(7,.ptr 1 0 0)]) (fun dA fK=>⟨(3,.bv lA dA 156 2 fK)::(2,.row [.str p2] 9)::(1,.row [.str p1,.sl 2 0 1 1,.vl 3 fK 0 dA.length] 153)::Ho,4⟩)) O (nD ?_) ?_;intro dA fK O;unfold C? at O;refine go ?_;obtain rfl:=sI O;exact⟨.inr rfl,[.agg [.str p1,.sl 2 0 1 1,.vl 3 fK 0 dA.length]],nH (kL w4.h rfl (bB wO.h) rfl rfl rfl) (eD),.agg [.str p1,.iM cS ([p2]),.iM lA dA],⟨[],0⟩,zF _,Gh.trans (sC 2 1) (Gh.trans (sC 3 2) (uT (.agg [.str p1,.iM cS ([p2]),.iM lA dA]) rfl)),rfl,BU.h⟩;intro m1 eJ c7 gT O;unfold yt at O;refine gG O ?_ ?_<;>intro jK O;obtain⟨KE,kE,D9,tU,O⟩:=bO O;obtain⟨uP,O⟩:=c6 O;refine go ?_;refine dE [(0,12),(1,12)] ?_;refine gJ kE ?_;refine dU tU ?_;refine gd ?_;refine eN ?_;refine eN ?_;refine gd ?_;refine qM ?_;refine bC ⟨by kernel_rfl,⟨pO w4.h rfl (bB TH.h) rfl rfl rfl,⟨yL GG.h rfl rfl rfl rfl,trivial⟩⟩,?_⟩;exact wx O;exact wx O;refine gr ?_;refine dF (tm':=fr 39 [(2,.iM cS p3),(6,.ptr 0 0 0),(7,.ptr 1 0 0),(8,.i6 0)]) (Y':=⟨(2,.bv lA ([]:X qF) 156 2 0)::(1,.row [.str p1,.nils,.vl 2 0 0 (([]:X qF).length)] 153)::Ho,3⟩) (Gh.trans (BO 1 2 156 2 qq3 NZ rfl rfl) (D7 ⟨rfl,rfl,rfl,rfl,trivial⟩ rfl)) NZ ?_;refine nN (a3:=0) (fun m pL eI _=>yr p1 p3 m pL eI) (fun pL _ _=>[(2,.iM cS p3),(6,.ptr 0 0 0),(7,.ptr 1 0 0),(8,.i6 pL)]) (fun _ eI MT=>⟨(2,.bv lA eI 156 2 MT)::(1,.row [.str p1,.nils,.vl 2 MT 0 eI.length] 153)::Ho,3⟩) (lH (fun qI _=>B? p1 qI) (fun _ _=>[(6,.ptr 0 0 0),(7,.ptr 1 0 0)]) (fun qI EW=>⟨(2,.bv lA qI 156 2 EW)::(1,.row [.str p1,.nils,.vl 2 EW 0 qI.length] 153)::Ho,3⟩)) O (nD ?_) ?_;intro qI EW O;unfold B? at O;refine go ?_;obtain rfl:=sI O;exact⟨.inr rfl,[.agg [.str p1,.nils,.vl 2 EW 0 qI.length]],nH (kL w4.h rfl (bB wO.h) rfl rfl rfl) (eD),.agg [.str p1,.isl false [],.iM lA qI],⟨[],0⟩,zF _,Gh.trans (sC 2 2) (Gh.trans (Gh.wk (.cons (.agg (.cons (.refl _) (.cons (.nil false) (.cons (.refl _) .nil)))) .nil)) (uT (.agg [.str p1,.isl false [],.iM lA qI]) rfl)),rfl,BU.h⟩;intro m2 pL eI MT O;unfold yr at O;refine gG O ?_ ?_<;>intro nM O;obtain⟨Lt,xN,iW,lE,O⟩:=bO O;obtain⟨A3,O⟩:=c6 O;refine go ?_;refine dE [(0,12),(1,12)] ?_;refine gJ xN ?_;refine dU lE ?_;refine gd ?_;refine eN ?_;refine eN ?_;refine gd ?_;refine qM ?_;refine bC ⟨by kernel_rfl,⟨pO w4.h rfl (bB TH.h) rfl rfl rfl,⟨yL GG.h rfl rfl rfl rfl,trivial⟩⟩,?_⟩;exact wx O;exact wx O
def Rf(n:Nat): V ((X bG)):=
 a8 (AR n ([116,111,112]) [] []) fun r1=>
 a8 (AR n ([108,105,115,116]) ([116,111,112]) []) fun r3=>
 a8 (AR n ([99,111,110,115]) ([108,105,115,116]) ([[70,73,82,83,84],[116,111,112],[82,69,83,84],[108,105,115,116]])) fun r5=>
 a8 (AR n ([110,117,108,108]) ([108,105,115,116]) []) fun r7=>
 a8 (AR n ([100,108,105,115,116]) ([116,111,112]) ([[76,73,83,84],[108,105,115,116],[76,65,83,84],[108,105,115,116]])) fun r9=>
 a8 (AR n ([105,110,100,101,120]) ([116,111,112]) []) fun qB=>
 a8 (AR n ([104,97,110,100,108,101]) ([105,110,100,101,120]) []) fun mJ=>
 a8 (AR n ([101,118,101,110,116]) ([105,110,100,101,120]) []) fun oI=>
 a8 (AR n ([101,110,116,105,116,121]) ([105,110,100,101,120]) []) fun iK=>
 a8 (AR n ([114,101,108]) ([116,111,112]) ([[76,65,66,69,76],[104,97,110,100,108,101]])) fun GP=>
 a8 (AR n ([113,101,113]) ([116,111,112]) ([[72,73,71,72],[104,97,110,100,108,101],[76,79,87],[104,97,110,100,108,101]])) fun GO=>
 a8 (AR n ([115,101,109]) ([116,111,112]) ([[84,79,80],[104,97,110,100,108,101],[73,78,68,69,88],[105,110,100,101,120],[82,69,76,83],[100,108,105,115,116],[67,79,78,83],[100,108,105,115,116]])) fun y6=>
 a8 (AR n ([115,105,103,110]) ([116,111,112]) ([[83,69,77],[115,101,109],[65,82,71,83],[108,105,115,116]])) fun qS=>some ([r1,r3,r5,r7,r9,qB,mJ,oI,iK,GP,GO,y6,qS])
theorem qlz(n:Nat)(r:(X bG))(O:Rf n  = some r):cY prog 33 [] (.isl false (r.map bL)):=by unfold Rf at O;refine bg0 21 Yw ?_;obtain⟨r1,h2,r3,h4,r5,h6,r7,h8,O⟩:=qZ O;obtain⟨r9,gC,qB,g9,mJ,i7,oI,qL,O⟩:=qZ O;obtain⟨iK,dO,GP,tE,GO,uP,y6,pJ,O⟩:=qZ O;obtain⟨qS,o4,O⟩:=aI O;refine go ?_;refine aK rfl (G3 (args':=[.str ([116,111,112]),.str [],.isl false []]) (.cons (.refl _) (.cons (.refl _) (.cons (.nil false) .nil))) (pC (DS n ([116,111,112]) [] [] r1 h2)) _) o5 (aK rfl (G3 (args':=[.str ([108,105,115,116]),.str ([116,111,112]),.isl false []]) (.cons (.refl _) (.cons (.refl _) (.cons (.nil false) .nil))) (pC (DS n ([108,105,115,116]) ([116,111,112]) [] r3 h4)) _) o5 ?_);refine c5 ?_;refine RS.fc rfl (sC 0 1) (pC (DS n ([99,111,110,115]) ([108,105,115,116]) ([[70,73,82,83,84],[116,111,112],[82,69,83,84],[108,105,115,116]]) r5 h6) _) o5 (aK rfl (G3 (args':=[.str ([110,117,108,108]),.str ([108,105,115,116]),.isl false []]) (.cons (.refl _) (.cons (.refl _) (.cons (.nil false) .nil))) (pC (DS n ([110,117,108,108]) ([108,105,115,116]) [] r7 h8)) _) o5 ?_);refine c5 ?_;refine RS.fc rfl (sC 1 1) (pC (DS n ([100,108,105,115,116]) ([116,111,112]) ([[76,73,83,84],[108,105,115,116],[76,65,83,84],[108,105,115,116]]) r9 gC) _) o5 (aK rfl (G3 (args':=[.str ([105,110,100,101,120]),.str ([116,111,112]),.isl false []]) (.cons (.refl _) (.cons (.refl _) (.cons (.nil false) .nil))) (pC (DS n ([105,110,100,101,120]) ([116,111,112]) [] qB g9)) _) o5 (aK rfl (G3 (args':=[.str ([104,97,110,100,108,101]),.str ([105,110,100,101,120]),.isl false []]) (.cons (.refl _) (.cons (.refl _) (.cons (.nil false) .nil))) (pC (DS n ([104,97,110,100,108,101]) ([105,110,100,101,120]) [] mJ i7)) _) o5 (aK rfl (G3 (args':=[.str ([101,118,101,110,116]),.str ([105,110,100,101,120]),.isl false []]) (.cons (.refl _) (.cons (.refl _) (.cons (.nil false) .nil))) (pC (DS n ([101,118,101,110,116]) ([105,110,100,101,120]) [] oI qL)) _) o5 (aK rfl (G3 (args':=[.str ([101,110,116,105,116,121]),.str ([105,110,100,101,120]),.isl false []]) (.cons (.refl _) (.cons (.refl _) (.cons (.nil false) .nil))) (pC (DS n ([101,110,116,105,116,121]) ([105,110,100,101,120]) [] iK dO)) _) o5 ?_))));refine c5 ?_;refine RS.fc rfl (sC 2 1) (pC (DS n ([114,101,108]) ([116,111,112]) ([[76,65,66,69,76],[104,97,110,100,108,101]]) GP tE) _) o5 ?_;refine c5 ?_;refine RS.fc rfl (sC 3 1) (pC (DS n ([113,101,113]) ([116,111,112]) ([[72,73,71,72],[104,97,110,100,108,101],[76,79,87],[104,97,110,100,108,101]]) GO uP) _) o5 (aY (u:=.sl 4 0 8 8) (Y':=⟨[(4,.row [.str ([84,79,80]),.str ([104,97,110,100,108,101]),.str ([73,78,68,69,88]),.str ([105,110,100,101,120]),.str ([82,69,76,83]),.str ([100,108,105,115,116]),.str ([67,79,78,83]),.str ([100,108,105,115,116])] 9)],5⟩) rfl (yJ jZ.h I0.h rfl rfl rfl rfl rfl rfl rfl) (RS.fc rfl (sC 4 1) (pC (DS n ([115,101,109]) ([116,111,112]) ([[84,79,80],[104,97,110,100,108,101],[73,78,68,69,88],[105,110,100,101,120],[82,69,76,83],[100,108,105,115,116],[67,79,78,83],[100,108,105,115,116]]) y6 pJ) _) o5 ?_));refine c5 ?_;refine RS.fc rfl (sC 5 1) (pC (DS n ([115,105,103,110]) ([116,111,112]) ([[83,69,77],[115,101,109],[65,82,71,83],[108,105,115,116]]) qS o4) _) o5 (aY (u:=.sl 6 0 13 13) (Y':=⟨[(6,.row [.str r1.Name,.iM cS r1.Supers,.iM lA r1.Feats,.str r3.Name,.iM cS r3.Supers,.iM lA r3.Feats,.str r5.Name,.iM cS r5.Supers,.iM lA r5.Feats,.str r7.Name,.iM cS r7.Supers,.iM lA r7.Feats,.str r9.Name,.iM cS r9.Supers,.iM lA r9.Feats,.str qB.Name,.iM cS qB.Supers,.iM lA qB.Feats,.str mJ.Name,.iM cS mJ.Supers,.iM lA mJ.Feats,.str oI.Name,.iM cS oI.Supers,.iM lA oI.Feats,.str iK.Name,.iM cS iK.Supers,.iM lA iK.Feats,.str GP.Name,.iM cS GP.Supers,.iM lA GP.Feats,.str GO.Name,.iM cS GO.Supers,.iM lA GO.Feats,.str y6.Name,.iM cS y6.Supers,.iM lA y6.Feats,.str qS.Name,.iM cS qS.Supers,.iM lA qS.Feats] 153)],7⟩) rfl (yJ My.h wO.h rfl rfl rfl rfl rfl rfl rfl) ?_);refine go ?_;obtain rfl:=sI O;exact rT (us:=[.sl 6 0 13 13]) (u:=.iM bL ([r1,r3,r5,r7,r9,qB,mJ,oI,iK,GP,GO,y6,qS])) (dT rfl (eD)) (fR 6 3)
def sf(z6:Int)(cA:Int->(X Int)->V ((X Int)))(bU:X Int):V ((X Int)):=
 cA (IntKind.i64.wrap (z6+1)) bU
def Jm(z6:Int)(cA:Int->(X Int)->V ((X Int)))(qA:aO):Nat->Int->(X Int)->V ((X Int))
 |0,_,_=>none|m2+1,z25,E2=>
  cond (decide (z25<(qA.Arcs.length:Int))) (a8 (aB qA.Arcs z25) fun lJ=>
   a8 (aB qA.Arcs z25) fun pZ=>
   aF ((E2.length+2)*8<=140737488355328/\E2.length+2<=140737488355328) ((Jm z6 cA qA m2) (IntKind.i64.wrap (z25+1)) (E2++[lJ.Feat,pZ.To]))) (sf z6 cA E2)
def sg  (l9:X Int):V ((X Int)):=
 some l9
def OF(p1:GFS)(n:Nat):Nat->Int->(X Int)->V ((X Int))
 |0,_,_=>none|m1+1,z6,l7=>
  cond (decide (z6<(p1.Nodes.length:Int))) (a8 (aB p1.Nodes z6) fun qA=>
   a8 (aB p1.Nodes z6) fun vW=>
   aF ((l7.length+2)*8<=140737488355328/\l7.length+2<=140737488355328) (
   Jm z6 (OF p1 n m1) qA n 0 (l7++[vW.Typex,(qA.Arcs.length:Int)]))) (sg l7)
def Iu(n:Nat)(p1:GFS):V ((X Int)):=
 OF p1 n n 0 ([(p1.Nodes.length:Int)])
theorem qfd(n:Nat)(p1:GFS)(r:(X Int))(O:Iu n p1=some r):cY prog 64 [.agg [.isl false (p1.Nodes.map b7)]] (.isl false (r.map (cI .i64))):=by unfold Iu at O;refine lG 55 Dp ?_;refine go ?_;refine RS.step (u:=.vl 1 0 0 ([(p1.Nodes.length:Int)].length)) (Y':=⟨[(1,.bv (cI .i64) ([(p1.Nodes.length:Int)]) 3 1 0),(0,.row [.iM b7 p1.Nodes] 39)],2⟩) rfl (fN.bslv (cs:=(List.map (cI .i64) [(p1.Nodes.length:Int)]).flatten) tb_ok rfl cU.h iG.h rfl rfl rfl rfl rfl rfl rfl rfl) rfl rfl ?_;refine go ?_;refine nN (a3:=0) (fun m z6 l7 _=>OF p1 n m z6 l7) (fun z6 l7 t8=>[(1,.ptr 0 0 0),(3,.vl 1 t8 0 l7.length),(4,.i6 z6)]) (fun _ l7 t8=>⟨Hq l7 t8 p1.Nodes,2⟩) (lH (fun l9 _=>sg l9) (fun l9 eQ=>[(3,.vl 1 eQ 0 l9.length)]) (fun l9 eQ=>⟨Hq l9 eQ p1.Nodes,2⟩)) O (nD ?_) ?_;intro l9 eQ O;unfold sg at O;refine go ?_;obtain rfl:=sI O;exact rT (us:=[.vl 1 eQ 0 l9.length]) (u:=.iM (cI .i64) l9) (dT rfl (eD)) (fR 1 1);intro m1 z6 l7 t8 O;unfold OF at O;refine gG O ?_ ?_<;>intro jT O;obtain⟨qA,eB,O⟩:=aI O;refine go ?_;refine cB eB ?_;obtain⟨vW,lV,O⟩:=aI O;obtain⟨qL,O⟩:=c6 O;refine gI lV ?_;refine c5 ?_;refine aY (u:=.vl 1 (t8+1) 0 ((l7++[vW.Typex,(qA.Arcs.length:Int)]).length)) (Y':=⟨(2,.row [.i6 vW.Typex,.i6 (qA.Arcs.length:Int)] 3)::Hq (l7++[vW.Typex,(qA.Arcs.length:Int)]) (t8+1) p1.Nodes,3⟩) rfl (pQ rfl rfl rfl rfl (DN (cI .i64) ([vW.Typex,(qA.Arcs.length:Int)]) cU.h cU.h iG.h rfl (mC .i64) rfl (FE (cI .i64) [vW.Typex,(qA.Arcs.length:Int)] rfl rfl rfl rfl) qL)) ?_;refine go ?_;refine nN (a3:=(t8+1)) (fun m z25 E2 _=>Jm z6 (OF p1 n m1) qA m z25 E2) (fun z25 E2 Ft=>[(1,.ptr 0 0 0),(3,.vl 1 Ft 0 E2.length),(4,.i6 z6),(5,.iM bF qA.Arcs),(6,.i6 z25)]) (fun _ E2 Ft=>⟨(2,.row [.i6 vW.Typex,.i6 (qA.Arcs.length:Int)] 3)::Hq E2 Ft p1.Nodes,3⟩) (lH (fun bU _=>sf z6 (OF p1 n m1) bU) (fun bU iX=>[(1,.ptr 0 0 0),(3,.vl 1 iX 0 bU.length),(4,.i6 z6)]) (fun bU iX=>⟨(2,.row [.i6 vW.Typex,.i6 (qA.Arcs.length:Int)] 3)::Hq bU iX p1.Nodes,3⟩)) O (nD ?_) ?_;intro bU iX O;unfold sf at O;exact wx O;intro m2 z25 E2 Ft O;unfold Jm at O;refine gG O ?_ ?_<;>intro tT O;obtain⟨lJ,oE,pZ,nM,O⟩:=bO O;obtain⟨rQ,O⟩:=c6 O;refine go ?_;refine dE [(0,11)] ?_;refine gJ oE ?_;refine dU nM ?_;refine gd ?_;refine eN ?_;refine RD.act (u:=.vl 1 (Ft+1) 0 ((E2++[lJ.Feat,pZ.To]).length)) (Y':=⟨(3,.row [.i6 lJ.Feat,.i6 pZ.To] 3)::(2,.row [.i6 vW.Typex,.i6 (qA.Arcs.length:Int)] 3)::Hq (E2++[lJ.Feat,pZ.To]) (Ft+1) p1.Nodes,4⟩) rfl (pQ rfl rfl rfl rfl (DN (cI .i64) ([lJ.Feat,pZ.To]) cU.h cU.h iG.h rfl (mC .i64) rfl (FE (cI .i64) [lJ.Feat,pZ.To] rfl rfl rfl rfl) rQ)) rfl rfl ?_;refine gd ?_;refine bC ⟨by kernel_rfl,⟨oD rfl,trivial⟩,?_⟩;exact wx O;exact wx O;exact wx O
def Sn: V (Int):=
 some 0
def Jn(r3:(X Int))(r5:(X Int)):Nat->Int->V (Int)
 |0,_=>none|m1+1,eJ=>a8 (cond (decide (eJ<(r3.length:Int))) (some (decide (eJ<(r5.length:Int)))) (some false)) fun D2=>cond D2 (a8 (aB r3 eJ) fun ML=>a8 (aB r5 eJ) fun MK=>cond (decide (ML<MK)) (some (-1)) (a8 (aB r3 eJ) fun oW=>a8 (aB r5 eJ) fun Lu=>cond (decide (oW>Lu)) (some 1) ((Jn r3 r5 m1) (IntKind.i64.wrap (eJ+1))))) (Sn)
def Re(n:Nat)(p1:GFS)(p2:GFS):V (Int):=
 a8 (Iu n p1) fun r3=>
 a8 (Iu n p2) fun r5=>
 Jn r3 r5 n 0
theorem qm0(n:Nat)(p1:GFS)(p2:GFS)(r:Int)(O:Re n p1 p2=some r):cY prog 44 [.agg [.isl false (p1.Nodes.map b7)],.agg [.isl false (p2.Nodes.map b7)]] (.int .i64 r):=by unfold Re at O;refine eL 42 Yq ?_;obtain⟨r3,h4,O⟩:=aI O;refine go ?_;refine aK rfl (pC (qfd n p1 r3 h4) _) Dp ?_;obtain⟨r5,h6,O⟩:=aI O;refine go ?_;refine aK rfl (pC (qfd n p2 r5 h6) _) Dp ?_;refine go ?_;refine oG (Jn r3 r5) (fun eJ=>[(5,.iM (cI .i64) r3),(6,.iM (cI .i64) r5),(7,.i6 eJ)]) (fun _=>⟨[(1,.row [.iM b7 p2.Nodes] 39),(0,.row [.iM b7 p1.Nodes] 39)],2⟩) (pK Sn [] ⟨[(1,.row [.iM b7 p2.Nodes] 39),(0,.row [.iM b7 p1.Nodes] 39)],2⟩) O (rY ?_) ?_;intro O;unfold Sn at O;exact gx O;intro m1 eJ O;unfold Jn at O;obtain⟨D2,lV,O⟩:=aI O;refine gn ?_;refine nE [(5,.iM (cI .i64) r3),(6,.iM (cI .i64) r5),(7,.i6 eJ),(21,.bool D2)] ⟨[(1,.row [.iM b7 p2.Nodes] 39),(0,.row [.iM b7 p1.Nodes] 39)],2⟩ ?_ ?_;refine gG O ?_ ?_<;>intro qL O;obtain⟨ML,dO,MK,tE,O⟩:=bO O;refine go ?_;refine dE [] ?_;refine gJ dO ?_;refine dU tE ?_;refine gd ?_;refine bC ⟨by kernel_rfl,trivial,?_⟩;refine gF O ?_ ?_<;>intro tU O;exact gx O;obtain⟨oW,tD,Lu,IR,O⟩:=bO O;refine go ?_;refine dE [] ?_;refine gJ tD ?_;refine dU IR ?_;refine gd ?_;refine bC ⟨by kernel_rfl,trivial,?_⟩;refine gF O ?_ ?_<;>intro o4 O;exact gx O;exact wx O;exact wx O;refine go ?_;rcases gB lV with⟨eB,lV⟩|⟨eB,lV⟩;exact gy lV;exact gy lV
def NT(n:Nat)(p1:GFS)(p2:GFS):V (PE):=
 a8 (Re n p1 p2) fun r3=>some (r3==0)
theorem yp(n:Nat)(p1:GFS)(p2:GFS)(r:PE)(O:NT n p1 p2=some r):cY prog 20 [.agg [.isl false (p1.Nodes.map b7)],.agg [.isl false (p2.Nodes.map b7)]] (.bool r):=by unfold NT at O;refine eL 9 IW ?_;obtain⟨r3,h4,O⟩:=aI O;refine go ?_;refine aK rfl (pC (qm0 n p1 p2 r3 h4) _) Yq ?_;exact gx O
def Hi(n:Nat)(p1:X aO):V (GFS):=
 some (GFS.mk p1)
theorem vf(n:Nat)(p1:X aO)(r:GFS)(O:Hi n p1=some r):cY prog 35 [.isl false (p1.map b7)] (.agg [.isl false (r.Nodes.map b7)]):=by unfold Hi at O;refine lG 5 IU ?_;refine go ?_;obtain rfl:=sI O;exact rT (nH (kL fT.h rfl (bB hJ.h) rfl rfl rfl) (eD)) (uT _ rfl)
def F?(p1:Int)(fQ:X aR):V (aO):=
 some (aO.mk p1 fQ)
def lj(p1:Int)(p2:X Int):Nat->Int->(X aR)->V (aO)
 |0,_,_=>none|m1+1,z9,l10=>
  cond (decide ((IntKind.i64.wrap (z9+1))<(p2.length:Int))) (a8 (aB p2 z9) fun tG=>
   a8 (aB p2 (IntKind.i64.wrap (z9+1))) fun ML=>
   aF ((l10.length+1)*16<=140737488355328/\l10.length+1<=140737488355328) ((lj p1 p2 m1) (IntKind.i64.wrap (z9+2)) (l10++[(aR.mk tG ML)]))) (F? p1 l10)
def L5(n:Nat)(p1:Int)(p2:X Int):V (aO):=
 lj p1 p2 n 0 ([]:X aR)
theorem SB(n:Nat)(p1:Int)(p2:X Int)(r:aO)(O:L5 n p1 p2=some r):cY prog 36 [.int .i64 p1,.isl false (p2.map (cI .i64))] (.agg (b7 r)):=by unfold L5 at O;refine eL 32 uQ ?_;refine gr ?_;refine gr ?_;refine gr ?_;refine dF (tm':=fr 32 [(1,.iM (cI .i64) p2),(4,.ptr 0 0 0),(5,.ptr 1 0 0),(6,.i6 0)]) (Y':=⟨[(2,.bv bF ([]:X aR) 105 2 0),(1,.row [.i6 p1,.vl 2 0 0 (([]:X aR).length)] 79),(0,.row [.i6 0,.nils] 79)],3⟩) (Gh.trans (BO 1 1 105 2 qq3 NZ rfl rfl) (D7 ⟨rfl,rfl,rfl,rfl,trivial⟩ rfl)) NZ ?_;refine nN (a3:=0) (fun m z9 l10 _=>lj p1 p2 m z9 l10) (fun z9 _ _=>[(1,.iM (cI .i64) p2),(4,.ptr 0 0 0),(5,.ptr 1 0 0),(6,.i6 z9)]) (fun _ l10 sE=>⟨[(2,.bv bF l10 105 2 sE),(1,.row [.i6 p1,.vl 2 sE 0 l10.length] 79),(0,.row [.i6 0,.nils] 79)],3⟩) (lH (fun fQ _=>F? p1 fQ) (fun _ _=>[(4,.ptr 0 0 0),(5,.ptr 1 0 0)]) (fun fQ mU=>⟨[(2,.bv bF fQ 105 2 mU),(1,.row [.i6 p1,.vl 2 mU 0 fQ.length] 79),(0,.row [.i6 0,.nils] 79)],3⟩)) O (nD ?_) ?_;intro fQ mU O;unfold F? at O;refine go ?_;obtain rfl:=sI O;exact rT (us:=[.agg [.i6 p1,.vl 2 mU 0 fQ.length]]) (u:=.agg [.i6 p1,.iM bF fQ]) (nH (kL u9.h rfl (bB mX.h) rfl rfl rfl) (eD)) (fR 2 2);intro m1 z9 l10 sE O;unfold lj at O;refine gG O ?_ ?_<;>intro i7 O;obtain⟨tG,qL,ML,dO,O⟩:=bO O;obtain⟨kE,O⟩:=c6 O;refine go ?_;refine dE [(0,12),(1,12)] ?_;refine gJ qL ?_;refine dU dO ?_;refine gd ?_;refine eN ?_;refine eN ?_;refine gd ?_;refine qM ?_;refine bC ⟨by kernel_rfl,⟨pO u9.h rfl (bB lP.h) rfl rfl rfl,⟨yL fS.h rfl rfl rfl rfl,trivial⟩⟩,?_⟩;exact wx O;exact wx O
end Go.Proofs
