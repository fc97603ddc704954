import Derived.Test.YtmflfedkfdkipaaGreatP10
set_option linter.all false
namespace Go.Proofs
open Go Go.Rx Go.Vx Tryz
instance:TbP prog tb:=⟨tb_ok⟩
set_option maxRecDepth 20000
set_option maxHeartbeats 4000000
set_option synthInstance.maxSize 4000
set_option synthInstance.maxHeartbeats 200000
structure nI where
 Feat:Int
 Value:Int
def sH(x:nI):X U:=[.int .i64 x.Feat,.int .i64 x.Value]
instance{a0:Int}{a1:Int}:DeC sH [.int .i64 a0,.int .i64 a1] (nI.mk a0 a1):=⟨rfl⟩
theorem qjh(n:Nat)(x:nI):aG n (sH x):=by simp only[sH,aG,aT,true_and,and_true]
theorem qr3(x:nI):(sH x).length=2:=rfl
instance:fX sH 2:=⟨qr3⟩
instance:BF sH:=⟨qjh⟩
structure oQ where
 Name:X PI
 Code:X Int
 Supers:X Int
 Feats:X nI
def jV(x:oQ):X U:=[.str x.Name,.isl false (x.Code.map (cI .u64)),.isl false (x.Supers.map (cI .i64)),.isl false (x.Feats.map sH)]
instance{a0:X PI}{a1:X Int}{a2:X Int}{a3:X nI}:DeC jV [.str a0,.isl false (a1.map (cI .u64)),.isl false (a2.map (cI .i64)),.isl false (a3.map sH)] (oQ.mk a0 a1 a2 a3):=⟨rfl⟩
theorem Ib(n:Nat)(x:oQ):aG n (jV x):=by simp only[jV,aG,aT,true_and,and_true];exact⟨sJ _ (fun q=>xe _ .u64 q) _,sJ _ (fun q=>xe _ .i64 q) _,sJ _ (fun q=>qjh _ q) _⟩
theorem d?(x:oQ):(jV x).length=4:=rfl
instance:fX jV 4:=⟨d?⟩
instance:BF jV:=⟨Ib⟩
instance(n:Nat)(x:oQ):m8 n (jV x):=⟨Ib n x⟩
structure wK where
 Name:X PI
 Intro:Int
def mM(x:wK):X U:=[.str x.Name,.int .i64 x.Intro]
instance{a0:X PI}{a1:Int}:DeC mM [.str a0,.int .i64 a1] (wK.mk a0 a1):=⟨rfl⟩
theorem Rk(n:Nat)(x:wK):aG n (mM x):=by simp only[mM,aG,aT,true_and,and_true]
theorem qoj(x:wK):(mM x).length=2:=rfl
instance:fX mM 2:=⟨qoj⟩
instance:BF mM:=⟨Rk⟩
structure cZ where
 Types:X oQ
 Feats:X wK
def g8(x:cZ):X U:=[.isl false (x.Types.map jV),.isl false (x.Feats.map mM)]
theorem qeu(n:Nat)(x:cZ):aG n (g8 x):=by simp only[g8,aG,aT,true_and,and_true];exact⟨sJ _ (fun q=>Ib _ q) _,sJ _ (fun q=>Rk _ q) _⟩
theorem qlf(x:cZ):(g8 x).length=2:=rfl
instance:fX g8 2:=⟨qlf⟩
instance(n:Nat)(x:cZ):m8 n (g8 x):=⟨qeu n x⟩
theorem qgc(K:Nat)(b:B)(sz:Nat)(x:cZ):gU K b sz (g8 x)=g8 x:=tO _ _ _ (qeu K x)
structure qF where
 Feat:X PI
 Value:X PI
def kY(x:qF):X U:=[.str x.Feat,.str x.Value]
instance{a0:X PI}{a1:X PI}:DeC kY [.str a0,.str a1] (qF.mk a0 a1):=⟨rfl⟩
theorem qg8(n:Nat)(x:qF):aG n (kY x):=by simp only[kY,aG,aT,true_and,and_true]
theorem qmo(x:qF):(kY x).length=2:=rfl
instance:fX kY 2:=⟨qmo⟩
instance:BF kY:=⟨qg8⟩
structure bG where
 Name:X PI
 Supers:X (X PI)
 Feats:X qF
def bL(x:bG):X U:=[.str x.Name,.isl false (x.Supers.map cS),.isl false (x.Feats.map kY)]
theorem qg9(n:Nat)(x:bG):aG n (bL x):=by simp only[bL,aG,aT,true_and,and_true];exact⟨sJ _ (fun q=>z71 _ q) _,sJ _ (fun q=>qg8 _ q) _⟩
theorem qmp(x:bG):(bL x).length=3:=rfl
instance:fX bL 3:=⟨qmp⟩
instance:BF bL:=⟨qg9⟩
instance(n:Nat)(x:bG):m8 n (bL x):=⟨qg9 n x⟩
structure dN where
 Name:X PI
 Code:X Int
instance:Inhabited dN:=⟨.mk default default⟩
def fE(x:dN):X U:=[.str x.Name,.isl false (x.Code.map (cI .u64))]
instance{a0:X PI}{a1:X Int}:DeC fE [.str a0,.isl false (a1.map (cI .u64))] (dN.mk a0 a1):=⟨rfl⟩
theorem qkt(n:Nat)(x:dN):aG n (fE x):=by simp only[fE,aG,aT,true_and,and_true];exact sJ _ (fun q=>xe _ .u64 q) _
theorem SB(x:dN):(fE x).length=2:=rfl
instance:fX fE 2:=⟨SB⟩
instance:BF fE:=⟨qkt⟩
instance(n:Nat)(x:dN):m8 n (fE x):=⟨qkt n x⟩
structure aR where
 Feat:Int
 To:Int
def bF(x:aR):X U:=[.int .i64 x.Feat,.int .i64 x.To]
instance{a0:Int}{a1:Int}:DeC bF [.int .i64 a0,.int .i64 a1] (aR.mk a0 a1):=⟨rfl⟩
theorem kh(n:Nat)(x:aR):aG n (bF x):=by simp only[bF,aG,aT,true_and,and_true]
theorem vJ(x:aR):(bF x).length=2:=rfl
instance:fX bF 2:=⟨vJ⟩
instance:BF bF:=⟨kh⟩
instance(n:Nat)(x:aR):m8 n (bF x):=⟨kh n x⟩
structure aO where
 Typex:Int
 Arcs:X aR
def b7(x:aO):X U:=[.int .i64 x.Typex,.isl false (x.Arcs.map bF)]
instance{a0:Int}{a1:X aR}:DeC b7 [.int .i64 a0,.isl false (a1.map bF)] (aO.mk a0 a1):=⟨rfl⟩
theorem vK(n:Nat)(x:aO):aG n (b7 x):=by simp only[b7,aG,aT,true_and,and_true];exact sJ _ (fun q=>kh _ q) _
theorem kz(x:aO):(b7 x).length=2:=rfl
instance:fX b7 2:=⟨kz⟩
instance:BF b7:=⟨vK⟩
instance(n:Nat)(x:aO):m8 n (b7 x):=⟨vK n x⟩
structure GFS where
 Nodes:X aO
def lM(x:GFS):X U:=[.isl false (x.Nodes.map b7)]
theorem jp(n:Nat)(x:GFS):aG n (lM x):=by simp only[lM,aG,aT,true_and,and_true];exact sJ _ (fun q=>vK _ q) _
theorem qvb(x:GFS):(lM x).length=1:=rfl
instance:fX lM 1:=⟨qvb⟩
instance:BF lM:=⟨jp⟩
instance(n:Nat)(x:GFS):m8 n (lM x):=⟨jp n x⟩
instance:uT tb 27 [.nils,.nils] [(0,1),(1,1)]:=⟨vW sV.h B3.h rfl qq1⟩
instance:uT tb 39 [.nils] [(0,1)]:=⟨vW fT.h gZ.h rfl qq1⟩
instance:uT tb 79 [.int .i64 0,.nils] [(0,1),(1,1)]:=⟨vW u7.h mX.h rfl qq1⟩
instance:uT tb 105 [.int .i64 0,.int .i64 0] [(0,1),(1,1)]:=⟨vW tG.h hJ.h rfl qq1⟩
instance Zq:uT tb 143 [.str [],.nils] [(0,1),(1,1)]:=⟨vW QT.h rG.h rfl qq1⟩
instance:uT tb 147 [.str [],.nils,.nils,.nils] [(0,1),(1,1),(2,1),(3,1)]:=⟨vW GG.h I0.h rfl qq1⟩
instance:uT tb 153 [.str [],.nils,.nils] [(0,1),(1,1),(2,1)]:=⟨vW w5.h wO.h rfl qq1⟩
instance:uT tb 156 [.str [],.str []] [(0,1),(1,1)]:=⟨vW Nc.h TH.h rfl qq1⟩
instance:uT tb 186 [.int .i64 0,.int .i64 0] [(0,1),(1,1)]:=⟨vW Nb.h Ur.h rfl qq1⟩
instance:uT tb 197 [.str [],.int .i64 0] [(0,1),(1,1)]:=⟨vW Na.h Uq.h rfl qq1⟩
abbrev S3(a)(b:Nat):=([(1,.bv (cL (cI .u64)) a 141 1 b),(0,.row [] 141)]:X (Nat×B))
abbrev mL(a)(b:Nat):=([(0,.bv cS a 9 1 b)]:X (Nat×B))
abbrev Hr(a)(b:Nat)(c):=([(1,.bv (cI .i64) a 3 1 b),(0,.row [.iM b7 c] 39)]:X (Nat×B))
abbrev DP(a)(b:Nat):=([(0,.bv (cI .i64) a 3 1 b)]:X (Nat×B))
abbrev Hq:=([(0,.row [.str [],.nils,.nils] 153)]:X (Nat×B))
abbrev Ph(a:U)(b)(c)(d:Nat):=([(2,.row [a,.iM (cI .u64) b] 143),(1,.bv fE c 143 2 d)]:X (Nat×B))
abbrev qv3:=([(1,.row [.str ([70]),.str ([116,111,112]),.str ([71]),.str ([116,111,112])] 156),(0,.row [.nils,.nils] 27)]:X (Nat×B))
def ml: Y (Int):=
 some 0
def Z7(p1:X bG):Nat->Int->Y (Int)
 |0,_=>none|m1+1,z5=>cond (decide (z5<(p1.length:Int))) (a8 (a8 (aB p1 z5) fun x7=>cond (decide ((x7.Supers.length:Int)>256)) (some true) (a8 (aB p1 z5) fun x10=>some (decide ((x10.Feats.length:Int)>256)))) fun JL=>cond JL (some 7) ((Z7 p1 m1) (IntKind.i64.wrap (z5+1)))) (ml)
def Qn(n:Nat)(p1:X bG):Y (Int):=
 cond (decide ((p1.length:Int)>256)) (some 7) (Z7 p1 n 0)
theorem qpa(n:Nat)(p1:X bG)(r:Int)(O:Qn n p1=some r):cY prog 121 [.isl false (p1.map bL)] (.int .i64 r):=by unfold Qn at O;refine lD 29 V8 ?_;refine gF O ?_ ?_<;>intro h2 O;exact gx O;refine go ?_;refine oH (Z7 p1) (fun z5=>[(0,.iM bL p1),(3,.i6 z5)]) (fun _=>⟨[],0⟩) (pL ml [] ⟨[],0⟩) O (rY ?_) ?_;intro O;unfold ml at O;exact gx O;intro m1 z5 O;unfold Z7 at O;refine gG O ?_ ?_<;>intro h6 O;obtain⟨JL,eB,O⟩:=aI O;refine gn ?_;refine nE [(0,.iM bL p1),(3,.i6 z5),(28,.bool JL)] ⟨[],0⟩ ?_ ?_;refine gF O ?_ ?_<;>intro i5 O;exact gx O;exact wx O;obtain⟨x7,h8,eB⟩:=aI eB;refine gI h8 ?_;rcases gB eB with⟨h9,eB⟩|⟨h9,eB⟩;exact gy eB;obtain⟨x10,jS,eB⟩:=aI eB;obtain rfl:=sI eB;refine gI jS ?_;exact mS;exact wx O
def YU(n:Nat)(p1:Int):Y (DC):=
 a8 (cond (decide (p1>=48)) (some (decide (p1<=57))) (some false)) fun b3=>some b3
theorem qi7(n:Nat)(p1:Int)(r:DC)(O:YU n p1=some r):cY prog 176 [.int .u8 p1] (.bool r):=by unfold YU at O;refine lD 9 IX ?_;obtain⟨b3,h4,O⟩:=aI O;refine gr ?_;refine nE [(2,.bool b3)] ⟨[],0⟩ ?_ ?_;exact gx O;refine go ?_;rcases gB h4 with⟨h2,h4⟩|⟨h2,h4⟩;exact gy h4;exact gy h4
def vp(n:Nat)(p1:Int):Y (DC):=
 a8 (cond (decide (p1>=65)) (some (decide (p1<=90))) (some false)) fun b3=>some b3
theorem qp2(n:Nat)(p1:Int)(r:DC)(O:vp n p1=some r):cY prog 178 [.int .u8 p1] (.bool r):=by unfold vp at O;refine lD 9 UC ?_;obtain⟨b3,h4,O⟩:=aI O;refine gr ?_;refine nE [(2,.bool b3)] ⟨[],0⟩ ?_ ?_;exact gx O;refine go ?_;rcases gB h4 with⟨h2,h4⟩|⟨h2,h4⟩;exact gy h4;exact gy h4
def Qt(n:Nat)(p1:Int):Y (DC):=
 a8 (cond (decide (p1>=97)) (some (decide (p1<=122))) (some false)) fun b3=>some b3
theorem qi8(n:Nat)(p1:Int)(r:DC)(O:Qt n p1=some r):cY prog 179 [.int .u8 p1] (.bool r):=by unfold Qt at O;refine lD 9 IW ?_;obtain⟨b3,h4,O⟩:=aI O;refine gr ?_;refine nE [(2,.bool b3)] ⟨[],0⟩ ?_ ?_;exact gx O;refine go ?_;rcases gB h4 with⟨h2,h4⟩|⟨h2,h4⟩;exact gy h4;exact gy h4
def Qb(n:Nat)(p1:Int)(p2:DC):Y (DC):=
 a8 (a8 (YU n p1) fun r3=>cond r3 (some true) (cond (p1==45) (some true) (cond p2 (a8 (vp n p1) fun r8=>cond r8 (some true) (cond (!p2) (a8 (Qt n p1) fun fV=>some fV) (some false))) (cond (!p2) (a8 (Qt n p1) fun oJ=>some oJ) (some false))))) fun tV=>some tV
theorem qrk(n:Nat)(p1:Int)(p2:DC)(r:DC)(O:Qb n p1 p2=some r):cY prog 177 [.int .u8 p1,.bool p2] (.bool r):=by
 unfold Qb at O;refine eM 26 UD ?_;obtain⟨tV,dO,O⟩:=aI O;refine gr ?_;refine nE [(4,.bool tV)] ⟨[],0⟩ ?_ ?_;exact gx O;obtain⟨r3,h4,dO⟩:=aI dO;refine go ?_;refine aK rfl (pC (qi7 n p1 r3 h4) _) IX ?_;refine go ?_;rcases gB dO with⟨h5,dO⟩|⟨h5,dO⟩;obtain rfl:=sI dO;refine go ?_
 repeat refine RS.no (GR rfl rfl rfl) rfl rfl ?_
 refine go ?_
 repeat refine RS.no (GR rfl rfl rfl) rfl rfl ?_
 refine go ?_;exact mS;refine go ?_;rcases gB dO with⟨h6,dO⟩|⟨h6,dO⟩;obtain rfl:=sI dO;refine go ?_
 repeat refine RS.no (GR rfl rfl rfl) rfl rfl ?_
 refine go ?_
 repeat refine RS.no (GR rfl rfl rfl) rfl rfl ?_
 refine go ?_;exact mS;refine go ?_;rcases gB dO with⟨h7,dO⟩|⟨h7,dO⟩;obtain⟨r8,h9,dO⟩:=aI dO;refine go ?_;refine aK rfl (pC (qp2 n p1 r8 h9) _) UC ?_;refine go ?_;rcases gB dO with⟨gD,dO⟩|⟨gD,dO⟩;obtain rfl:=sI dO;refine go ?_
 repeat refine RS.no (GR rfl rfl rfl) rfl rfl ?_
 refine go ?_;exact mS;refine go ?_;rcases gB dO with⟨jS,dO⟩|⟨jS,dO⟩;obtain⟨fV,eB,dO⟩:=aI dO;obtain rfl:=sI dO;refine go ?_;refine aK rfl (pC (qi8 n p1 fV eB) _) IW ?_;refine go ?_;exact mS;exact gy dO;refine go ?_;rcases gB dO with⟨i5,dO⟩|⟨i5,dO⟩;obtain⟨oJ,qL,dO⟩:=aI dO;obtain rfl:=sI dO;refine go ?_;refine aK rfl (pC (qi8 n p1 oJ qL) _) IW ?_;refine go ?_;exact mS;exact gy dO
def uj: Y (DC):=
 some true
def ZB(p1:X PI)(p2:DC)(n:Nat):Nat->Int->Y (DC)
 |0,_=>none|m1+1,dS=>cond (decide (dS<(p1.length:Int))) (a8 (XS p1 dS) fun D9=>a8 (Qb n D9 p2) fun KN=>cond (!KN) (some false) ((ZB p1 p2 n m1) (IntKind.i64.wrap (dS+1)))) (uj)
def Ik(n:Nat)(p1:X PI)(p2:DC):Y (DC):=
 a8 (cond (decide ((p1.length:Int)<1)) (some true) (cond (decide ((p1.length:Int)>32)) (some true) (a8 (XS p1 0) fun x5=>a8 (YU n x5) fun r7=>cond r7 (some true) (a8 (XS p1 0) fun x10=>some (x10==45))))) fun JL=>cond JL (some false) (ZB p1 p2 n n 0)
theorem qi9(n:Nat)(p1:X PI)(p2:DC)(r:DC)(O:Ik n p1 p2=some r):cY prog 173 [.str p1,.bool p2] (.bool r):=by unfold Ik at O;refine eM 36 IY ?_;obtain⟨JL,eB,O⟩:=aI O;refine gr ?_;refine nE [(0,.str p1),(1,.bool p2),(23,.bool JL)] ⟨[],0⟩ ?_ ?_;refine gF O ?_ ?_<;>intro i5 O;exact gx O;refine go ?_;refine oH (ZB p1 p2 n) (fun dS=>[(0,.str p1),(1,.bool p2),(5,.i6 dS)]) (fun _=>⟨[],0⟩) (pL uj [] ⟨[],0⟩) O (rY ?_) ?_;intro O;unfold uj at O;exact gx O;intro m1 dS O;unfold ZB at O;refine go ?_;refine aY (u:=.i6 (p1.length:Int)) rfl (H4 rfl rfl rfl (by simp only[w7,KH.h])) ?_;refine gG O ?_ ?_<;>intro kD O;obtain⟨D9,tT,KN,tD,O⟩:=bO O;refine go ?_;refine aY (u:=.int .u8 D9) rfl (oe KH.h rfl rfl tT) ?_;refine go ?_;refine aK rfl (pC (qrk n D9 p2 KN tD) _) UD ?_;refine gF O ?_ ?_<;>intro pK O;exact gx O;exact wx O;exact wx O;refine go ?_;refine aY (u:=.i6 (p1.length:Int)) rfl (H4 rfl rfl rfl (by simp only[w7,KH.h])) ?_;refine go ?_;rcases gB eB with⟨h3,eB⟩|⟨h3,eB⟩;exact gy eB;refine go ?_;refine RS.w (u:=.i6 (p1.length:Int)) rfl (H4 rfl rfl rfl (by simp only[w7,KH.h])) ?_;refine go ?_;rcases gB eB with⟨h4,eB⟩|⟨h4,eB⟩;exact gy eB;obtain⟨x5,h6,eB⟩:=aI eB;obtain⟨r7,h8,eB⟩:=aI eB;refine go ?_;refine RS.w (u:=.int .u8 x5) rfl (oe KH.h rfl rfl h6) (aK rfl (pC (qi7 n x5 r7 h8) _) IX ?_);refine go ?_;rcases gB eB with⟨h9,eB⟩|⟨h9,eB⟩;exact gy eB;obtain⟨x10,jS,eB⟩:=aI eB;obtain rfl:=sI eB;refine go ?_;refine RS.w (u:=.int .u8 x10) rfl (oe KH.h rfl rfl jS) ?_;refine go ?_;exact mS
def Qc(n:Nat)(p1:X PI):Y (DC):=
 a8 (Ik n p1 false) fun r2=>some r2
theorem qrj(n:Nat)(p1:X PI)(r:DC)(O:Qc n p1=some r):cY prog 157 [.str p1] (.bool r):=by unfold Qc at O;refine lD 5 UN ?_;obtain⟨r2,h3,O⟩:=aI O;refine go ?_;refine aK rfl (pC (qi9 n p1 false r2 h3) _) IY ?_;exact gx O
def yy: Y (Int):=
 some (-1)
def YZ(p1:X bG)(p2:X PI):Nat->Int->Y (Int)
 |0,_=>none|m1+1,z6=>cond (decide (z6<(p1.length:Int))) (a8 (aB p1 z6) fun x8=>cond (lN x8.Name p2) (some z6) ((YZ p1 p2 m1) (IntKind.i64.wrap (z6+1)))) (yy)
def HA(n:Nat)(p1:X bG)(p2:X PI):Y (Int):=
 YZ p1 p2 n 0
theorem Ip(n:Nat)(p1:X bG)(p2:X PI)(r:Int)(O:HA n p1 p2=some r):cY prog 158 [.isl false (p1.map bL),.str p2] (.int .i64 r):=by unfold HA at O;refine eM 20 rR ?_;refine go ?_;refine oH (YZ p1 p2) (fun z6=>[(0,.iM bL p1),(1,.str p2),(5,.i6 z6)]) (fun _=>⟨[],0⟩) (pL yy [] ⟨[],0⟩) O (rY ?_) ?_;intro O;unfold yy at O;exact gx O;intro m1 z6 O;unfold YZ at O;refine gG O ?_ ?_<;>intro h7 O;obtain⟨x8,h9,O⟩:=aI O;refine gI h9 ?_;refine aY (u:=.bool (lN x8.Name p2)) rfl (F9 rfl rfl rfl rfl) ?_;refine gF O ?_ ?_<;>intro gD O;exact gx O;exact wx O;exact wx O
def mn: Y (Int):=
 some 0
def Z9(p1:X bG)(n:Nat):Nat->Int->Y (Int)
 |0,_=>none|m1+1,z4=>cond (decide (z4<(p1.length:Int))) (a8 (aB p1 z4) fun x6=>a8 (Qc n x6.Name) fun r8=>cond (!r8) (some 1) (a8 (aB p1 z4) fun mT=>a8 (HA n p1 mT.Name) fun mI=>cond (decide (mI<z4)) (some 4) ((Z9 p1 n m1) (IntKind.i64.wrap (z4+1))))) (mn)
def vm(n:Nat)(p1:X bG):Y (Int):=
 Z9 p1 n n 0
theorem qp8(n:Nat)(p1:X bG)(r:Int)(O:vm n p1=some r):cY prog 122 [.isl false (p1.map bL)] (.int .i64 r):=by unfold vm at O;refine lD 26 V7 ?_;refine go ?_;refine oH (Z9 p1 n) (fun z4=>[(0,.iM bL p1),(3,.i6 z4)]) (fun _=>⟨[],0⟩) (pL mn [] ⟨[],0⟩) O (rY ?_) ?_;intro O;unfold mn at O;exact gx O;intro m1 z4 O;unfold Z9 at O;refine gG O ?_ ?_<;>intro h5 O;obtain⟨x6,h7,r8,h9,O⟩:=bO O;refine gI h7 ?_;refine aK rfl (pC (qrj n x6.Name r8 h9) _) UN ?_;refine gF O ?_ ?_<;>intro gD O;exact gx O;obtain⟨mT,gC,mI,i5,O⟩:=bO O;refine gI gC ?_;refine aK rfl (pC (Ip n p1 mT.Name mI i5) _) rR ?_;refine gF O ?_ ?_<;>intro lU O;exact gx O;exact wx O;exact wx O
def ud: Y (DC):=
 some false
def Jh(p1:X (X PI))(p2:X PI):Nat->Int->Y (DC)
 |0,_=>none|m1+1,z6=>cond (decide (z6<(p1.length:Int))) (a8 (aB p1 z6) fun x8=>cond (lN x8 p2) (some true) ((Jh p1 p2 m1) (IntKind.i64.wrap (z6+1)))) (ud)
def FG(n:Nat)(p1:X (X PI))(p2:X PI):Y (DC):=
 Jh p1 p2 n 0
theorem O5(n:Nat)(p1:X (X PI))(p2:X PI)(r:DC)(O:FG n p1 p2=some r):cY prog 126 [.isl false (p1.map cS),.str p2] (.bool r):=by unfold FG at O;refine eM 18 mQ ?_;refine go ?_;refine oH (Jh p1 p2) (fun z6=>[(0,.iM cS p1),(1,.str p2),(5,.i6 z6)]) (fun _=>⟨[],0⟩) (pL ud [] ⟨[],0⟩) O (rY ?_) ?_;intro O;unfold ud at O;exact gx O;intro m1 z6 O;unfold Jh at O;refine gG O ?_ ?_<;>intro h7 O;obtain⟨x8,h9,O⟩:=aI O;refine gI h9 ?_;refine aY (u:=.bool (lN x8 p2)) rfl (F9 rfl rfl rfl rfl) ?_;refine gF O ?_ ?_<;>intro gD O;exact gx O;exact wx O;exact wx O
def uy(z4:Int)(cB:Int->Y (Int)): Y (Int):=
 cB (IntKind.i64.wrap (z4+1))
def ZF(p1:X bG)(n:Nat)(z4:Int)(cB:Int->Y (Int))(x6:bG):Nat->Int->Y (Int)
 |0,_=>none|m2+1,eJ=>
  cond (decide (eJ<(x6.Supers.length:Int))) (a8 (aB x6.Supers eJ) fun vX=>
   a8 (HA n p1 vX) fun XR=>cond (decide (XR<0)) (some 5) (a8 (w8 x6.Supers 0 eJ) fun lA=>
    a8 (aB x6.Supers eJ) fun BV=>
    a8 (FG n lA BV) fun qS=>cond qS (some 4) ((ZF p1 n z4 cB x6 m2) (IntKind.i64.wrap (eJ+1))))) (uy z4 cB)
def uz: Y (Int):=
 some 0
def LI(p1:X bG)(n:Nat):Nat->Int->Y (Int)
 |0,_=>none|m1+1,z4=>cond (decide (z4<(p1.length:Int))) (a8 (aB p1 z4) fun x6=>ZF p1 n z4 (LI p1 n m1) x6 n 0) (uz)
def yf(n:Nat)(p1:X bG):Y (Int):=
 LI p1 n n 0
theorem qmt(n:Nat)(p1:X bG)(r:Int)(O:yf n p1=some r):cY prog 123 [.isl false (p1.map bL)] (.int .i64 r):=by unfold yf at O;refine lD 38 V6 ?_;refine go ?_;refine oH (LI p1 n) (fun z4=>[(0,.iM bL p1),(3,.i6 z4)]) (fun _=>⟨[],0⟩) (pL uz [] ⟨[],0⟩) O (rY ?_) ?_;intro O;unfold uz at O;exact gx O;intro m1 z4 O;unfold LI at O;refine gG O ?_ ?_<;>intro h5 O;obtain⟨x6,h7,O⟩:=aI O;refine gI h7 ?_;refine oH (ZF p1 n z4 (LI p1 n m1) x6) (fun eJ=>[(0,.iM bL p1),(3,.i6 z4),(4,.iM cS x6.Supers),(5,.i6 eJ)]) (fun _=>⟨[],0⟩) (pL (uy z4 (LI p1 n m1)) [(0,.iM bL p1),(3,.i6 z4)] ⟨[],0⟩) O (rY ?_) ?_;intro O;unfold uy at O;exact wx O;intro m2 eJ O;unfold ZF at O;refine gG O ?_ ?_<;>intro eB O;obtain⟨vX,lU,XR,jI,O⟩:=bO O;refine gI lU ?_;refine aK rfl (pC (Ip n p1 vX XR jI) _) rR ?_;refine gF O ?_ ?_<;>intro dO O;exact gx O;obtain⟨lA,tE,O⟩:=aI O;obtain⟨tT,uQ⟩:=xd cS .i64 tE;obtain⟨BV,pK,qS,o3,O⟩:=bO O;refine go ?_;refine dE [] ?_;refine gd ?_;refine aV (u:=.iM cS lA) rfl (L2 rfl MG (MF rfl) (Oc cS jX.h (bB HZ.h) N8 tT uQ)) ?_;refine gJ pK ?_;refine dL rfl (pC (O5 n lA BV qS o3)) mQ ?_;refine bD ⟨by kernel_rfl,trivial,?_⟩;refine gF O ?_ ?_<;>intro EG O;exact gx O;exact wx O;exact wx O;exact wx O
def mm: Y (DC):=
 some true
def Z8(p1:bG)(p2:X (X PI))(n:Nat):Nat->Int->Y (DC)
 |0,_=>none|m1+1,z8=>cond (decide (z8<(p1.Supers.length:Int))) (a8 (aB p1.Supers z8) fun x10=>a8 (FG n p2 x10) fun fV=>cond (!fV) (some false) ((Z8 p1 p2 n m1) (IntKind.i64.wrap (z8+1)))) (mm)
def vk(n:Nat)(p1:bG)(p2:X (X PI)):Y (DC):=
 Z8 p1 p2 n n 0
theorem qp9(n:Nat)(p1:bG)(p2:X (X PI))(r:DC)(O:vk n p1 p2=some r):cY prog 159 [.agg (bL p1),.isl false (p2.map cS)] (.bool r):=by unfold vk at O;refine eM 21 UM ?_;refine go ?_;refine oH (Z8 p1 p2 n) (fun z8=>[(1,.iM cS p2),(2,.ptr 0 0 0),(5,.i6 z8)]) (fun _=>⟨[(0,.row (bL p1) 153)],1⟩) (pL mm [] ⟨[(0,.row (bL p1) 153)],1⟩) O (rY ?_) ?_;intro O;unfold mm at O;exact gx O;intro m1 z8 O;unfold Z8 at O;refine gG O ?_ ?_<;>intro h9 O;obtain⟨x10,jS,fV,eB,O⟩:=bO O;refine gI jS ?_;refine aK rfl (pC (O5 n p2 x10 fV eB) _) mQ ?_;refine gF O ?_ ?_<;>intro i5 O;exact gx O;exact wx O;exact wx O
def Sk(cB:DC->(X (X PI))->Y ((X (X PI))))(M6:DC)(kZ:X (X PI)):Y ((X (X PI))):=
 cB M6 kZ
def Sj(eU:Int)(i7:DC->(X PI)->Int->Y ((X (X PI))))(zr:X PI):Y ((X (X PI))):=
 i7 true zr (IntKind.i64.wrap (eU+1))
def sa(l7:X (X PI))(cB:DC->(X (X PI))->Y ((X (X PI))))(M6:DC)(DD:X PI):Y ((X (X PI))):=
 cond M6 (aF ((l7.length+1)*16<=140737488355328/\l7.length+1<=140737488355328) (
  Sk cB M6 (l7++[DD]))) (Sk cB M6 l7)
def LJ(p1:X bG)(n:Nat)(l7:X (X PI))(cB:DC->(X (X PI))->Y ((X (X PI)))):Nat->DC->(X PI)->Int->Y ((X (X PI)))
 |0,_,_,_=>none|m2+1,JK,KL,eU=>cond (decide (eU<(p1.length:Int))) (a8 (a8 (aB p1 eU) fun xZ=>a8 (FG n l7 xZ.Name) fun XQ=>cond XQ (some true) (a8 (aB p1 eU) fun pZ=>a8 (vk n pZ l7) fun jK=>some (!jK))) fun Fb=>cond Fb ((LJ p1 n l7 cB m2) JK KL (IntKind.i64.wrap (eU+1))) (a8 (cond (!JK) (some true) (a8 (aB p1 eU) fun sR=>some (kC sR.Name KL))) fun Fa=>cond Fa (a8 (aB p1 eU) fun x47=>Sj eU (LJ p1 n l7 cB m2) x47.Name) (Sj eU (LJ p1 n l7 cB m2) KL))) (sa l7 cB JK KL)
def sb  (l9:X (X PI)):Y ((X (X PI))):=
 some l9
def HD(p1:X bG)(n:Nat):Nat->DC->(X (X PI))->Y ((X (X PI)))
 |0,_,_=>none|m1+1,b6,l7=>cond b6 (LJ p1 n l7 (HD p1 n m1) n false [] 0) (sb l7)
def yg(n:Nat)(p1:X bG):Y ((X (X PI))):=
 HD p1 n n true ([]:X (X PI))
theorem qms(n:Nat)(p1:X bG)(r:(X (X PI)))(O:yg n p1=some r):cY prog 124 [.isl false (p1.map bL)] (.isl false (r.map cS)):=by unfold yg at O;refine lD 52 V5 ?_;refine gr ?_;refine gr ?_;refine gr ?_;refine gV 3 9 1 1 ?_;refine nM (a3:=0) (fun m b6 l7 _=>HD p1 n m b6 l7) (fun b6 l7 t8=>[(0,.iM bL p1),(3,.vl 0 t8 0 l7.length),(4,.bool b6)]) (fun _ l7 t8=>⟨mL l7 t8,1⟩) (lE (fun l9 _=>sb l9) (fun l9 eQ=>[(3,.vl 0 eQ 0 l9.length)]) (fun l9 eQ=>⟨mL l9 eQ,1⟩)) O (nD ?_) ?_;intro l9 eQ O;unfold sb at O;refine go ?_;obtain rfl:=sI O;exact rT (us:=[.vl 0 eQ 0 l9.length]) (u:=.iM cS l9) (dT rfl (eD)) (fR 0 1);intro m1 b6 l7 t8 O;unfold HD at O;refine gG O ?_ ?_<;>intro jS O;refine go ?_;refine nM (LJ p1 n l7 (HD p1 n m1)) (fun JK KL eU=>[(0,.iM bL p1),(3,.vl 0 t8 0 l7.length),(4,.bool JK),(5,.str KL),(6,.i6 eU)]) (fun _ _ _=>⟨mL l7 t8,1⟩) (lE (sa l7 (HD p1 n m1)) (fun M6 DD=>[(0,.iM bL p1),(3,.vl 0 t8 0 l7.length),(4,.bool M6),(5,.str DD)]) (fun _ _=>⟨mL l7 t8,1⟩)) O (nD ?_) ?_;intro M6 DD O;unfold sa at O;refine gr ?_;refine M8 r (fun kZ _=>Sk (HD p1 n m1) M6 kZ) (fun kZ t25=>[(0,.iM bL p1),(3,.vl 0 t25 0 kZ.length),(4,.bool M6)]) (fun kZ t25=>⟨mL kZ t25,1⟩) ?_ ?_;intro kZ t25 O;unfold Sk at O;exact wx O;refine cF O ?_ ?_<;>intro tD O;obtain⟨o3,O⟩:=c6 O;refine go ?_;refine c5 ?_;refine c5 ?_;exact wx O;exact wx O;intro m2 JK KL eU O;unfold LJ at O;refine gG O ?_ ?_<;>intro EG O;obtain⟨Fb,lB,O⟩:=aI O;refine gn ?_;refine nE [(0,.iM bL p1),(3,.vl 0 t8 0 l7.length),(4,.bool JK),(5,.str KL),(6,.i6 eU),(29,.bool Fb)] ⟨mL l7 t8,1⟩ ?_ ?_;refine gF O ?_ ?_<;>intro A5 O;exact wx O;obtain⟨Fa,kQ,O⟩:=aI O;refine gn ?_;refine nE [(0,.iM bL p1),(3,.vl 0 t8 0 l7.length),(5,.str KL),(6,.i6 eU),(40,.bool Fa)] ⟨mL l7 t8,1⟩ ?_ ?_;refine gn ?_;refine Zx r (Sj eU (LJ p1 n l7 (HD p1 n m1) m2)) (fun zr=>[(0,.iM bL p1),(3,.vl 0 t8 0 l7.length),(5,.str zr),(6,.i6 eU)]) (fun _=>⟨mL l7 t8,1⟩) ?_ ?_;intro zr O;unfold Sj at O;exact wx O;refine cF O ?_ ?_<;>intro sO O;obtain⟨x47,La,O⟩:=aI O;refine gI La ?_;exact cm O;exact wx O;refine go ?_;rcases gB kQ with⟨xM,kQ⟩|⟨xM,kQ⟩;exact gy kQ;obtain⟨sR,vT,kQ⟩:=aI kQ;obtain rfl:=sI kQ;refine gI vT ?_;refine RS.w (u:=.bool (kC sR.Name KL)) rfl (F9 rfl rfl rfl rfl) ?_;refine go ?_;exact mS;obtain⟨xZ,sP,lB⟩:=aI lB;obtain⟨XQ,BN,lB⟩:=aI lB;refine gI sP ?_;refine aK rfl (vw (O5 n l7 xZ.Name XQ BN) (sC 0 1)) mQ ?_;refine go ?_;rcases gB lB with⟨oF,lB⟩|⟨oF,lB⟩;exact gy lB;obtain⟨pZ,nL,lB⟩:=aI lB;obtain⟨jK,xN,lB⟩:=aI lB;obtain rfl:=sI lB;refine gI nL ?_;refine aK rfl (vw (qp9 n pZ l7 jK xN) (sC 0 1)) UM ?_;refine go ?_;exact mS;exact wx O;exact wx O
def Ry(fY:Int)(cB:Int->Int->Y (Int))(z25:Int):Y (Int):=
 cB z25 (IntKind.i64.wrap (fY+1))
def mw(p1:X bG)(n:Nat)(m9:Int):Y (Int):=
 cond (m9 != 1) (some 1) (a8 (yg n p1) fun jZ=>cond (decide ((jZ.length:Int)<(p1.length:Int))) (some 6) (some 0))
def OB(p1:X bG)(n:Nat):Nat->Int->Int->Y (Int)
 |0,_,_=>none|m1+1,kF,fY=>cond (decide (fY<(p1.length:Int))) (a8 (aB p1 fY) fun oY=>cond ((oY.Supers.length:Int)==0) (Ry fY (OB p1 n m1) (IntKind.i64.wrap (kF+1))) (Ry fY (OB p1 n m1) kF)) (mw p1 n kF)
def Qp(n:Nat)(p1:X bG):Y (Int):=
 a8 (Qn n p1) fun r2=>cond (r2 != 0) (some r2) (a8 (vm n p1) fun r5=>cond (r5 != 0) (some r5) (a8 (yf n p1) fun r8=>cond (r8 != 0) (some r8) (OB p1 n n 0 0)))
theorem qp7(n:Nat)(p1:X bG)(r:Int)(O:Qp n p1=some r):cY prog 90 [.isl false (p1.map bL)] (.int .i64 r):=by unfold Qp at O;refine lD 46 Ya ?_;obtain⟨r2,h3,O⟩:=aI O;refine go ?_;refine aK rfl (pC (qpa n p1 r2 h3) _) V8 ?_;refine gF O ?_ ?_<;>intro h4 O;exact gx O;obtain⟨r5,h6,O⟩:=aI O;refine go ?_;refine aK rfl (pC (qp8 n p1 r5 h6) _) V7 ?_;refine gF O ?_ ?_<;>intro h7 O;exact gx O;obtain⟨r8,h9,O⟩:=aI O;refine go ?_;refine aK rfl (pC (qmt n p1 r8 h9) _) V6 ?_;refine gF O ?_ ?_<;>intro gD O;exact gx O;refine go ?_;refine D3 (OB p1 n) (fun kF fY=>[(0,.iM bL p1),(6,.i6 kF),(7,.i6 fY)]) (fun _ _=>⟨[],0⟩) (pW (mw p1 n) (fun m9=>[(0,.iM bL p1),(6,.i6 m9)]) (fun _=>⟨[],0⟩)) O (tW ?_) ?_;intro m9 O;unfold mw at O;refine gF O ?_ ?_<;>intro jI O;exact gx O;obtain⟨jZ,kD,O⟩:=aI O;refine go ?_;refine aK rfl (pC (qms n p1 jZ kD) _) V5 ?_;refine gF O ?_ ?_<;>intro tE O;exact gx O;exact gx O;intro m1 kF fY O;unfold OB at O;refine gG O ?_ ?_<;>intro tT O;obtain⟨oY,tD,O⟩:=aI O;refine go ?_;refine c8 tD ?_;refine gn ?_;refine Zx r (Ry fY (OB p1 n m1)) (fun z25=>[(0,.iM bL p1),(6,.i6 z25),(7,.i6 fY)]) (fun _=>⟨[],0⟩) ?_ ?_;intro z25 O;unfold Ry at O;exact wx O;refine cF O ?_ ?_<;>intro pK O;exact wx O;exact wx O;exact wx O
def Qy(p1:X (X PI))(p2:X PI)(z7:Int):Y ((X (X PI))):=
 a8 (cond (decide (z7<(p1.length:Int))) (a8 (aB p1 z7) fun x9=>some (lN x9 p2)) (some false)) fun b11=>cond b11 (some p1) (a8 (w8 p1 0 z7) fun iA=>
  aF (iA.length*16<=140737488355328/\iA.length<=140737488355328) (
  aF ((iA.length+1)*16<=140737488355328/\iA.length+1<=140737488355328) (
  a8 (w8 p1 z7 (p1.length:Int)) fun gQ=>
  aF (((iA++[p2]).length+gQ.length)*16<=140737488355328/\(iA++[p2]).length+gQ.length<=140737488355328) (some ((iA++[p2])++gQ)))))
def Iq(p1:X (X PI))(p2:X PI):Nat->Int->Y ((X (X PI)))
 |0,_=>none|m1+1,z6=>a8 (cond (decide (z6<(p1.length:Int))) (a8 (aB p1 z6) fun ML=>some (kC ML p2)) (some false)) fun Q3=>cond Q3 ((Iq p1 p2 m1) (IntKind.i64.wrap (z6+1))) (Qy p1 p2 z6)
def NR(n:Nat)(p1:X (X PI))(p2:X PI):Y ((X (X PI))):=
 Iq p1 p2 n 0
theorem Ih(n:Nat)(p1:X (X PI))(p2:X PI)(r:(X (X PI)))(O:NR n p1 p2=some r):cY prog 116 [.isl false (p1.map cS),.str p2] (.isl false (r.map cS)):=by unfold NR at O;refine eM 48 rV ?_;refine go ?_;refine oH (Iq p1 p2) (fun z6=>[(0,.iM cS p1),(1,.str p2),(5,.nils),(6,.i6 z6)]) (fun _=>⟨[],0⟩) (pW (Qy p1 p2) (fun z7=>[(0,.iM cS p1),(1,.str p2),(5,.nils),(6,.i6 z7)]) (fun _=>⟨[],0⟩)) O (tW ?_) ?_;intro z7 O;unfold Qy at O;obtain⟨b11,gC,O⟩:=aI O;refine gn ?_;refine nE [(0,.iM cS p1),(1,.str p2),(5,.nils),(6,.i6 z7),(32,.bool b11)] ⟨[],0⟩ ?_ ?_;refine gF O ?_ ?_<;>intro eB O;exact gx O;obtain⟨iA,lU,O⟩:=aI O;obtain⟨qL,jI⟩:=xd cS .i64 lU;obtain⟨dO,O⟩:=c6 O;refine go ?_;refine aY (u:=.iM cS iA) rfl (L2 rfl MG (MF rfl) (Oc cS jX.h (bB HZ.h) N8 qL jI)) (aY (u:=.vl 0 0 0 iA.length) (V':=⟨[(0,.bv cS iA 9 1 0)],1⟩) rfl (pR rfl rfl rfl rfl (rf cS iA jX.h jX.h HZ.h rfl (ND cS N8) dO)) ?_);obtain⟨kD,O⟩:=c6 O;refine go ?_;refine c5 ?_;refine c5 ?_;obtain⟨gQ,tT,O⟩:=aI O;obtain⟨uQ,tD⟩:=Ee cS .i64 tT;obtain⟨pK,O⟩:=c6 O;refine go ?_;refine aY (u:=.iM cS gQ) rfl (L2 rfl (MF rfl) MG (Oc cS jX.h (bB HZ.h) N8 uQ tD)) ?_;refine c5 ?_;refine go ?_;obtain rfl:=sI O;exact rT (us:=[.vl 0 2 0 (((iA++[p2])++gQ).length)]) (u:=.iM cS ((iA++[p2])++gQ)) (dT rfl (eD)) (fR 0 1);refine go ?_;rcases gB gC with⟨h8,gC⟩|⟨h8,gC⟩;obtain⟨x9,gD,gC⟩:=aI gC;obtain rfl:=sI gC;refine gI gD ?_;refine RS.w (u:=.bool (lN x9 p2)) rfl (F9 rfl rfl rfl rfl) ?_;refine go ?_;exact mS;exact gy gC;intro m1 z6 O;unfold Iq at O;obtain⟨Q3,sP,O⟩:=aI O;refine gn ?_;refine nE [(0,.iM cS p1),(1,.str p2),(5,.nils),(6,.i6 z6),(18,.bool Q3)] ⟨[],0⟩ ?_ ?_;refine gG O ?_ ?_<;>intro tS O;exact wx O;exact wx O;refine go ?_;rcases gB sP with⟨IQ,sP⟩|⟨IQ,sP⟩;obtain⟨ML,EG,sP⟩:=aI sP;obtain rfl:=sI sP;refine gI EG ?_;refine RS.w (u:=.bool (kC ML p2)) rfl (F9 rfl rfl rfl rfl) ?_;refine go ?_;exact mS;exact gy sP
def mu  (l7:X (X PI)):Y ((X (X PI))):=
 some l7
def ZA(p1:X bG)(n:Nat):Nat->(X (X PI))->Int->Y ((X (X PI)))
 |0,_,_=>none|m1+1,l5,z6=>cond (decide (z6<(p1.length:Int))) (a8 (aB p1 z6) fun x9=>a8 (NR n l5 x9.Name) fun qB=>(ZA p1 n m1) qB (IntKind.i64.wrap (z6+1))) (mu l5)
def Qo(n:Nat)(p1:X bG):Y ((X (X PI))):=
 ZA p1 n n [] 0
theorem qic(n:Nat)(p1:X bG)(r:(X (X PI)))(O:Qo n p1=some r):cY prog 91 [.isl false (p1.map bL)] (.isl false (r.map cS)):=by unfold Qo at O;refine lD 19 Dn ?_;refine gr ?_;refine gr ?_;refine gr ?_;refine dF (tm':=fr 19 [(0,.iM bL p1),(3,.iM cS []),(4,.i6 0)]) (Gh.trans (Gh.sub (l':=[(0,.iM bL p1),(3,.nils),(4,.i6 0)]) ⟨rfl,rfl,rfl,trivial⟩) (Gh.wkS (l':=[(0,.iM bL p1),(3,.iM cS []),(4,.i6 0)]) (.cons (.refl _) (.cons (.nil false) (.cons (.refl _) .nil))))) NZ ?_;refine D3 (ZA p1 n) (fun l5 z6=>[(0,.iM bL p1),(3,.iM cS l5),(4,.i6 z6)]) (fun _ _=>⟨[],0⟩) (pW mu (fun l7=>[(3,.iM cS l7)]) (fun _=>⟨[],0⟩)) O (tW ?_) ?_;intro l7 O;unfold mu at O;exact gx O;intro m1 l5 z6 O;unfold ZA at O;refine gG O ?_ ?_<;>intro h8 O;obtain⟨x9,gD,qB,gC,O⟩:=bO O;refine gI gD ?_;refine aK rfl (pC (Ih n l5 x9.Name qB gC) _) rV ?_;exact wx O;exact wx O
def ub  (pB:X (X PI)):Y ((X (X PI))):=
 some pB
def SH(n:Nat)(c7:X (X PI)):Nat->(X (X PI))->Int->Y ((X (X PI)))
 |0,_,_=>none|m2+1,lA,eU=>cond (decide (eU<(c7.length:Int))) (a8 (aB c7 eU) fun BV=>a8 (NR n lA BV) fun qS=>(SH n c7 m2) qS (IntKind.i64.wrap (eU+1))) (ub lA)
def Rz(xY:Int)(XN:Int->(X (X PI))->Y ((X (X PI))))(sK:X (X PI)):Y ((X (X PI))):=
 XN (IntKind.i64.wrap (xY+1)) sK
def mz(dW:Int)(cB:Int->(X (X PI))->Y ((X (X PI))))(AX:X (X PI)):Y ((X (X PI))):=
 cB (IntKind.i64.wrap (dW+1)) AX
def OC(p1:X bG)(n:Nat)(dW:Int)(cB:Int->(X (X PI))->Y ((X (X PI)))):Nat->Int->(X (X PI))->Y ((X (X PI)))
 |0,_,_=>none|m3+1,xY,rD=>
  cond (decide (xY<(p1.length:Int))) (a8 (a8 (aB p1 xY) fun x39=>
   a8 (aB rD dW) fun sR=>
   a8 (FG n x39.Supers sR) fun fe=>cond fe (a8 (aB p1 xY) fun QH=>
    a8 (FG n rD QH.Name) fun R4=>some (!R4)) (some false)) fun b50=>cond b50 (a8 (aB p1 xY) fun W2=>
    aF ((rD.length+1)*16<=140737488355328/\rD.length+1<=140737488355328) (
    Rz xY (OC p1 n dW cB m3) (rD++[W2.Name]))) (Rz xY (OC p1 n dW cB m3) rD)) (mz dW cB rD)
def uc(n:Nat)(c7:X (X PI)):Y ((X (X PI))):=
 SH n c7 n [] 0
def LD(p1:X bG)(n:Nat):Nat->Int->(X (X PI))->Y ((X (X PI)))
 |0,_,_=>none|m1+1,dW,dB=>cond (decide (dW<(dB.length:Int))) (OC p1 n dW (LD p1 n m1) n 0 dB) (uc n dB)
def Qq(n:Nat)(p1:X bG)(p2:X PI):Y ((X (X PI))):=
 a8 (HA n p1 p2) fun r3=>cond (decide (r3<0)) (some []) (LD p1 n n 0 ([p2]))
theorem qp6(n:Nat)(p1:X bG)(p2:X PI)(r:(X (X PI)))(O:Qq n p1 p2=some r):cY prog 125 [.isl false (p1.map bL),.str p2] (.isl false (r.map cS)):=by unfold Qq at O;refine eM 69 V4 ?_;obtain⟨r3,h4,O⟩:=aI O;refine go ?_;refine aK rfl (pC (Ip n p1 p2 r3 h4) _) rR ?_;refine gF O ?_ ?_<;>intro h5 O;refine go ?_;obtain rfl:=sI O;exact rT (us:=[.nils]) (u:=.isl false []) (dT rfl (eD)) wR;refine go ?_;refine RS.step (u:=.vl 0 0 0 ([p2].length)) (V':=⟨[(0,.bv cS ([p2]) 9 1 0)],1⟩) rfl (fN.bslv (cs:=(List.map cS [p2]).flatten) tb_ok rfl jX.h HZ.h rfl rfl rfl rfl rfl rfl rfl rfl) rfl rfl ?_;refine go ?_;refine nM (a3:=0) (fun m dW dB _=>LD p1 n m dW dB) (fun dW dB jJ=>[(0,.iM bL p1),(5,.vl 0 jJ 0 dB.length),(6,.i6 dW)]) (fun _ dB jJ=>⟨mL dB jJ,1⟩) (lE (fun c7 _=>uc n c7) (fun c7 gT=>[(5,.vl 0 gT 0 c7.length)]) (fun c7 gT=>⟨mL c7 gT,1⟩)) O (nD ?_) ?_;intro c7 gT O;unfold uc at O;refine gr ?_;refine gr ?_;refine dF (tm':=fr 69 [(5,.vl 0 gT 0 c7.length),(8,.iM cS []),(9,.i6 0)]) (Gh.trans (Gh.sub (l':=[(5,.vl 0 gT 0 c7.length),(8,.nils),(9,.i6 0)]) ⟨rfl,rfl,rfl,trivial⟩) (Gh.wkS (l':=[(5,.vl 0 gT 0 c7.length),(8,.iM cS []),(9,.i6 0)]) (.cons (.refl _) (.cons (.nil false) (.cons (.refl _) .nil))))) NZ ?_;refine D3 (SH n c7) (fun lA eU=>[(5,.vl 0 gT 0 c7.length),(8,.iM cS lA),(9,.i6 eU)]) (fun _ _=>⟨mL c7 gT,1⟩) (pW ub (fun pB=>[(8,.iM cS pB)]) (fun _=>⟨mL c7 gT,1⟩)) O (tW ?_) ?_;intro pB O;unfold ub at O;exact gx O;intro m2 lA eU O;unfold SH at O;refine gG O ?_ ?_<;>intro uQ O;obtain⟨BV,pK,qS,o3,O⟩:=bO O;refine go ?_;refine aY rfl (dZ rfl rfl (kA cS jX.h (bB HZ.h) qq3 N8 (vo rfl) pK)) ?_;refine aY rfl (sZ cS (fun x=>.str x) KH.h rfl (fun _=>rfl) rfl rfl pK) (aK rfl (pC (Ih n lA BV qS o3) _) rV ?_);exact wx O;exact wx O;intro m1 dW dB jJ O;unfold LD at O;refine gG O ?_ ?_<;>intro EG O;refine go ?_;refine nM (a3:=jJ) (fun m xY rD _=>OC p1 n dW (LD p1 n m1) m xY rD) (fun xY rD XD=>[(0,.iM bL p1),(5,.vl 0 XD 0 rD.length),(6,.i6 dW),(7,.i6 xY)]) (fun _ rD XD=>⟨mL rD XD,1⟩) (lE (fun AX _=>mz dW (LD p1 n m1) AX) (fun AX zp=>[(0,.iM bL p1),(5,.vl 0 zp 0 AX.length),(6,.i6 dW)]) (fun AX zp=>⟨mL AX zp,1⟩)) O (nD ?_) ?_;intro AX zp O;unfold mz at O;exact wx O;intro m3 xY rD XD O;unfold OC at O;refine gG O ?_ ?_<;>intro lB O;obtain⟨b50,vS,O⟩:=aI O;refine gn ?_;refine nE [(0,.iM bL p1),(5,.vl 0 XD 0 rD.length),(6,.i6 dW),(7,.i6 xY),(47,.bool b50)] ⟨mL rD XD,1⟩ ?_ ?_;refine gn ?_;refine M8 r (fun sK _=>Rz xY (OC p1 n dW (LD p1 n m1) m3) sK) (fun sK zl=>[(0,.iM bL p1),(5,.vl 0 zl 0 sK.length),(6,.i6 dW),(7,.i6 xY)]) (fun sK zl=>⟨mL sK zl,1⟩) ?_ ?_;intro sK zl O;unfold Rz at O;exact wx O;refine cF O ?_ ?_<;>intro Dg O;obtain⟨W2,U4,O⟩:=aI O;obtain⟨h57,O⟩:=c6 O;refine gI U4 ?_;refine c5 ?_;refine c5 ?_;exact wx O;exact wx O;obtain⟨x39,xM,vS⟩:=aI vS;obtain⟨sR,vT,vS⟩:=aI vS;obtain⟨fe,kQ,vS⟩:=aI vS;refine dE [] ?_;refine gJ xM ?_;refine aV rfl (dZ rfl rfl (kA cS jX.h (bB HZ.h) qq3 N8 (vo rfl) vT)) ?_;refine aV rfl (sZ cS (fun x=>.str x) KH.h rfl (fun _=>rfl) rfl rfl vT) (dL rfl (pC (O5 n x39.Supers sR fe kQ)) mQ ?_);refine gd ?_;rcases gB vS with⟨sO,vS⟩|⟨sO,vS⟩;obtain⟨QH,bn,vS⟩:=aI vS;obtain⟨R4,h49,vS⟩:=aI vS;obtain rfl:=sI vS;refine gJ bn ?_;refine RD.call (u:=.bool R4) (args:=[.vl 0 XD 0 rD.length,.str QH.Name]) (er rfl rfl rfl sO) (yO rfl rfl mQ rfl rfl rfl) (vw (O5 n rD QH.Name R4 h49) (sC 0 1)) rfl rfl ?_;refine gd ?_;refine bD ⟨by kernel_rfl,trivial,?_⟩;refine go ?_;exact mS;obtain rfl:=sI vS;refine gd ?_;refine bD ⟨by kernel_rfl,trivial,?_⟩;refine go ?_;exact mS;exact wx O;exact wx O
def Sl(p1:X Int)(z5:Int):Y ((X Int)):=
 a8 (w8 p1 0 z5) fun l6=>
 aF (l6.length*8<=140737488355328/\l6.length<=140737488355328) (some l6)
def SL(p1:X Int):Nat->Int->Y ((X Int))
 |0,_=>none|m1+1,z4=>a8 (cond (decide (z4>0)) (a8 (aB p1 (IntKind.i64.wrap (z4-1))) fun qA=>some (qA==0)) (some false)) fun D2=>cond D2 ((SL p1 m1) (IntKind.i64.wrap (z4-1))) (Sl p1 z4)
def L9(n:Nat)(p1:X Int):Y ((X Int)):=
 SL p1 n (p1.length:Int)
theorem ui(n:Nat)(p1:X Int)(r:(X Int))(O:L9 n p1=some r):cY prog 119 [.isl false (p1.map (cI .u64))] (.isl false (r.map (cI .u64))):=by unfold L9 at O;refine lD 23 xS ?_;refine go ?_;refine oH (SL p1) (fun z4=>[(0,.iM (cI .u64) p1),(3,.i6 z4)]) (fun _=>⟨[],0⟩) (pW (Sl p1) (fun z5=>[(0,.iM (cI .u64) p1),(3,.i6 z5)]) (fun _=>⟨[],0⟩)) O (tW ?_) ?_;intro z5 O;unfold Sl at O;obtain⟨l6,h7,O⟩:=aI O;obtain⟨h8,h9⟩:=xd (cI .u64) .i64 h7;obtain⟨gD,O⟩:=c6 O;refine go ?_;refine aY (u:=.sl 0 0 0 0) (V':=⟨[(0,.row [] 213)],1⟩) rfl (yK fU.h lP.h rfl rfl rfl rfl rfl rfl rfl) ?_;refine go ?_;refine aY (u:=.iM (cI .u64) l6) rfl (L2 rfl MG (MF rfl) (Oc (cI .u64) fU.h (bB lP.h) (mB .u64) h8 h9)) (aY (u:=.vl 1 0 0 l6.length) (V':=⟨[(1,.bv (cI .u64) l6 213 1 0),(0,.row [] 213)],2⟩) rfl (pR rfl rfl rfl rfl (YE (cI .u64) l6 fU.h fU.h lP.h rfl rfl rfl (ND (cI .u64) (mB .u64)) gD)) ?_);refine go ?_;obtain rfl:=sI O;exact rT (us:=[.vl 1 0 0 l6.length]) (u:=.iM (cI .u64) l6) (dT rfl (eD)) (fR 1 1);intro m1 z4 O;unfold SL at O;obtain⟨D2,lU,O⟩:=aI O;refine gn ?_;refine nE [(0,.iM (cI .u64) p1),(3,.i6 z4),(15,.bool D2)] ⟨[],0⟩ ?_ ?_;refine gG O ?_ ?_<;>intro qL O;exact wx O;exact wx O;refine go ?_;rcases gB lU with⟨jS,lU⟩|⟨jS,lU⟩;obtain⟨qA,eB,lU⟩:=aI lU;obtain rfl:=sI lU;refine gI eB ?_;exact mS;exact gy lU
def vn(n:Nat)(l8:X Int):Y ((X Int)×Int):=
 aF ((64:Int).toNat=l8.length) (
 a8 (L9 n l8) fun nP=>some (nP,0))
def YT(p1:X Int)(n:Nat):Nat->Int->(X Int)->Y ((X Int)×Int)
 |0,_,_=>none|m1+1,z6,l7=>
  cond (decide (z6<(p1.length:Int))) (a8 (a8 (aB p1 z6) fun QJ=>cond (decide (QJ<0)) (some true) (a8 (aB p1 z6) fun lV=>some (decide (lV>4095)))) fun JK=>cond JK (some ([],2)) (a8 (aB p1 z6) fun AA=>
    a8 (aB p1 z6) fun Lu=>
    a8 (i8 l7 0 ((64:Int).toNat) (IntKind.i64.wrap (Lu.tdiv 64))) fun y3=>
    a8 (aB p1 z6) fun uV=>
    aF (¬ (IntKind.u64.wrap (uV.tmod 64))<0) (
    a8 (i8 l7 0 ((64:Int).toNat) (IntKind.i64.wrap (AA.tdiv 64))) fun pZ=>(YT p1 n m1) (IntKind.i64.wrap (z6+1)) (l7.set (IntKind.i64.wrap (AA.tdiv 64)).toNat (Te .u64 y3 (IntKind.u64.wrap (1*(2^(min (IntKind.u64.wrap (uV.tmod 64)).toNat IntKind.u64.bits))))))))) (vn n l7)
def Pb(n:Nat)(p1:X Int):Y ((X Int)×Int):=
 aF (0<=(64:Int)/\8*(64:Int).toNat<=281474976710656/\(64:Int)<=281474976710656) (
 YT p1 n n 0 (List.replicate (64:Int).toNat 0))
theorem qxy(n:Nat)(p1:X Int)(r:(X Int)×Int)(O:Pb n p1=some r):cY prog 127 [.isl false (p1.map (cI .i64))] (.tup [.isl false (r.1.map (cI .u64)),.int .i64 r.2]):=by unfold Pb at O;refine lD 50 V3 ?_;obtain⟨h2,O⟩:=c6 O;refine go ?_;refine aY (u:=.sl 0 0 ((64:Int).toNat) ((64:Int).toNat)) (V':=⟨[(0,.row (List.map (cI .u64) (List.replicate (64:Int).toNat 0)).flatten 213)],1⟩) rfl (Oe (cI .u64) 0 rfl rfl fU.h lP.h rfl rfl rfl rfl h2) ?_;refine go ?_;refine D3 (YT p1 n) (fun z6 _=>[(0,.iM (cI .i64) p1),(4,.sl 0 0 ((64:Int).toNat) ((64:Int).toNat)),(5,.i6 z6)]) (fun _ l7=>⟨[(0,.row (l7.map (cI .u64)).flatten 213)],1⟩) (pW (vn n) (fun _=>[(4,.sl 0 0 ((64:Int).toNat) ((64:Int).toNat))]) (fun l8=>⟨[(0,.row (l8.map (cI .u64)).flatten 213)],1⟩)) O (tW ?_) ?_;intro l8 O;unfold vn at O;obtain⟨h9,O⟩:=c6 O;refine gn ?_;refine dF (tm':=fr 50 [(4,.iM (cI .u64) l8)]) (V':=⟨[],1⟩) (Gh.trans (Gh.sub (l':=[(4,.sl 0 0 ((64:Int).toNat) ((64:Int).toNat))]) ⟨rfl,trivial⟩) (Gh.fzS (l':=[(4,.iM (cI .u64) l8)]) (h':=[]) 0 (.row (l8.map (cI .u64)).flatten 213) 1 rfl qq4 (by simp only[fzS,lZ,vG,tA,DL,KZ,RN,NE,Y9,YA,YB,RX,H5,Y6,NA,RM,RB,GV,Gi (mB .u64) h9]) (by simp only[fzH,fzB,ug,Nat.beq,zC,zD,lZ,vG,tA,DL,KZ,RN,NE,Y9,YA,YB,RX,H5,Y6,NA,RM,RB,GV,Gi (mB .u64) h9]))) NZ ?_;obtain⟨nP,jS,O⟩:=aI O;refine go ?_;refine aK rfl (pC (ui n l8 nP jS) _) xS ?_;refine go ?_;obtain rfl:=sI O;exact y5 rfl rfl rfl rfl rfl;intro m1 z6 l7 O;unfold YT at O;refine gG O ?_ ?_<;>intro gC O;obtain⟨JK,kD,O⟩:=aI O;refine gn ?_;refine nE [(0,.iM (cI .i64) p1),(4,.sl 0 0 ((64:Int).toNat) ((64:Int).toNat)),(5,.i6 z6),(24,.bool JK)] ⟨[(0,.row (l7.map (cI .u64)).flatten 213)],1⟩ ?_ ?_;refine gF O ?_ ?_<;>intro tE O;refine go ?_;obtain rfl:=sI O;exact rT (us:=[.nils,.i6 2]) (u:=.tup [.isl false [],.i6 2]) (dT rfl (dT rfl (eD))) wR;obtain⟨AA,uQ,Lu,IQ,y3,xO,uV,tS,O⟩:=qZ O;obtain⟨oF,O⟩:=c6 O;obtain⟨pZ,nL,O⟩:=aI O;refine go ?_;refine dE [] ?_;refine gJ uQ ?_;refine aV rfl (yJ rfl rfl (wm _ qq3) rfl) ?_;refine gJ IQ ?_;refine aV rfl (yJ rfl rfl (wm _ qq3) rfl) ?_;refine aV rfl (dZ rfl rfl (sX fU.h (bB lP.h) rfl xO)) (aV (u:=.int .u64 y3) rfl (C3 (cI .u64) (fun x=>.int .u64 x) Mz.h rfl (fun _=>rfl) rfl rfl xO) ?_);refine gJ tS ?_;refine aV rfl (yJ rfl rfl (z7r _ qq3) rfl) ?_;refine aV (u:=.int .u64 (IntKind.u64.wrap (uV.tmod 64))) rfl (z0q rfl rfl (by simp only[XX,sD.h,QR.h]<;>rfl) rfl) ?_;refine aV rfl (yJ rfl rfl (Ai _ oF) rfl) (aV rfl (yJ rfl rfl (Tx _ _ _) rfl) (aV rfl (dZ rfl rfl (sX fU.h (bB lP.h) rfl nL)) (Fk (u:=.junk) (V':=⟨[(0,.row (List.map (cI .u64) (l7.set (IntKind.i64.wrap (AA.tdiv 64)).toNat (Te .u64 y3 (IntKind.u64.wrap (1*(2^(min (IntKind.u64.wrap (uV.tmod 64)).toNat IntKind.u64.bits))))))).flatten 213)],1⟩) rfl (XT (cI .u64) (bB lP.h) (mB .u64) rfl rfl rfl rfl rfl rfl nL rfl) rfl ?_)));refine bD ⟨by kernel_rfl,trivial,?_⟩;exact wx O;obtain⟨QJ,i5,kD⟩:=aI kD;refine gI i5 ?_;rcases gB kD with⟨lU,kD⟩|⟨lU,kD⟩;exact gy kD;obtain⟨lV,jI,kD⟩:=aI kD;obtain rfl:=sI kD;refine gI jI ?_;exact mS;exact wx O
def Ri(jC:Int)(cB:Int->(X Int)->Y ((X Int)))(kZ:X Int):Y ((X Int)):=
 cB (IntKind.i64.wrap (jC+1)) kZ
def yu(n:Nat)(iA:X Int):Y ((X Int)):=
 a8 (Pb n iA) fun XR=>some XR.1
def O4(p2:X (X PI))(n:Nat)(r4:(X (X PI))):Nat->Int->(X Int)->Y ((X Int))
 |0,_,_=>none|m1+1,jC,fQ=>
  cond (decide (jC<(p2.length:Int))) (a8 (aB p2 jC) fun MM=>
   a8 (FG n r4 MM) fun GN=>cond GN (aF ((fQ.length+1)*8<=140737488355328/\fQ.length+1<=140737488355328) (
    Ri jC (O4 p2 n r4 m1) (fQ++[jC]))) (Ri jC (O4 p2 n r4 m1) fQ)) (yu n fQ)
def Pz(n:Nat)(p1:X bG)(p2:X (X PI))(p3:X PI):Y ((X Int)):=
 a8 (Qq n p1 p3) fun r4=>
 O4 p2 n r4 n 0 ([]:X Int)
theorem qrn(n:Nat)(p1:X bG)(p2:X (X PI))(p3:X PI)(r:(X Int))(O:Pz n p1 p2 p3=some r):cY prog 92 [.isl false (p1.map bL),.isl false (p2.map cS),.str p3] (.isl false (r.map (cI .u64))):=by unfold Pz at O;refine xU 37 Xz ?_;obtain⟨r4,h5,O⟩:=aI O;refine go ?_;refine aK rfl (pC (qp6 n p1 p3 r4 h5) _) V4 ?_;refine gr ?_;refine gr ?_;refine gV 8 3 1 1 ?_;refine nM (a3:=0) (fun m jC fQ _=>O4 p2 n r4 m jC fQ) (fun jC fQ mU=>[(1,.iM cS p2),(7,.iM cS r4),(8,.vl 0 mU 0 fQ.length),(9,.i6 jC)]) (fun _ fQ mU=>⟨DP fQ mU,1⟩) (lE (fun iA _=>yu n iA) (fun iA MW=>[(8,.vl 0 MW 0 iA.length)]) (fun iA MW=>⟨DP iA MW,1⟩)) O (nD ?_) ?_;intro iA MW O;unfold yu at O;refine gn ?_;refine dF (tm':=fr 37 [(8,.iM (cI .i64) iA)]) (V':=⟨[],1⟩) (Gh.trans (Gh.sub (l':=[(8,.vl 0 MW 0 iA.length)]) ⟨rfl,trivial⟩) (JU 0 1)) NZ ?_;obtain⟨XR,jI,O⟩:=aI O;refine go ?_;refine aK rfl (pC (qxy n iA XR jI) _) V3 ?_;exact gx O;intro m1 jC fQ mU O;unfold O4 at O;refine gG O ?_ ?_<;>intro dO O;obtain⟨MM,tE,GN,uQ,O⟩:=bO O;refine gI tE ?_;refine aK rfl (pC (O5 n r4 MM GN uQ) _) mQ ?_;refine gn ?_;refine M8 r (fun kZ _=>Ri jC (O4 p2 n r4 m1) kZ) (fun kZ t25=>[(1,.iM cS p2),(7,.iM cS r4),(8,.vl 0 t25 0 kZ.length),(9,.i6 jC)]) (fun kZ t25=>⟨DP kZ t25,1⟩) ?_ ?_;intro kZ t25 O;unfold Ri at O;exact wx O;refine cF O ?_ ?_<;>intro tD O;obtain⟨o3,O⟩:=c6 O;refine go ?_;refine c5 ?_;refine c5 ?_;exact wx O;exact wx O;exact wx O
def S8(n:Nat)(p1:X Int)(p2:Int):Y (Int):=
 cond (decide (p2<(p1.length:Int))) (a8 (aB p1 p2) fun x4=>some x4) (some 0)
theorem qju(n:Nat)(p1:X Int)(p2:Int)(r:Int)(O:S8 n p1 p2=some r):cY prog 156 [.isl false (p1.map (cI .u64)),.int .i64 p2] (.int .u64 r):=by unfold S8 at O;refine eM 13 J0 ?_;refine gF O ?_ ?_<;>intro h3 O;obtain⟨x4,h5,O⟩:=aI O;refine go ?_;refine c8 h5 ?_;exact gx O;exact gx O
def NX(n:Nat)(dB:X Int):Y ((X Int)):=
 a8 (L9 n dB) fun mI=>some mI
def Ir(p1:X Int)(p2:X Int)(n:Nat):Nat->Int->(X Int)->Y ((X Int))
 |0,_,_=>none|m1+1,z8,l9=>
  cond (decide (z8<(p1.length:Int))) (a8 (aB p1 z8) fun lV=>
   a8 (S8 n p2 z8) fun jZ=>
   aF ((l9.length+1)*8<=140737488355328/\l9.length+1<=140737488355328) ((Ir p1 p2 n m1) (IntKind.i64.wrap (z8+1)) (l9++[(K4 .u64 lV jZ)]))) (NX n l9)
def H7(n:Nat)(p1:X Int)(p2:X Int):Y ((X Int)):=
 Ir p1 p2 n n 0 ([]:X Int)
theorem l?(n:Nat)(p1:X Int)(p2:X Int)(r:(X Int))(O:H7 n p1 p2=some r):cY prog 118 [.isl false (p1.map (cI .u64)),.isl false (p2.map (cI .u64))] (.isl false (r.map (cI .u64))):=by unfold H7 at O;refine eM 26 CZ ?_;refine gr ?_;refine gr ?_;refine gr ?_;refine gV 5 213 1 1 ?_;refine nM (a3:=0) (fun m z8 l9 _=>Ir p1 p2 n m z8 l9) (fun z8 l9 eQ=>[(0,.iM (cI .u64) p1),(1,.iM (cI .u64) p2),(5,.vl 0 eQ 0 l9.length),(6,.i6 z8)]) (fun _ l9 eQ=>⟨[(0,.bv (cI .u64) l9 213 1 eQ)],1⟩) (lE (fun dB _=>NX n dB) (fun dB jJ=>[(5,.vl 0 jJ 0 dB.length)]) (fun dB jJ=>⟨[(0,.bv (cI .u64) dB 213 1 jJ)],1⟩)) O (nD ?_) ?_;intro dB jJ O;unfold NX at O;refine gn ?_;refine dF (tm':=fr 26 [(5,.iM (cI .u64) dB)]) (V':=⟨[],1⟩) (Gh.trans (Gh.sub (l':=[(5,.vl 0 jJ 0 dB.length)]) ⟨rfl,trivial⟩) (JU 0 1)) NZ ?_;obtain⟨mI,i5,O⟩:=aI O;refine go ?_;refine aK rfl (pC (ui n dB mI i5) _) xS ?_;exact gx O;intro m1 z8 l9 eQ O;unfold Ir at O;refine gG O ?_ ?_<;>intro lU O;obtain⟨lV,jI,jZ,kD,O⟩:=bO O;obtain⟨tE,O⟩:=c6 O;refine go ?_;refine dE [(0,9)] ?_;refine gJ jI ?_;refine dL rfl (pC (qju n p2 z8 jZ kD)) J0 (aV rfl (yJ rfl rfl (ak _ _ _) rfl) ?_);refine eN ?_;refine eN ?_;refine gd ?_;refine bD ⟨by kernel_rfl,⟨oD rfl,trivial⟩,?_⟩;exact wx O;exact wx O
def C?: Y (DC):=
 some true
def yz(p1:X Int)(p2:X Int):Nat->Int->Y (DC)
 |0,_=>none|m1+1,z7=>cond (decide (z7<(p1.length:Int))) (a8 (aB p1 z7) fun x9=>a8 (aB p2 z7) fun mT=>cond (x9 != mT) (some false) ((yz p1 p2 m1) (IntKind.i64.wrap (z7+1)))) (C?)
def NS(n:Nat)(p1:X Int)(p2:X Int):Y (DC):=
 cond ((p1.length:Int) != (p2.length:Int)) (some false) (yz p1 p2 n 0)
theorem w?(n:Nat)(p1:X Int)(p2:X Int)(r:DC)(O:NS n p1 p2=some r):cY prog 120 [.isl false (p1.map (cI .u64)),.isl false (p2.map (cI .u64))] (.bool r):=by unfold NS at O;refine eM 26 CY ?_;refine gF O ?_ ?_<;>intro h3 O;exact gx O;refine go ?_;refine oH (yz p1 p2) (fun z7=>[(0,.iM (cI .u64) p1),(1,.iM (cI .u64) p2),(5,.i6 z7)]) (fun _=>⟨[],0⟩) (pL C? [] ⟨[],0⟩) O (rY ?_) ?_;intro O;unfold C? at O;exact gx O;intro m1 z7 O;unfold yz at O;refine gG O ?_ ?_<;>intro h8 O;obtain⟨x9,gD,mT,gC,O⟩:=bO O;refine go ?_;refine dE [] ?_;refine gJ gD ?_;refine dX gC ?_;refine gd ?_;refine bD ⟨by kernel_rfl,trivial,?_⟩;refine gF O ?_ ?_<;>intro eB O;exact gx O;exact wx O;exact wx O
def vj: Y (DC):=
 some false
def YS(p1:X (X Int))(p2:X Int)(n:Nat):Nat->Int->Y (DC)
 |0,_=>none|m1+1,z6=>cond (decide (z6<(p1.length:Int))) (a8 (aB p1 z6) fun x8=>a8 (NS n x8 p2) fun nP=>cond nP (some true) ((YS p1 p2 n m1) (IntKind.i64.wrap (z6+1)))) (vj)
def jg(n:Nat)(p1:X (X Int))(p2:X Int):Y (DC):=
 YS p1 p2 n n 0
theorem qxz(n:Nat)(p1:X (X Int))(p2:X Int)(r:DC)(O:jg n p1 p2=some r):cY prog 128 [.isl false (List.map (cL (cI .u64)) p1),.isl false (p2.map (cI .u64))] (.bool r):=by unfold jg at O;refine eM 18 v03 ?_;refine go ?_;refine oH (YS p1 p2 n) (fun z6=>[(0,.iM (cL (cI .u64)) p1),(1,.iM (cI .u64) p2),(5,.i6 z6)]) (fun _=>⟨[],0⟩) (pL vj [] ⟨[],0⟩) O (rY ?_) ?_;intro O;unfold vj at O;exact gx O;intro m1 z6 O;unfold YS at O;refine gG O ?_ ?_<;>intro h7 O;obtain⟨x8,h9,nP,jS,O⟩:=bO O;refine gI h9 ?_;refine aK rfl (pC (w? n x8 p2 nP jS) _) CY ?_;refine gF O ?_ ?_<;>intro gC O;exact gx O;exact wx O;exact wx O
def Sh(A9:Int)(i7:Int->(X (X Int))->Y ((X (X Int))))(T7:X (X Int)):Y ((X (X Int))):=
 i7 (IntKind.i64.wrap (A9+1)) T7
def Se(z6:Int)(cB:Int->(X (X Int))->Y ((X (X Int))))(uE:X (X Int)):Y ((X (X Int))):=
 cB (IntKind.i64.wrap (z6+1)) uE
def SJ(n:Nat)(z6:Int)(cB:Int->(X (X Int))->Y ((X (X Int)))):Nat->Int->(X (X Int))->Y ((X (X Int)))
 |0,_,_=>none|m2+1,A9,gQ=>
  a8 (cond (decide (A9<z6)) (some (decide ((gQ.length:Int)<=256))) (some false)) fun b25=>cond b25 (a8 (aB gQ z6) fun xZ=>
   a8 (aB gQ A9) fun W3=>
   a8 (H7 n xZ W3) fun GM=>
   a8 (cond (decide ((GM.length:Int)>0)) (a8 (jg n gQ GM) fun jK=>some (!jK)) (some false)) fun Fb=>cond Fb (aF ((gQ.length+1)*24<=140737488355328/\gQ.length+1<=140737488355328) (
    Sh A9 (SJ n z6 cB m2) (gQ++[GM]))) (Sh A9 (SJ n z6 cB m2) gQ)) (Se z6 cB gQ)
def Sf  (l9:X (X Int)):Y ((X (X Int))):=
 some l9
def LH(n:Nat):Nat->Int->(X (X Int))->Y ((X (X Int)))
 |0,_,_=>none|m1+1,z6,l7=>a8 (cond (decide (z6<(l7.length:Int))) (some (decide ((l7.length:Int)<=256))) (some false)) fun JL=>cond JL (SJ n z6 (LH n m1) n 0 l7) (Sf l7)
def Qw(n:Nat)(p1:X (X Int)):Y ((X (X Int))):=
 aF (p1.length*24<=140737488355328/\p1.length<=140737488355328) (
 LH n n 0 p1)
theorem qmw(n:Nat)(p1:X (X Int))(r:(X (X Int)))(O:Qw n p1=some r):cY prog 93 [.isl false (List.map (cL (cI .u64)) p1)] (.isl false (List.map (cL (cI .u64)) r)):=by unfold Qw at O;refine lD 54 Xy ?_;obtain⟨h2,O⟩:=c6 O;refine go ?_;refine aY (u:=.sl 0 0 0 0) (V':=⟨[(0,.row [] 141)],1⟩) rfl (yK qN.h pD.h rfl rfl rfl rfl rfl rfl rfl) ?_;refine go ?_;refine aY (u:=.vl 1 0 0 p1.length) (V':=⟨[(1,.bv (cL (cI .u64)) p1 141 1 0),(0,.row [] 141)],2⟩) rfl (pR rfl rfl rfl rfl (YE (cL (cI .u64)) p1 qN.h qN.h pD.h rfl rfl rfl (ND (cL (cI .u64)) (RL (cI .u64))) h2)) ?_;refine go ?_;refine nM (a3:=0) (fun m z6 l7 _=>LH n m z6 l7) (fun z6 l7 t8=>[(3,.vl 1 t8 0 l7.length),(4,.i6 z6)]) (fun _ l7 t8=>⟨S3 l7 t8,2⟩) (lE (fun l9 _=>Sf l9) (fun l9 eQ=>[(3,.vl 1 eQ 0 l9.length)]) (fun l9 eQ=>⟨S3 l9 eQ,2⟩)) O (nD ?_) ?_;intro l9 eQ O;unfold Sf at O;refine go ?_;obtain rfl:=sI O;exact rT (us:=[.vl 1 eQ 0 l9.length]) (u:=.iM (cL (cI .u64)) l9) (dT rfl (eD)) (fR 1 1);intro m1 z6 l7 t8 O;unfold LH at O;obtain⟨JL,eB,O⟩:=aI O;refine gn ?_;refine nE [(3,.vl 1 t8 0 l7.length),(4,.i6 z6),(18,.bool JL)] ⟨S3 l7 t8,2⟩ ?_ ?_;refine gG O ?_ ?_<;>intro i5 O;refine go ?_;refine nM (a3:=t8) (fun m A9 gQ _=>SJ n z6 (LH n m1) m A9 gQ) (fun A9 gQ QV=>[(3,.vl 1 QV 0 gQ.length),(4,.i6 z6),(5,.i6 A9)]) (fun _ gQ QV=>⟨S3 gQ QV,2⟩) (lE (fun uE _=>Se z6 (LH n m1) uE) (fun uE zq=>[(3,.vl 1 zq 0 uE.length),(4,.i6 z6)]) (fun uE zq=>⟨S3 uE zq,2⟩)) O (nD ?_) ?_;intro uE zq O;unfold Se at O;exact wx O;intro m2 A9 gQ QV O;unfold SJ at O;obtain⟨b25,o3,O⟩:=aI O;refine gn ?_;refine nE [(3,.vl 1 QV 0 gQ.length),(4,.i6 z6),(5,.i6 A9),(28,.bool b25)] ⟨S3 gQ QV,2⟩ ?_ ?_;refine gG O ?_ ?_<;>intro EG O;obtain⟨xZ,sP,W3,BN,GM,vV,O⟩:=oO O;refine go ?_;refine dE [] ?_;refine gd ?_;refine aV rfl (dZ rfl rfl (kA (cL (cI .u64)) qN.h (bB pD.h) qq3 (RL (cI .u64)) (vo rfl) sP)) ?_;refine aV rfl (sZ (cL (cI .u64)) (fun x=>.iM (cI .u64) x) fU.h rfl (fun _=>rfl) rfl rfl sP) ?_;refine gd ?_;refine aV rfl (dZ rfl rfl (kA (cL (cI .u64)) qN.h (bB pD.h) qq3 (RL (cI .u64)) (vo rfl) BN)) ?_;refine aV rfl (sZ (cL (cI .u64)) (fun x=>.iM (cI .u64) x) fU.h rfl (fun _=>rfl) rfl rfl BN) (dL rfl (pC (l? n xZ W3 GM vV)) CZ ?_);refine gd ?_;refine bD ⟨by kernel_rfl,trivial,?_⟩;obtain⟨Fb,lB,O⟩:=aI O;refine gn ?_;refine nE [(3,.vl 1 QV 0 gQ.length),(4,.i6 z6),(5,.i6 A9),(6,.iM (cI .u64) GM),(48,.bool Fb)] ⟨S3 gQ QV,2⟩ ?_ ?_;refine gn ?_;refine M8 r (fun T7 _=>Sh A9 (SJ n z6 (LH n m1) m2) T7) (fun T7 zo=>[(3,.vl 1 zo 0 T7.length),(4,.i6 z6),(5,.i6 A9)]) (fun T7 zo=>⟨S3 T7 zo,2⟩) ?_ ?_;intro T7 zo O;unfold Sh at O;exact wx O;refine cF O ?_ ?_<;>intro A5 O;obtain⟨vT,O⟩:=c6 O;refine go ?_;refine c5 ?_;refine c5 ?_;exact wx O;exact wx O;refine go ?_;rcases gB lB with⟨nL,lB⟩|⟨nL,lB⟩;obtain⟨jK,xN,lB⟩:=aI lB;obtain rfl:=sI lB;refine go ?_;refine aK rfl (vw (qxz n gQ GM jK xN) (sC 1 1)) v03 ?_;refine go ?_;exact mS;exact gy lB;exact wx O;refine go ?_;rcases gB o3 with⟨pK,o3⟩|⟨pK,o3⟩;exact gy o3;exact gy o3;exact wx O;refine go ?_;rcases gB eB with⟨jS,eB⟩|⟨jS,eB⟩;exact gy eB;exact gy eB
def Ji(n:Nat)(dB:X Int):Y ((X Int)):=
 a8 (L9 n dB) fun mI=>some mI
def Sb(p1:X Int)(p2:X Int)(n:Nat):Nat->Int->(X Int)->Y ((X Int))
 |0,_,_=>none|m1+1,z8,l9=>
  cond (decide (z8<(p1.length:Int))) (a8 (aB p1 z8) fun lV=>
   a8 (S8 n p2 z8) fun jZ=>
   aF ((l9.length+1)*8<=140737488355328/\l9.length+1<=140737488355328) ((Sb p1 p2 n m1) (IntKind.i64.wrap (z8+1)) (l9++[(YF .u64 lV jZ)]))) (Ji n l9)
def Ii(n:Nat)(p1:X Int)(p2:X Int):Y ((X Int)):=
 Sb p1 p2 n n 0 ([]:X Int)
theorem qp4(n:Nat)(p1:X Int)(p2:X Int)(r:(X Int))(O:Ii n p1 p2=some r):cY prog 163 [.isl false (p1.map (cI .u64)),.isl false (p2.map (cI .u64))] (.isl false (r.map (cI .u64))):=by unfold Ii at O;refine eM 26 UI ?_;refine gr ?_;refine gr ?_;refine gr ?_;refine gV 5 213 1 1 ?_;refine nM (a3:=0) (fun m z8 l9 _=>Sb p1 p2 n m z8 l9) (fun z8 l9 eQ=>[(0,.iM (cI .u64) p1),(1,.iM (cI .u64) p2),(5,.vl 0 eQ 0 l9.length),(6,.i6 z8)]) (fun _ l9 eQ=>⟨[(0,.bv (cI .u64) l9 213 1 eQ)],1⟩) (lE (fun dB _=>Ji n dB) (fun dB jJ=>[(5,.vl 0 jJ 0 dB.length)]) (fun dB jJ=>⟨[(0,.bv (cI .u64) dB 213 1 jJ)],1⟩)) O (nD ?_) ?_;intro dB jJ O;unfold Ji at O;refine gn ?_;refine dF (tm':=fr 26 [(5,.iM (cI .u64) dB)]) (V':=⟨[],1⟩) (Gh.trans (Gh.sub (l':=[(5,.vl 0 jJ 0 dB.length)]) ⟨rfl,trivial⟩) (JU 0 1)) NZ ?_;obtain⟨mI,i5,O⟩:=aI O;refine go ?_;refine aK rfl (pC (ui n dB mI i5) _) xS ?_;exact gx O;intro m1 z8 l9 eQ O;unfold Sb at O;refine gG O ?_ ?_<;>intro lU O;obtain⟨lV,jI,jZ,kD,O⟩:=bO O;obtain⟨tE,O⟩:=c6 O;refine go ?_;refine dE [(0,9)] ?_;refine gJ jI ?_;refine dL rfl (pC (qju n p2 z8 jZ kD)) J0 (aV rfl (yJ rfl rfl (qr0 _ _ _) rfl) ?_);refine eN ?_;refine eN ?_;refine gd ?_;refine bD ⟨by kernel_rfl,⟨oD rfl,trivial⟩,?_⟩;exact wx O;exact wx O
def YV(n:Nat)(p1:X Int)(p2:X Int):Y (DC):=
 a8 (Ii n p1 p2) fun r3=>some ((r3.length:Int)==0)
theorem F?(n:Nat)(p1:X Int)(p2:X Int)(r:DC)(O:YV n p1 p2=some r):cY prog 133 [.isl false (p1.map (cI .u64)),.isl false (p2.map (cI .u64))] (.bool r):=by unfold YV at O;refine eM 10 CX ?_;obtain⟨r3,h4,O⟩:=aI O;refine go ?_;refine aK rfl (pC (qp4 n p1 p2 r3 h4) _) UI ?_;exact gx O
def Qs(n:Nat)(p1:X Int)(p2:X Int):Y (DC):=
 a8 (a8 (YV n p1 p2) fun r3=>cond r3 (a8 (YV n p2 p1) fun r6=>some r6) (some false)) fun b8=>some b8
theorem qp3(n:Nat)(p1:X Int)(p2:X Int)(r:DC)(O:Qs n p1 p2=some r):cY prog 129 [.isl false (p1.map (cI .u64)),.isl false (p2.map (cI .u64))] (.bool r):=by unfold Qs at O;refine eM 13 V0 ?_;obtain⟨b8,h9,O⟩:=aI O;refine gr ?_;refine nE [(4,.bool b8)] ⟨[],0⟩ ?_ ?_;exact gx O;obtain⟨r3,h4,h9⟩:=aI h9;refine go ?_;refine aK rfl (pC (F? n p1 p2 r3 h4) _) CX ?_;refine go ?_;rcases gB h9 with⟨h5,h9⟩|⟨h5,h9⟩;obtain⟨r6,h7,h9⟩:=aI h9;obtain rfl:=sI h9;refine go ?_;refine aK rfl (pC (F? n p2 p1 r6 h7) _) CX ?_;refine go ?_;exact mS;exact gy h9
def Hx(n:Nat)(p1:X Int)(p2:Int):Y (DC):=
 a8 (cond (decide (p2<0)) (some true) (some (decide ((IntKind.i64.wrap (p2.tdiv 64))>=(p1.length:Int))))) fun b5=>cond b5 (some false) (a8 (aB p1 (IntKind.i64.wrap (p2.tdiv 64))) fun x9=>aF (¬ (IntKind.u64.wrap (p2.tmod 64))<0) (some ((K4 .u64 (x9.fdiv (2^(min (IntKind.u64.wrap (p2.tmod 64)).toNat IntKind.u64.bits))) 1)==1)))
theorem qly(n:Nat)(p1:X Int)(p2:Int)(r:DC)(O:Hx n p1 p2=some r):cY prog 130 [.isl false (p1.map (cI .u64)),.int .i64 p2] (.bool r):=by unfold Hx at O;refine eM 25 J6 ?_;obtain⟨b5,h6,O⟩:=aI O;refine gr ?_;refine nE [(0,.iM (cI .u64) p1),(1,.i6 p2),(13,.bool b5)] ⟨[],0⟩ ?_ ?_;refine gF O ?_ ?_<;>intro h7 O;exact gx O;obtain⟨x9,gD,O⟩:=aI O;obtain⟨gC,O⟩:=c6 O;refine go ?_;refine aY rfl (yJ rfl rfl (wm _ qq3) rfl) ?_;refine c8 gD ?_;refine go ?_;refine aY rfl (yJ rfl rfl (z7r _ qq3) rfl) ?_;refine aY (u:=.int .u64 (IntKind.u64.wrap (p2.tmod 64))) rfl (z0q rfl rfl (by simp only[XX,sD.h,QR.h]<;>rfl) rfl) ?_;refine aY rfl (yJ rfl rfl (Ah _ gC) rfl) (aY rfl (yJ rfl rfl (ak _ _ _) rfl) ?_);exact gx O;refine go ?_;rcases gB h6 with⟨h3,h6⟩|⟨h3,h6⟩;exact gy h6;obtain rfl:=sI h6;refine go ?_;refine RS.w rfl (yJ rfl rfl (wm _ qq3) rfl) ?_;refine go ?_;exact mS
def Sr(z8:Int)(cB:(X (X PI))->Int->Y ((X (X PI))))(fL:X (X PI)):Y ((X (X PI))):=
 cB fL (IntKind.i64.wrap (z8+1))
def sr  (l9:X (X PI)):Y ((X (X PI))):=
 some l9
def OH(p1:X bG)(p2:X (X PI))(n:Nat):Nat->(X (X PI))->Int->Y ((X (X PI)))
 |0,_,_=>none|m1+1,l7,z8=>
  cond (decide (z8<(p2.length:Int))) (a8 (aB p2 z8) fun mT=>
   a8 (HA n p1 mT) fun mI=>cond (decide (mI>=0)) (a8 (aB p2 z8) fun MN=>
    a8 (NR n l7 MN) fun GO=>
    Sr z8 (OH p1 p2 n m1) GO) (Sr z8 (OH p1 p2 n m1) l7)) (sr l7)
def mq(n:Nat)(p1:X bG)(p2:X (X PI)):Y ((X (X PI))):=
 OH p1 p2 n n [] 0
theorem qk4(n:Nat)(p1:X bG)(p2:X (X PI))(r:(X (X PI)))(O:mq n p1 p2=some r):cY prog 160 [.isl false (p1.map bL),.isl false (p2.map cS)] (.isl false (r.map cS)):=by unfold mq at O;refine eM 27 UL ?_;refine gr ?_;refine gr ?_;refine gr ?_;refine dF (tm':=fr 27 [(0,.iM bL p1),(1,.iM cS p2),(5,.iM cS []),(6,.i6 0)]) (Gh.trans (Gh.sub (l':=[(0,.iM bL p1),(1,.iM cS p2),(5,.nils),(6,.i6 0)]) ⟨rfl,rfl,rfl,rfl,trivial⟩) (Gh.wkS (l':=[(0,.iM bL p1),(1,.iM cS p2),(5,.iM cS []),(6,.i6 0)]) (.cons (.refl _) (.cons (.refl _) (.cons (.nil false) (.cons (.refl _) .nil)))))) NZ ?_;refine D3 (OH p1 p2 n) (fun l7 z8=>[(0,.iM bL p1),(1,.iM cS p2),(5,.iM cS l7),(6,.i6 z8)]) (fun _ _=>⟨[],0⟩) (pW sr (fun l9=>[(5,.iM cS l9)]) (fun _=>⟨[],0⟩)) O (tW ?_) ?_;intro l9 O;unfold sr at O;exact gx O;intro m1 l7 z8 O;unfold OH at O;refine gG O ?_ ?_<;>intro gD O;obtain⟨mT,gC,mI,i5,O⟩:=bO O;refine gI gC ?_;refine aK rfl (pC (Ip n p1 mT mI i5) _) rR ?_;refine gn ?_;refine Zx r (Sr z8 (OH p1 p2 n m1)) (fun fL=>[(0,.iM bL p1),(1,.iM cS p2),(5,.iM cS fL),(6,.i6 z8)]) (fun _=>⟨[],0⟩) ?_ ?_;intro fL O;unfold Sr at O;exact wx O;refine cF O ?_ ?_<;>intro lU O;obtain⟨MN,dO,GO,tE,O⟩:=bO O;refine gI dO ?_;refine aK rfl (pC (Ih n l7 MN GO tE) _) rV ?_;exact wx O;exact wx O;exact wx O
def uf  (pB:X (X PI)):Y ((X (X PI))):=
 some pB
def SI(n:Nat)(c7:X (X PI)):Nat->(X (X PI))->Int->Y ((X (X PI)))
 |0,_,_=>none|m2+1,lA,eU=>cond (decide (eU<(c7.length:Int))) (a8 (aB c7 eU) fun BV=>a8 (NR n lA BV) fun qS=>(SI n c7 m2) qS (IntKind.i64.wrap (eU+1))) (uf lA)
def Sa(BQ:Int)(XN:Int->(X (X PI))->Y ((X (X PI))))(T6:X (X PI)):Y ((X (X PI))):=
 XN (IntKind.i64.wrap (BQ+1)) T6
def ue(dW:Int)(cB:Int->(X (X PI))->Y ((X (X PI))))(qH:X (X PI)):Y ((X (X PI))):=
 cB (IntKind.i64.wrap (dW+1)) qH
def OD(n:Nat)(dW:Int)(cB:Int->(X (X PI))->Y ((X (X PI))))(sS:bG):Nat->Int->(X (X PI))->Y ((X (X PI)))
 |0,_,_=>none|m3+1,BQ,C9=>
  cond (decide (BQ<(sS.Supers.length:Int))) (a8 (aB sS.Supers BQ) fun QH=>
   a8 (FG n C9 QH) fun R4=>cond (!R4) (a8 (aB sS.Supers BQ) fun x53=>
    aF ((C9.length+1)*16<=140737488355328/\C9.length+1<=140737488355328) (
    Sa BQ (OD n dW cB sS m3) (C9++[x53]))) (Sa BQ (OD n dW cB sS m3) C9)) (ue dW cB C9)
def uh(n:Nat)(c7:X (X PI)):Y ((X (X PI))):=
 SI n c7 n [] 0
def LF(p1:X bG)(n:Nat):Nat->Int->(X (X PI))->Y ((X (X PI)))
 |0,_,_=>none|m1+1,dW,dB=>
  cond (decide (dW<(dB.length:Int))) (a8 (aB dB dW) fun xZ=>
   a8 (HA n p1 xZ) fun XQ=>
   a8 (aB p1 XQ) fun sS=>
   OD n dW (LF p1 n m1) sS n 0 dB) (uh n dB)
def Qr(n:Nat)(p1:X bG)(p2:X PI):Y ((X (X PI))):=
 a8 (HA n p1 p2) fun r3=>cond (decide (r3<0)) (some []) (LF p1 n n 0 ([p2]))
theorem qp5(n:Nat)(p1:X bG)(p2:X PI)(r:(X (X PI)))(O:Qr n p1 p2=some r):cY prog 161 [.isl false (p1.map bL),.str p2] (.isl false (r.map cS)):=by unfold Qr at O;refine eM 66 UK ?_;obtain⟨r3,h4,O⟩:=aI O;refine go ?_;refine aK rfl (pC (Ip n p1 p2 r3 h4) _) rR ?_;refine gF O ?_ ?_<;>intro h5 O;refine go ?_;obtain rfl:=sI O;exact rT (us:=[.nils]) (u:=.isl false []) (dT rfl (eD)) wR;refine go ?_;refine RS.step (u:=.vl 0 0 0 ([p2].length)) (V':=⟨[(0,.bv cS ([p2]) 9 1 0)],1⟩) rfl (fN.bslv (cs:=(List.map cS [p2]).flatten) tb_ok rfl jX.h HZ.h rfl rfl rfl rfl rfl rfl rfl rfl) rfl rfl ?_;refine go ?_;refine nM (a3:=0) (fun m dW dB _=>LF p1 n m dW dB) (fun dW dB jJ=>[(0,.iM bL p1),(5,.vl 0 jJ 0 dB.length),(6,.i6 dW)]) (fun _ dB jJ=>⟨mL dB jJ,1⟩) (lE (fun c7 _=>uh n c7) (fun c7 gT=>[(5,.vl 0 gT 0 c7.length)]) (fun c7 gT=>⟨mL c7 gT,1⟩)) O (nD ?_) ?_;intro c7 gT O;unfold uh at O;refine gr ?_;refine gr ?_;refine dF (tm':=fr 66 [(5,.vl 0 gT 0 c7.length),(9,.iM cS []),(10,.i6 0)]) (Gh.trans (Gh.sub (l':=[(5,.vl 0 gT 0 c7.length),(9,.nils),(10,.i6 0)]) ⟨rfl,rfl,rfl,trivial⟩) (Gh.wkS (l':=[(5,.vl 0 gT 0 c7.length),(9,.iM cS []),(10,.i6 0)]) (.cons (.refl _) (.cons (.nil false) (.cons (.refl _) .nil))))) NZ ?_;refine D3 (SI n c7) (fun lA eU=>[(5,.vl 0 gT 0 c7.length),(9,.iM cS lA),(10,.i6 eU)]) (fun _ _=>⟨mL c7 gT,1⟩) (pW uf (fun pB=>[(9,.iM cS pB)]) (fun _=>⟨mL c7 gT,1⟩)) O (tW ?_) ?_;intro pB O;unfold uf at O;exact gx O;intro m2 lA eU O;unfold SI at O;refine gG O ?_ ?_<;>intro uQ O;obtain⟨BV,pK,qS,o3,O⟩:=bO O;refine go ?_;refine aY rfl (dZ rfl rfl (kA cS jX.h (bB HZ.h) qq3 N8 (vo rfl) pK)) ?_;refine aY rfl (sZ cS (fun x=>.str x) KH.h rfl (fun _=>rfl) rfl rfl pK) (aK rfl (pC (Ih n lA BV qS o3) _) rV ?_);exact wx O;exact wx O;intro m1 dW dB jJ O;unfold LF at O;refine gG O ?_ ?_<;>intro EG O;obtain⟨xZ,sP,XQ,BN,sS,vV,O⟩:=oO O;refine go ?_;refine aY rfl (dZ rfl rfl (kA cS jX.h (bB HZ.h) qq3 N8 (vo rfl) sP)) ?_;refine aY rfl (sZ cS (fun x=>.str x) KH.h rfl (fun _=>rfl) rfl rfl sP) (aK rfl (pC (Ip n p1 xZ XQ BN) _) rR ?_);refine c8 vV ?_;refine go ?_;refine nM (a3:=jJ) (fun m BQ C9 _=>OD n dW (LF p1 n m1) sS m BQ C9) (fun BQ C9 zn=>[(0,.iM bL p1),(5,.vl 0 zn 0 C9.length),(6,.i6 dW),(7,.iM cS sS.Supers),(8,.i6 BQ)]) (fun _ C9 zn=>⟨mL C9 zn,1⟩) (lE (fun qH _=>ue dW (LF p1 n m1) qH) (fun qH MT=>[(0,.iM bL p1),(5,.vl 0 MT 0 qH.length),(6,.i6 dW)]) (fun qH MT=>⟨mL qH MT,1⟩)) O (nD ?_) ?_;intro qH MT O;unfold ue at O;exact wx O;intro m3 BQ C9 zn O;unfold OD at O;refine gG O ?_ ?_<;>intro sO O;obtain⟨QH,bn,R4,h49,O⟩:=bO O;refine gI bn ?_;refine aK rfl (vw (O5 n C9 QH R4 h49) (sC 0 1)) mQ ?_;refine gn ?_;refine M8 r (fun T6 _=>Sa BQ (OD n dW (LF p1 n m1) sS m3) T6) (fun T6 zm=>[(0,.iM bL p1),(5,.vl 0 zm 0 T6.length),(6,.i6 dW),(7,.iM cS sS.Supers),(8,.i6 BQ)]) (fun T6 zm=>⟨mL T6 zm,1⟩) ?_ ?_;intro T6 zm O;unfold Sa at O;exact wx O;refine cF O ?_ ?_<;>intro Xl O;obtain⟨x53,h54,O⟩:=aI O;obtain⟨bm,O⟩:=c6 O;refine gI h54 ?_;refine c5 ?_;refine c5 ?_;exact wx O;exact wx O;exact wx O;exact wx O
def So(dW:Int)(cB:Int->(X (X PI))->Y ((X (X PI))))(qI:X (X PI)):Y ((X (X PI))):=
 cB (IntKind.i64.wrap (dW+1)) qI
def si(r3:(X (X PI)))(dW:Int)(dB:X (X PI))(cB:Int->(X (X PI))->Y ((X (X PI))))(bz:DC):Y ((X (X PI))):=
 cond bz (a8 (aB r3 dW) fun oX=>
  aF ((dB.length+1)*16<=140737488355328/\dB.length+1<=140737488355328) (
  So dW cB (dB++[oX]))) (So dW cB dB)
def ZH(n:Nat)(r3:(X (X PI)))(dW:Int)(dB:X (X PI))(cB:Int->(X (X PI))->Y ((X (X PI))))(jZ:(X (X PI))):Nat->DC->Int->Y ((X (X PI)))
 |0,_,_=>none|m2+1,Q3,pM=>cond (decide (pM<(r3.length:Int))) (a8 (cond Q3 (cond (pM==dW) (some true) (a8 (aB r3 pM) fun ap=>a8 (FG n jZ ap) fun ff=>some (!ff))) (some false)) fun b44=>(ZH n r3 dW dB cB jZ m2) b44 (IntKind.i64.wrap (pM+1))) (si r3 dW dB cB Q3)
def sj  (c7:X (X PI)):Y ((X (X PI))):=
 some c7
def HE(p1:X bG)(n:Nat)(r3:(X (X PI))):Nat->Int->(X (X PI))->Y ((X (X PI)))
 |0,_,_=>none|m1+1,dW,dB=>
  cond (decide (dW<(r3.length:Int))) (a8 (aB r3 dW) fun lV=>
   a8 (Qr n p1 lV) fun jZ=>
   ZH n r3 dW dB (HE p1 n r3 m1) jZ n true 0) (sj dB)
def Iz(n:Nat)(p1:X bG)(p2:X (X PI)):Y ((X (X PI))):=
 a8 (mq n p1 p2) fun r3=>
 HE p1 n r3 n 0 ([]:X (X PI))
theorem qfc(n:Nat)(p1:X bG)(p2:X (X PI))(r:(X (X PI)))(O:Iz n p1 p2=some r):cY prog 131 [.isl false (p1.map bL),.isl false (p2.map cS)] (.isl false (r.map cS)):=by
 unfold Iz at O;refine eM 56 J5 ?_;obtain⟨r3,h4,O⟩:=aI O;refine go ?_;refine aK rfl (pC (qk4 n p1 p2 r3 h4) _) UL ?_;refine gr ?_;refine gV 5 9 1 1 ?_;refine nM (a3:=0) (fun m dW dB _=>HE p1 n r3 m dW dB) (fun dW dB jJ=>[(0,.iM bL p1),(5,.vl 0 jJ 0 dB.length),(6,.iM cS r3),(7,.i6 dW)]) (fun _ dB jJ=>⟨mL dB jJ,1⟩) (lE (fun c7 _=>sj c7) (fun c7 gT=>[(5,.vl 0 gT 0 c7.length)]) (fun c7 gT=>⟨mL c7 gT,1⟩)) O (nD ?_) ?_;intro c7 gT O;unfold sj at O;refine go ?_;obtain rfl:=sI O;exact rT (us:=[.vl 0 gT 0 c7.length]) (u:=.iM cS c7) (dT rfl (eD)) (fR 0 1);intro m1 dW dB jJ O;unfold HE at O;refine gG O ?_ ?_<;>intro lU O;obtain⟨lV,jI,jZ,kD,O⟩:=bO O;refine gI jI ?_;refine aK rfl (pC (qp5 n p1 lV jZ kD) _) UK ?_;refine go ?_;refine D3 (ZH n r3 dW dB (HE p1 n r3 m1) jZ) (fun Q3 pM=>[(0,.iM bL p1),(5,.vl 0 jJ 0 dB.length),(6,.iM cS r3),(7,.i6 dW),(8,.iM cS jZ),(9,.bool Q3),(10,.i6 pM)]) (fun _ _=>⟨mL dB jJ,1⟩) (pW (si r3 dW dB (HE p1 n r3 m1)) (fun bz=>[(0,.iM bL p1),(5,.vl 0 jJ 0 dB.length),(6,.iM cS r3),(7,.i6 dW),(9,.bool bz)]) (fun _=>⟨mL dB jJ,1⟩)) O (tW ?_) ?_;intro bz O;unfold si at O;refine gr ?_;refine M8 r (fun qI _=>So dW (HE p1 n r3 m1) qI) (fun qI EV=>[(0,.iM bL p1),(5,.vl 0 EV 0 qI.length),(6,.iM cS r3),(7,.i6 dW)]) (fun qI EV=>⟨mL qI EV,1⟩) ?_ ?_;intro qI EV O;unfold So at O;exact wx O;refine cF O ?_ ?_<;>intro BN O;obtain⟨oX,rQ,O⟩:=aI O;obtain⟨xN,O⟩:=c6 O;refine gI rQ ?_;refine c5 ?_;refine c5 ?_;exact wx O;exact wx O;intro m2 Q3 pM O;unfold ZH at O;refine gG O ?_ ?_<;>intro FW O;obtain⟨b44,sO,O⟩:=aI O;refine gn ?_;refine nE [(0,.iM bL p1),(5,.vl 0 jJ 0 dB.length),(6,.iM cS r3),(7,.i6 dW),(8,.iM cS jZ),(9,.bool b44),(10,.i6 pM)] ⟨mL dB jJ,1⟩ ?_ ?_;exact wx O;refine go ?_;rcases gB sO with⟨lB,sO⟩|⟨lB,sO⟩;refine go ?_;rcases gB sO with⟨A5,sO⟩|⟨A5,sO⟩;exact gy sO;obtain⟨ap,Lc,sO⟩:=aI sO;obtain⟨ff,h43,sO⟩:=aI sO;obtain rfl:=sI sO;refine gI Lc ?_;refine aK rfl (pC (O5 n jZ ap ff h43) _) mQ ?_;refine go ?_;exact mS;obtain rfl:=sI sO;refine go ?_
 repeat refine RS.no (GR rfl rfl rfl) rfl rfl ?_
 refine go ?_;exact mS;exact wx O;exact wx O
def Rh(iJ:(X (X PI)))(fA:Int)(i7:(X PI)->Int->Y ((X PI)))(Fv:X PI):Y ((X PI)):=
 a8 (aB iJ fA) fun xZ=>
 aF (Fv.length+xZ.length<=9223372036854775807) (
 i7 (Fv++xZ) (IntKind.i64.wrap (fA+1)))
def yr  (zt:X PI):Y ((X PI)):=
 some zt
def LA(iJ:(X (X PI))):Nat->(X PI)->Int->Y ((X PI))
 |0,_,_=>none|m2+1,DD,fA=>
  cond (decide (fA<(iJ.length:Int))) (cond (decide (fA>0)) (aF (DD.length+([38]).length<=9223372036854775807) (
    Rh iJ fA (LA iJ m2) (DD++[38]))) (Rh iJ fA (LA iJ m2) DD)) (yr DD)
def Rg(eJ:Int)(cB:Int->(X (X PI))->Y ((X PI)))(qH:X (X PI)):Y ((X PI)):=
 cB (IntKind.i64.wrap (eJ+1)) qH
def yt(p1:X bG)(n:Nat)(dA:X (X PI)):Y ((X PI)):=
 a8 (Iz n p1 dA) fun iJ=>
 LA iJ n [] 0
def O3(p1:X bG)(p2:X (X PI))(p3:X (X Int))(p4:X Int)(n:Nat):Nat->Int->(X (X PI))->Y ((X PI))
 |0,_,_=>none|m1+1,eJ,c7=>
  cond (decide (eJ<(p2.length:Int))) (a8 (aB p3 eJ) fun pZ=>
   a8 (Qs n pZ p4) fun jK=>cond jK (a8 (aB p2 eJ) fun KC=>some KC) (a8 (Hx n p4 eJ) fun XP=>cond XP (a8 (aB p2 eJ) fun Fp=>
     aF ((c7.length+1)*16<=140737488355328/\c7.length+1<=140737488355328) (
     Rg eJ (O3 p1 p2 p3 p4 n m1) (c7++[Fp]))) (Rg eJ (O3 p1 p2 p3 p4 n m1) c7))) (yt p1 n c7)
def Py(n:Nat)(p1:X bG)(p2:X (X PI))(p3:X (X Int))(p4:X Int):Y ((X PI)):=
 O3 p1 p2 p3 p4 n n 0 ([]:X (X PI))
theorem qro(n:Nat)(p1:X bG)(p2:X (X PI))(p3:X (X Int))(p4:X Int)(r:(X PI))(O:Py n p1 p2 p3 p4=some r):cY prog 94 [.isl false (p1.map bL),.isl false (p2.map cS),.isl false (List.map (cL (cI .u64)) p3),.isl false (p4.map (cI .u64))] (.str r):=by unfold Py at O;refine Lg 59 Xx ?_;refine gr ?_;refine gr ?_;refine gr ?_;refine gV 9 9 1 1 ?_;refine nM (a3:=0) (fun m eJ c7 _=>O3 p1 p2 p3 p4 n m eJ c7) (fun eJ c7 gT=>[(0,.iM bL p1),(1,.iM cS p2),(2,.iM (cL (cI .u64)) p3),(3,.iM (cI .u64) p4),(9,.vl 0 gT 0 c7.length),(10,.i6 eJ)]) (fun _ c7 gT=>⟨mL c7 gT,1⟩) (lE (fun dA _=>yt p1 n dA) (fun dA fK=>[(0,.iM bL p1),(9,.vl 0 fK 0 dA.length)]) (fun dA fK=>⟨mL dA fK,1⟩)) O (nD ?_) ?_;intro dA fK O;unfold yt at O;refine gn ?_;refine dF (tm':=fr 59 [(0,.iM bL p1),(9,.iM cS dA)]) (V':=⟨[],1⟩) (Gh.trans (Gh.sub (l':=[(0,.iM bL p1),(9,.vl 0 fK 0 dA.length)]) ⟨rfl,rfl,trivial⟩) (JU 0 1)) NZ ?_;obtain⟨iJ,dO,O⟩:=aI O;refine go ?_;refine aK rfl (pC (qfc n p1 dA iJ dO) _) J5 ?_;refine go ?_;refine D3 (LA iJ) (fun DD fA=>[(9,.iM cS iJ),(11,.str DD),(12,.i6 fA)]) (fun _ _=>⟨[],1⟩) (pW yr (fun zt=>[(11,.str zt)]) (fun _=>⟨[],1⟩)) O (tW ?_) ?_;intro zt O;unfold yr at O;exact gx O;intro m2 DD fA O;unfold LA at O;refine gG O ?_ ?_<;>intro IQ O;refine gr ?_;refine Zx r (Rh iJ fA (LA iJ m2)) (fun Fv=>[(9,.iM cS iJ),(11,.str Fv),(12,.i6 fA)]) (fun _=>⟨[],1⟩) ?_ ?_;intro Fv O;unfold Rh at O;obtain⟨xZ,sP,O⟩:=aI O;obtain⟨tS,O⟩:=c6 O;refine gI sP ?_;refine aY (u:=.str (Fv++xZ)) rfl (F9 rfl rfl (z8j tS) rfl) ?_;exact wx O;refine cF O ?_ ?_<;>intro o3 O;obtain⟨BN,O⟩:=c6 O;refine go ?_;refine aY (u:=.str (DD++[38])) rfl (F9 rfl rfl (z8j BN) rfl) ?_;exact wx O;exact wx O;exact wx O;intro m1 eJ c7 gT O;unfold O3 at O;refine gG O ?_ ?_<;>intro oF O;obtain⟨pZ,nL,jK,xN,O⟩:=bO O;refine gI nL ?_;refine aK rfl (pC (qp3 n pZ p4 jK xN) _) V0 ?_;refine gF O ?_ ?_<;>intro FW O;obtain⟨KC,A5,O⟩:=aI O;refine go ?_;refine c8 A5 ?_;exact gx O;obtain⟨XP,Lc,O⟩:=aI O;refine go ?_;refine aK rfl (pC (qly n p4 eJ XP Lc) _) J6 ?_;refine gn ?_;refine M8 r (fun qH _=>Rg eJ (O3 p1 p2 p3 p4 n m1) qH) (fun qH MT=>[(0,.iM bL p1),(1,.iM cS p2),(2,.iM (cL (cI .u64)) p3),(3,.iM (cI .u64) p4),(9,.vl 0 MT 0 qH.length),(10,.i6 eJ)]) (fun qH MT=>⟨mL qH MT,1⟩) ?_ ?_;intro qH MT O;unfold Rg at O;exact wx O;refine cF O ?_ ?_<;>intro vT O;obtain⟨Fp,Lb,O⟩:=aI O;obtain⟨bn,O⟩:=c6 O;refine gI Lb ?_;refine c5 ?_;refine c5 ?_;exact wx O;exact wx O;exact wx O
def Rj(z6:Int)(cB:Int->(X Int)->Y ((X Int)))(dA:X Int):Y ((X Int)):=
 cB (IntKind.i64.wrap (z6+1)) dA
def ld  (l9:X Int):Y ((X Int)):=
 some l9
def O6(p1:X Int)(n:Nat):Nat->Int->(X Int)->Y ((X Int))
 |0,_,_=>none|m1+1,z6,l7=>
  cond (decide (z6<(IntKind.i64.wrap (64*(p1.length:Int))))) (a8 (Hx n p1 z6) fun fV=>cond fV (aF ((l7.length+1)*8<=140737488355328/\l7.length+1<=140737488355328) (
    Rj z6 (O6 p1 n m1) (l7++[z6]))) (Rj z6 (O6 p1 n m1) l7)) (ld l7)
def ku(n:Nat)(p1:X Int):Y ((X Int)):=
 O6 p1 n n 0 ([]:X Int)
theorem qrl(n:Nat)(p1:X Int)(r:(X Int))(O:ku n p1=some r):cY prog 162 [.isl false (p1.map (cI .u64))] (.isl false (r.map (cI .i64))):=by unfold ku at O;refine lD 20 UJ ?_;refine gr ?_;refine gr ?_;refine gr ?_;refine gV 3 3 1 1 ?_;refine nM (a3:=0) (fun m z6 l7 _=>O6 p1 n m z6 l7) (fun z6 l7 t8=>[(0,.iM (cI .u64) p1),(3,.vl 0 t8 0 l7.length),(4,.i6 z6)]) (fun _ l7 t8=>⟨DP l7 t8,1⟩) (lE (fun l9 _=>ld l9) (fun l9 eQ=>[(3,.vl 0 eQ 0 l9.length)]) (fun l9 eQ=>⟨DP l9 eQ,1⟩)) O (nD ?_) ?_;intro l9 eQ O;unfold ld at O;refine go ?_;obtain rfl:=sI O;exact rT (us:=[.vl 0 eQ 0 l9.length]) (u:=.iM (cI .i64) l9) (dT rfl (eD)) (fR 0 1);intro m1 z6 l7 t8 O;unfold O6 at O;refine gG O ?_ ?_<;>intro jS O;obtain⟨fV,eB,O⟩:=aI O;refine go ?_;refine aK rfl (pC (qly n p1 z6 fV eB) _) J6 ?_;refine gn ?_;refine M8 r (fun dA _=>Rj z6 (O6 p1 n m1) dA) (fun dA fK=>[(0,.iM (cI .u64) p1),(3,.vl 0 fK 0 dA.length),(4,.i6 z6)]) (fun dA fK=>⟨DP dA fK,1⟩) ?_ ?_;intro dA fK O;unfold Rj at O;exact wx O;refine cF O ?_ ?_<;>intro i5 O;obtain⟨jI,O⟩:=c6 O;refine go ?_;refine c5 ?_;refine c5 ?_;exact wx O;exact wx O;exact wx O
def Ij(n:Nat)(p1:X Int):Y (Int):=
 a8 (ku n p1) fun r2=>some (r2.length:Int)
theorem qia(n:Nat)(p1:X Int)(r:Int)(O:Ij n p1=some r):cY prog 132 [.isl false (p1.map (cI .u64))] (.int .i64 r):=by unfold Ij at O;refine lD 6 J4 ?_;obtain⟨r2,h3,O⟩:=aI O;refine go ?_;refine aK rfl (pC (qrl n p1 r2 h3) _) UJ ?_;exact gx O
def Qx(n:Nat)(p1:dN)(p2:dN):Y (DC):=
 a8 (Ij n p1.Code) fun r3=>
 a8 (Ij n p2.Code) fun r5=>
 a8 (cond (decide (r3>r5)) (some true) (cond (r3==r5) (some (kC p1.Name p2.Name)) (some false))) fun b9=>some b9
theorem qmv(n:Nat)(p1:dN)(p2:dN)(r:DC)(O:Qx n p1 p2=some r):cY prog 95 [.agg (fE p1),.agg (fE p2)] (.bool r):=by
 unfold Qx at O;refine eM 28 Xw ?_;obtain⟨r3,h4,O⟩:=aI O;refine go ?_;refine aK rfl (pC (qia n p1.Code r3 h4) _) J4 ?_;obtain⟨r5,h6,O⟩:=aI O;refine go ?_;refine aK rfl (pC (qia n p2.Code r5 h6) _) J4 ?_;obtain⟨b9,gD,O⟩:=aI O;refine gn ?_;refine nE [(4,.bool b9)] ⟨[(1,.row (fE p2) 143),(0,.row (fE p1) 143)],2⟩ ?_ ?_;exact gx O;refine go ?_;rcases gB gD with⟨h7,gD⟩|⟨h7,gD⟩;obtain rfl:=sI gD;refine go ?_
 repeat refine RS.no (GR rfl rfl rfl) rfl rfl ?_
 refine go ?_;exact mS;refine go ?_;rcases gB gD with⟨h8,gD⟩|⟨h8,gD⟩;obtain rfl:=sI gD;refine go ?_;refine RS.w (u:=.bool (kC p1.Name p2.Name)) rfl (F9 rfl rfl rfl rfl) ?_;refine go ?_;exact mS;exact gy gD
def Rw(dP:Int)(bU:X dN)(i7:Int->(X dN)->Y ((X dN)×Int))(jK:(X PI))(iW:X Int)(z50:Int):Y ((X dN)×Int):=
 aF ((0:Int)<=z50/\z50<=((bU.length:Nat):Int)) (
 aF (0+z50.toNat<=bU.length) (
 aF (((bU.drop 0).take z50.toNat).length*40<=140737488355328/\((bU.drop 0).take z50.toNat).length<=140737488355328) (
 aF ((((bU.drop 0).take z50.toNat).length+1)*40<=140737488355328/\((bU.drop 0).take z50.toNat).length+1<=140737488355328) (
 aF ((0:Int)<=z50/\z50<=((bU.length:Nat):Int)) (
 aF ((0+z50.toNat)+(bU.length-z50.toNat)<=bU.length) (
 aF (((((bU.drop 0).take z50.toNat)++[(dN.mk jK iW)]).length+((bU.drop (0+z50.toNat)).take (bU.length-z50.toNat)).length)*40<=140737488355328/\(((bU.drop 0).take z50.toNat)++[(dN.mk jK iW)]).length+((bU.drop (0+z50.toNat)).take (bU.length-z50.toNat)).length<=140737488355328) (
 i7 (IntKind.i64.wrap (dP+1)) ((((bU.drop 0).take z50.toNat)++[(dN.mk jK iW)])++((bU.drop (0+z50.toNat)).take (bU.length-z50.toNat))))))))))
def Jg(n:Nat)(dP:Int)(bU:X dN)(i7:Int->(X dN)->Y ((X dN)×Int))(jK:(X PI))(iW:X Int):Nat->Int->Y ((X dN)×Int)
 |0,_=>none|m3+1,QE=>a8 (cond (decide (QE>0)) (a8 (aB bU (IntKind.i64.wrap (QE-1))) fun G7=>a8 (Qx n (dN.mk jK iW) G7) fun dz=>some dz) (some false)) fun b63=>cond b63 ((Jg n dP bU i7 jK iW m3) (IntKind.i64.wrap (QE-1))) (Rw dP bU i7 jK iW QE)
def mh  (eI:X dN):Y ((X dN)×Int):=
 some (eI,0)
def OA(p1:X bG)(n:Nat)(r5:(X (X PI)))(dA:X (X Int))(iJ:(X (X Int))):Nat->Int->(X dN)->Y ((X dN)×Int)
 |0,_,_=>none|m2+1,dP,bU=>
  cond (decide (dP<(iJ.length:Int))) (a8 (aB iJ dP) fun pZ=>
   a8 (Py n p1 r5 dA pZ) fun jK=>
   a8 (aB iJ dP) fun iW=>
   Jg n dP bU (OA p1 n r5 dA iJ m2) jK iW n (bU.length:Int)) (mh bU)
def mj(p1:X bG)(n:Nat)(r5:(X (X PI)))(dA:X (X Int)):Y ((X dN)×Int):=
 a8 (Qw n dA) fun iJ=>cond (decide ((iJ.length:Int)>256)) (some ([],7)) (OA p1 n r5 dA iJ n 0 ([]:X dN))
def Z6(p1:X bG)(n:Nat)(r5:(X (X PI))):Nat->Int->(X (X Int))->Y ((X dN)×Int)
 |0,_,_=>none|m1+1,eJ,c7=>
  cond (decide (eJ<(r5.length:Int))) (a8 (aB r5 eJ) fun ao=>
   a8 (Pz n p1 r5 ao) fun dy=>
   aF ((c7.length+1)*24<=140737488355328/\c7.length+1<=140737488355328) ((Z6 p1 n r5 m1) (IntKind.i64.wrap (eJ+1)) (c7++[dy]))) (mj p1 n r5 c7)
def NV(n:Nat)(p1:X bG):Y ((X dN)×Int):=
 a8 (Qp n p1) fun r2=>cond (r2 != 0) (some ([],r2)) (a8 (Qo n p1) fun r5=>Z6 p1 n r5 n 0 ([]:X (X Int)))
theorem yx(n:Nat)(p1:X bG)(r:(X dN)×Int)(O:NV n p1=some r):cY prog 58 [.isl false (p1.map bL)] (.tup [.isl false (r.1.map fE),.int .i64 r.2]):=by unfold NV at O;refine lD 92 IS ?_;obtain⟨r2,h3,O⟩:=aI O;refine go ?_;refine aK rfl (pC (qp7 n p1 r2 h3) _) Ya ?_;refine gF O ?_ ?_<;>intro h4 O;refine go ?_;obtain rfl:=sI O;exact rT (us:=[.nils,.i6 r2]) (u:=.tup [.isl false [],.i6 r2]) (dT rfl (dT rfl (eD))) wR;obtain⟨r5,h6,O⟩:=aI O;refine go ?_;refine aK rfl (pC (qic n p1 r5 h6) _) Dn ?_;refine gr ?_;refine gr ?_;refine gV 6 141 1 1 ?_;refine nM (a3:=0) (fun m eJ c7 _=>Z6 p1 n r5 m eJ c7) (fun eJ c7 gT=>[(0,.iM bL p1),(5,.iM cS r5),(6,.vl 0 gT 0 c7.length),(7,.i6 eJ)]) (fun _ c7 gT=>⟨[(0,.bv (cL (cI .u64)) c7 141 1 gT)],1⟩) (lE (fun dA _=>mj p1 n r5 dA) (fun dA fK=>[(0,.iM bL p1),(5,.iM cS r5),(6,.vl 0 fK 0 dA.length)]) (fun dA fK=>⟨[(0,.bv (cL (cI .u64)) dA 141 1 fK)],1⟩)) O (nD ?_) ?_;intro dA fK O;unfold mj at O;refine gn ?_;refine dF (tm':=fr 92 [(0,.iM bL p1),(5,.iM cS r5),(6,.iM (cL (cI .u64)) dA)]) (V':=⟨[],1⟩) (Gh.trans (Gh.sub (l':=[(0,.iM bL p1),(5,.iM cS r5),(6,.vl 0 fK 0 dA.length)]) ⟨rfl,rfl,rfl,trivial⟩) (JU 0 1)) NZ ?_;obtain⟨iJ,dO,O⟩:=aI O;refine go ?_;refine aK rfl (pC (qmw n dA iJ dO) _) Xy ?_;refine gF O ?_ ?_<;>intro kD O;refine go ?_;obtain rfl:=sI O;exact rT (us:=[.nils,.i6 7]) (u:=.tup [.isl false [],.i6 7]) (dT rfl (dT rfl (eD))) wR;refine gr ?_;refine gr ?_;refine gV 9 143 2 2 ?_;refine nM (a3:=0) (fun m dP bU _=>OA p1 n r5 dA iJ m dP bU) (fun dP bU iX=>[(0,.iM bL p1),(5,.iM cS r5),(6,.iM (cL (cI .u64)) dA),(8,.iM (cL (cI .u64)) iJ),(9,.vl 1 iX 0 bU.length),(10,.i6 dP)]) (fun _ bU iX=>⟨[(1,.bv fE bU 143 2 iX)],2⟩) (lE (fun eI _=>mh eI) (fun eI MV=>[(9,.vl 1 MV 0 eI.length)]) (fun eI MV=>⟨[(1,.bv fE eI 143 2 MV)],2⟩)) O (nD ?_) ?_;intro eI MV O;unfold mh at O;refine go ?_;obtain rfl:=sI O;exact rT (us:=[.vl 1 MV 0 eI.length,.i6 0]) (u:=.tup [.iM fE eI,.i6 0]) (dT rfl (dT rfl (eD))) (fR 1 2);intro m2 dP bU iX O;unfold OA at O;refine gG O ?_ ?_<;>intro oF O;obtain⟨pZ,nL,jK,xN,iW,lB,O⟩:=oO O;refine go ?_;refine dE [(0,13),(1,13),(2,13),(3,13),(4,13),(5,13),(6,13),(8,13),(9,13),(10,13),(11,13),(12,13)] ?_;refine gJ nL ?_;refine dL rfl (pC (qro n p1 r5 dA pZ jK xN)) Xx ?_;refine gJ lB ?_;refine eN ?_;refine qM ?_;refine bD ⟨by kernel_rfl,⟨oD rfl,⟨oD rfl,⟨oD rfl,⟨oD rfl,⟨oD rfl,⟨dZ rfl rfl (Gr (cL (cI .u64)) qN.h (bB pD.h) (RL (cI .u64)) nL rfl),⟨Of fU.h rfl rfl rfl,⟨oD rfl,⟨oD rfl,⟨dZ rfl rfl (Gr (cL (cI .u64)) qN.h (bB pD.h) (RL (cI .u64)) lB rfl),⟨Of fU.h rfl rfl rfl,⟨aa Zq.h rfl rfl rfl,trivial⟩⟩⟩⟩⟩⟩⟩⟩⟩⟩⟩⟩,?_⟩;refine go ?_;refine oH (Jg n dP bU (OA p1 n r5 dA iJ m2) jK iW) (fun QE=>[(0,.iM bL p1),(5,.iM cS r5),(6,.iM (cL (cI .u64)) dA),(8,.iM (cL (cI .u64)) iJ),(9,.vl 1 iX 0 bU.length),(10,.i6 dP),(11,.ptr 2 0 0),(12,.i6 QE)]) (fun _=>⟨Ph (.str jK) iW bU iX,3⟩) (pW (Rw dP bU (OA p1 n r5 dA iJ m2) jK iW) (fun z50=>[(0,.iM bL p1),(5,.iM cS r5),(6,.iM (cL (cI .u64)) dA),(8,.iM (cL (cI .u64)) iJ),(9,.vl 1 iX 0 bU.length),(10,.i6 dP),(11,.ptr 2 0 0),(12,.i6 z50)]) (fun _=>⟨Ph (.str jK) iW bU iX,3⟩)) O (tW ?_) ?_;intro z50 O;unfold Rw at O;obtain⟨vS,O⟩:=c6 O;obtain⟨Dg,O⟩:=c6 O;obtain⟨h53,O⟩:=c6 O;refine go ?_;refine aY (u:=.vl 1 iX 0 z50.toNat) rfl (L2 rfl MG (MF rfl) (Ln fE qO.h (bB rG.h) SB (vo rfl) (Nat.le_of_eq (Nat.zero_add _)) (ii vS.1 vS.2))) (aY (u:=.vl 3 0 0 (((bU.drop 0).take z50.toNat).length)) (V':=⟨(3,.bv fE ((bU.drop 0).take z50.toNat) 143 2 0)::Ph (.str jK) iW bU iX,4⟩) rfl (pR rfl rfl rfl rfl (rf fE ((bU.drop 0).take z50.toNat) qO.h qO.h rG.h rfl (zy fE SB (vo rfl) Dg) h53)) ?_);obtain⟨h54,O⟩:=c6 O;refine go ?_;refine c5 ?_;refine c5 ?_;obtain⟨bm,O⟩:=c6 O;obtain⟨U4,O⟩:=c6 O;obtain⟨h57,O⟩:=c6 O;refine go ?_;refine aY (u:=.vl 1 iX (0+z50.toNat) (bU.length-z50.toNat)) rfl (L2 rfl (MF rfl) MG (Ln fE qO.h (bB rG.h) SB (vo rfl) (Nat.le_of_eq (Nat.zero_add _)) (ig bm.1 bm.2))) (aY (u:=.vl 3 2 0 (((((bU.drop 0).take z50.toNat)++[(dN.mk jK iW)])++((bU.drop (0+z50.toNat)).take (bU.length-z50.toNat))).length)) (V':=⟨(4,.row [.str jK,.iM (cI .u64) iW] 143)::(3,.bv fE ((((bU.drop 0).take z50.toNat)++[(dN.mk jK iW)])++((bU.drop (0+z50.toNat)).take (bU.length-z50.toNat))) 143 2 2)::Ph (.str jK) iW bU iX,5⟩) rfl (pR rfl rfl rfl rfl (DN fE ((bU.drop (0+z50.toNat)).take (bU.length-z50.toNat)) qO.h qO.h rG.h rfl SB rfl (zy fE SB (vo rfl) U4) h57)) ?_);refine go ?_;exact⟨m2,_,_,zN _,⟨(IntKind.i64.wrap (dP+1)),((((bU.drop 0).take z50.toNat)++[(dN.mk jK iW)])++((bU.drop (0+z50.toNat)).take (bU.length-z50.toNat))),2,O,rfl,rfl⟩,NZ,Gh.trans (Gh.sub (l':=[(0,.iM bL p1),(5,.iM cS r5),(6,.iM (cL (cI .u64)) dA),(8,.iM (cL (cI .u64)) iJ),(9,.vl 3 2 0 (((((bU.drop 0).take z50.toNat)++[(dN.mk jK iW)])++((bU.drop (0+z50.toNat)).take (bU.length-z50.toNat))).length)),(10,.i6 (IntKind.i64.wrap (dP+1)))]) ⟨rfl,rfl,rfl,rfl,rfl,rfl,trivial⟩) (Gh.trans (Gh.mv (l':=[(0,.iM bL p1),(5,.iM cS r5),(6,.iM (cL (cI .u64)) dA),(8,.iM (cL (cI .u64)) iJ),(9,.vl 1 2 0 (((((bU.drop 0).take z50.toNat)++[(dN.mk jK iW)])++((bU.drop (0+z50.toNat)).take (bU.length-z50.toNat))).length)),(10,.i6 (IntKind.i64.wrap (dP+1)))]) (h':=[(4,.row [.str jK,.iM (cI .u64) iW] 143),(1,.bv fE ((((bU.drop 0).take z50.toNat)++[(dN.mk jK iW)])++((bU.drop (0+z50.toNat)).take (bU.length-z50.toNat))) 143 2 2),(2,.row [.str jK,.iM (cI .u64) iW] 143)]) 1 3 NZ rfl rfl (by simp only[rS,rU,fB,RV,yT,Nat.beq,zC,zD]) rfl (by simp only[Zs,rB,Gm,fB,rU,RV,wb,yT,Nat.beq,zC,zD,and_self])) (MA (n1:=2) ⟨rfl,rfl,rfl,rfl,rfl,rfl,trivial⟩ rfl NZ qq4))⟩;intro m3 QE O;unfold Jg at O;obtain⟨b63,vR,O⟩:=aI O;refine gn ?_;refine nE [(0,.iM bL p1),(5,.iM cS r5),(6,.iM (cL (cI .u64)) dA),(8,.iM (cL (cI .u64)) iJ),(9,.vl 1 iX 0 bU.length),(10,.i6 dP),(11,.ptr 2 0 0),(12,.i6 QE),(73,.bool b63)] ⟨Ph (.str jK) iW bU iX,3⟩ ?_ ?_;refine gG O ?_ ?_<;>intro h65 O;exact wx O;exact wx O;refine dE [] ?_;refine gd ?_;rcases gB vR with⟨Kz,vR⟩|⟨Kz,vR⟩;obtain⟨G7,Xk,vR⟩:=aI vR;obtain⟨dz,Xj,vR⟩:=aI vR;obtain rfl:=sI vR;refine gd ?_;refine RD.w rfl (dZ rfl rfl (kA fE qO.h (bB rG.h) qq3 SB (vo rfl) Xk)) ?_;refine RD.w (u:=.agg (fE G7)) rfl (Ae fE QT.h rfl (bB rG.h) SB rfl rfl Xk rfl) (dL rfl (pC (qmv n (dN.mk jK iW) G7 dz Xj)) Xw ?_);refine gd ?_;refine bD ⟨by kernel_rfl,trivial,?_⟩;refine go ?_;exact mS;obtain rfl:=sI vR;refine gd ?_;refine bD ⟨by kernel_rfl,trivial,?_⟩;refine go ?_;exact mS;exact wx O;intro m1 eJ c7 gT O;unfold Z6 at O;refine gG O ?_ ?_<;>intro h66 O;obtain⟨ao,h68,dy,h70,O⟩:=bO O;obtain⟨h71,O⟩:=c6 O;refine gI h68 ?_;refine aK rfl (pC (qrn n p1 r5 ao dy h70) _) Xz ?_;refine c5 ?_;refine c5 ?_;exact wx O;exact wx O
def Z0(n:Nat)(p1:X PI):Y (DC):=
 a8 (Ik n p1 true) fun r2=>some r2
theorem qlx(n:Nat)(p1:X PI)(r:DC)(O:Z0 n p1=some r):cY prog 155 [.str p1] (.bool r):=by unfold Z0 at O;refine lD 5 UO ?_;obtain⟨r2,h3,O⟩:=aI O;refine go ?_;refine aK rfl (pC (qi9 n p1 true r2 h3) _) IY ?_;exact gx O
def sw(n:Nat)(r2:(X (X PI)))(x9:bG)(m9:Int)(i7:Int->Y (Int)): Y (Int):=
 a8 (aB x9.Feats m9) fun W3=>
 a8 (FG n r2 W3.Value) fun GM=>cond (!GM) (some 5) (i7 (IntKind.i64.wrap (m9+1)))
def Js(n:Nat)(r2:(X (X PI)))(x9:bG)(m9:Int)(i7:Int->Y (Int)):Nat->Int->Y (Int)
 |0,_=>none|m3+1,pM=>cond (decide (pM<m9)) (a8 (aB x9.Feats pM) fun G8=>a8 (aB x9.Feats m9) fun KC=>cond (lN G8.Feat KC.Feat) (some 4) ((Js n r2 x9 m9 i7 m3) (IntKind.i64.wrap (pM+1)))) (sw n r2 x9 m9 i7)
def sx(z7:Int)(cB:Int->Y (Int)): Y (Int):=
 cB (IntKind.i64.wrap (z7+1))
def LL(n:Nat)(r2:(X (X PI)))(z7:Int)(cB:Int->Y (Int))(x9:bG):Nat->Int->Y (Int)
 |0,_=>none|m2+1,m9=>cond (decide (m9<(x9.Feats.length:Int))) (a8 (aB x9.Feats m9) fun KD=>a8 (Z0 n KD.Feat) fun fk=>cond (!fk) (some 1) (Js n r2 x9 m9 (LL n r2 z7 cB x9 m2) n 0)) (sx z7 cB)
def sy: Y (Int):=
 some 0
def DU(p1:X bG)(n:Nat)(r2:(X (X PI))):Nat->Int->Y (Int)
 |0,_=>none|m1+1,z7=>cond (decide (z7<(p1.length:Int))) (a8 (aB p1 z7) fun x9=>LL n r2 z7 (DU p1 n r2 m1) x9 n 0) (sy)
def Ss(n:Nat)(p1:X bG):Y (Int):=
 a8 (Qo n p1) fun r2=>
 DU p1 n r2 n 0
theorem qg5(n:Nat)(p1:X bG)(r:Int)(O:Ss n p1=some r):cY prog 115 [.isl false (p1.map bL)] (.int .i64 r):=by unfold Ss at O;refine lD 58 V9 ?_;obtain⟨r2,h3,O⟩:=aI O;refine go ?_;refine aK rfl (pC (qic n p1 r2 h3) _) Dn ?_;refine go ?_;refine oH (DU p1 n r2) (fun z7=>[(0,.iM bL p1),(3,.iM cS r2),(4,.i6 z7)]) (fun _=>⟨[],0⟩) (pL sy [] ⟨[],0⟩) O (rY ?_) ?_;intro O;unfold sy at O;exact gx O;intro m1 z7 O;unfold DU at O;refine gG O ?_ ?_<;>intro h8 O;obtain⟨x9,gD,O⟩:=aI O;refine gI gD ?_;refine oH (LL n r2 z7 (DU p1 n r2 m1) x9) (fun m9=>[(0,.iM bL p1),(3,.iM cS r2),(4,.i6 z7),(5,.iM kY x9.Feats),(6,.i6 m9)]) (fun _=>⟨[],0⟩) (pL (sx z7 (DU p1 n r2 m1)) [(0,.iM bL p1),(3,.iM cS r2),(4,.i6 z7)] ⟨[],0⟩) O (rY ?_) ?_;intro O;unfold sx at O;exact wx O;intro m2 m9 O;unfold LL at O;refine gG O ?_ ?_<;>intro jI O;obtain⟨KD,kD,fk,tT,O⟩:=bO O;refine gI kD ?_;refine aK rfl (pC (qlx n KD.Feat fk tT) _) UO ?_;refine gF O ?_ ?_<;>intro uQ O;exact gx O;refine go ?_;refine oH (Js n r2 x9 m9 (LL n r2 z7 (DU p1 n r2 m1) x9 m2)) (fun pM=>[(0,.iM bL p1),(3,.iM cS r2),(4,.i6 z7),(5,.iM kY x9.Feats),(6,.i6 m9),(7,.i6 pM)]) (fun _=>⟨[],0⟩) (pL (sw n r2 x9 m9 (LL n r2 z7 (DU p1 n r2 m1) x9 m2)) [(0,.iM bL p1),(3,.iM cS r2),(4,.i6 z7),(5,.iM kY x9.Feats),(6,.i6 m9)] ⟨[],0⟩) O (rY ?_) ?_;intro O;unfold sw at O;obtain⟨W3,BN,GM,vV,O⟩:=bO O;refine gI BN ?_;refine aK rfl (pC (O5 n r2 W3.Value GM vV) _) mQ ?_;refine gF O ?_ ?_<;>intro nL O;exact gx O;exact wx O;intro m3 pM O;unfold Js at O;refine gG O ?_ ?_<;>intro rQ O;obtain⟨G8,FW,KC,A5,O⟩:=bO O;refine go ?_;refine dE [] ?_;refine gJ FW ?_;refine dX A5 ?_;refine gd ?_;refine aV (u:=.bool (lN G8.Feat KC.Feat)) rfl (F9 rfl rfl rfl rfl) ?_;refine bD ⟨by kernel_rfl,trivial,?_⟩;refine gF O ?_ ?_<;>intro xM O;exact gx O;exact wx O;exact wx O;exact wx O;exact wx O
def lw(z6:Int)(cB:(X (X PI))->Int->Y ((X (X PI))))(dA:X (X PI)):Y ((X (X PI))):=
 cB dA (IntKind.i64.wrap (z6+1))
def Z3(p1:X bG)(n:Nat)(z6:Int)(cB:(X (X PI))->Int->Y ((X (X PI)))):Nat->(X (X PI))->Int->Y ((X (X PI)))
 |0,_,_=>none|m2+1,c7,kF=>
  a8 (aB p1 z6) fun lV=>cond (decide (kF<(lV.Feats.length:Int))) (a8 (aB p1 z6) fun MM=>
   a8 (aB MM.Feats kF) fun AA=>
   a8 (NR n c7 AA.Feat) fun y6=>(Z3 p1 n z6 cB m2) y6 (IntKind.i64.wrap (kF+1))) (lw z6 cB c7)
def mc  (l7:X (X PI)):Y ((X (X PI))):=
 some l7
def LB(p1:X bG)(n:Nat):Nat->(X (X PI))->Int->Y ((X (X PI)))
 |0,_,_=>none|m1+1,l5,z6=>cond (decide (z6<(p1.length:Int))) (Z3 p1 n z6 (LB p1 n m1) n l5 0) (mc l5)
def YR(n:Nat)(p1:X bG):Y ((X (X PI))):=
 LB p1 n n [] 0
theorem B?(n:Nat)(p1:X bG)(r:(X (X PI)))(O:YR n p1=some r):cY prog 87 [.isl false (p1.map bL)] (.isl false (r.map cS)):=by unfold YR at O;refine lD 34 PT ?_;refine gr ?_;refine gr ?_;refine gr ?_;refine dF (tm':=fr 34 [(0,.iM bL p1),(3,.iM cS []),(4,.i6 0)]) (Gh.trans (Gh.sub (l':=[(0,.iM bL p1),(3,.nils),(4,.i6 0)]) ⟨rfl,rfl,rfl,trivial⟩) (Gh.wkS (l':=[(0,.iM bL p1),(3,.iM cS []),(4,.i6 0)]) (.cons (.refl _) (.cons (.nil false) (.cons (.refl _) .nil))))) NZ ?_;refine D3 (LB p1 n) (fun l5 z6=>[(0,.iM bL p1),(3,.iM cS l5),(4,.i6 z6)]) (fun _ _=>⟨[],0⟩) (pW mc (fun l7=>[(3,.iM cS l7)]) (fun _=>⟨[],0⟩)) O (tW ?_) ?_;intro l7 O;unfold mc at O;exact gx O;intro m1 l5 z6 O;unfold LB at O;refine gG O ?_ ?_<;>intro h8 O;refine go ?_;refine D3 (Z3 p1 n z6 (LB p1 n m1)) (fun c7 kF=>[(0,.iM bL p1),(3,.iM cS c7),(4,.i6 z6),(5,.i6 kF)]) (fun _ _=>⟨[],0⟩) (pW (lw z6 (LB p1 n m1)) (fun dA=>[(0,.iM bL p1),(3,.iM cS dA),(4,.i6 z6)]) (fun _=>⟨[],0⟩)) O (tW ?_) ?_;intro dA O;unfold lw at O;exact wx O;intro m2 c7 kF O;unfold Z3 at O;obtain⟨lV,jI,O⟩:=aI O;refine go ?_;refine c8 jI ?_;refine gG O ?_ ?_<;>intro dO O;obtain⟨MM,tE,AA,uQ,y6,pK,O⟩:=oO O;refine gI tE ?_;refine c8 uQ ?_;refine go ?_;refine aK rfl (pC (Ih n c7 AA.Feat y6 pK) _) rV ?_;exact wx O;exact wx O;exact wx O
def lr: Y ((X PI)×DC):=
 some ([],false)
def Z2(p1:bG)(p2:X PI):Nat->Int->Y ((X PI)×DC)
 |0,_=>none|m1+1,z8=>cond (decide (z8<(p1.Feats.length:Int))) (a8 (aB p1.Feats z8) fun x10=>cond (lN x10.Feat p2) (a8 (aB p1.Feats z8) fun QJ=>some (QJ.Value,true)) ((Z2 p1 p2 m1) (IntKind.i64.wrap (z8+1)))) (lr)
def Ql(n:Nat)(p1:bG)(p2:X PI):Y ((X PI)×DC):=
 Z2 p1 p2 n 0
theorem qif(n:Nat)(p1:bG)(p2:X PI)(r:(X PI)×DC)(O:Ql n p1 p2=some r):cY prog 117 [.agg (bL p1),.str p2] (.tup [.str r.1,.bool r.2]):=by unfold Ql at O;refine eM 28 J7 ?_;refine go ?_;refine oH (Z2 p1 p2) (fun z8=>[(1,.str p2),(2,.ptr 0 0 0),(6,.i6 z8)]) (fun _=>⟨[(0,.row (bL p1) 153)],1⟩) (pL lr [] ⟨[(0,.row (bL p1) 153)],1⟩) O (rY ?_) ?_;intro O;unfold lr at O;refine go ?_;obtain rfl:=sI O;exact y5 rfl rfl rfl rfl rfl;intro m1 z8 O;unfold Z2 at O;refine gG O ?_ ?_<;>intro h9 O;obtain⟨x10,jS,O⟩:=aI O;refine gI jS ?_;refine aY (u:=.bool (lN x10.Feat p2)) rfl (F9 rfl rfl rfl rfl) ?_;refine gF O ?_ ?_<;>intro gC O;obtain⟨QJ,i5,O⟩:=aI O;refine gI i5 ?_;obtain rfl:=sI O;exact y5 rfl rfl rfl rfl rfl;exact wx O;exact wx O
def SG(n:Nat)(p1:X dN)(p2:Int)(p3:Int):Y (DC):=
 a8 (aB p1 p3) fun x4=>
 a8 (aB p1 p2) fun x6=>
 a8 (YV n x4.Code x6.Code) fun r8=>some r8
theorem sg(n:Nat)(p1:X dN)(p2:Int)(p3:Int)(r:DC)(O:SG n p1 p2 p3=some r):cY prog 96 [.isl false (p1.map fE),.int .i64 p2,.int .i64 p3] (.bool r):=by unfold SG at O;refine xU 18 IR ?_;obtain⟨x4,h5,x6,h7,r8,h9,O⟩:=oO O;refine go ?_;refine dE [] ?_;refine gJ h5 ?_;refine dX h7 ?_;refine gd ?_;refine dL rfl (pC (F? n x4.Code x6.Code r8 h9)) CX ?_;refine gd ?_;refine bD ⟨by kernel_rfl,trivial,?_⟩;exact gx O
def uq: Y (Int):=
 some (-1)
def ZE(p1:X dN)(p2:X PI):Nat->Int->Y (Int)
 |0,_=>none|m1+1,z6=>cond (decide (z6<(p1.length:Int))) (a8 (aB p1 z6) fun x8=>cond (lN x8.Name p2) (some z6) ((ZE p1 p2 m1) (IntKind.i64.wrap (z6+1)))) (uq)
def In(n:Nat)(p1:X dN)(p2:X PI):Y (Int):=
 ZE p1 p2 n 0
theorem E?(n:Nat)(p1:X dN)(p2:X PI)(r:Int)(O:In n p1 p2=some r):cY prog 98 [.isl false (p1.map fE),.str p2] (.int .i64 r):=by unfold In at O;refine eM 20 PR ?_;refine go ?_;refine oH (ZE p1 p2) (fun z6=>[(0,.iM fE p1),(1,.str p2),(5,.i6 z6)]) (fun _=>⟨[],0⟩) (pL uq [] ⟨[],0⟩) O (rY ?_) ?_;intro O;unfold uq at O;exact gx O;intro m1 z6 O;unfold ZE at O;refine gG O ?_ ?_<;>intro h7 O;obtain⟨x8,h9,O⟩:=aI O;refine gI h9 ?_;refine aY (u:=.bool (lN x8.Name p2)) rfl (F9 rfl rfl rfl rfl) ?_;refine gF O ?_ ?_<;>intro gD O;exact gx O;exact wx O;exact wx O
def ss  (tV:DC) (m6:X Int):Y ((X Int)×DC):=
 some (m6,tV)
def SN(p1:X bG)(p2:X dN)(p3:Int)(p4:X PI)(n:Nat):Nat->DC->(X Int)->Int->Y ((X Int)×DC)
 |0,_,_,_=>none|m1+1,D2,dA,m9=>
  cond (decide (m9<(p1.length:Int))) (a8 (aB p1 m9) fun D9=>
   a8 (Ql n D9 p4) fun KN=>
   a8 (cond (!KN.2) (some true) (a8 (aB p1 m9) fun ES=>
    a8 (In n p2 ES.Name) fun R6=>
    a8 (SG n p2 R6 p3) fun fh=>some (!fh))) fun b31=>cond b31 ((SN p1 p2 p3 p4 n m1) D2 dA (IntKind.i64.wrap (m9+1))) (a8 (In n p2 KN.1) fun fg=>
    a8 (aB p2 fg) fun G8=>
    a8 (H7 n dA G8.Code) fun BX=>(SN p1 p2 p3 p4 n m1) true BX (IntKind.i64.wrap (m9+1)))) (ss D2 dA)
def Jm(n:Nat)(p1:X bG)(p2:X dN)(p3:Int)(p4:X PI):Y ((X Int)×DC):=
 a8 (aB p2 0) fun x5=>
 SN p1 p2 p3 p4 n n false x5.Code 0
theorem qdl(n:Nat)(p1:X bG)(p2:X dN)(p3:Int)(p4:X PI)(r:(X Int)×DC)(O:Jm n p1 p2 p3 p4=some r):cY prog 88 [.isl false (p1.map bL),.isl false (p2.map fE),.int .i64 p3,.str p4] (.tup [.isl false (r.1.map (cI .u64)),.bool r.2]):=by unfold Jm at O;refine Lg 60 Do ?_;obtain⟨x5,h6,O⟩:=aI O;refine gI h6 ?_;refine nM (SN p1 p2 p3 p4 n) (fun D2 dA m9=>[(0,.iM bL p1),(1,.iM fE p2),(2,.i6 p3),(3,.str p4),(10,.bool D2),(11,.iM (cI .u64) dA),(12,.i6 m9)]) (fun _ _ _=>⟨[],0⟩) (lE ss (fun tV m6=>[(10,.bool tV),(11,.iM (cI .u64) m6)]) (fun _ _=>⟨[],0⟩)) O (nD ?_) ?_;intro tV m6 O;unfold ss at O;refine go ?_;obtain rfl:=sI O;exact y5 rfl rfl rfl rfl rfl;intro m1 D2 dA m9 O;unfold SN at O;refine gG O ?_ ?_<;>intro kD O;obtain⟨D9,tT,KN,tD,O⟩:=bO O;refine gI tT ?_;refine aK rfl (pC (qif n D9 p4 KN tD) _) J7 ?_;obtain⟨b31,oF,O⟩:=aI O;refine gn ?_;refine nE [(0,.iM bL p1),(1,.iM fE p2),(2,.i6 p3),(3,.str p4),(10,.bool D2),(11,.iM (cI .u64) dA),(12,.i6 m9),(13,.str KN.1),(48,.bool b31)] ⟨[],0⟩ ?_ ?_;refine gF O ?_ ?_<;>intro vV O;exact wx O;obtain⟨fg,rQ,G8,FW,BX,A5,O⟩:=oO O;refine go ?_;refine aK rfl (pC (E? n p2 KN.1 fg rQ) _) PR ?_;refine c8 FW ?_;refine go ?_;refine aK rfl (pC (l? n dA G8.Code BX A5) _) CZ ?_;exact wx O;refine go ?_;rcases gB oF with⟨pK,oF⟩|⟨pK,oF⟩;exact gy oF;obtain⟨ES,o3,oF⟩:=aI oF;obtain⟨R6,xO,oF⟩:=aI oF;obtain⟨fh,tS,oF⟩:=aI oF;obtain rfl:=sI oF;refine gI o3 ?_;refine aK rfl (pC (E? n p2 ES.Name R6 xO) _) PR ?_;refine go ?_;refine aK rfl (pC (sg n p2 R6 p3 fh tS) _) IR ?_;refine go ?_;exact mS;exact wx O
def Ru(z8:Int)(cB:(X (X PI))->Int->Y ((X PI)×DC))(pB:X (X PI)):Y ((X PI)×DC):=
 cB pB (IntKind.i64.wrap (z8+1))
def lu(p1:X bG)(n:Nat)(l9:X (X PI)):Y ((X PI)×DC):=
 a8 (Iz n p1 l9) fun nP=>cond ((nP.length:Int) != 1) (some ([],false)) (a8 (aB nP 0) fun QJ=>some (QJ,true))
def O9(p1:X bG)(p2:X PI)(n:Nat):Nat->(X (X PI))->Int->Y ((X PI)×DC)
 |0,_,_=>none|m1+1,l7,z8=>
  cond (decide (z8<(p1.length:Int))) (a8 (aB p1 z8) fun lV=>
   a8 (Ql n lV p2) fun jZ=>cond jZ.2 (a8 (aB p1 z8) fun oY=>
    a8 (NR n l7 oY.Name) fun fj=>
    Ru z8 (O9 p1 p2 n m1) fj) (Ru z8 (O9 p1 p2 n m1) l7)) (lu p1 n l7)
def Qm(n:Nat)(p1:X bG)(p2:X PI):Y ((X PI)×DC):=
 O9 p1 p2 n n [] 0
theorem qie(n:Nat)(p1:X bG)(p2:X PI)(r:(X PI)×DC)(O:Qm n p1 p2=some r):cY prog 97 [.isl false (p1.map bL),.str p2] (.tup [.str r.1,.bool r.2]):=by unfold Qm at O;refine eM 43 Dm ?_;refine gr ?_;refine gr ?_;refine gr ?_;refine dF (tm':=fr 43 [(0,.iM bL p1),(1,.str p2),(6,.iM cS []),(7,.i6 0)]) (Gh.trans (Gh.sub (l':=[(0,.iM bL p1),(1,.str p2),(6,.nils),(7,.i6 0)]) ⟨rfl,rfl,rfl,rfl,trivial⟩) (Gh.wkS (l':=[(0,.iM bL p1),(1,.str p2),(6,.iM cS []),(7,.i6 0)]) (.cons (.refl _) (.cons (.refl _) (.cons (.nil false) (.cons (.refl _) .nil)))))) NZ ?_;refine D3 (O9 p1 p2 n) (fun l7 z8=>[(0,.iM bL p1),(1,.str p2),(6,.iM cS l7),(7,.i6 z8)]) (fun _ _=>⟨[],0⟩) (pW (lu p1 n) (fun l9=>[(0,.iM bL p1),(6,.iM cS l9)]) (fun _=>⟨[],0⟩)) O (tW ?_) ?_;intro l9 O;unfold lu at O;obtain⟨nP,jS,O⟩:=aI O;refine go ?_;refine aK rfl (pC (qfc n p1 l9 nP jS) _) J5 ?_;refine gF O ?_ ?_<;>intro gC O;refine go ?_;obtain rfl:=sI O;exact y5 rfl rfl rfl rfl rfl;obtain⟨QJ,i5,O⟩:=aI O;refine gI i5 ?_;obtain rfl:=sI O;exact y5 rfl rfl rfl rfl rfl;intro m1 l7 z8 O;unfold O9 at O;refine gG O ?_ ?_<;>intro lU O;obtain⟨lV,jI,jZ,kD,O⟩:=bO O;refine gI jI ?_;refine aK rfl (pC (qif n lV p2 jZ kD) _) J7 ?_;refine gr ?_;refine Zx r (Ru z8 (O9 p1 p2 n m1)) (fun pB=>[(0,.iM bL p1),(1,.str p2),(6,.iM cS pB),(7,.i6 z8)]) (fun _=>⟨[],0⟩) ?_ ?_;intro pB O;unfold Ru at O;exact wx O;refine cF O ?_ ?_<;>intro tE O;obtain⟨oY,tD,fj,IQ,O⟩:=bO O;refine gI tD ?_;refine aK rfl (pC (Ih n l7 oY.Name fj IQ) _) rV ?_;exact wx O;exact wx O;exact wx O
def me(eU:Int)(i7:Int->Y (Int)): Y (Int):=
 i7 (IntKind.i64.wrap (eU+1))
def Z4(p1:X bG)(n:Nat)(r2:(X dN)×Int)(r5:(X (X PI)))(eU:Int)(i7:Int->Y (Int)):Nat->Int->Y (Int)
 |0,_=>none|m3+1,dP=>
  cond (decide (dP<(r5.length:Int))) (a8 (aB r5 dP) fun uV=>
   a8 (Jm n p1 r2.1 eU uV) fun zw=>
   a8 (cond zw.2 (some ((zw.1.length:Int)==0)) (some false)) fun b34=>cond b34 (some 11) ((Z4 p1 n r2 r5 eU i7 m3) (IntKind.i64.wrap (dP+1)))) (me eU i7)
def mf: Y (Int):=
 some 0
def LC(p1:X bG)(n:Nat)(r2:(X dN)×Int)(r5:(X (X PI))):Nat->Int->Y (Int)
 |0,_=>none|m2+1,eU=>cond (decide (eU<(r2.1.length:Int))) (Z4 p1 n r2 r5 eU (LC p1 n r2 r5 m2) n 0) (mf)
def mg(p1:X bG)(n:Nat)(r2:(X dN)×Int)(r5:(X (X PI))): Y (Int):=
 LC p1 n r2 r5 n 0
def Z5(p1:X bG)(n:Nat)(r2:(X dN)×Int)(r5:(X (X PI))):Nat->Int->Y (Int)
 |0,_=>none|m1+1,fY=>cond (decide (fY<(r5.length:Int))) (a8 (aB r5 fY) fun KC=>a8 (Qm n p1 KC) fun XP=>cond (!XP.2) (some 10) ((Z5 p1 n r2 r5 m1) (IntKind.i64.wrap (fY+1)))) (mg p1 n r2 r5)
def SA(n:Nat)(p1:X bG):Y (Int):=
 a8 (NV n p1) fun r2=>cond (r2.2 != 0) (some r2.2) (a8 (YR n p1) fun r5=>cond (decide ((r5.length:Int)>64)) (some 7) (a8 (Ss n p1) fun r8=>cond (r8 != 0) (some r8) (Z5 p1 n r2 r5 n 0)))
theorem qid(n:Nat)(p1:X bG)(r:Int)(O:SA n p1=some r):cY prog 86 [.isl false (p1.map bL)] (.int .i64 r):=by unfold SA at O;refine lD 78 Dp ?_;obtain⟨r2,h3,O⟩:=aI O;refine go ?_;refine aK rfl (pC (yx n p1 r2 h3) _) IS ?_;refine gF O ?_ ?_<;>intro h4 O;exact gx O;obtain⟨r5,h6,O⟩:=aI O;refine go ?_;refine aK rfl (pC (B? n p1 r5 h6) _) PT ?_;refine gF O ?_ ?_<;>intro h7 O;exact gx O;obtain⟨r8,h9,O⟩:=aI O;refine go ?_;refine aK rfl (pC (qg5 n p1 r8 h9) _) V9 ?_;refine gF O ?_ ?_<;>intro gD O;exact gx O;refine go ?_;refine oH (Z5 p1 n r2 r5) (fun fY=>[(0,.iM bL p1),(3,.iM fE r2.1),(5,.iM cS r5),(7,.i6 fY)]) (fun _=>⟨[],0⟩) (pL (mg p1 n r2 r5) [(0,.iM bL p1),(3,.iM fE r2.1),(5,.iM cS r5)] ⟨[],0⟩) O (rY ?_) ?_;intro O;unfold mg at O;refine go ?_;refine oH (LC p1 n r2 r5) (fun eU=>[(0,.iM bL p1),(3,.iM fE r2.1),(5,.iM cS r5),(10,.i6 eU)]) (fun _=>⟨[],0⟩) (pL mf [] ⟨[],0⟩) O (rY ?_) ?_;intro O;unfold mf at O;exact gx O;intro m2 eU O;unfold LC at O;refine gG O ?_ ?_<;>intro tT O;refine go ?_;refine oH (Z4 p1 n r2 r5 eU (LC p1 n r2 r5 m2)) (fun dP=>[(0,.iM bL p1),(3,.iM fE r2.1),(5,.iM cS r5),(10,.i6 eU),(11,.i6 dP)]) (fun _=>⟨[],0⟩) (pL (me eU (LC p1 n r2 r5 m2)) [(0,.iM bL p1),(3,.iM fE r2.1),(5,.iM cS r5),(10,.i6 eU)] ⟨[],0⟩) O (rY ?_) ?_;intro O;unfold me at O;exact wx O;intro m3 dP O;unfold Z4 at O;refine gG O ?_ ?_<;>intro xO O;obtain⟨uV,tS,zw,oF,O⟩:=bO O;refine gI tS ?_;refine aK rfl (pC (qdl n p1 r2.1 eU uV zw oF) _) Do ?_;obtain⟨b34,rQ,O⟩:=aI O;refine gn ?_;refine nE [(0,.iM bL p1),(3,.iM fE r2.1),(5,.iM cS r5),(10,.i6 eU),(11,.i6 dP),(77,.bool b34)] ⟨[],0⟩ ?_ ?_;refine gF O ?_ ?_<;>intro xN O;exact gx O;exact wx O;refine go ?_;rcases gB rQ with⟨vV,rQ⟩|⟨vV,rQ⟩;exact gy rQ;exact gy rQ;exact wx O;exact wx O;intro m1 fY O;unfold Z5 at O;refine gG O ?_ ?_<;>intro FW O;obtain⟨KC,A5,XP,Lc,O⟩:=bO O;refine gI A5 ?_;refine aK rfl (pC (qie n p1 KC XP Lc) _) Dm ?_;refine gF O ?_ ?_<;>intro vT O;exact gx O;exact wx O;exact wx O
def yw: Y (Int):=
 some (-1)
def YY(p1:X dN)(n:Nat)(r3:(X Int)):Nat->Int->Y (Int)
 |0,_=>none|m1+1,z8=>cond (decide (z8<(p1.length:Int))) (a8 (aB p1 z8) fun x10=>a8 (NS n x10.Code r3) fun fV=>cond fV (some z8) ((YY p1 n r3 m1) (IntKind.i64.wrap (z8+1)))) (yw)
def Qa(n:Nat)(p1:X dN)(p2:X Int):Y (Int):=
 a8 (L9 n p2) fun r3=>
 YY p1 n r3 n 0
theorem qrm(n:Nat)(p1:X dN)(p2:X Int)(r:Int)(O:Qa n p1 p2=some r):cY prog 89 [.isl false (p1.map fE),.isl false (p2.map (cI .u64))] (.int .i64 r):=by unfold Qa at O;refine eM 23 Yb ?_;obtain⟨r3,h4,O⟩:=aI O;refine go ?_;refine aK rfl (pC (ui n p2 r3 h4) _) xS ?_;refine go ?_;refine oH (YY p1 n r3) (fun z8=>[(0,.iM fE p1),(5,.iM (cI .u64) r3),(6,.i6 z8)]) (fun _=>⟨[],0⟩) (pL yw [] ⟨[],0⟩) O (rY ?_) ?_;intro O;unfold yw at O;exact gx O;intro m1 z8 O;unfold YY at O;refine gG O ?_ ?_<;>intro h9 O;obtain⟨x10,jS,fV,eB,O⟩:=bO O;refine gI jS ?_;refine aK rfl (pC (w? n x10.Code r3 fV eB) _) CY ?_;refine gF O ?_ ?_<;>intro i5 O;exact gx O;exact wx O;exact wx O
def Sd(BR:Int)(i7:Int->(X nI)->Y ((X (X nI))×Int))(rC:X nI):Y ((X (X nI))×Int):=
 i7 (IntKind.i64.wrap (BR+1)) rC
def ur(fY:Int)(fL:X (X nI))(cB:Int->(X (X nI))->Y ((X (X nI))×Int))(LO:X nI):Y ((X (X nI))×Int):=
 aF ((fL.length+1)*24<=140737488355328/\fL.length+1<=140737488355328) (
 cB (IntKind.i64.wrap (fY+1)) (fL++[LO]))
def OF(p1:X bG)(n:Nat)(r5:(X dN)×Int)(r7:(X (X PI)))(fY:Int)(fL:X (X nI))(cB:Int->(X (X nI))->Y ((X (X nI))×Int)):Nat->Int->(X nI)->Y ((X (X nI))×Int)
 |0,_,_=>none|m2+1,BR,kL=>
  cond (decide (BR<(r7.length:Int))) (a8 (aB r7 BR) fun iW=>
   a8 (Jm n p1 r5.1 fY iW) fun Nv=>cond Nv.2 (a8 (Qa n r5.1 Nv.1) fun fb=>
    aF ((kL.length+1)*16<=140737488355328/\kL.length+1<=140737488355328) (
    Sd BR (OF p1 n r5 r7 fY fL cB m2) (kL++[(nI.mk BR fb)]))) (Sd BR (OF p1 n r5 r7 fY fL cB m2) kL)) (ur fY fL cB kL)
def ut  (m6:X (X nI)):Y ((X (X nI))×Int):=
 some (m6,0)
def HC(p1:X bG)(n:Nat)(r5:(X dN)×Int)(r7:(X (X PI))):Nat->Int->(X (X nI))->Y ((X (X nI))×Int)
 |0,_,_=>none|m1+1,fY,fL=>cond (decide (fY<(r5.1.length:Int))) (OF p1 n r5 r7 fY fL (HC p1 n r5 r7 m1) n 0 ([]:X nI)) (ut fL)
def Io(n:Nat)(p1:X bG):Y ((X (X nI))×Int):=
 a8 (SA n p1) fun r2=>cond (r2 != 0) (some ([],r2)) (a8 (NV n p1) fun r5=>
  a8 (YR n p1) fun r7=>
  HC p1 n r5 r7 n 0 ([]:X (X nI)))
theorem qmx(n:Nat)(p1:X bG)(r:(X (X nI))×Int)(O:Io n p1=some r):cY prog 57 [.isl false (p1.map bL)] (.tup [.isl false (r.1.map (cL sH)),.int .i64 r.2]):=by unfold Io at O;refine lD 63 Yn ?_;obtain⟨r2,h3,O⟩:=aI O;refine go ?_;refine aK rfl (pC (qid n p1 r2 h3) _) Dp ?_;refine gF O ?_ ?_<;>intro h4 O;refine go ?_;obtain rfl:=sI O;exact rT (us:=[.nils,.i6 r2]) (u:=.tup [.isl false [],.i6 r2]) (dT rfl (dT rfl (eD))) wR;obtain⟨r5,h6,O⟩:=aI O;refine go ?_;refine aK rfl (pC (yx n p1 r5 h6) _) IS ?_;obtain⟨r7,h8,O⟩:=aI O;refine go ?_;refine aK rfl (pC (B? n p1 r7 h8) _) PT ?_;refine gr ?_;refine gr ?_;refine gV 8 145 1 1 ?_;refine nM (a3:=0) (fun m fY fL _=>HC p1 n r5 r7 m fY fL) (fun fY fL qQ=>[(0,.iM bL p1),(5,.iM fE r5.1),(7,.iM cS r7),(8,.vl 0 qQ 0 fL.length),(9,.i6 fY)]) (fun _ fL qQ=>⟨[(0,.bv (cL sH) fL 145 1 qQ)],1⟩) (lE (fun m6 _=>ut m6) (fun m6 y4=>[(8,.vl 0 y4 0 m6.length)]) (fun m6 y4=>⟨[(0,.bv (cL sH) m6 145 1 y4)],1⟩)) O (nD ?_) ?_;intro m6 y4 O;unfold ut at O;refine go ?_;obtain rfl:=sI O;exact rT (us:=[.vl 0 y4 0 m6.length,.i6 0]) (u:=.tup [.iM (cL sH) m6,.i6 0]) (dT rfl (dT rfl (eD))) (fR 0 1);intro m1 fY fL qQ O;unfold HC at O;refine gG O ?_ ?_<;>intro tE O;refine gr ?_;refine gr ?_;refine gV 10 186 2 2 ?_;refine nM (a3:=0) (fun m BR kL _=>OF p1 n r5 r7 fY fL (HC p1 n r5 r7 m1) m BR kL) (fun BR kL MU=>[(0,.iM bL p1),(5,.iM fE r5.1),(7,.iM cS r7),(8,.vl 0 qQ 0 fL.length),(9,.i6 fY),(10,.vl 1 MU 0 kL.length),(11,.i6 BR)]) (fun _ kL MU=>⟨[(1,.bv sH kL 186 2 MU),(0,.bv (cL sH) fL 145 1 qQ)],2⟩) (lE (fun LO _=>ur fY fL (HC p1 n r5 r7 m1) LO) (fun LO Nk=>[(0,.iM bL p1),(5,.iM fE r5.1),(7,.iM cS r7),(8,.vl 0 qQ 0 fL.length),(9,.i6 fY),(10,.vl 1 Nk 0 LO.length)]) (fun LO Nk=>⟨[(1,.bv sH LO 186 2 Nk),(0,.bv (cL sH) fL 145 1 qQ)],2⟩)) O (nD ?_) ?_;intro LO Nk O;unfold ur at O;refine gn ?_;refine dF (tm':=fr 63 [(0,.iM bL p1),(5,.iM fE r5.1),(7,.iM cS r7),(8,.vl 0 qQ 0 fL.length),(9,.i6 fY),(10,.iM sH LO)]) (V':=⟨[(0,.bv (cL sH) fL 145 1 qQ)],2⟩) (Gh.trans (Gh.sub (l':=[(0,.iM bL p1),(5,.iM fE r5.1),(7,.iM cS r7),(8,.vl 0 qQ 0 fL.length),(9,.i6 fY),(10,.vl 1 Nk 0 LO.length)]) ⟨rfl,rfl,rfl,rfl,rfl,rfl,trivial⟩) (JU 1 2)) NZ ?_;obtain⟨rQ,O⟩:=c6 O;refine go ?_;refine c5 ?_;refine c5 ?_;exact wx O;intro m2 BR kL MU O;unfold OF at O;refine gG O ?_ ?_<;>intro xN O;obtain⟨iW,lB,Nv,xM,O⟩:=bO O;refine gI lB ?_;refine aK rfl (pC (qdl n p1 r5.1 fY iW Nv xM) _) Do ?_;refine gr ?_;refine M8 r (fun rC _=>Sd BR (OF p1 n r5 r7 fY fL (HC p1 n r5 r7 m1) m2) rC) (fun rC Nj=>[(0,.iM bL p1),(5,.iM fE r5.1),(7,.iM cS r7),(8,.vl 0 qQ 0 fL.length),(9,.i6 fY),(10,.vl 1 Nj 0 rC.length),(11,.i6 BR)]) (fun rC Nj=>⟨[(1,.bv sH rC 186 2 Nj),(0,.bv (cL sH) fL 145 1 qQ)],2⟩) ?_ ?_;intro rC Nj O;unfold Sd at O;exact wx O;refine cF O ?_ ?_<;>intro Lc O;obtain⟨fb,sO,O⟩:=aI O;obtain⟨Lb,O⟩:=c6 O;refine go ?_;refine aK rfl (pC (qrm n r5.1 Nv.1 fb sO) _) Yb ?_;refine go ?_;refine c5 ?_;refine c5 ?_;exact wx O;exact wx O;exact wx O;exact wx O
def Si(z8:Int)(cB:Int->(X Int)->Y ((X Int)))(kL:X Int):Y ((X Int)):=
 cB (IntKind.i64.wrap (z8+1)) kL
def uu(z8:Int)(l9:X Int)(cB:Int->(X Int)->Y ((X Int)))(cd:DC):Y ((X Int)):=
 cond cd (aF ((l9.length+1)*8<=140737488355328/\l9.length+1<=140737488355328) (
  Si z8 cB (l9++[z8]))) (Si z8 cB l9)
def SK(p1:X dN)(p2:Int)(n:Nat)(z8:Int)(l9:X Int)(cB:Int->(X Int)->Y ((X Int))):Nat->DC->Int->Y ((X Int))
 |0,_,_=>none|m2+1,Zr,EQ=>cond (decide (EQ<(p1.length:Int))) (a8 (cond Zr (cond (EQ==p2) (some true) (cond (EQ==z8) (some true) (a8 (SG n p1 z8 EQ) fun BX=>cond (!BX) (some true) (a8 (SG n p1 EQ p2) fun R5=>some (!R5))))) (some false)) fun Fa=>(SK p1 p2 n z8 l9 cB m2) Fa (IntKind.i64.wrap (EQ+1))) (uu z8 l9 cB Zr)
def ux  (dB:X Int):Y ((X Int)):=
 some dB
def DT(p1:X dN)(p2:Int)(n:Nat):Nat->Int->(X Int)->Y ((X Int))
 |0,_,_=>none|m1+1,z8,l9=>cond (decide (z8<(p1.length:Int))) (a8 (cond (z8==p2) (some true) (a8 (SG n p1 z8 p2) fun oJ=>some (!oJ))) fun tV=>cond tV ((DT p1 p2 n m1) (IntKind.i64.wrap (z8+1)) l9) (SK p1 p2 n z8 l9 (DT p1 p2 n m1) n true 0)) (ux l9)
def ye(n:Nat)(p1:X dN)(p2:Int):Y ((X Int)):=
 DT p1 p2 n n 0 ([]:X Int)
theorem qmu(n:Nat)(p1:X dN)(p2:Int)(r:(X Int))(O:ye n p1 p2=some r):cY prog 59 [.isl false (p1.map fE),.int .i64 p2] (.isl false (r.map (cI .i64))):=by
 unfold ye at O;refine eM 62 Ym ?_;refine gr ?_;refine gr ?_;refine gr ?_;refine gV 5 3 1 1 ?_;refine nM (a3:=0) (fun m z8 l9 _=>DT p1 p2 n m z8 l9) (fun z8 l9 eQ=>[(0,.iM fE p1),(1,.i6 p2),(5,.vl 0 eQ 0 l9.length),(6,.i6 z8)]) (fun _ l9 eQ=>⟨DP l9 eQ,1⟩) (lE (fun dB _=>ux dB) (fun dB jJ=>[(5,.vl 0 jJ 0 dB.length)]) (fun dB jJ=>⟨DP dB jJ,1⟩)) O (nD ?_) ?_;intro dB jJ O;unfold ux at O;refine go ?_;obtain rfl:=sI O;exact rT (us:=[.vl 0 jJ 0 dB.length]) (u:=.iM (cI .i64) dB) (dT rfl (eD)) (fR 0 1);intro m1 z8 l9 eQ O;unfold DT at O;refine gG O ?_ ?_<;>intro eB O;obtain⟨tV,dO,O⟩:=aI O;refine gn ?_;refine nE [(0,.iM fE p1),(1,.i6 p2),(5,.vl 0 eQ 0 l9.length),(6,.i6 z8),(24,.bool tV)] ⟨DP l9 eQ,1⟩ ?_ ?_;refine gF O ?_ ?_<;>intro kD O;exact wx O;refine go ?_;refine D3 (SK p1 p2 n z8 l9 (DT p1 p2 n m1)) (fun Zr EQ=>[(0,.iM fE p1),(1,.i6 p2),(5,.vl 0 eQ 0 l9.length),(6,.i6 z8),(7,.bool Zr),(8,.i6 EQ)]) (fun _ _=>⟨DP l9 eQ,1⟩) (pW (uu z8 l9 (DT p1 p2 n m1)) (fun cd=>[(0,.iM fE p1),(1,.i6 p2),(5,.vl 0 eQ 0 l9.length),(6,.i6 z8),(7,.bool cd)]) (fun _=>⟨DP l9 eQ,1⟩)) O (tW ?_) ?_;intro cd O;unfold uu at O;refine gr ?_;refine M8 r (fun kL _=>Si z8 (DT p1 p2 n m1) kL) (fun kL MU=>[(0,.iM fE p1),(1,.i6 p2),(5,.vl 0 MU 0 kL.length),(6,.i6 z8)]) (fun kL MU=>⟨DP kL MU,1⟩) ?_ ?_;intro kL MU O;unfold Si at O;exact wx O;refine cF O ?_ ?_<;>intro tS O;obtain⟨vV,O⟩:=c6 O;refine go ?_;refine c5 ?_;refine c5 ?_;exact wx O;exact wx O;intro m2 Zr EQ O;unfold SK at O;refine gG O ?_ ?_<;>intro nL O;obtain⟨Fa,kQ,O⟩:=aI O;refine gn ?_;refine nE [(0,.iM fE p1),(1,.i6 p2),(5,.vl 0 eQ 0 l9.length),(6,.i6 z8),(7,.bool Fa),(8,.i6 EQ)] ⟨DP l9 eQ,1⟩ ?_ ?_;exact wx O;refine go ?_;rcases gB kQ with⟨rQ,kQ⟩|⟨rQ,kQ⟩;refine go ?_;rcases gB kQ with⟨xN,kQ⟩|⟨xN,kQ⟩;exact gy kQ;refine go ?_;rcases gB kQ with⟨FW,kQ⟩|⟨FW,kQ⟩;exact gy kQ;obtain⟨BX,A5,kQ⟩:=aI kQ;refine go ?_;refine aK rfl (pC (sg n p1 z8 EQ BX A5) _) IR ?_;refine go ?_;rcases gB kQ with⟨xM,kQ⟩|⟨xM,kQ⟩;exact gy kQ;obtain⟨R5,vT,kQ⟩:=aI kQ;obtain rfl:=sI kQ;refine go ?_;refine aK rfl (pC (sg n p1 EQ p2 R5 vT) _) IR ?_;refine go ?_;exact mS;obtain rfl:=sI kQ;refine go ?_
 repeat refine RS.no (GR rfl rfl rfl) rfl rfl ?_
 refine go ?_
 repeat refine RS.no (GR rfl rfl rfl) rfl rfl ?_
 refine go ?_
 repeat refine RS.no (GR rfl rfl rfl) rfl rfl ?_
 refine go ?_;exact mS;exact wx O;refine go ?_;rcases gB dO with⟨i5,dO⟩|⟨i5,dO⟩;exact gy dO;obtain⟨oJ,qL,dO⟩:=aI dO;obtain rfl:=sI dO;refine go ?_;refine aK rfl (pC (sg n p1 z8 p2 oJ qL) _) IR ?_;refine go ?_;exact mS;exact wx O
def sn  (m6:X wK):Y ((X wK)×Int):=
 some (m6,0)
def ZI(p1:X bG)(n:Nat)(r5:(X dN)×Int)(r7:(X (X PI))):Nat->Int->(X wK)->Y ((X wK)×Int)
 |0,_,_=>none|m1+1,fY,fL=>
  cond (decide (fY<(r7.length:Int))) (a8 (aB r7 fY) fun AA=>
   a8 (Qm n p1 AA) fun y6=>
   a8 (aB r7 fY) fun ES=>
   a8 (In n r5.1 y6.1) fun R6=>
   aF ((fL.length+1)*24<=140737488355328/\fL.length+1<=140737488355328) ((ZI p1 n r5 r7 m1) (IntKind.i64.wrap (fY+1)) (fL++[(wK.mk ES R6)]))) (sn fL)
def Rv(n:Nat)(p1:X bG):Y ((X wK)×Int):=
 a8 (SA n p1) fun r2=>cond (r2 != 0) (some ([],r2)) (a8 (NV n p1) fun r5=>
  a8 (YR n p1) fun r7=>
  ZI p1 n r5 r7 n 0 ([]:X wK))
theorem qk5(n:Nat)(p1:X bG)(r:(X wK)×Int)(O:Rv n p1=some r):cY prog 60 [.isl false (p1.map bL)] (.tup [.isl false (r.1.map mM),.int .i64 r.2]):=by unfold Rv at O;refine lD 51 Yl ?_;obtain⟨r2,h3,O⟩:=aI O;refine go ?_;refine aK rfl (pC (qid n p1 r2 h3) _) Dp ?_;refine gF O ?_ ?_<;>intro h4 O;refine go ?_;obtain rfl:=sI O;exact rT (us:=[.nils,.i6 r2]) (u:=.tup [.isl false [],.i6 r2]) (dT rfl (dT rfl (eD))) wR;obtain⟨r5,h6,O⟩:=aI O;refine go ?_;refine aK rfl (pC (yx n p1 r5 h6) _) IS ?_;obtain⟨r7,h8,O⟩:=aI O;refine go ?_;refine aK rfl (pC (B? n p1 r7 h8) _) PT ?_;refine gr ?_;refine gr ?_;refine gV 8 197 2 1 ?_;refine nM (a3:=0) (fun m fY fL _=>ZI p1 n r5 r7 m fY fL) (fun fY fL qQ=>[(0,.iM bL p1),(5,.iM fE r5.1),(7,.iM cS r7),(8,.vl 0 qQ 0 fL.length),(9,.i6 fY)]) (fun _ fL qQ=>⟨[(0,.bv mM fL 197 2 qQ)],1⟩) (lE (fun m6 _=>sn m6) (fun m6 y4=>[(8,.vl 0 y4 0 m6.length)]) (fun m6 y4=>⟨[(0,.bv mM m6 197 2 y4)],1⟩)) O (nD ?_) ?_;intro m6 y4 O;unfold sn at O;refine go ?_;obtain rfl:=sI O;exact rT (us:=[.vl 0 y4 0 m6.length,.i6 0]) (u:=.tup [.iM mM m6,.i6 0]) (dT rfl (dT rfl (eD))) (fR 0 2);intro m1 fY fL qQ O;unfold ZI at O;refine gG O ?_ ?_<;>intro tE O;obtain⟨AA,uQ,y6,pK,O⟩:=bO O;refine gI uQ ?_;refine aK rfl (pC (qie n p1 AA y6 pK) _) Dm ?_;obtain⟨ES,o3,R6,xO,O⟩:=bO O;obtain⟨sP,O⟩:=c6 O;refine go ?_;refine dE [(0,9)] ?_;refine gJ o3 ?_;refine dL rfl (pC (E? n r5.1 y6.1 R6 xO)) PR ?_;refine gd ?_;refine eN ?_;refine eN ?_;refine gd ?_;refine bD ⟨by kernel_rfl,⟨oD rfl,trivial⟩,?_⟩;exact wx O;exact wx O
def sf(p1:X bG)(n:Nat)(fL:X oQ):Y (cZ×Int):=
 a8 (Rv n p1) fun jZ=>some ((cZ.mk fL jZ.1),0)
def ZG(p1:X bG)(n:Nat)(r2:(X (X nI))×Int)(r5:(X dN)×Int):Nat->Int->(X oQ)->Y (cZ×Int)
 |0,_,_=>none|m1+1,ER,iA=>
  cond (decide (ER<(r5.1.length:Int))) (a8 (aB r5.1 ER) fun AA=>
   a8 (aB r5.1 ER) fun BV=>
   a8 (ye n r5.1 ER) fun qS=>
   a8 (aB r2.1 ER) fun y3=>
   aF ((iA.length+1)*88<=140737488355328/\iA.length+1<=140737488355328) ((ZG p1 n r2 r5 m1) (IntKind.i64.wrap (ER+1)) (iA++[(oQ.mk AA.Name BV.Code qS y3)]))) (sf p1 n iA)
def O2(n:Nat)(p1:X bG):Y (cZ×Int):=
 a8 (Io n p1) fun r2=>cond (r2.2 != 0) (some ((cZ.mk [] []),r2.2)) (a8 (NV n p1) fun r5=>ZG p1 n r2 r5 n 0 ([]:X oQ))
theorem H?(n:Nat)(p1:X bG)(r:cZ×Int)(O:O2 n p1=some r):cY prog 32 [.isl false (p1.map bL)] (.tup [.agg (g8 r.1),.int .i64 r.2]):=by unfold O2 at O;refine lD 63 PX ?_;obtain⟨r2,h3,O⟩:=aI O;refine go ?_;refine aK rfl (pC (qmx n p1 r2 h3) _) Yn ?_;refine gF O ?_ ?_<;>intro h4 O;refine go ?_;obtain rfl:=sI O;exact rT (us:=[.agg [.nils,.nils],.i6 r2.2]) (u:=.tup [.agg [.isl false [],.isl false []],.i6 r2.2]) (nG (kJ sV.h rfl (bB B3.h) rfl rfl rfl) (dT rfl (eD))) wR;obtain⟨r5,h6,O⟩:=aI O;refine go ?_;refine aK rfl (pC (yx n p1 r5 h6) _) IS ?_;refine gr ?_;refine gr ?_;refine dF (tm':=fr 63 [(0,.iM bL p1),(2,.ptr 0 0 0),(4,.iM (cL sH) r2.1),(6,.iM fE r5.1),(8,.ptr 1 0 0),(9,.i6 0)]) (V':=⟨[(2,.bv jV ([]:X oQ) 147 4 0),(1,.row [.vl 2 0 0 (([]:X oQ).length),.nils] 27),(0,.row [.nils,.nils] 27)],3⟩) (Gh.trans (BP 1 0 147 4 qq3 NZ rfl rfl) (D7 ⟨rfl,rfl,rfl,rfl,rfl,rfl,trivial⟩ rfl)) NZ ?_;refine nM (a3:=0) (fun m ER iA _=>ZG p1 n r2 r5 m ER iA) (fun ER _ _=>[(0,.iM bL p1),(2,.ptr 0 0 0),(4,.iM (cL sH) r2.1),(6,.iM fE r5.1),(8,.ptr 1 0 0),(9,.i6 ER)]) (fun _ iA MW=>⟨[(2,.bv jV iA 147 4 MW),(1,.row [.vl 2 MW 0 iA.length,.nils] 27),(0,.row [.nils,.nils] 27)],3⟩) (lE (fun fL _=>sf p1 n fL) (fun _ _=>[(0,.iM bL p1),(2,.ptr 0 0 0),(8,.ptr 1 0 0)]) (fun fL qQ=>⟨[(2,.bv jV fL 147 4 qQ),(1,.row [.vl 2 qQ 0 fL.length,.nils] 27),(0,.row [.nils,.nils] 27)],3⟩)) O (nD ?_) ?_;intro fL qQ O;unfold sf at O;obtain⟨jZ,kD,O⟩:=aI O;refine go ?_;refine aK rfl (pC (qk5 n p1 jZ kD) _) Yl ?_;refine go ?_;obtain rfl:=sI O;exact rT (us:=[.agg [.vl 2 qQ 0 fL.length,.iM mM jZ.1],.i6 0]) (u:=.tup [.agg [.iM jV fL,.iM mM jZ.1],.i6 0]) (nG (kJ sV.h rfl (bB B3.h) rfl rfl rfl) (dT rfl (eD))) (fR 2 4);intro m1 ER iA MW O;unfold ZG at O;refine gG O ?_ ?_<;>intro tE O;obtain⟨AA,uQ,BV,pK,qS,o3,y3,xO,O⟩:=qZ O;obtain⟨sP,O⟩:=c6 O;refine go ?_;refine dE [(0,20),(1,20)] ?_;refine gJ uQ ?_;refine dX pK ?_;refine gd ?_;refine dL rfl (pC (qmu n r5.1 ER qS o3)) Ym ?_;refine gJ xO ?_;refine eN ?_;refine eN ?_;refine gd ?_;refine qM ?_;refine bD ⟨by kernel_rfl,⟨pP sV.h rfl (bB Az.h) rfl rfl rfl,⟨yM GD.h rfl rfl rfl rfl,trivial⟩⟩,?_⟩;exact wx O;exact wx O
def vq(n:Nat): Y (cZ):=
 a8 (O2 n ([(bG.mk ([116,111,112]) [] ([(qF.mk ([70]) ([116,111,112])),(qF.mk ([71]) ([116,111,112]))])),(bG.mk ([120]) ([[116,111,112]]) []),(bG.mk ([121]) ([[116,111,112]]) [])])) fun r1=>some (cZ.mk r1.1.Types r1.1.Feats)
theorem qoi(n:Nat)(r:cZ)(O:vq n  = some r):cY prog 34 [] (.agg (g8 r)):=by unfold vq at O;refine bg0 17 Yv ?_;obtain⟨r1,h2,O⟩:=aI O;refine go ?_;refine aY (u:=.sl 1 0 2 2) (V':=⟨qv3,2⟩) rfl (yK GF.h TH.h rfl rfl rfl rfl rfl rfl rfl) ?_;refine go ?_;refine c5 ?_;refine go ?_;refine c5 ?_;refine go ?_;refine aY (u:=.sl 4 0 3 3) (V':=⟨(4,.row [.str ([116,111,112]),.nils,.sl 1 0 2 2,.str ([120]),.sl 2 0 1 1,.nils,.str ([121]),.sl 3 0 1 1,.nils] 153)::(3,.row [.str ([116,111,112])] 9)::(2,.row [.str ([116,111,112])] 9)::qv3,5⟩) rfl (yK My.h wO.h rfl rfl rfl rfl rfl rfl rfl) (RS.fc rfl (Gh.trans (sC 1 2) (Gh.trans (sC 2 1) (Gh.trans (sC 3 1) (Gh.trans (Gh.rowC 4) (sC 4 3))))) (pC (H? n ([(bG.mk ([116,111,112]) [] ([(qF.mk ([70]) ([116,111,112])),(qF.mk ([71]) ([116,111,112]))])),(bG.mk ([120]) ([[116,111,112]]) []),(bG.mk ([121]) ([[116,111,112]]) [])]) r1 h2) _) PX ?_);refine go ?_;obtain rfl:=sI O;exact rT (nG (kJ sV.h rfl (bB B3.h) rfl rfl rfl) (eD)) (uU _ rfl)
def A?(p1:X PI)(p2:X PI)(dA:X qF):Y (bG):=
 some (bG.mk p1 ([p2]) dA)
def yq(p1:X PI)(p2:X PI)(p3:X (X PI)):Nat->Int->(X qF)->Y (bG)
 |0,_,_=>none|m1+1,eJ,c7=>
  cond (decide ((IntKind.i64.wrap (eJ+1))<(p3.length:Int))) (a8 (aB p3 eJ) fun KD=>
   a8 (aB p3 (IntKind.i64.wrap (eJ+1))) fun D9=>
   aF ((c7.length+1)*32<=140737488355328/\c7.length+1<=140737488355328) ((yq p1 p2 p3 m1) (IntKind.i64.wrap (eJ+2)) (c7++[(qF.mk KD D9)]))) (A? p1 p2 c7)
def z?(p1:X PI)(qI:X qF):Y (bG):=
 some (bG.mk p1 [] qI)
def yp(p1:X PI)(p3:X (X PI)):Nat->Int->(X qF)->Y (bG)
 |0,_,_=>none|m2+1,pM,eI=>
  cond (decide ((IntKind.i64.wrap (pM+1))<(p3.length:Int))) (a8 (aB p3 pM) fun Lt=>
   a8 (aB p3 (IntKind.i64.wrap (pM+1))) fun iW=>
   aF ((eI.length+1)*32<=140737488355328/\eI.length+1<=140737488355328) ((yp p1 p3 m2) (IntKind.i64.wrap (pM+2)) (eI++[(qF.mk Lt iW)]))) (z? p1 eI)
def AS(n:Nat)(p1:X PI)(p2:X PI)(p3:X (X PI)):Y (bG):=
 cond (!lN p2 []) (yq p1 p2 p3 n 0 ([]:X qF)) (yp p1 p3 n 0 ([]:X qF))
theorem DS(n:Nat)(p1:X PI)(p2:X PI)(p3:X (X PI))(r:bG)(O:AS n p1 p2 p3=some r):cY prog 61 [.str p1,.str p2,.isl false (p3.map cS)] (.agg (bL r)):=by unfold AS at O;refine xU 39 o4 ?_;refine go ?_;refine aY (u:=.bool (!lN p2 [])) rfl (F9 rfl rfl rfl rfl) ?_;refine gF O ?_ ?_<;>intro h4 O;refine go ?_;refine c5 ?_;refine gr ?_;refine dF (tm':=fr 39 [(2,.iM cS p3),(6,.ptr 0 0 0),(7,.ptr 1 0 0),(8,.i6 0)]) (V':=⟨(3,.bv kY ([]:X qF) 156 2 0)::(2,.row [.str p2] 9)::(1,.row [.str p1,.sl 2 0 1 1,.vl 3 0 0 (([]:X qF).length)] 153)::Hq,4⟩) (Gh.trans (BP 1 2 156 2 qq3 NZ rfl rfl) (D7 ⟨rfl,rfl,rfl,rfl,trivial⟩ rfl)) NZ ?_;refine nM (a3:=0) (fun m eJ c7 _=>yq p1 p2 p3 m eJ c7) (fun eJ _ _=>[(2,.iM cS p3),(6,.ptr 0 0 0),(7,.ptr 1 0 0),(8,.i6 eJ)]) (fun _ c7 gT=>⟨(3,.bv kY c7 156 2 gT)::(2,.row [.str p2] 9)::(1,.row [.str p1,.sl 2 0 1 1,.vl 3 gT 0 c7.length] 153)::Hq,4⟩) (lE (fun dA _=>A? p1 p2 dA) (fun _ _=>[(6,.ptr 0 0 0),(7,.ptr 1 0 0)]) (fun dA fK=>⟨(3,.bv kY dA 156 2 fK)::(2,.row [.str p2] 9)::(1,.row [.str p1,.sl 2 0 1 1,.vl 3 fK 0 dA.length] 153)::Hq,4⟩)) O (nD ?_) ?_;intro dA fK O;unfold A? at O;refine go ?_;obtain rfl:=sI O;exact⟨.inr rfl,[.agg [.str p1,.sl 2 0 1 1,.vl 3 fK 0 dA.length]],nG (kJ w5.h rfl (bB wO.h) rfl rfl rfl) (eD),.agg [.str p1,.iM cS ([p2]),.iM kY dA],⟨[],0⟩,zF _,Gh.trans (sC 2 1) (Gh.trans (sC 3 2) (uU (.agg [.str p1,.iM cS ([p2]),.iM kY dA]) rfl)),rfl,BU.h⟩;intro m1 eJ c7 gT O;unfold yq at O;refine gG O ?_ ?_<;>intro jI O;obtain⟨KD,kD,D9,tT,O⟩:=bO O;obtain⟨uQ,O⟩:=c6 O;refine go ?_;refine dE [(0,12),(1,12)] ?_;refine gJ kD ?_;refine dX tT ?_;refine gd ?_;refine eN ?_;refine eN ?_;refine gd ?_;refine qM ?_;refine bD ⟨by kernel_rfl,⟨pP w5.h rfl (bB TJ.h) rfl rfl rfl,⟨yM GF.h rfl rfl rfl rfl,trivial⟩⟩,?_⟩;exact wx O;exact wx O;refine gr ?_;refine dF (tm':=fr 39 [(2,.iM cS p3),(6,.ptr 0 0 0),(7,.ptr 1 0 0),(8,.i6 0)]) (V':=⟨(2,.bv kY ([]:X qF) 156 2 0)::(1,.row [.str p1,.nils,.vl 2 0 0 (([]:X qF).length)] 153)::Hq,3⟩) (Gh.trans (BP 1 2 156 2 qq3 NZ rfl rfl) (D7 ⟨rfl,rfl,rfl,rfl,trivial⟩ rfl)) NZ ?_;refine nM (a3:=0) (fun m pM eI _=>yp p1 p3 m pM eI) (fun pM _ _=>[(2,.iM cS p3),(6,.ptr 0 0 0),(7,.ptr 1 0 0),(8,.i6 pM)]) (fun _ eI MV=>⟨(2,.bv kY eI 156 2 MV)::(1,.row [.str p1,.nils,.vl 2 MV 0 eI.length] 153)::Hq,3⟩) (lE (fun qI _=>z? p1 qI) (fun _ _=>[(6,.ptr 0 0 0),(7,.ptr 1 0 0)]) (fun qI EV=>⟨(2,.bv kY qI 156 2 EV)::(1,.row [.str p1,.nils,.vl 2 EV 0 qI.length] 153)::Hq,3⟩)) O (nD ?_) ?_;intro qI EV O;unfold z? at O;refine go ?_;obtain rfl:=sI O;exact⟨.inr rfl,[.agg [.str p1,.nils,.vl 2 EV 0 qI.length]],nG (kJ w5.h rfl (bB wO.h) rfl rfl rfl) (eD),.agg [.str p1,.isl false [],.iM kY qI],⟨[],0⟩,zF _,Gh.trans (sC 2 2) (Gh.trans (Gh.wk (.cons (.agg (.cons (.refl _) (.cons (.nil false) (.cons (.refl _) .nil)))) .nil)) (uU (.agg [.str p1,.isl false [],.iM kY qI]) rfl)),rfl,BU.h⟩;intro m2 pM eI MV O;unfold yp at O;refine gG O ?_ ?_<;>intro nL O;obtain⟨Lt,xN,iW,lB,O⟩:=bO O;obtain⟨A5,O⟩:=c6 O;refine go ?_;refine dE [(0,12),(1,12)] ?_;refine gJ xN ?_;refine dX lB ?_;refine gd ?_;refine eN ?_;refine eN ?_;refine gd ?_;refine qM ?_;refine bD ⟨by kernel_rfl,⟨pP w5.h rfl (bB TJ.h) rfl rfl rfl,⟨yM GF.h rfl rfl rfl rfl,trivial⟩⟩,?_⟩;exact wx O;exact wx O
def Rf(n:Nat): Y ((X bG)):=
 a8 (AS n ([116,111,112]) [] []) fun r1=>
 a8 (AS n ([108,105,115,116]) ([116,111,112]) []) fun r3=>
 a8 (AS n ([99,111,110,115]) ([108,105,115,116]) ([[70,73,82,83,84],[116,111,112],[82,69,83,84],[108,105,115,116]])) fun r5=>
 a8 (AS n ([110,117,108,108]) ([108,105,115,116]) []) fun r7=>
 a8 (AS n ([100,108,105,115,116]) ([116,111,112]) ([[76,73,83,84],[108,105,115,116],[76,65,83,84],[108,105,115,116]])) fun r9=>
 a8 (AS n ([105,110,100,101,120]) ([116,111,112]) []) fun qB=>
 a8 (AS n ([104,97,110,100,108,101]) ([105,110,100,101,120]) []) fun mI=>
 a8 (AS n ([101,118,101,110,116]) ([105,110,100,101,120]) []) fun oJ=>
 a8 (AS n ([101,110,116,105,116,121]) ([105,110,100,101,120]) []) fun iJ=>
 a8 (AS n ([114,101,108]) ([116,111,112]) ([[76,65,66,69,76],[104,97,110,100,108,101]])) fun GO=>
 a8 (AS n ([113,101,113]) ([116,111,112]) ([[72,73,71,72],[104,97,110,100,108,101],[76,79,87],[104,97,110,100,108,101]])) fun GN=>
 a8 (AS n ([115,101,109]) ([116,111,112]) ([[84,79,80],[104,97,110,100,108,101],[73,78,68,69,88],[105,110,100,101,120],[82,69,76,83],[100,108,105,115,116],[67,79,78,83],[100,108,105,115,116]])) fun y6=>
 a8 (AS n ([115,105,103,110]) ([116,111,112]) ([[83,69,77],[115,101,109],[65,82,71,83],[108,105,115,116]])) fun qS=>some ([r1,r3,r5,r7,r9,qB,mI,oJ,iJ,GO,GN,y6,qS])
theorem qlz(n:Nat)(r:(X bG))(O:Rf n  = some r):cY prog 33 [] (.isl false (r.map bL)):=by unfold Rf at O;refine bg0 21 Yw ?_;obtain⟨r1,h2,r3,h4,r5,h6,r7,h8,O⟩:=qZ O;obtain⟨r9,gD,qB,gC,mI,i5,oJ,qL,O⟩:=qZ O;obtain⟨iJ,dO,GO,tE,GN,uQ,y6,pK,O⟩:=qZ O;obtain⟨qS,o3,O⟩:=aI O;refine go ?_;refine aK rfl (G2 (args':=[.str ([116,111,112]),.str [],.isl false []]) (.cons (.refl _) (.cons (.refl _) (.cons (.nil false) .nil))) (pC (DS n ([116,111,112]) [] [] r1 h2)) _) o4 (aK rfl (G2 (args':=[.str ([108,105,115,116]),.str ([116,111,112]),.isl false []]) (.cons (.refl _) (.cons (.refl _) (.cons (.nil false) .nil))) (pC (DS n ([108,105,115,116]) ([116,111,112]) [] r3 h4)) _) o4 ?_);refine c5 ?_;refine RS.fc rfl (sC 0 1) (pC (DS n ([99,111,110,115]) ([108,105,115,116]) ([[70,73,82,83,84],[116,111,112],[82,69,83,84],[108,105,115,116]]) r5 h6) _) o4 (aK rfl (G2 (args':=[.str ([110,117,108,108]),.str ([108,105,115,116]),.isl false []]) (.cons (.refl _) (.cons (.refl _) (.cons (.nil false) .nil))) (pC (DS n ([110,117,108,108]) ([108,105,115,116]) [] r7 h8)) _) o4 ?_);refine c5 ?_;refine RS.fc rfl (sC 1 1) (pC (DS n ([100,108,105,115,116]) ([116,111,112]) ([[76,73,83,84],[108,105,115,116],[76,65,83,84],[108,105,115,116]]) r9 gD) _) o4 (aK rfl (G2 (args':=[.str ([105,110,100,101,120]),.str ([116,111,112]),.isl false []]) (.cons (.refl _) (.cons (.refl _) (.cons (.nil false) .nil))) (pC (DS n ([105,110,100,101,120]) ([116,111,112]) [] qB gC)) _) o4 (aK rfl (G2 (args':=[.str ([104,97,110,100,108,101]),.str ([105,110,100,101,120]),.isl false []]) (.cons (.refl _) (.cons (.refl _) (.cons (.nil false) .nil))) (pC (DS n ([104,97,110,100,108,101]) ([105,110,100,101,120]) [] mI i5)) _) o4 (aK rfl (G2 (args':=[.str ([101,118,101,110,116]),.str ([105,110,100,101,120]),.isl false []]) (.cons (.refl _) (.cons (.refl _) (.cons (.nil false) .nil))) (pC (DS n ([101,118,101,110,116]) ([105,110,100,101,120]) [] oJ qL)) _) o4 (aK rfl (G2 (args':=[.str ([101,110,116,105,116,121]),.str ([105,110,100,101,120]),.isl false []]) (.cons (.refl _) (.cons (.refl _) (.cons (.nil false) .nil))) (pC (DS n ([101,110,116,105,116,121]) ([105,110,100,101,120]) [] iJ dO)) _) o4 ?_))));refine c5 ?_;refine RS.fc rfl (sC 2 1) (pC (DS n ([114,101,108]) ([116,111,112]) ([[76,65,66,69,76],[104,97,110,100,108,101]]) GO tE) _) o4 ?_;refine c5 ?_;refine RS.fc rfl (sC 3 1) (pC (DS n ([113,101,113]) ([116,111,112]) ([[72,73,71,72],[104,97,110,100,108,101],[76,79,87],[104,97,110,100,108,101]]) GN uQ) _) o4 (aY (u:=.sl 4 0 8 8) (V':=⟨[(4,.row [.str ([84,79,80]),.str ([104,97,110,100,108,101]),.str ([73,78,68,69,88]),.str ([105,110,100,101,120]),.str ([82,69,76,83]),.str ([100,108,105,115,116]),.str ([67,79,78,83]),.str ([100,108,105,115,116])] 9)],5⟩) rfl (yK jX.h HZ.h rfl rfl rfl rfl rfl rfl rfl) (RS.fc rfl (sC 4 1) (pC (DS n ([115,101,109]) ([116,111,112]) ([[84,79,80],[104,97,110,100,108,101],[73,78,68,69,88],[105,110,100,101,120],[82,69,76,83],[100,108,105,115,116],[67,79,78,83],[100,108,105,115,116]]) y6 pK) _) o4 ?_));refine c5 ?_;refine RS.fc rfl (sC 5 1) (pC (DS n ([115,105,103,110]) ([116,111,112]) ([[83,69,77],[115,101,109],[65,82,71,83],[108,105,115,116]]) qS o3) _) o4 (aY (u:=.sl 6 0 13 13) (V':=⟨[(6,.row [.str r1.Name,.iM cS r1.Supers,.iM kY r1.Feats,.str r3.Name,.iM cS r3.Supers,.iM kY r3.Feats,.str r5.Name,.iM cS r5.Supers,.iM kY r5.Feats,.str r7.Name,.iM cS r7.Supers,.iM kY r7.Feats,.str r9.Name,.iM cS r9.Supers,.iM kY r9.Feats,.str qB.Name,.iM cS qB.Supers,.iM kY qB.Feats,.str mI.Name,.iM cS mI.Supers,.iM kY mI.Feats,.str oJ.Name,.iM cS oJ.Supers,.iM kY oJ.Feats,.str iJ.Name,.iM cS iJ.Supers,.iM kY iJ.Feats,.str GO.Name,.iM cS GO.Supers,.iM kY GO.Feats,.str GN.Name,.iM cS GN.Supers,.iM kY GN.Feats,.str y6.Name,.iM cS y6.Supers,.iM kY y6.Feats,.str qS.Name,.iM cS qS.Supers,.iM kY qS.Feats] 153)],7⟩) rfl (yK My.h wO.h rfl rfl rfl rfl rfl rfl rfl) ?_);refine go ?_;obtain rfl:=sI O;exact rT (us:=[.sl 6 0 13 13]) (u:=.iM bL ([r1,r3,r5,r7,r9,qB,mI,oJ,iJ,GO,GN,y6,qS])) (dT rfl (eD)) (fR 6 3)
def sd(z6:Int)(cB:Int->(X Int)->Y ((X Int)))(bU:X Int):Y ((X Int)):=
 cB (IntKind.i64.wrap (z6+1)) bU
def Jn(z6:Int)(cB:Int->(X Int)->Y ((X Int)))(qA:aO):Nat->Int->(X Int)->Y ((X Int))
 |0,_,_=>none|m2+1,z25,E2=>
  cond (decide (z25<(qA.Arcs.length:Int))) (a8 (aB qA.Arcs z25) fun lH=>
   a8 (aB qA.Arcs z25) fun pZ=>
   aF ((E2.length+2)*8<=140737488355328/\E2.length+2<=140737488355328) ((Jn z6 cB qA m2) (IntKind.i64.wrap (z25+1)) (E2++[lH.Feat,pZ.To]))) (sd z6 cB E2)
def se  (l9:X Int):Y ((X Int)):=
 some l9
def OG(p1:GFS)(n:Nat):Nat->Int->(X Int)->Y ((X Int))
 |0,_,_=>none|m1+1,z6,l7=>
  cond (decide (z6<(p1.Nodes.length:Int))) (a8 (aB p1.Nodes z6) fun qA=>
   a8 (aB p1.Nodes z6) fun vX=>
   aF ((l7.length+2)*8<=140737488355328/\l7.length+2<=140737488355328) (
   Jn z6 (OG p1 n m1) qA n 0 (l7++[vX.Typex,(qA.Arcs.length:Int)]))) (se l7)
def Iv(n:Nat)(p1:GFS):Y ((X Int)):=
 OG p1 n n 0 ([(p1.Nodes.length:Int)])
theorem qfd(n:Nat)(p1:GFS)(r:(X Int))(O:Iv n p1=some r):cY prog 64 [.agg [.isl false (p1.Nodes.map b7)]] (.isl false (r.map (cI .i64))):=by unfold Iv at O;refine lD 55 Dq ?_;refine go ?_;refine RS.step (u:=.vl 1 0 0 ([(p1.Nodes.length:Int)].length)) (V':=⟨[(1,.bv (cI .i64) ([(p1.Nodes.length:Int)]) 3 1 0),(0,.row [.iM b7 p1.Nodes] 39)],2⟩) rfl (fN.bslv (cs:=(List.map (cI .i64) [(p1.Nodes.length:Int)]).flatten) tb_ok rfl cU.h iF.h rfl rfl rfl rfl rfl rfl rfl rfl) rfl rfl ?_;refine go ?_;refine nM (a3:=0) (fun m z6 l7 _=>OG p1 n m z6 l7) (fun z6 l7 t8=>[(1,.ptr 0 0 0),(3,.vl 1 t8 0 l7.length),(4,.i6 z6)]) (fun _ l7 t8=>⟨Hr l7 t8 p1.Nodes,2⟩) (lE (fun l9 _=>se l9) (fun l9 eQ=>[(3,.vl 1 eQ 0 l9.length)]) (fun l9 eQ=>⟨Hr l9 eQ p1.Nodes,2⟩)) O (nD ?_) ?_;intro l9 eQ O;unfold se at O;refine go ?_;obtain rfl:=sI O;exact rT (us:=[.vl 1 eQ 0 l9.length]) (u:=.iM (cI .i64) l9) (dT rfl (eD)) (fR 1 1);intro m1 z6 l7 t8 O;unfold OG at O;refine gG O ?_ ?_<;>intro jS O;obtain⟨qA,eB,O⟩:=aI O;refine go ?_;refine c8 eB ?_;obtain⟨vX,lU,O⟩:=aI O;obtain⟨qL,O⟩:=c6 O;refine gI lU ?_;refine c5 ?_;refine aY (u:=.vl 1 (t8+1) 0 ((l7++[vX.Typex,(qA.Arcs.length:Int)]).length)) (V':=⟨(2,.row [.i6 vX.Typex,.i6 (qA.Arcs.length:Int)] 3)::Hr (l7++[vX.Typex,(qA.Arcs.length:Int)]) (t8+1) p1.Nodes,3⟩) rfl (pR rfl rfl rfl rfl (DN (cI .i64) ([vX.Typex,(qA.Arcs.length:Int)]) cU.h cU.h iF.h rfl (mB .i64) rfl (FD (cI .i64) [vX.Typex,(qA.Arcs.length:Int)] rfl rfl rfl rfl) qL)) ?_;refine go ?_;refine nM (a3:=(t8+1)) (fun m z25 E2 _=>Jn z6 (OG p1 n m1) qA m z25 E2) (fun z25 E2 Fu=>[(1,.ptr 0 0 0),(3,.vl 1 Fu 0 E2.length),(4,.i6 z6),(5,.iM bF qA.Arcs),(6,.i6 z25)]) (fun _ E2 Fu=>⟨(2,.row [.i6 vX.Typex,.i6 (qA.Arcs.length:Int)] 3)::Hr E2 Fu p1.Nodes,3⟩) (lE (fun bU _=>sd z6 (OG p1 n m1) bU) (fun bU iX=>[(1,.ptr 0 0 0),(3,.vl 1 iX 0 bU.length),(4,.i6 z6)]) (fun bU iX=>⟨(2,.row [.i6 vX.Typex,.i6 (qA.Arcs.length:Int)] 3)::Hr bU iX p1.Nodes,3⟩)) O (nD ?_) ?_;intro bU iX O;unfold sd at O;exact wx O;intro m2 z25 E2 Fu O;unfold Jn at O;refine gG O ?_ ?_<;>intro tS O;obtain⟨lH,oF,pZ,nL,O⟩:=bO O;obtain⟨rQ,O⟩:=c6 O;refine go ?_;refine dE [(0,11)] ?_;refine gJ oF ?_;refine dX nL ?_;refine gd ?_;refine eN ?_;refine RD.act (u:=.vl 1 (Fu+1) 0 ((E2++[lH.Feat,pZ.To]).length)) (V':=⟨(3,.row [.i6 lH.Feat,.i6 pZ.To] 3)::(2,.row [.i6 vX.Typex,.i6 (qA.Arcs.length:Int)] 3)::Hr (E2++[lH.Feat,pZ.To]) (Fu+1) p1.Nodes,4⟩) rfl (pR rfl rfl rfl rfl (DN (cI .i64) ([lH.Feat,pZ.To]) cU.h cU.h iF.h rfl (mB .i64) rfl (FD (cI .i64) [lH.Feat,pZ.To] rfl rfl rfl rfl) rQ)) rfl rfl ?_;refine gd ?_;refine bD ⟨by kernel_rfl,⟨oD rfl,trivial⟩,?_⟩;exact wx O;exact wx O;exact wx O
def Sn: Y (Int):=
 some 0
def Jo(r3:(X Int))(r5:(X Int)):Nat->Int->Y (Int)
 |0,_=>none|m1+1,eJ=>a8 (cond (decide (eJ<(r3.length:Int))) (some (decide (eJ<(r5.length:Int)))) (some false)) fun D2=>cond D2 (a8 (aB r3 eJ) fun MN=>a8 (aB r5 eJ) fun MM=>cond (decide (MN<MM)) (some (-1)) (a8 (aB r3 eJ) fun oY=>a8 (aB r5 eJ) fun Lu=>cond (decide (oY>Lu)) (some 1) ((Jo r3 r5 m1) (IntKind.i64.wrap (eJ+1))))) (Sn)
def Re(n:Nat)(p1:GFS)(p2:GFS):Y (Int):=
 a8 (Iv n p1) fun r3=>
 a8 (Iv n p2) fun r5=>
 Jo r3 r5 n 0
theorem qm0(n:Nat)(p1:GFS)(p2:GFS)(r:Int)(O:Re n p1 p2=some r):cY prog 44 [.agg [.isl false (p1.Nodes.map b7)],.agg [.isl false (p2.Nodes.map b7)]] (.int .i64 r):=by unfold Re at O;refine eM 42 Yq ?_;obtain⟨r3,h4,O⟩:=aI O;refine go ?_;refine aK rfl (pC (qfd n p1 r3 h4) _) Dq ?_;obtain⟨r5,h6,O⟩:=aI O;refine go ?_;refine aK rfl (pC (qfd n p2 r5 h6) _) Dq ?_;refine go ?_;refine oH (Jo r3 r5) (fun eJ=>[(5,.iM (cI .i64) r3),(6,.iM (cI .i64) r5),(7,.i6 eJ)]) (fun _=>⟨[(1,.row [.iM b7 p2.Nodes] 39),(0,.row [.iM b7 p1.Nodes] 39)],2⟩) (pL Sn [] ⟨[(1,.row [.iM b7 p2.Nodes] 39),(0,.row [.iM b7 p1.Nodes] 39)],2⟩) O (rY ?_) ?_;intro O;unfold Sn at O;exact gx O;intro m1 eJ O;unfold Jo at O;obtain⟨D2,lU,O⟩:=aI O;refine gn ?_;refine nE [(5,.iM (cI .i64) r3),(6,.iM (cI .i64) r5),(7,.i6 eJ),(21,.bool D2)] ⟨[(1,.row [.iM b7 p2.Nodes] 39),(0,.row [.iM b7 p1.Nodes] 39)],2⟩ ?_ ?_;refine gG O ?_ ?_<;>intro qL O;obtain⟨MN,dO,MM,tE,O⟩:=bO O;refine go ?_;refine dE [] ?_;refine gJ dO ?_;refine dX tE ?_;refine gd ?_;refine bD ⟨by kernel_rfl,trivial,?_⟩;refine gF O ?_ ?_<;>intro tT O;exact gx O;obtain⟨oY,tD,Lu,IQ,O⟩:=bO O;refine go ?_;refine dE [] ?_;refine gJ tD ?_;refine dX IQ ?_;refine gd ?_;refine bD ⟨by kernel_rfl,trivial,?_⟩;refine gF O ?_ ?_<;>intro o3 O;exact gx O;exact wx O;exact wx O;refine go ?_;rcases gB lU with⟨eB,lU⟩|⟨eB,lU⟩;exact gy lU;exact gy lU
def NU(n:Nat)(p1:GFS)(p2:GFS):Y (DC):=
 a8 (Re n p1 p2) fun r3=>some (r3==0)
theorem y?(n:Nat)(p1:GFS)(p2:GFS)(r:DC)(O:NU n p1 p2=some r):cY prog 20 [.agg [.isl false (p1.Nodes.map b7)],.agg [.isl false (p2.Nodes.map b7)]] (.bool r):=by unfold NU at O;refine eM 9 PZ ?_;obtain⟨r3,h4,O⟩:=aI O;refine go ?_;refine aK rfl (pC (qm0 n p1 p2 r3 h4) _) Yq ?_;exact gx O
def Hj(n:Nat)(p1:X aO):Y (GFS):=
 some (GFS.mk p1)
theorem vd(n:Nat)(p1:X aO)(r:GFS)(O:Hj n p1=some r):cY prog 35 [.isl false (p1.map b7)] (.agg [.isl false (r.Nodes.map b7)]):=by unfold Hj at O;refine lD 5 IT ?_;refine go ?_;obtain rfl:=sI O;exact rT (nG (kJ fT.h rfl (bB gZ.h) rfl rfl rfl) (eD)) (uU _ rfl)
def D?(p1:Int)(fQ:X aR):Y (aO):=
 some (aO.mk p1 fQ)
def lh(p1:Int)(p2:X Int):Nat->Int->(X aR)->Y (aO)
 |0,_,_=>none|m1+1,z9,l10=>
  cond (decide ((IntKind.i64.wrap (z9+1))<(p2.length:Int))) (a8 (aB p2 z9) fun tF=>
   a8 (aB p2 (IntKind.i64.wrap (z9+1))) fun MN=>
   aF ((l10.length+1)*16<=140737488355328/\l10.length+1<=140737488355328) ((lh p1 p2 m1) (IntKind.i64.wrap (z9+2)) (l10++[(aR.mk tF MN)]))) (D? p1 l10)
def L6(n:Nat)(p1:Int)(p2:X Int):Y (aO):=
 lh p1 p2 n 0 ([]:X aR)
theorem SC(n:Nat)(p1:Int)(p2:X Int)(r:aO)(O:L6 n p1 p2=some r):cY prog 36 [.int .i64 p1,.isl false (p2.map (cI .i64))] (.agg (b7 r)):=by unfold L6 at O;refine eM 32 uR ?_;refine gr ?_;refine gr ?_;refine gr ?_;refine dF (tm':=fr 32 [(1,.iM (cI .i64) p2),(4,.ptr 0 0 0),(5,.ptr 1 0 0),(6,.i6 0)]) (V':=⟨[(2,.bv bF ([]:X aR) 105 2 0),(1,.row [.i6 p1,.vl 2 0 0 (([]:X aR).length)] 79),(0,.row [.i6 0,.nils] 79)],3⟩) (Gh.trans (BP 1 1 105 2 qq3 NZ rfl rfl) (D7 ⟨rfl,rfl,rfl,rfl,trivial⟩ rfl)) NZ ?_;refine nM (a3:=0) (fun m z9 l10 _=>lh p1 p2 m z9 l10) (fun z9 _ _=>[(1,.iM (cI .i64) p2),(4,.ptr 0 0 0),(5,.ptr 1 0 0),(6,.i6 z9)]) (fun _ l10 sE=>⟨[(2,.bv bF l10 105 2 sE),(1,.row [.i6 p1,.vl 2 sE 0 l10.length] 79),(0,.row [.i6 0,.nils] 79)],3⟩) (lE (fun fQ _=>D? p1 fQ) (fun _ _=>[(4,.ptr 0 0 0),(5,.ptr 1 0 0)]) (fun fQ mU=>⟨[(2,.bv bF fQ 105 2 mU),(1,.row [.i6 p1,.vl 2 mU 0 fQ.length] 79),(0,.row [.i6 0,.nils] 79)],3⟩)) O (nD ?_) ?_;intro fQ mU O;unfold D? at O;refine go ?_;obtain rfl:=sI O;exact rT (us:=[.agg [.i6 p1,.vl 2 mU 0 fQ.length]]) (u:=.agg [.i6 p1,.iM bF fQ]) (nG (kJ u7.h rfl (bB mX.h) rfl rfl rfl) (eD)) (fR 2 2);intro m1 z9 l10 sE O;unfold lh at O;refine gG O ?_ ?_<;>intro i5 O;obtain⟨tF,qL,MN,dO,O⟩:=bO O;obtain⟨kD,O⟩:=c6 O;refine go ?_;refine dE [(0,12),(1,12)] ?_;refine gJ qL ?_;refine dX dO ?_;refine gd ?_;refine eN ?_;refine eN ?_;refine gd ?_;refine qM ?_;refine bD ⟨by kernel_rfl,⟨pP u7.h rfl (bB lO.h) rfl rfl rfl,⟨yM fS.h rfl rfl rfl rfl,trivial⟩⟩,?_⟩;exact wx O;exact wx O
end Go.Proofs
