import Derived.Test.YtldlchbgolpkaaaGreatP12
set_option linter.all false
namespace Go.Proofs
open Go Go.Rx Go.Vx Tryz
instance:TbP prog Tryz.tb:=⟨tb_ok⟩
set_option maxRecDepth 20000
set_option maxHeartbeats 4000000
set_option synthInstance.maxSize 4000
set_option synthInstance.maxHeartbeats 200000
structure lN where
 Feat:Int
 Value:Int
def sD(x:lN):List U:=[.int .i64 x.Feat,.int .i64 x.Value]
instance{a0:Int}{a1:Int}:DeC sD [.int .i64 a0,.int .i64 a1] (lN.mk a0 a1):=⟨rfl⟩
theorem ql2(n:Nat)(x:lN):aN n (sD x):=by
 simp only[sD,aN,b7,true_and,and_true]
theorem qsg(x:lN):(sD x).length=2:=rfl
instance:fZ sD 2:=⟨qsg⟩
instance:BF sD:=⟨ql2⟩
structure cV where
 Name:List UInt8
 Code:List Int
 Supers:List Int
 Feats:List lN
def fP(x:cV):List U:=[.str x.Name,.isl false (x.Code.map (cI .u64)),.isl false (x.Supers.map (cI .i64)),.isl false (x.Feats.map sD)]
instance{a0:List UInt8}{a1:List Int}{a2:List Int}{a3:List lN}:DeC fP [.str a0,.isl false (a1.map (cI .u64)),.isl false (a2.map (cI .i64)),.isl false (a3.map sD)] (cV.mk a0 a1 a2 a3):=⟨rfl⟩
theorem gp(n:Nat)(x:cV):aN n (fP x):=by
 simp only[fP,aN,b7,true_and,and_true];exact⟨yR _ (fun q=>Wg _ .u64 q) _,yR _ (fun q=>Wg _ .i64 q) _,yR _ (fun q=>ql2 _ q) _⟩
theorem gf(x:cV):(fP x).length=4:=rfl
instance:fZ fP 4:=⟨gf⟩
instance:BF fP:=⟨gp⟩
instance(n:Nat)(x:cV):fD n (fP x):=⟨gp n x⟩
structure dK where
 Name:List UInt8
 Intro:Int
def gX(x:dK):List U:=[.str x.Name,.int .i64 x.Intro]
instance{a0:List UInt8}{a1:Int}:DeC gX [.str a0,.int .i64 a1] (dK.mk a0 a1):=⟨rfl⟩
theorem qis(n:Nat)(x:dK):aN n (gX x):=by
 simp only[gX,aN,b7,true_and,and_true]
theorem qq2(x:dK):(gX x).length=2:=rfl
instance:fZ gX 2:=⟨qq2⟩
instance:BF gX:=⟨qis⟩
structure dW where
 Types:List cV
 Feats:List dK
def iG(x:dW):List U:=[.isl false (x.Types.map fP),.isl false (x.Feats.map gX)]
theorem qml(n:Nat)(x:dW):aN n (iG x):=by
 simp only[iG,aN,b7,true_and,and_true];exact⟨yR _ (fun q=>gp _ q) _,yR _ (fun q=>qis _ q) _⟩
theorem qn8(x:dW):(iG x).length=2:=rfl
instance:fZ iG 2:=⟨qn8⟩
instance(n:Nat)(x:dW):fD n (iG x):=⟨qml n x⟩
structure nS where
 Feat:List UInt8
 Value:List UInt8
def kP(x:nS):List U:=[.str x.Feat,.str x.Value]
instance{a0:List UInt8}{a1:List UInt8}:DeC kP [.str a0,.str a1] (nS.mk a0 a1):=⟨rfl⟩
theorem qhq(n:Nat)(x:nS):aN n (kP x):=by
 simp only[kP,aN,b7,true_and,and_true]
theorem qoe(x:nS):(kP x).length=2:=rfl
instance:fZ kP 2:=⟨qoe⟩
instance:BF kP:=⟨qhq⟩
structure bG where
 Name:List UInt8
 Supers:List (List UInt8)
 Feats:List nS
def bQ(x:bG):List U:=[.str x.Name,.isl false (x.Supers.map cS),.isl false (x.Feats.map kP)]
theorem qhr(n:Nat)(x:bG):aN n (bQ x):=by
 simp only[bQ,aN,b7,true_and,and_true];exact⟨yR _ (fun q=>H_ _ q) _,yR _ (fun q=>qhq _ q) _⟩
theorem qof(x:bG):(bQ x).length=3:=rfl
instance:fZ bQ 3:=⟨qof⟩
instance:BF bQ:=⟨qhr⟩
instance(n:Nat)(x:bG):fD n (bQ x):=⟨qhr n x⟩
structure dG where
 Name:List UInt8
 Code:List Int
instance:Inhabited dG:=⟨.mk default default⟩
def fE(x:dG):List U:=[.str x.Name,.isl false (x.Code.map (cI .u64))]
instance{a0:List UInt8}{a1:List Int}:DeC fE [.str a0,.isl false (a1.map (cI .u64))] (dG.mk a0 a1):=⟨rfl⟩
theorem qmk(n:Nat)(x:dG):aN n (fE x):=by
 simp only[fE,aN,b7,true_and,and_true];exact yR _ (fun q=>Wg _ .u64 q) _
theorem PV(x:dG):(fE x).length=2:=rfl
instance:fZ fE 2:=⟨PV⟩
instance:BF fE:=⟨qmk⟩
instance(n:Nat)(x:dG):fD n (fE x):=⟨qmk n x⟩
structure aF where
 Feat:Int
 To:Int
def aQ(x:aF):List U:=[.int .i64 x.Feat,.int .i64 x.To]
instance{a0:Int}{a1:Int}:DeC aQ [.int .i64 a0,.int .i64 a1] (aF.mk a0 a1):=⟨rfl⟩
theorem Kp(n:Nat)(x:aF):aN n (aQ x):=by
 simp only[aQ,aN,b7,true_and,and_true]
theorem lH(x:aF):(aQ x).length=2:=rfl
instance:fZ aQ 2:=⟨lH⟩
instance:BF aQ:=⟨Kp⟩
instance(n:Nat)(x:aF):fD n (aQ x):=⟨Kp n x⟩
structure aT where
 Typex:Int
 Arcs:List aF
def bM(x:aT):List U:=[.int .i64 x.Typex,.isl false (x.Arcs.map aQ)]
instance{a0:Int}{a1:List aF}:DeC bM [.int .i64 a0,.isl false (a1.map aQ)] (aT.mk a0 a1):=⟨rfl⟩
instance{a0:Int}:DeC bM [.int .i64 a0,.isl false []] (aT.mk a0 []):=⟨rfl⟩
theorem La(n:Nat)(x:aT):aN n (bM x):=by
 simp only[bM,aN,b7,true_and,and_true];exact yR _ (fun q=>Kp _ q) _
theorem Ct(x:aT):(bM x).length=2:=rfl
instance:fZ bM 2:=⟨Ct⟩
instance:BF bM:=⟨La⟩
instance(n:Nat)(x:aT):fD n (bM x):=⟨La n x⟩
structure GFS where
 Nodes:List aT
def jJ(x:GFS):List U:=[.isl false (x.Nodes.map bM)]
theorem z2v(n:Nat)(x:GFS):aN n (jJ x):=by
 simp only[jJ,aN,b7,true_and,and_true];exact yR _ (fun q=>La _ q) _
theorem qvw(x:GFS):(jJ x).length=1:=rfl
instance:fZ jJ 1:=⟨qvw⟩
instance:BF jJ:=⟨z2v⟩
instance:xB Tryz.tb 27 [.nils,.nils] [(0,1),(1,1)]:=⟨y9 uE.h CZ.h rfl (by kernel_rfl)⟩
instance:xB Tryz.tb 40 [.nils] [(0,1)]:=⟨y9 jV.h lO.h rfl (by kernel_rfl)⟩
instance:xB Tryz.tb 78 [.int .i64 0,.nils] [(0,1),(1,1)]:=⟨y9 C2.h uL.h rfl (by kernel_rfl)⟩
instance:xB Tryz.tb 98 [.int .i64 0,.int .i64 0] [(0,1),(1,1)]:=⟨y9 uC.h eR.h rfl (by kernel_rfl)⟩
instance Ug:xB Tryz.tb 128 [.str [],.nils] [(0,1),(1,1)]:=⟨y9 OF.h qP.h rfl (by kernel_rfl)⟩
instance:xB Tryz.tb 132 [.str [],.nils,.nils,.nils] [(0,1),(1,1),(2,1),(3,1)]:=⟨y9 FN.h GU.h rfl (by kernel_rfl)⟩
instance:xB Tryz.tb 138 [.str [],.nils,.nils] [(0,1),(1,1),(2,1)]:=⟨y9 vX.h wI.h rfl (by kernel_rfl)⟩
instance:xB Tryz.tb 141 [.str [],.str []] [(0,1),(1,1)]:=⟨y9 Hm.h QQ.h rfl (by kernel_rfl)⟩
instance:xB Tryz.tb 176 [.int .i64 0,.int .i64 0] [(0,1),(1,1)]:=⟨y9 Hl.h Pn.h rfl (by kernel_rfl)⟩
instance:xB Tryz.tb 187 [.str [],.int .i64 0] [(0,1),(1,1)]:=⟨y9 Hk.h Pm.h rfl (by kernel_rfl)⟩
abbrev PJ(a)(b:Nat):=([(1,.bv (cL (cI .u64)) a 126 1 b),(0,.row [] 126)]:List (Nat×B))
abbrev m6(a)(b:Nat):=([(0,.bv cS a 9 1 b)]:List (Nat×B))
abbrev Cj(a)(b:Nat)(c):=([(1,.bv (cI .i64) a 3 1 b),(0,.row [.iM bM c] 40)]:List (Nat×B))
abbrev CN(a)(b:Nat):=([(0,.bv (cI .i64) a 3 1 b)]:List (Nat×B))
abbrev Ci:=([(0,.row [.str [],.nils,.nils] 138)]:List (Nat×B))
abbrev Jw(a:U)(b)(c)(d:Nat):=([(2,.row [a,.iM (cI .u64) b] 128),(1,.bv fE c 128 2 d)]:List (Nat×B))
abbrev qvo:=([(1,.row [.str ([70]),.str ([116,111,112]),.str ([71]),.str ([116,111,112])] 141),(0,.row [.nils,.nils] 27)]:List (Nat×B))
def qc: Option (Int):=
 some 0
def W3(p1:List bG):Nat->Int->Option (Int)
 |0,_=>none|m1+1,z5=>cond (decide (z5<(p1.length:Int))) (a8 (a8 (aB p1 z5) fun x7=>cond (decide ((x7.Supers.length:Int)>256)) (some true) (a8 (aB p1 z5) fun mT=>some (decide ((mT.Feats.length:Int)>256)))) fun ID=>cond ID (some 7) ((W3 p1 m1) (IntKind.i64.wrap (z5+1)))) (qc)
def Lh(n:Nat)(p1:List bG):Option (Int):=
 cond (decide ((p1.length:Int)>256)) (some 7) (W3 p1 n 0)
theorem qqn(n:Nat)(p1:List bG)(r:Int)(J:Lh n p1=some r):dF prog 122 [.isl false (p1.map bQ)] (.int .i64 r):=by
 unfold Lh at J;refine kH 29 S9 ?_;refine gF J ?_ ?_<;>intro h2 J;exact gx J;refine go ?_;refine gL (fun m tm O=>∃z5,W3 p1 m z5=some r/\tm=fr 29 [(0,.iM bQ p1),(3,.i6 z5)]/\O=⟨[],0⟩) (fun tm O=>qc=some r/\tm=fr 29 []/\O=⟨[],0⟩) n ⟨0,J,rfl,rfl⟩ ?_ ?_;rintro _ _ ⟨J,rfl,rfl⟩;unfold qc at J;exact gx J;rintro(_|m1) _ _ ⟨z5,J,rfl,rfl⟩;cases J;unfold W3 at J;refine gF J ?_ ?_<;>intro h6 J;refine go ?_;apply aV;obtain⟨ID,dQ,J⟩:=aC J;refine gn ?_;refine dL (fun tm O=>tm=fr 29 [(0,.iM bQ p1),(3,.i6 z5),(28,.bool ID)]/\O=⟨[],0⟩) ?_ ?_;rintro _ _ ⟨rfl,rfl⟩;refine gF J ?_ ?_<;>intro gT J;exact gx J;refine go ?_;exact lC ⟨_,J,rfl,rfl⟩;obtain⟨x7,h8,dQ⟩:=aC dQ;refine go ?_;refine aZ h8 ?_;refine go ?_;rcases gB dQ with⟨h9,dQ⟩|⟨h9,dQ⟩;exact gy dQ;obtain⟨mT,iZ,dQ⟩:=aC dQ;obtain rfl:=sI dQ;refine go ?_;refine aZ iZ ?_;refine go ?_;exact xC ⟨rfl,rfl⟩;refine go ?_;exact xC ⟨J,rfl,rfl⟩
def VP(n:Nat)(p1:Int):Option (Bool):=
 a8 (cond (decide (p1>=48)) (some (decide (p1<=57))) (some false)) fun b3=>some b3
theorem qjk(n:Nat)(p1:Int)(r:Bool)(J:VP n p1=some r):dF prog 171 [.int .u8 p1] (.bool r):=by
 unfold VP at J;refine kH 9 HT ?_;obtain⟨b3,h4,J⟩:=aC J;refine gr ?_;refine dL (fun tm O=>tm=fr 9 [(2,.bool b3)]/\O=⟨[],0⟩) ?_ ?_;rintro _ _ ⟨rfl,rfl⟩;exact gx J;refine go ?_;rcases gB h4 with⟨h2,h4⟩|⟨h2,h4⟩;exact gy h4;exact gy h4
def Ym(n:Nat)(p1:Int):Option (Bool):=
 a8 (cond (decide (p1>=65)) (some (decide (p1<=90))) (some false)) fun b3=>some b3
theorem qqf(n:Nat)(p1:Int)(r:Bool)(J:Ym n p1=some r):dF prog 174 [.int .u8 p1] (.bool r):=by
 unfold Ym at J;refine kH 9 RN ?_;obtain⟨b3,h4,J⟩:=aC J;refine gr ?_;refine dL (fun tm O=>tm=fr 9 [(2,.bool b3)]/\O=⟨[],0⟩) ?_ ?_;rintro _ _ ⟨rfl,rfl⟩;exact gx J;refine go ?_;rcases gB h4 with⟨h2,h4⟩|⟨h2,h4⟩;exact gy h4;exact gy h4
def Ln(n:Nat)(p1:Int):Option (Bool):=
 a8 (cond (decide (p1>=97)) (some (decide (p1<=122))) (some false)) fun b3=>some b3
theorem qjl(n:Nat)(p1:Int)(r:Bool)(J:Ln n p1=some r):dF prog 175 [.int .u8 p1] (.bool r):=by
 unfold Ln at J;refine kH 9 HS ?_;obtain⟨b3,h4,J⟩:=aC J;refine gr ?_;refine dL (fun tm O=>tm=fr 9 [(2,.bool b3)]/\O=⟨[],0⟩) ?_ ?_;rintro _ _ ⟨rfl,rfl⟩;exact gx J;refine go ?_;rcases gB h4 with⟨h2,h4⟩|⟨h2,h4⟩;exact gy h4;exact gy h4
def Kw(n:Nat)(p1:Int)(p2:Bool):Option (Bool):=
 a8 (a8 (VP n p1) fun r3=>cond r3 (some true) (cond (p1==45) (some true) (cond p2 (a8 (Ym n p1) fun r8=>cond r8 (some true) (cond (!p2) (a8 (Ln n p1) fun fI=>some fI) (some false))) (cond (!p2) (a8 (Ln n p1) fun uH=>some uH) (some false))))) fun wZ=>some wZ
theorem qsz(n:Nat)(p1:Int)(p2:Bool)(r:Bool)(J:Kw n p1 p2=some r):dF prog 172 [.int .u8 p1,.bool p2] (.bool r):=by
 unfold Kw at J;refine gO 26 RO ?_;obtain⟨wZ,dP,J⟩:=aC J;refine gr ?_;refine dL (fun tm O=>tm=fr 26 [(4,.bool wZ)]/\O=⟨[],0⟩) ?_ ?_;rintro _ _ ⟨rfl,rfl⟩;exact gx J;obtain⟨r3,h4,dP⟩:=aC dP;refine go ?_;refine aP rfl (pC (qjk n p1 r3 h4) _) HT ?_;refine go ?_;rcases gB dP with⟨h5,dP⟩|⟨h5,dP⟩;obtain rfl:=sI dP;refine go ?_
 repeat refine RS.no (CF rfl rfl rfl) rfl rfl ?_
 refine go ?_
 repeat refine RS.no (CF rfl rfl rfl) rfl rfl ?_
 refine go ?_;exact xC ⟨rfl,rfl⟩;refine go ?_;rcases gB dP with⟨h6,dP⟩|⟨h6,dP⟩;obtain rfl:=sI dP;refine go ?_
 repeat refine RS.no (CF rfl rfl rfl) rfl rfl ?_
 refine go ?_
 repeat refine RS.no (CF rfl rfl rfl) rfl rfl ?_
 refine go ?_;exact xC ⟨rfl,rfl⟩;refine go ?_;rcases gB dP with⟨h7,dP⟩|⟨h7,dP⟩;obtain⟨r8,h9,dP⟩:=aC dP;refine go ?_;refine aP rfl (pC (qqf n p1 r8 h9) _) RN ?_;refine go ?_;rcases gB dP with⟨eY,dP⟩|⟨eY,dP⟩;obtain rfl:=sI dP;refine go ?_
 repeat refine RS.no (CF rfl rfl rfl) rfl rfl ?_
 refine go ?_;exact xC ⟨rfl,rfl⟩;refine go ?_;rcases gB dP with⟨iZ,dP⟩|⟨iZ,dP⟩;obtain⟨fI,dQ,dP⟩:=aC dP;obtain rfl:=sI dP;refine go ?_;refine aP rfl (pC (qjl n p1 fI dQ) _) HS ?_;refine go ?_;exact xC ⟨rfl,rfl⟩;exact gy dP;refine go ?_;rcases gB dP with⟨gT,dP⟩|⟨gT,dP⟩;obtain⟨uH,rF,dP⟩:=aC dP;obtain rfl:=sI dP;refine go ?_;refine aP rfl (pC (qjl n p1 uH rF) _) HS ?_;refine go ?_;exact xC ⟨rfl,rfl⟩;exact gy dP
def qt: Option (Bool):=
 some true
def W7(p1:List UInt8)(p2:Bool)(n:Nat):Nat->Int->Option (Bool)
 |0,_=>none|m1+1,eF=>cond (decide (eF<(p1.length:Int))) (a8 (UL p1 eF) fun jD=>a8 (Kw n jD p2) fun pW=>cond (!pW) (some false) ((W7 p1 p2 n m1) (IntKind.i64.wrap (eF+1)))) (qt)
def Da(n:Nat)(p1:List UInt8)(p2:Bool):Option (Bool):=
 a8 (cond (decide ((p1.length:Int)<1)) (some true) (cond (decide ((p1.length:Int)>32)) (some true) (a8 (UL p1 0) fun x5=>a8 (VP n x5) fun r7=>cond r7 (some true) (a8 (UL p1 0) fun mT=>some (mT==45))))) fun ID=>cond ID (some false) (W7 p1 p2 n n 0)
theorem qjm(n:Nat)(p1:List UInt8)(p2:Bool)(r:Bool)(J:Da n p1 p2=some r):dF prog 165 [.str p1,.bool p2] (.bool r):=by
 unfold Da at J;refine gO 36 HU ?_;obtain⟨ID,dQ,J⟩:=aC J;refine gr ?_;refine dL (fun tm O=>tm=fr 36 [(0,.str p1),(1,.bool p2),(23,.bool ID)]/\O=⟨[],0⟩) ?_ ?_;rintro _ _ ⟨rfl,rfl⟩;refine gF J ?_ ?_<;>intro gT J;exact gx J;refine go ?_;refine gL (fun m tm O=>∃eF,W7 p1 p2 n m eF=some r/\tm=fr 36 [(0,.str p1),(1,.bool p2),(5,.i6 eF)]/\O=⟨[],0⟩) (fun tm O=>qt=some r/\tm=fr 36 []/\O=⟨[],0⟩) n ⟨0,J,rfl,rfl⟩ ?_ ?_;rintro _ _ ⟨J,rfl,rfl⟩;unfold qt at J;exact gx J;rintro(_|m1) _ _ ⟨eF,J,rfl,rfl⟩;cases J;unfold W7 at J;refine go ?_;refine aL (u:=.i6 (p1.length:Int)) rfl (JC rfl rfl rfl (by simp only[lenU,IZ.h])) ?_;refine gF J ?_ ?_<;>intro iB J;refine go ?_;apply aV;obtain⟨jD,kF,J⟩:=aC J;obtain⟨pW,mQ,J⟩:=aC J;refine go ?_;refine aL (u:=.int .u8 jD) rfl (mj IZ.h rfl rfl kF) ?_;refine go ?_;refine aP rfl (pC (qsz n jD p2 pW mQ) _) RO ?_;refine gF J ?_ ?_<;>intro nZ J;exact gx J;refine go ?_;exact lC ⟨_,J,rfl,rfl⟩;refine go ?_;exact xC ⟨J,rfl,rfl⟩;refine go ?_;refine aL (u:=.i6 (p1.length:Int)) rfl (JC rfl rfl rfl (by simp only[lenU,IZ.h])) ?_;refine go ?_;rcases gB dQ with⟨h3,dQ⟩|⟨h3,dQ⟩;exact gy dQ;refine go ?_;refine RS.w (u:=.i6 (p1.length:Int)) rfl (JC rfl rfl rfl (by simp only[lenU,IZ.h])) ?_;refine go ?_;rcases gB dQ with⟨h4,dQ⟩|⟨h4,dQ⟩;exact gy dQ;obtain⟨x5,h6,dQ⟩:=aC dQ;obtain⟨r7,h8,dQ⟩:=aC dQ;refine go ?_;refine RS.w (u:=.int .u8 x5) rfl (mj IZ.h rfl rfl h6) (aP rfl (pC (qjk n x5 r7 h8) _) HT ?_);refine go ?_;rcases gB dQ with⟨h9,dQ⟩|⟨h9,dQ⟩;exact gy dQ;obtain⟨mT,iZ,dQ⟩:=aC dQ;obtain rfl:=sI dQ;refine go ?_;refine RS.w (u:=.int .u8 mT) rfl (mj IZ.h rfl rfl iZ) ?_;refine go ?_;exact xC ⟨rfl,rfl⟩
def Kx(n:Nat)(p1:List UInt8):Option (Bool):=
 a8 (Da n p1 false) fun r2=>some r2
theorem qsy(n:Nat)(p1:List UInt8)(r:Bool)(J:Kx n p1=some r):dF prog 147 [.str p1] (.bool r):=by
 unfold Kx at J;refine kH 5 RX ?_;obtain⟨r2,h3,J⟩:=aC J;refine go ?_;refine aP rfl (pC (qjm n p1 false r2 h3) _) HU ?_;exact gx J
def Zl: Option (Int):=
 some (-1)
def VU(p1:List bG)(p2:List UInt8):Nat->Int->Option (Int)
 |0,_=>none|m1+1,z6=>cond (decide (z6<(p1.length:Int))) (a8 (aB p1 z6) fun x8=>cond (kO x8.Name p2) (some z6) ((VU p1 p2 m1) (IntKind.i64.wrap (z6+1)))) (Zl)
def G7(n:Nat)(p1:List bG)(p2:List UInt8):Option (Int):=
 VU p1 p2 n 0
theorem Dg(n:Nat)(p1:List bG)(p2:List UInt8)(r:Int)(J:G7 n p1 p2=some r):dF prog 148 [.isl false (p1.map bQ),.str p2] (.int .i64 r):=by
 unfold G7 at J;refine gO 20 rH ?_;refine go ?_;refine gL (fun m tm O=>∃z6,VU p1 p2 m z6=some r/\tm=fr 20 [(0,.iM bQ p1),(1,.str p2),(5,.i6 z6)]/\O=⟨[],0⟩) (fun tm O=>Zl=some r/\tm=fr 20 []/\O=⟨[],0⟩) n ⟨0,J,rfl,rfl⟩ ?_ ?_;rintro _ _ ⟨J,rfl,rfl⟩;unfold Zl at J;exact gx J;rintro(_|m1) _ _ ⟨z6,J,rfl,rfl⟩;cases J;unfold VU at J;refine gF J ?_ ?_<;>intro h7 J;refine go ?_;apply aV;obtain⟨x8,h9,J⟩:=aC J;refine go ?_;refine aZ h9 ?_;refine go ?_;refine aL (u:=.bool (kO x8.Name p2)) rfl (EH rfl rfl rfl rfl) ?_;refine gF J ?_ ?_<;>intro eY J;exact gx J;refine go ?_;exact lC ⟨_,J,rfl,rfl⟩;refine go ?_;exact xC ⟨J,rfl,rfl⟩
def qe: Option (Int):=
 some 0
def W5(p1:List bG)(n:Nat):Nat->Int->Option (Int)
 |0,_=>none|m1+1,z4=>cond (decide (z4<(p1.length:Int))) (a8 (aB p1 z4) fun x6=>a8 (Kx n x6.Name) fun r8=>cond (!r8) (some 1) (a8 (aB p1 z4) fun j9=>a8 (G7 n p1 j9.Name) fun gD=>cond (decide (gD<z4)) (some 4) ((W5 p1 n m1) (IntKind.i64.wrap (z4+1))))) (qe)
def Yk(n:Nat)(p1:List bG):Option (Int):=
 W5 p1 n n 0
theorem qql(n:Nat)(p1:List bG)(r:Int)(J:Yk n p1=some r):dF prog 123 [.isl false (p1.map bQ)] (.int .i64 r):=by
 unfold Yk at J;refine kH 26 S8 ?_;refine go ?_;refine gL (fun m tm O=>∃z4,W5 p1 n m z4=some r/\tm=fr 26 [(0,.iM bQ p1),(3,.i6 z4)]/\O=⟨[],0⟩) (fun tm O=>qe=some r/\tm=fr 26 []/\O=⟨[],0⟩) n ⟨0,J,rfl,rfl⟩ ?_ ?_;rintro _ _ ⟨J,rfl,rfl⟩;unfold qe at J;exact gx J;rintro(_|m1) _ _ ⟨z4,J,rfl,rfl⟩;cases J;unfold W5 at J;refine gF J ?_ ?_<;>intro h5 J;refine go ?_;apply aV;obtain⟨x6,h7,J⟩:=aC J;obtain⟨r8,h9,J⟩:=aC J;refine go ?_;refine aZ h7 ?_;refine go ?_;refine aP rfl (pC (qsy n x6.Name r8 h9) _) RX ?_;refine gF J ?_ ?_<;>intro eY J;exact gx J;obtain⟨j9,eX,J⟩:=aC J;obtain⟨gD,gT,J⟩:=aC J;refine go ?_;refine aZ eX ?_;refine go ?_;refine aP rfl (pC (Dg n p1 j9.Name gD gT) _) rH ?_;refine gF J ?_ ?_<;>intro eD J;exact gx J;refine go ?_;exact lC ⟨_,J,rfl,rfl⟩;refine go ?_;exact xC ⟨J,rfl,rfl⟩
def qm: Option (Bool):=
 some false
def Dt(p1:List (List UInt8))(p2:List UInt8):Nat->Int->Option (Bool)
 |0,_=>none|m1+1,z6=>cond (decide (z6<(p1.length:Int))) (a8 (aB p1 z6) fun x8=>cond (kO x8 p2) (some true) ((Dt p1 p2 m1) (IntKind.i64.wrap (z6+1)))) (qm)
def EQ(n:Nat)(p1:List (List UInt8))(p2:List UInt8):Option (Bool):=
 Dt p1 p2 n 0
theorem M2(n:Nat)(p1:List (List UInt8))(p2:List UInt8)(r:Bool)(J:EQ n p1 p2=some r):dF prog 127 [.isl false (p1.map cS),.str p2] (.bool r):=by
 unfold EQ at J;refine gO 18 mD ?_;refine go ?_;refine gL (fun m tm O=>∃z6,Dt p1 p2 m z6=some r/\tm=fr 18 [(0,.iM cS p1),(1,.str p2),(5,.i6 z6)]/\O=⟨[],0⟩) (fun tm O=>qm=some r/\tm=fr 18 []/\O=⟨[],0⟩) n ⟨0,J,rfl,rfl⟩ ?_ ?_;rintro _ _ ⟨J,rfl,rfl⟩;unfold qm at J;exact gx J;rintro(_|m1) _ _ ⟨z6,J,rfl,rfl⟩;cases J;unfold Dt at J;refine gF J ?_ ?_<;>intro h7 J;refine go ?_;apply aV;obtain⟨x8,h9,J⟩:=aC J;refine go ?_;refine aZ h9 ?_;refine go ?_;refine aL (u:=.bool (kO x8 p2)) rfl (EH rfl rfl rfl rfl) ?_;refine gF J ?_ ?_<;>intro eY J;exact gx J;refine go ?_;exact lC ⟨_,J,rfl,rfl⟩;refine go ?_;exact xC ⟨J,rfl,rfl⟩
def zg(z4:Int)(rc1:Int->Option (Int)): Option (Int):=
 rc1 (IntKind.i64.wrap (z4+1))
def WB(p1:List bG)(n:Nat)(z4:Int)(rc1:Int->Option (Int))(x6:bG):Nat->Int->Option (Int)
 |0,_=>none|m2+1,eK=>
  cond (decide (eK<(x6.Supers.length:Int))) (a8 (aB x6.Supers eK) fun jU=>
   a8 (G7 n p1 jU) fun o5=>cond (decide (o5<0)) (some 5) (a8 (pI x6.Supers 0 eK) fun fL=>
    a8 (aB x6.Supers eK) fun v6=>
    a8 (EQ n fL v6) fun mU=>cond mU (some 4) ((WB p1 n z4 rc1 x6 m2) (IntKind.i64.wrap (eK+1))))) (zg z4 rc1)
def zh: Option (Int):=
 some 0
def JT(p1:List bG)(n:Nat):Nat->Int->Option (Int)
 |0,_=>none|m1+1,z4=>cond (decide (z4<(p1.length:Int))) (a8 (aB p1 z4) fun x6=>WB p1 n z4 (JT p1 n m1) x6 n 0) (zh)
def Yu(n:Nat)(p1:List bG):Option (Int):=
 JT p1 n n 0
theorem qok(n:Nat)(p1:List bG)(r:Int)(J:Yu n p1=some r):dF prog 124 [.isl false (p1.map bQ)] (.int .i64 r):=by
 unfold Yu at J;refine kH 38 S7 ?_;refine go ?_;refine gL (fun m tm O=>∃z4,JT p1 n m z4=some r/\tm=fr 38 [(0,.iM bQ p1),(3,.i6 z4)]/\O=⟨[],0⟩) (fun tm O=>zh=some r/\tm=fr 38 []/\O=⟨[],0⟩) n ⟨0,J,rfl,rfl⟩ ?_ ?_;rintro _ _ ⟨J,rfl,rfl⟩;unfold zh at J;exact gx J;rintro(_|m1) _ _ ⟨z4,J,rfl,rfl⟩;cases J;unfold JT at J;refine gF J ?_ ?_<;>intro h5 J;refine go ?_;apply aV;obtain⟨x6,h7,J⟩:=aC J;refine go ?_;refine aZ h7 ?_;refine go ?_;refine gL (fun m tm O=>∃eK,WB p1 n z4 (JT p1 n m1) x6 m eK=some r/\tm=fr 38 [(0,.iM bQ p1),(3,.i6 z4),(4,.iM cS x6.Supers),(5,.i6 eK)]/\O=⟨[],0⟩) (fun tm O=>zg z4 (JT p1 n m1)=some r/\tm=fr 38 [(0,.iM bQ p1),(3,.i6 z4)]/\O=⟨[],0⟩) n ⟨0,J,rfl,rfl⟩ ?_ ?_;rintro _ _ ⟨J,rfl,rfl⟩;unfold zg at J;refine go ?_;exact lC ⟨_,J,rfl,rfl⟩;rintro(_|m2) _ _ ⟨eK,J,rfl,rfl⟩;cases J;unfold WB at J;refine gF J ?_ ?_<;>intro dQ J;refine go ?_;apply aV;obtain⟨jU,eD,J⟩:=aC J;obtain⟨o5,fN,J⟩:=aC J;refine go ?_;refine aZ eD ?_;refine go ?_;refine aP rfl (pC (Dg n p1 jU o5 fN) _) rH ?_;refine gF J ?_ ?_<;>intro dP J;exact gx J;obtain⟨fL,rE,J⟩:=aC J;obtain⟨kF,qG⟩:=We cS .i64 rE;obtain⟨v6,nZ,J⟩:=aC J;obtain⟨mU,mC,J⟩:=aC J;refine go ?_;refine dE [] ?_;refine gd ?_;refine aM (u:=.iM cS fL) rfl (nR rfl fJ (nN rfl) fJ (vG cS jH.h (aW GT.h) L8 kF qG)) ?_;refine gd ?_;refine cK nZ ?_;refine gd ?_;refine iR rfl (pC (M2 n fL v6 mU mC)) mD ?_;refine bF ⟨by kernel_rfl,trivial,?_⟩;refine gF J ?_ ?_<;>intro sJ J;exact gx J;refine go ?_;exact lC ⟨_,J,rfl,rfl⟩;refine go ?_;exact xC ⟨J,rfl,rfl⟩;refine go ?_;exact xC ⟨J,rfl,rfl⟩
def qd: Option (Bool):=
 some true
def W4(p1:bG)(p2:List (List UInt8))(n:Nat):Nat->Int->Option (Bool)
 |0,_=>none|m1+1,z8=>cond (decide (z8<(p1.Supers.length:Int))) (a8 (aB p1.Supers z8) fun mT=>a8 (EQ n p2 mT) fun fI=>cond (!fI) (some false) ((W4 p1 p2 n m1) (IntKind.i64.wrap (z8+1)))) (qd)
def Yj(n:Nat)(p1:bG)(p2:List (List UInt8)):Option (Bool):=
 W4 p1 p2 n n 0
theorem qqm(n:Nat)(p1:bG)(p2:List (List UInt8))(r:Bool)(J:Yj n p1 p2=some r):dF prog 149 [.agg (bQ p1),.isl false (p2.map cS)] (.bool r):=by
 unfold Yj at J;refine gO 21 RW ?_;refine go ?_;refine gL (fun m tm O=>∃z8,W4 p1 p2 n m z8=some r/\tm=fr 21 [(1,.iM cS p2),(2,.ptr 0 0 0),(5,.i6 z8)]/\O=⟨[(0,.row (bQ p1) 138)],1⟩) (fun tm O=>qd=some r/\tm=fr 21 []/\O=⟨[(0,.row (bQ p1) 138)],1⟩) n ⟨0,J,rfl,rfl⟩ ?_ ?_;rintro _ _ ⟨J,rfl,rfl⟩;unfold qd at J;exact gx J;rintro(_|m1) _ _ ⟨z8,J,rfl,rfl⟩;cases J;unfold W4 at J;refine gF J ?_ ?_<;>intro h9 J;refine go ?_;apply aV;obtain⟨mT,iZ,J⟩:=aC J;obtain⟨fI,dQ,J⟩:=aC J;refine go ?_;refine aZ iZ ?_;refine go ?_;refine aP rfl (pC (M2 n p2 mT fI dQ) _) mD ?_;refine gF J ?_ ?_<;>intro gT J;exact gx J;refine go ?_;exact lC ⟨_,J,rfl,rfl⟩;refine go ?_;exact xC ⟨J,rfl,rfl⟩
def Mz(rc1:Bool->(List (List UInt8))->Option ((List (List UInt8))))(F4:Bool)(l24:List (List UInt8)):Option ((List (List UInt8))):=
 rc1 F4 l24
def My(eJ:Int)(o3:Bool->(List UInt8)->Int->Option ((List (List UInt8))))(Az:List UInt8):Option ((List (List UInt8))):=
 o3 true Az (IntKind.i64.wrap (eJ+1))
def zi(l7:List (List UInt8))(rc1:Bool->(List (List UInt8))->Option ((List (List UInt8))))(F4:Bool)(uG:List UInt8):Option ((List (List UInt8))):=
 cond F4 (aE ((l7.length+1)*16<=140737488355328/\l7.length+1<=140737488355328) (
  Mz rc1 F4 (l7++[uG]))) (Mz rc1 F4 l7)
def JU(p1:List bG)(n:Nat)(l7:List (List UInt8))(rc1:Bool->(List (List UInt8))->Option ((List (List UInt8)))):Nat->Bool->(List UInt8)->Int->Option ((List (List UInt8)))
 |0,_,_,_=>none|m2+1,BT,AJ,eJ=>cond (decide (eJ<(p1.length:Int))) (a8 (a8 (aB p1 eJ) fun x28=>a8 (EQ n l7 x28.Name) fun cJ=>cond cJ (some true) (a8 (aB p1 eJ) fun oZ=>a8 (Yj n oZ l7) fun jA=>some (!jA))) fun Ai=>cond Ai ((JU p1 n l7 rc1 m2) BT AJ (IntKind.i64.wrap (eJ+1))) (a8 (cond (!BT) (some true) (a8 (aB p1 eJ) fun KM=>some (jN KM.Name AJ))) fun SL=>cond SL (a8 (aB p1 eJ) fun yj=>My eJ (JU p1 n l7 rc1 m2) yj.Name) (My eJ (JU p1 n l7 rc1 m2) AJ))) (zi l7 rc1 BT AJ)
def zj  (l9:List (List UInt8)):Option ((List (List UInt8))):=
 some l9
def GA(p1:List bG)(n:Nat):Nat->Bool->(List (List UInt8))->Option ((List (List UInt8)))
 |0,_,_=>none|m1+1,b6,l7=>cond b6 (JU p1 n l7 (GA p1 n m1) n false [] 0) (zj l7)
def Yv(n:Nat)(p1:List bG):Option ((List (List UInt8))):=
 GA p1 n n true ([]:List (List UInt8))
theorem qoj(n:Nat)(p1:List bG)(r:(List (List UInt8)))(J:Yv n p1=some r):dF prog 125 [.isl false (p1.map bQ)] (.isl false (r.map cS)):=by
 unfold Yv at J;refine kH 52 S6 ?_;refine gr ?_;refine gr ?_;refine gr ?_;refine gV 3 9 1 1 ?_;refine gL (fun m tm O=>∃b6 l7 t8,GA p1 n m b6 l7=some r/\tm=fr 52 [(0,.iM bQ p1),(3,.vl 0 t8 0 l7.length),(4,.bool b6)]/\O=⟨m6 l7 t8,1⟩) (fun tm O=>∃l9 bL,zj l9=some r/\tm=fr 52 [(3,.vl 0 bL 0 l9.length)]/\O=⟨m6 l9 bL,1⟩) n ⟨true,([]:List (List UInt8)),0,J,rfl,rfl⟩ ?_ ?_;rintro _ _ ⟨l9,bL,J,rfl,rfl⟩;unfold zj at J;refine go ?_;obtain rfl:=sI J;exact rT (us:=[.vl 0 bL 0 l9.length]) (u:=.iM cS l9) (eO rfl (dV)) (fR 0 1);rintro(_|m1) _ _ ⟨b6,l7,t8,J,rfl,rfl⟩;cases J;unfold GA at J;refine gF J ?_ ?_<;>intro iZ J;refine go ?_;apply aV;refine go ?_;refine gL (fun m tm O=>∃BT AJ eJ,JU p1 n l7 (GA p1 n m1) m BT AJ eJ=some r/\tm=fr 52 [(0,.iM bQ p1),(3,.vl 0 t8 0 l7.length),(4,.bool BT),(5,.str AJ),(6,.i6 eJ)]/\O=⟨m6 l7 t8,1⟩) (fun tm O=>∃F4 uG,zi l7 (GA p1 n m1) F4 uG=some r/\tm=fr 52 [(0,.iM bQ p1),(3,.vl 0 t8 0 l7.length),(4,.bool F4),(5,.str uG)]/\O=⟨m6 l7 t8,1⟩) n ⟨false,[],0,J,rfl,rfl⟩ ?_ ?_;rintro _ _ ⟨F4,uG,J,rfl,rfl⟩;unfold zi at J;refine gr ?_;refine dL (fun tm O=>∃l24 nA,Mz (GA p1 n m1) F4 l24=some r/\tm=fr 52 [(0,.iM bQ p1),(3,.vl 0 nA 0 l24.length),(4,.bool F4)]/\O=⟨m6 l24 nA,1⟩) ?_ ?_;rintro _ _ ⟨l24,nA,J,rfl,rfl⟩;unfold Mz at J;refine go ?_;exact lC ⟨F4,l24,nA,J,rfl,rfl⟩;refine cF J ?_ ?_<;>intro mQ J;obtain⟨mC,J⟩:=d8 J;refine go ?_;refine bU ?_;refine bU ?_;refine go ?_;exact xC ⟨(l7++[uG]),(t8+1),J,rfl,rfl⟩;refine go ?_;exact xC ⟨l7,t8,J,rfl,rfl⟩;rintro(_|m2) _ _ ⟨BT,AJ,eJ,J,rfl,rfl⟩;cases J;unfold JU at J;refine gF J ?_ ?_<;>intro sJ J;refine go ?_;apply aV;obtain⟨Ai,mA,J⟩:=aC J;refine gn ?_;refine dL (fun tm O=>tm=fr 52 [(0,.iM bQ p1),(3,.vl 0 t8 0 l7.length),(4,.bool BT),(5,.str AJ),(6,.i6 eJ),(29,.bool Ai)]/\O=⟨m6 l7 t8,1⟩) ?_ ?_;rintro _ _ ⟨rfl,rfl⟩;refine gF J ?_ ?_<;>intro y8 J;refine go ?_;exact lC ⟨BT,AJ,(IntKind.i64.wrap (eJ+1)),J,rfl,rfl⟩;obtain⟨SL,lR,J⟩:=aC J;refine gn ?_;refine dL (fun tm O=>tm=fr 52 [(0,.iM bQ p1),(3,.vl 0 t8 0 l7.length),(5,.str AJ),(6,.i6 eJ),(40,.bool SL)]/\O=⟨m6 l7 t8,1⟩) ?_ ?_;rintro _ _ ⟨rfl,rfl⟩;refine gn ?_;refine dL (fun tm O=>∃Az,My eJ (JU p1 n l7 (GA p1 n m1) m2) Az=some r/\tm=fr 52 [(0,.iM bQ p1),(3,.vl 0 t8 0 l7.length),(5,.str Az),(6,.i6 eJ)]/\O=⟨m6 l7 t8,1⟩) ?_ ?_;rintro _ _ ⟨Az,J,rfl,rfl⟩;unfold My at J;refine go ?_;exact lC ⟨true,Az,(IntKind.i64.wrap (eJ+1)),J,rfl,rfl⟩;refine cF J ?_ ?_<;>intro qE J;obtain⟨yj,Ft,J⟩:=aC J;refine go ?_;refine aZ Ft ?_;refine go ?_;exact xC ⟨yj.Name,J,rfl,rfl⟩;refine go ?_;exact xC ⟨AJ,J,rfl,rfl⟩;refine go ?_;rcases gB lR with⟨BL,lR⟩|⟨BL,lR⟩;exact gy lR;obtain⟨KM,uY,lR⟩:=aC lR;obtain rfl:=sI lR;refine go ?_;refine aZ uY ?_;refine go ?_;refine RS.w (u:=.bool (jN KM.Name AJ)) rfl (EH rfl rfl rfl rfl) ?_;refine go ?_;exact xC ⟨rfl,rfl⟩;obtain⟨x28,mP,mA⟩:=aC mA;obtain⟨cJ,oX,mA⟩:=aC mA;refine go ?_;refine aZ mP ?_;refine go ?_;refine aP rfl (vw (M2 n l7 x28.Name cJ oX) (lT 0 1)) mD ?_;refine go ?_;rcases gB mA with⟨oW,mA⟩|⟨oW,mA⟩;exact gy mA;obtain⟨oZ,mB,mA⟩:=aC mA;obtain⟨jA,BN,mA⟩:=aC mA;obtain rfl:=sI mA;refine go ?_;refine aZ mB ?_;refine go ?_;refine aP rfl (vw (qqm n oZ l7 jA BN) (lT 0 1)) RW ?_;refine go ?_;exact xC ⟨rfl,rfl⟩;refine go ?_;exact xC ⟨BT,AJ,J,rfl,rfl⟩;refine go ?_;exact xC ⟨l7,t8,J,rfl,rfl⟩
def Mn(fS:Int)(rc1:Int->Int->Option (Int))(rO:Int):Option (Int):=
 rc1 rO (IntKind.i64.wrap (fS+1))
def qi(p1:List bG)(n:Nat)(jG:Int):Option (Int):=
 cond (jG != 1) (some 1) (a8 (Yv n p1) fun i7=>cond (decide ((i7.length:Int)<(p1.length:Int))) (some 6) (some 0))
def M6(p1:List bG)(n:Nat):Nat->Int->Int->Option (Int)
 |0,_,_=>none|m1+1,uA,fS=>cond (decide (fS<(p1.length:Int))) (a8 (aB p1 fS) fun iC=>cond ((iC.Supers.length:Int)==0) (Mn fS (M6 p1 n m1) (IntKind.i64.wrap (uA+1))) (Mn fS (M6 p1 n m1) uA)) (qi p1 n uA)
def Lj(n:Nat)(p1:List bG):Option (Int):=
 a8 (Lh n p1) fun r2=>cond (r2 != 0) (some r2) (a8 (Yk n p1) fun r5=>cond (r5 != 0) (some r5) (a8 (Yu n p1) fun r8=>cond (r8 != 0) (some r8) (M6 p1 n n 0 0)))
theorem qqk(n:Nat)(p1:List bG)(r:Int)(J:Lj n p1=some r):dF prog 93 [.isl false (p1.map bQ)] (.int .i64 r):=by
 unfold Lj at J;refine kH 46 Sq ?_;obtain⟨r2,h3,J⟩:=aC J;refine go ?_;refine aP rfl (pC (qqn n p1 r2 h3) _) S9 ?_;refine gF J ?_ ?_<;>intro h4 J;exact gx J;obtain⟨r5,h6,J⟩:=aC J;refine go ?_;refine aP rfl (pC (qql n p1 r5 h6) _) S8 ?_;refine gF J ?_ ?_<;>intro h7 J;exact gx J;obtain⟨r8,h9,J⟩:=aC J;refine go ?_;refine aP rfl (pC (qok n p1 r8 h9) _) S7 ?_;refine gF J ?_ ?_<;>intro eY J;exact gx J;refine go ?_;refine gL (fun m tm O=>∃uA fS,M6 p1 n m uA fS=some r/\tm=fr 46 [(0,.iM bQ p1),(6,.i6 uA),(7,.i6 fS)]/\O=⟨[],0⟩) (fun tm O=>∃jG,qi p1 n jG=some r/\tm=fr 46 [(0,.iM bQ p1),(6,.i6 jG)]/\O=⟨[],0⟩) n ⟨0,0,J,rfl,rfl⟩ ?_ ?_;rintro _ _ ⟨jG,J,rfl,rfl⟩;unfold qi at J;refine gF J ?_ ?_<;>intro fN J;exact gx J;obtain⟨i7,iB,J⟩:=aC J;refine go ?_;refine aP rfl (pC (qoj n p1 i7 iB) _) S6 ?_;refine gF J ?_ ?_<;>intro rE J;exact gx J;exact gx J;rintro(_|m1) _ _ ⟨uA,fS,J,rfl,rfl⟩;cases J;unfold M6 at J;refine gF J ?_ ?_<;>intro kF J;refine go ?_;apply aV;obtain⟨iC,mQ,J⟩:=aC J;refine go ?_;refine aZ mQ ?_;refine gn ?_;refine dL (fun tm O=>∃rO,Mn fS (M6 p1 n m1) rO=some r/\tm=fr 46 [(0,.iM bQ p1),(6,.i6 rO),(7,.i6 fS)]/\O=⟨[],0⟩) ?_ ?_;rintro _ _ ⟨rO,J,rfl,rfl⟩;unfold Mn at J;refine go ?_;exact lC ⟨rO,(IntKind.i64.wrap (fS+1)),J,rfl,rfl⟩;refine cF J ?_ ?_<;>intro nZ J;refine go ?_;exact xC ⟨(IntKind.i64.wrap (uA+1)),J,rfl,rfl⟩;refine go ?_;exact xC ⟨uA,J,rfl,rfl⟩;refine go ?_;exact xC ⟨uA,J,rfl,rfl⟩
def Lw(p1:List (List UInt8))(p2:List UInt8)(z7:Int):Option ((List (List UInt8))):=
 a8 (cond (decide (z7<(p1.length:Int))) (a8 (aB p1 z7) fun x9=>some (kO x9 p2)) (some false)) fun IE=>cond IE (some p1) (a8 (pI p1 0 z7) fun iI=>
  aE (iI.length*16<=140737488355328/\iI.length<=140737488355328) (
  aE ((iI.length+1)*16<=140737488355328/\iI.length+1<=140737488355328) (
  a8 (pI p1 z7 (p1.length:Int)) fun dI=>
  aE (((iI++[p2]).length+dI.length)*16<=140737488355328/\(iI++[p2]).length+dI.length<=140737488355328) (some ((iI++[p2])++dI)))))
def Dh(p1:List (List UInt8))(p2:List UInt8):Nat->Int->Option ((List (List UInt8)))
 |0,_=>none|m1+1,z6=>a8 (cond (decide (z6<(p1.length:Int))) (a8 (aB p1 z6) fun BX=>some (jN BX p2)) (some false)) fun IC=>cond IC ((Dh p1 p2 m1) (IntKind.i64.wrap (z6+1))) (Lw p1 p2 z6)
def LO(n:Nat)(p1:List (List UInt8))(p2:List UInt8):Option ((List (List UInt8))):=
 Dh p1 p2 n 0
theorem Cw(n:Nat)(p1:List (List UInt8))(p2:List UInt8)(r:(List (List UInt8)))(J:LO n p1 p2=some r):dF prog 117 [.isl false (p1.map cS),.str p2] (.isl false (r.map cS)):=by
 unfold LO at J;refine gO 48 rJ ?_;refine go ?_;refine gL (fun m tm O=>∃z6,Dh p1 p2 m z6=some r/\tm=fr 48 [(0,.iM cS p1),(1,.str p2),(5,.nils),(6,.i6 z6)]/\O=⟨[],0⟩) (fun tm O=>∃z7,Lw p1 p2 z7=some r/\tm=fr 48 [(0,.iM cS p1),(1,.str p2),(5,.nils),(6,.i6 z7)]/\O=⟨[],0⟩) n ⟨0,J,rfl,rfl⟩ ?_ ?_;rintro _ _ ⟨z7,J,rfl,rfl⟩;unfold Lw at J;obtain⟨IE,eX,J⟩:=aC J;refine gn ?_;refine dL (fun tm O=>tm=fr 48 [(0,.iM cS p1),(1,.str p2),(5,.nils),(6,.i6 z7),(32,.bool IE)]/\O=⟨[],0⟩) ?_ ?_;rintro _ _ ⟨rfl,rfl⟩;refine gF J ?_ ?_<;>intro dQ J;exact gx J;obtain⟨iI,eD,J⟩:=aC J;obtain⟨rF,fN⟩:=We cS .i64 eD;obtain⟨dP,J⟩:=d8 J;refine go ?_;refine aL (u:=.iM cS iI) rfl (nR rfl fJ (nN rfl) fJ (vG cS jH.h (aW GT.h) L8 rF fN)) (aL (u:=.vl 0 0 0 iI.length) (O':=⟨[(0,.bv cS iI 9 1 0)],1⟩) rfl (AW rfl rfl rfl rfl (ub cS iI jH.h jH.h GT.h rfl (Jf cS L8) dP)) ?_);obtain⟨iB,J⟩:=d8 J;refine go ?_;refine bU ?_;refine bU ?_;obtain⟨dI,kF,J⟩:=aC J;obtain⟨qG,mQ⟩:=Bs cS .i64 kF;obtain⟨nZ,J⟩:=d8 J;refine go ?_;refine aL (u:=.iM cS dI) rfl (nR rfl (nN rfl) fJ fJ (vG cS jH.h (aW GT.h) L8 qG mQ)) ?_;refine bU ?_;refine go ?_;obtain rfl:=sI J;exact rT (us:=[.vl 0 2 0 (((iI++[p2])++dI).length)]) (u:=.iM cS ((iI++[p2])++dI)) (eO rfl (dV)) (fR 0 1);refine go ?_;rcases gB eX with⟨h8,eX⟩|⟨h8,eX⟩;obtain⟨x9,eY,eX⟩:=aC eX;obtain rfl:=sI eX;refine go ?_;refine aZ eY ?_;refine go ?_;refine RS.w (u:=.bool (kO x9 p2)) rfl (EH rfl rfl rfl rfl) ?_;refine go ?_;exact xC ⟨rfl,rfl⟩;exact gy eX;rintro(_|m1) _ _ ⟨z6,J,rfl,rfl⟩;cases J;unfold Dh at J;obtain⟨IC,mP,J⟩:=aC J;refine gn ?_;refine dL (fun tm O=>tm=fr 48 [(0,.iM cS p1),(1,.str p2),(5,.nils),(6,.i6 z6),(18,.bool IC)]/\O=⟨[],0⟩) ?_ ?_;rintro _ _ ⟨rfl,rfl⟩;refine gF J ?_ ?_<;>intro vQ J;refine go ?_;apply aV;refine go ?_;exact lC ⟨_,J,rfl,rfl⟩;refine go ?_;exact xC ⟨z6,J,rfl,rfl⟩;refine go ?_;rcases gB mP with⟨lS,mP⟩|⟨lS,mP⟩;obtain⟨BX,sJ,mP⟩:=aC mP;obtain rfl:=sI mP;refine go ?_;refine aZ sJ ?_;refine go ?_;refine RS.w (u:=.bool (jN BX p2)) rfl (EH rfl rfl rfl rfl) ?_;refine go ?_;exact xC ⟨rfl,rfl⟩;exact gy mP
def qh  (l7:List (List UInt8)):Option ((List (List UInt8))):=
 some l7
def W6(p1:List bG)(n:Nat):Nat->(List (List UInt8))->Int->Option ((List (List UInt8)))
 |0,_,_=>none|m1+1,l5,z6=>cond (decide (z6<(p1.length:Int))) (a8 (aB p1 z6) fun x9=>a8 (LO n l5 x9.Name) fun sQ=>(W6 p1 n m1) sQ (IntKind.i64.wrap (z6+1))) (qh l5)
def Li(n:Nat)(p1:List bG):Option ((List (List UInt8))):=
 W6 p1 n n [] 0
theorem qjp(n:Nat)(p1:List bG)(r:(List (List UInt8)))(J:Li n p1=some r):dF prog 94 [.isl false (p1.map bQ)] (.isl false (r.map cS)):=by
 unfold Li at J;refine kH 19 Z4 ?_;refine gr ?_;refine gr ?_;refine gr ?_;refine c9 (tm':=fr 19 [(0,.iM bQ p1),(3,.iM cS []),(4,.i6 0)]) (Gh.trans (Gh.sub (l':=[(0,.iM bQ p1),(3,.nils),(4,.i6 0)]) ⟨rfl,rfl,rfl,trivial⟩) (Gh.wkS (l':=[(0,.iM bQ p1),(3,.iM cS []),(4,.i6 0)]) (.cons (.refl _) (.cons (.nil false) (.cons (.refl _) .nil))))) NZ ?_;refine gL (fun m tm O=>∃l5 z6,W6 p1 n m l5 z6=some r/\tm=fr 19 [(0,.iM bQ p1),(3,.iM cS l5),(4,.i6 z6)]/\O=⟨[],0⟩) (fun tm O=>∃l7,qh l7=some r/\tm=fr 19 [(3,.iM cS l7)]/\O=⟨[],0⟩) n ⟨[],0,J,rfl,rfl⟩ ?_ ?_;rintro _ _ ⟨l7,J,rfl,rfl⟩;unfold qh at J;exact gx J;rintro(_|m1) _ _ ⟨l5,z6,J,rfl,rfl⟩;cases J;unfold W6 at J;refine gF J ?_ ?_<;>intro h8 J;refine go ?_;apply aV;obtain⟨x9,eY,J⟩:=aC J;obtain⟨sQ,eX,J⟩:=aC J;refine go ?_;refine aZ eY ?_;refine go ?_;refine aP rfl (pC (Cw n l5 x9.Name sQ eX) _) rJ ?_;refine go ?_;exact lC ⟨sQ,(IntKind.i64.wrap (z6+1)),J,rfl,rfl⟩;refine go ?_;exact xC ⟨l5,J,rfl,rfl⟩
def qk  (eQ:List (List UInt8)):Option ((List (List UInt8))):=
 some eQ
def PY(n:Nat)(cE:List (List UInt8)):Nat->(List (List UInt8))->Int->Option ((List (List UInt8)))
 |0,_,_=>none|m2+1,fL,eJ=>cond (decide (eJ<(cE.length:Int))) (a8 (aB cE eJ) fun v6=>a8 (LO n fL v6) fun mU=>(PY n cE m2) mU (IntKind.i64.wrap (eJ+1))) (qk fL)
def Mp(yG:Int)(Ia:Int->(List (List UInt8))->Option ((List (List UInt8))))(m7:List (List UInt8)):Option ((List (List UInt8))):=
 Ia (IntKind.i64.wrap (yG+1)) m7
def qj(dY:Int)(rc1:Int->(List (List UInt8))->Option ((List (List UInt8))))(sV:List (List UInt8)):Option ((List (List UInt8))):=
 rc1 (IntKind.i64.wrap (dY+1)) sV
def M7(p1:List bG)(n:Nat)(dY:Int)(rc1:Int->(List (List UInt8))->Option ((List (List UInt8)))):Nat->Int->(List (List UInt8))->Option ((List (List UInt8)))
 |0,_,_=>none|m3+1,yG,qC=>
  cond (decide (yG<(p1.length:Int))) (a8 (a8 (aB p1 yG) fun FG=>
   a8 (aB qC dY) fun KM=>
   a8 (EQ n FG.Supers KM) fun sP=>cond sP (a8 (aB p1 yG) fun OA=>
    a8 (EQ n qC OA.Name) fun OO=>some (!OO)) (some false)) fun oe=>cond oe (a8 (aB p1 yG) fun yi=>
    aE ((qC.length+1)*16<=140737488355328/\qC.length+1<=140737488355328) (
    Mp yG (M7 p1 n dY rc1 m3) (qC++[yi.Name]))) (Mp yG (M7 p1 n dY rc1 m3) qC)) (qj dY rc1 qC)
def ql(n:Nat)(cE:List (List UInt8)):Option ((List (List UInt8))):=
 PY n cE n [] 0
def JQ(p1:List bG)(n:Nat):Nat->Int->(List (List UInt8))->Option ((List (List UInt8)))
 |0,_,_=>none|m1+1,dY,cZ=>cond (decide (dY<(cZ.length:Int))) (M7 p1 n dY (JQ p1 n m1) n 0 cZ) (ql n cZ)
def Lk(n:Nat)(p1:List bG)(p2:List UInt8):Option ((List (List UInt8))):=
 a8 (G7 n p1 p2) fun r3=>cond (decide (r3<0)) (some []) (JQ p1 n n 0 ([p2]))
theorem qqj(n:Nat)(p1:List bG)(p2:List UInt8)(r:(List (List UInt8)))(J:Lk n p1 p2=some r):dF prog 126 [.isl false (p1.map bQ),.str p2] (.isl false (r.map cS)):=by
 unfold Lk at J;refine gO 69 S5 ?_;obtain⟨r3,h4,J⟩:=aC J;refine go ?_;refine aP rfl (pC (Dg n p1 p2 r3 h4) _) rH ?_;refine gF J ?_ ?_<;>intro h5 J;refine go ?_;obtain rfl:=sI J;exact rT (us:=[.nils]) (u:=.isl false []) (eO rfl (dV)) wR;refine go ?_;refine RS.step (u:=.vl 0 0 0 ([p2].length)) (O':=⟨[(0,.bv cS ([p2]) 9 1 0)],1⟩) rfl (EC.bslv (cs:=(List.map cS [p2]).flatten) tb_ok rfl jH.h GT.h rfl rfl rfl rfl rfl rfl rfl rfl) rfl rfl ?_;refine go ?_;refine gL (fun m tm O=>∃dY cZ d7,JQ p1 n m dY cZ=some r/\tm=fr 69 [(0,.iM bQ p1),(5,.vl 0 d7 0 cZ.length),(6,.i6 dY)]/\O=⟨m6 cZ d7,1⟩) (fun tm O=>∃cE g7,ql n cE=some r/\tm=fr 69 [(5,.vl 0 g7 0 cE.length)]/\O=⟨m6 cE g7,1⟩) n ⟨0,[p2],0,J,rfl,rfl⟩ ?_ ?_;rintro _ _ ⟨cE,g7,J,rfl,rfl⟩;unfold ql at J;refine gr ?_;refine gr ?_;refine c9 (tm':=fr 69 [(5,.vl 0 g7 0 cE.length),(8,.iM cS []),(9,.i6 0)]) (Gh.trans (Gh.sub (l':=[(5,.vl 0 g7 0 cE.length),(8,.nils),(9,.i6 0)]) ⟨rfl,rfl,rfl,trivial⟩) (Gh.wkS (l':=[(5,.vl 0 g7 0 cE.length),(8,.iM cS []),(9,.i6 0)]) (.cons (.refl _) (.cons (.nil false) (.cons (.refl _) .nil))))) NZ ?_;refine gL (fun m tm O=>∃fL eJ,PY n cE m fL eJ=some r/\tm=fr 69 [(5,.vl 0 g7 0 cE.length),(8,.iM cS fL),(9,.i6 eJ)]/\O=⟨m6 cE g7,1⟩) (fun tm O=>∃eQ,qk eQ=some r/\tm=fr 69 [(8,.iM cS eQ)]/\O=⟨m6 cE g7,1⟩) n ⟨[],0,J,rfl,rfl⟩ ?_ ?_;rintro _ _ ⟨eQ,J,rfl,rfl⟩;unfold qk at J;exact gx J;rintro(_|m2) _ _ ⟨fL,eJ,J,rfl,rfl⟩;cases J;unfold PY at J;refine gF J ?_ ?_<;>intro qG J;refine go ?_;apply aV;obtain⟨v6,nZ,J⟩:=aC J;obtain⟨mU,mC,J⟩:=aC J;refine go ?_;refine aL rfl (dZ rfl rfl (fK cS jH.h (aW GT.h) (by decide) L8 (vo rfl) nZ)) ?_;refine aL rfl (qN cS (fun x=>.str x) IZ.h rfl (fun _=>rfl) rfl rfl nZ) (aP rfl (pC (Cw n fL v6 mU mC) _) rJ ?_);refine go ?_;exact lC ⟨mU,(IntKind.i64.wrap (eJ+1)),J,rfl,rfl⟩;refine go ?_;exact xC ⟨fL,J,rfl,rfl⟩;rintro(_|m1) _ _ ⟨dY,cZ,d7,J,rfl,rfl⟩;cases J;unfold JQ at J;refine gF J ?_ ?_<;>intro sJ J;refine go ?_;apply aV;refine go ?_;refine gL (fun m tm O=>∃yG qC DZ,M7 p1 n dY (JQ p1 n m1) m yG qC=some r/\tm=fr 69 [(0,.iM bQ p1),(5,.vl 0 DZ 0 qC.length),(6,.i6 dY),(7,.i6 yG)]/\O=⟨m6 qC DZ,1⟩) (fun tm O=>∃sV Vk,qj dY (JQ p1 n m1) sV=some r/\tm=fr 69 [(0,.iM bQ p1),(5,.vl 0 Vk 0 sV.length),(6,.i6 dY)]/\O=⟨m6 sV Vk,1⟩) n ⟨0,cZ,d7,J,rfl,rfl⟩ ?_ ?_;rintro _ _ ⟨sV,Vk,J,rfl,rfl⟩;unfold qj at J;refine go ?_;exact lC ⟨_,sV,Vk,J,rfl,rfl⟩;rintro(_|m3) _ _ ⟨yG,qC,DZ,J,rfl,rfl⟩;cases J;unfold M7 at J;refine gF J ?_ ?_<;>intro mA J;refine go ?_;apply aV;obtain⟨oe,vP,J⟩:=aC J;refine gn ?_;refine dL (fun tm O=>tm=fr 69 [(0,.iM bQ p1),(5,.vl 0 DZ 0 qC.length),(6,.i6 dY),(7,.i6 yG),(47,.bool oe)]/\O=⟨m6 qC DZ,1⟩) ?_ ?_;rintro _ _ ⟨rfl,rfl⟩;refine gn ?_;refine dL (fun tm O=>∃m7 Vi,Mp yG (M7 p1 n dY (JQ p1 n m1) m3) m7=some r/\tm=fr 69 [(0,.iM bQ p1),(5,.vl 0 Vi 0 m7.length),(6,.i6 dY),(7,.i6 yG)]/\O=⟨m6 m7 Vi,1⟩) ?_ ?_;rintro _ _ ⟨m7,Vi,J,rfl,rfl⟩;unfold Mp at J;refine go ?_;exact lC ⟨_,m7,Vi,J,rfl,rfl⟩;refine cF J ?_ ?_<;>intro NH J;obtain⟨yi,YP,J⟩:=aC J;obtain⟨HO,J⟩:=d8 J;refine go ?_;refine aZ YP ?_;refine go ?_;refine bU ?_;refine bU ?_;refine go ?_;exact xC ⟨(qC++[yi.Name]),(DZ+1),J,rfl,rfl⟩;refine go ?_;exact xC ⟨qC,DZ,J,rfl,rfl⟩;obtain⟨FG,BL,vP⟩:=aC vP;obtain⟨KM,uY,vP⟩:=aC vP;obtain⟨sP,lR,vP⟩:=aC vP;refine dE [] ?_;refine gd ?_;refine cK BL ?_;refine gd ?_;refine aM rfl (dZ rfl rfl (fK cS jH.h (aW GT.h) (by decide) L8 (vo rfl) uY)) ?_;refine aM rfl (qN cS (fun x=>.str x) IZ.h rfl (fun _=>rfl) rfl rfl uY) (iR rfl (pC (M2 n FG.Supers KM sP lR)) mD ?_);refine gd ?_;rcases gB vP with⟨qE,vP⟩|⟨qE,vP⟩;obtain⟨OA,Fu,vP⟩:=aC vP;obtain⟨OO,it,vP⟩:=aC vP;obtain rfl:=sI vP;refine gd ?_;refine cK Fu ?_;refine gd ?_;refine RD.call (u:=.bool OO) (args:=[.vl 0 DZ 0 qC.length,.str OA.Name]) (xI rfl rfl rfl qE) (gG rfl rfl mD hb127 rfl rfl) (vw (M2 n qC OA.Name OO it) (lT 0 1)) rfl rfl ?_;refine gd ?_;refine bF ⟨by kernel_rfl,trivial,?_⟩;refine go ?_;exact xC ⟨rfl,rfl⟩;obtain rfl:=sI vP;refine gd ?_;refine bF ⟨by kernel_rfl,trivial,?_⟩;refine go ?_;exact xC ⟨rfl,rfl⟩;refine go ?_;exact xC ⟨qC,DZ,J,rfl,rfl⟩;refine go ?_;exact xC ⟨cZ,d7,J,rfl,rfl⟩
def Na(p1:List Int)(z5:Int):Option ((List Int)):=
 a8 (pI p1 0 z5) fun l6=>
 aE (l6.length*8<=140737488355328/\l6.length<=140737488355328) (some l6)
def Q2(p1:List Int):Nat->Int->Option ((List Int))
 |0,_=>none|m1+1,z4=>a8 (cond (decide (z4>0)) (a8 (aB p1 (IntKind.i64.wrap (z4-1))) fun gZ=>some (gZ==0)) (some false)) fun tL=>cond tL ((Q2 p1 m1) (IntKind.i64.wrap (z4-1))) (Na p1 z4)
def JL(n:Nat)(p1:List Int):Option ((List Int)):=
 Q2 p1 n (p1.length:Int)
theorem qr(n:Nat)(p1:List Int)(r:(List Int))(J:JL n p1=some r):dF prog 120 [.isl false (p1.map (cI .u64))] (.isl false (r.map (cI .u64))):=by
 unfold JL at J;refine kH 23 wY ?_;refine go ?_;refine gL (fun m tm O=>∃z4,Q2 p1 m z4=some r/\tm=fr 23 [(0,.iM (cI .u64) p1),(3,.i6 z4)]/\O=⟨[],0⟩) (fun tm O=>∃z5,Na p1 z5=some r/\tm=fr 23 [(0,.iM (cI .u64) p1),(3,.i6 z5)]/\O=⟨[],0⟩) n ⟨(p1.length:Int),J,rfl,rfl⟩ ?_ ?_;rintro _ _ ⟨z5,J,rfl,rfl⟩;unfold Na at J;obtain⟨l6,h7,J⟩:=aC J;obtain⟨h8,h9⟩:=We (cI .u64) .i64 h7;obtain⟨eY,J⟩:=d8 J;refine go ?_;refine aL (u:=.sl 0 0 0 0) (O':=⟨[(0,.row [] 191)],1⟩) rfl (xO fT.h kX.h rfl rfl rfl rfl rfl rfl rfl) ?_;refine go ?_;refine aL (u:=.iM (cI .u64) l6) rfl (nR rfl fJ (nN rfl) fJ (vG (cI .u64) fT.h (aW kX.h) (kN .u64) h8 h9)) (aL (u:=.vl 1 0 0 l6.length) (O':=⟨[(1,.bv (cI .u64) l6 191 1 0),(0,.row [] 191)],2⟩) rfl (AW rfl rfl rfl rfl (uc (cI .u64) l6 fT.h fT.h kX.h rfl rfl rfl (Jf (cI .u64) (kN .u64)) eY)) ?_);refine go ?_;obtain rfl:=sI J;exact rT (us:=[.vl 1 0 0 l6.length]) (u:=.iM (cI .u64) l6) (eO rfl (dV)) (fR 1 1);rintro(_|m1) _ _ ⟨z4,J,rfl,rfl⟩;cases J;unfold Q2 at J;obtain⟨tL,eD,J⟩:=aC J;refine gn ?_;refine dL (fun tm O=>tm=fr 23 [(0,.iM (cI .u64) p1),(3,.i6 z4),(15,.bool tL)]/\O=⟨[],0⟩) ?_ ?_;rintro _ _ ⟨rfl,rfl⟩;refine gF J ?_ ?_<;>intro rF J;refine go ?_;apply aV;refine go ?_;exact lC ⟨_,J,rfl,rfl⟩;refine go ?_;exact xC ⟨z4,J,rfl,rfl⟩;refine go ?_;rcases gB eD with⟨iZ,eD⟩|⟨iZ,eD⟩;obtain⟨gZ,dQ,eD⟩:=aC eD;obtain rfl:=sI eD;refine go ?_;refine aZ dQ ?_;refine go ?_;exact xC ⟨rfl,rfl⟩;exact gy eD
def Yl(n:Nat)(l8:List Int):Option ((List Int)×Int):=
 aE ((64:Int).toNat=l8.length) (
 a8 (JL n l8) fun lL=>some (lL,0))
def VO(p1:List Int)(n:Nat):Nat->Int->(List Int)->Option ((List Int)×Int)
 |0,_,_=>none|m1+1,z6,l7=>
  cond (decide (z6<(p1.length:Int))) (a8 (a8 (aB p1 z6) fun DW=>cond (decide (DW<0)) (some true) (a8 (aB p1 z6) fun jT=>some (decide (jT>4095)))) fun BT=>cond BT (some ([],2)) (a8 (aB p1 z6) fun sN=>
    a8 (aB p1 z6) fun hO=>
    a8 (rW l7 0 ((64:Int).toNat) (IntKind.i64.wrap (hO.tdiv 64))) fun mS=>
    a8 (aB p1 z6) fun iV=>
    aE (¬ (IntKind.u64.wrap (iV.tmod 64))<0) (
    a8 (rW l7 0 ((64:Int).toNat) (IntKind.i64.wrap (sN.tdiv 64))) fun oZ=>(VO p1 n m1) (IntKind.i64.wrap (z6+1)) (l7.set (IntKind.i64.wrap (sN.tdiv 64)).toNat (Et .u64 mS (IntKind.u64.wrap (1*(2^(min (IntKind.u64.wrap (iV.tmod 64)).toNat IntKind.u64.bits))))))))) (Yl n l7)
def Jr(n:Nat)(p1:List Int):Option ((List Int)×Int):=
 aE (0<=(64:Int)/\8*(64:Int).toNat<=281474976710656/\(64:Int)<=281474976710656) (
 VO p1 n n 0 (List.replicate (64:Int).toNat 0))
theorem qxy(n:Nat)(p1:List Int)(r:(List Int)×Int)(J:Jr n p1=some r):dF prog 128 [.isl false (p1.map (cI .i64))] (.tup [.isl false (r.1.map (cI .u64)),.int .i64 r.2]):=by
 unfold Jr at J;refine kH 50 S4 ?_;obtain⟨h2,J⟩:=d8 J;refine go ?_;refine aL (u:=.sl 0 0 ((64:Int).toNat) ((64:Int).toNat)) (O':=⟨[(0,.row (List.map (cI .u64) (List.replicate (64:Int).toNat 0)).flatten 191)],1⟩) rfl (ya (cI .u64) 0 rfl rfl fT.h kX.h rfl rfl rfl rfl h2) ?_;refine go ?_;refine gL (fun m tm O=>∃z6 l7,VO p1 n m z6 l7=some r/\tm=fr 50 [(0,.iM (cI .i64) p1),(4,.sl 0 0 ((64:Int).toNat) ((64:Int).toNat)),(5,.i6 z6)]/\O=⟨[(0,.row (l7.map (cI .u64)).flatten 191)],1⟩) (fun tm O=>∃l8,Yl n l8=some r/\tm=fr 50 [(4,.sl 0 0 ((64:Int).toNat) ((64:Int).toNat))]/\O=⟨[(0,.row (l8.map (cI .u64)).flatten 191)],1⟩) n ⟨0,(List.replicate (64:Int).toNat 0),J,rfl,rfl⟩ ?_ ?_;rintro _ _ ⟨l8,J,rfl,rfl⟩;unfold Yl at J;obtain⟨h9,J⟩:=d8 J;refine gn ?_;refine c9 (tm':=fr 50 [(4,.iM (cI .u64) l8)]) (O':=⟨[],1⟩) (Gh.trans (Gh.sub (l':=[(4,.sl 0 0 ((64:Int).toNat) ((64:Int).toNat))]) ⟨rfl,trivial⟩) (Gh.fzS (l':=[(4,.iM (cI .u64) l8)]) (h':=[]) 0 (.row (l8.map (cI .u64)).flatten 191) 1 rfl (by simp) (by simp only[fzS,pG,PH,JI,P6,PF,P4,PD,V5,V6,V7,PE,P5,UW,P7,P0,OV,FX,Uy (kN .u64) h9]) (by simp only[fzH,fzB,ug,Nat.beq,zC,zD,pG,PH,JI,P6,PF,P4,PD,V5,V6,V7,PE,P5,UW,P7,P0,OV,FX,Uy (kN .u64) h9]))) NZ ?_;obtain⟨lL,iZ,J⟩:=aC J;refine go ?_;refine aP rfl (pC (qr n l8 lL iZ) _) wY ?_;refine go ?_;obtain rfl:=sI J;exact J8 rfl rfl rfl rfl rfl;rintro(_|m1) _ _ ⟨z6,l7,J,rfl,rfl⟩;cases J;unfold VO at J;refine gF J ?_ ?_<;>intro eX J;refine go ?_;apply aV;obtain⟨BT,iB,J⟩:=aC J;refine gn ?_;refine dL (fun tm O=>tm=fr 50 [(0,.iM (cI .i64) p1),(4,.sl 0 0 ((64:Int).toNat) ((64:Int).toNat)),(5,.i6 z6),(24,.bool BT)]/\O=⟨[(0,.row (l7.map (cI .u64)).flatten 191)],1⟩) ?_ ?_;rintro _ _ ⟨rfl,rfl⟩;refine gF J ?_ ?_<;>intro rE J;refine go ?_;obtain rfl:=sI J;exact rT (us:=[.nils,.i6 2]) (u:=.tup [.isl false [],.i6 2]) (eO rfl (eO rfl (dV))) wR;obtain⟨sN,qG,J⟩:=aC J;obtain⟨hO,lS,J⟩:=aC J;obtain⟨mS,qF,J⟩:=aC J;obtain⟨iV,vQ,J⟩:=aC J;obtain⟨oW,J⟩:=d8 J;obtain⟨oZ,mB,J⟩:=aC J;refine go ?_;refine dE [] ?_;refine gd ?_;refine cK qG ?_;refine gd ?_;refine aM rfl (vH rfl rfl (Vy _ (by decide)) rfl) ?_;refine gd ?_;refine cK lS ?_;refine gd ?_;refine aM rfl (vH rfl rfl (Vy _ (by decide)) rfl) ?_;refine aM rfl (dZ rfl rfl (UO fT.h (aW kX.h) rfl qF)) (aM (u:=.int .u64 mS) rfl (lf (cI .u64) (fun x=>.int .u64 x) Hj.h rfl (fun _=>rfl) rfl rfl qF) ?_);refine gd ?_;refine cK vQ ?_;refine gd ?_;refine aM rfl (vH rfl rfl (p_ _ (by decide)) rfl) ?_;refine aM (u:=.int .u64 (IntKind.u64.wrap (iV.tmod 64))) rfl (Ws rfl rfl (by simp only[convX,kL.h,AF.h]<;>rfl) rfl) ?_;refine aM rfl (vH rfl rfl (XF _ oW) rfl) (aM rfl (vH rfl rfl (Ov _ _ _) rfl) (aM rfl (dZ rfl rfl (UO fT.h (aW kX.h) rfl mB)) (KE (u:=.junk) (O':=⟨[(0,.row (List.map (cI .u64) (l7.set (IntKind.i64.wrap (sN.tdiv 64)).toNat (Et .u64 mS (IntKind.u64.wrap (1*(2^(min (IntKind.u64.wrap (iV.tmod 64)).toNat IntKind.u64.bits))))))).flatten 191)],1⟩) rfl (Uu (cI .u64) (aW kX.h) (kN .u64) rfl rfl rfl rfl rfl rfl mB rfl) rfl ?_)));refine bF ⟨by kernel_rfl,trivial,?_⟩;refine go ?_;exact lC ⟨_,(l7.set (IntKind.i64.wrap (sN.tdiv 64)).toNat (Et .u64 mS (IntKind.u64.wrap (1*(2^(min (IntKind.u64.wrap (iV.tmod 64)).toNat IntKind.u64.bits)))))),J,rfl,rfl⟩;obtain⟨DW,gT,iB⟩:=aC iB;refine go ?_;refine aZ gT ?_;refine go ?_;rcases gB iB with⟨eD,iB⟩|⟨eD,iB⟩;exact gy iB;obtain⟨jT,fN,iB⟩:=aC iB;obtain rfl:=sI iB;refine go ?_;refine aZ fN ?_;refine go ?_;exact xC ⟨rfl,rfl⟩;refine go ?_;exact xC ⟨l7,J,rfl,rfl⟩
def Mi(mH:Int)(rc1:Int->(List Int)->Option ((List Int)))(l24:List Int):Option ((List Int)):=
 rc1 (IntKind.i64.wrap (mH+1)) l24
def Zi(n:Nat)(iI:List Int):Option ((List Int)):=
 a8 (Jr n iI) fun o5=>some o5.1
def M1(p2:List (List UInt8))(n:Nat)(r4:(List (List UInt8))):Nat->Int->(List Int)->Option ((List Int))
 |0,_,_=>none|m1+1,mH,lJ=>
  cond (decide (mH<(p2.length:Int))) (a8 (aB p2 mH) fun KN=>
   a8 (EQ n r4 KN) fun FR=>cond FR (aE ((lJ.length+1)*8<=140737488355328/\lJ.length+1<=140737488355328) (
    Mi mH (M1 p2 n r4 m1) (lJ++[mH]))) (Mi mH (M1 p2 n r4 m1) lJ)) (Zi n lJ)
def Ku(n:Nat)(p1:List bG)(p2:List (List UInt8))(p3:List UInt8):Option ((List Int)):=
 a8 (Lk n p1 p3) fun r4=>
 M1 p2 n r4 n 0 ([]:List Int)
theorem qt2(n:Nat)(p1:List bG)(p2:List (List UInt8))(p3:List UInt8)(r:(List Int))(J:Ku n p1 p2 p3=some r):dF prog 95 [.isl false (p1.map bQ),.isl false (p2.map cS),.str p3] (.isl false (r.map (cI .u64))):=by
 unfold Ku at J;refine KA 37 Sp ?_;obtain⟨r4,h5,J⟩:=aC J;refine go ?_;refine aP rfl (pC (qqj n p1 p3 r4 h5) _) S5 ?_;refine gr ?_;refine gr ?_;refine gV 8 3 1 1 ?_;refine gL (fun m tm O=>∃mH lJ hX,M1 p2 n r4 m mH lJ=some r/\tm=fr 37 [(1,.iM cS p2),(7,.iM cS r4),(8,.vl 0 hX 0 lJ.length),(9,.i6 mH)]/\O=⟨CN lJ hX,1⟩) (fun tm O=>∃iI FP,Zi n iI=some r/\tm=fr 37 [(8,.vl 0 FP 0 iI.length)]/\O=⟨CN iI FP,1⟩) n ⟨0,([]:List Int),0,J,rfl,rfl⟩ ?_ ?_;rintro _ _ ⟨iI,FP,J,rfl,rfl⟩;unfold Zi at J;refine gn ?_;refine c9 (tm':=fr 37 [(8,.iM (cI .i64) iI)]) (O':=⟨[],1⟩) (Gh.trans (Gh.sub (l':=[(8,.vl 0 FP 0 iI.length)]) ⟨rfl,trivial⟩) (DS 0 1)) NZ ?_;obtain⟨o5,fN,J⟩:=aC J;refine go ?_;refine aP rfl (pC (qxy n iI o5 fN) _) S4 ?_;exact gx J;rintro(_|m1) _ _ ⟨mH,lJ,hX,J,rfl,rfl⟩;cases J;unfold M1 at J;refine gF J ?_ ?_<;>intro dP J;refine go ?_;apply aV;obtain⟨KN,rE,J⟩:=aC J;obtain⟨FR,qG,J⟩:=aC J;refine go ?_;refine aZ rE ?_;refine go ?_;refine aP rfl (pC (M2 n r4 KN FR qG) _) mD ?_;refine gn ?_;refine dL (fun tm O=>∃l24 nA,Mi mH (M1 p2 n r4 m1) l24=some r/\tm=fr 37 [(1,.iM cS p2),(7,.iM cS r4),(8,.vl 0 nA 0 l24.length),(9,.i6 mH)]/\O=⟨CN l24 nA,1⟩) ?_ ?_;rintro _ _ ⟨l24,nA,J,rfl,rfl⟩;unfold Mi at J;refine go ?_;exact lC ⟨_,l24,nA,J,rfl,rfl⟩;refine cF J ?_ ?_<;>intro mQ J;obtain⟨mC,J⟩:=d8 J;refine go ?_;refine bU ?_;refine bU ?_;refine go ?_;exact xC ⟨(lJ++[mH]),(hX+1),J,rfl,rfl⟩;refine go ?_;exact xC ⟨lJ,hX,J,rfl,rfl⟩;refine go ?_;exact xC ⟨lJ,hX,J,rfl,rfl⟩
def VK(n:Nat)(p1:List Int)(p2:Int):Option (Int):=
 cond (decide (p2<(p1.length:Int))) (a8 (aB p1 p2) fun x4=>some x4) (some 0)
theorem qlk(n:Nat)(p1:List Int)(p2:Int)(r:Int)(J:VK n p1 p2=some r):dF prog 146 [.isl false (p1.map (cI .u64)),.int .i64 p2] (.int .u64 r):=by
 unfold VK at J;refine gO 13 HV ?_;refine gF J ?_ ?_<;>intro h3 J;obtain⟨x4,h5,J⟩:=aC J;refine go ?_;refine aZ h5 ?_;exact gx J;exact gx J
def Di(n:Nat)(cZ:List Int):Option ((List Int)):=
 a8 (JL n cZ) fun gD=>some gD
def Lx(p1:List Int)(p2:List Int)(n:Nat):Nat->Int->(List Int)->Option ((List Int))
 |0,_,_=>none|m1+1,z8,l9=>
  cond (decide (z8<(p1.length:Int))) (a8 (aB p1 z8) fun jT=>
   a8 (VK n p2 z8) fun i7=>
   aE ((l9.length+1)*8<=140737488355328/\l9.length+1<=140737488355328) ((Lx p1 p2 n m1) (IntKind.i64.wrap (z8+1)) (l9++[(FT .u64 jT i7)]))) (Di n l9)
def VI(n:Nat)(p1:List Int)(p2:List Int):Option ((List Int)):=
 Lx p1 p2 n n 0 ([]:List Int)
theorem qnl(n:Nat)(p1:List Int)(p2:List Int)(r:(List Int))(J:VI n p1 p2=some r):dF prog 119 [.isl false (p1.map (cI .u64)),.isl false (p2.map (cI .u64))] (.isl false (r.map (cI .u64))):=by
 unfold VI at J;refine gO 26 I2 ?_;refine gr ?_;refine gr ?_;refine gr ?_;refine gV 5 191 1 1 ?_;refine gL (fun m tm O=>∃z8 l9 bL,Lx p1 p2 n m z8 l9=some r/\tm=fr 26 [(0,.iM (cI .u64) p1),(1,.iM (cI .u64) p2),(5,.vl 0 bL 0 l9.length),(6,.i6 z8)]/\O=⟨[(0,.bv (cI .u64) l9 191 1 bL)],1⟩) (fun tm O=>∃cZ d7,Di n cZ=some r/\tm=fr 26 [(5,.vl 0 d7 0 cZ.length)]/\O=⟨[(0,.bv (cI .u64) cZ 191 1 d7)],1⟩) n ⟨0,([]:List Int),0,J,rfl,rfl⟩ ?_ ?_;rintro _ _ ⟨cZ,d7,J,rfl,rfl⟩;unfold Di at J;refine gn ?_;refine c9 (tm':=fr 26 [(5,.iM (cI .u64) cZ)]) (O':=⟨[],1⟩) (Gh.trans (Gh.sub (l':=[(5,.vl 0 d7 0 cZ.length)]) ⟨rfl,trivial⟩) (DS 0 1)) NZ ?_;obtain⟨gD,gT,J⟩:=aC J;refine go ?_;refine aP rfl (pC (qr n cZ gD gT) _) wY ?_;exact gx J;rintro(_|m1) _ _ ⟨z8,l9,bL,J,rfl,rfl⟩;cases J;unfold Lx at J;refine gF J ?_ ?_<;>intro eD J;refine go ?_;apply aV;obtain⟨jT,fN,J⟩:=aC J;obtain⟨i7,iB,J⟩:=aC J;obtain⟨rE,J⟩:=d8 J;refine go ?_;refine dE [(0,9)] ?_;refine gd ?_;refine cK fN ?_;refine gd ?_;refine iR rfl (pC (qlk n p2 z8 i7 iB)) HV (aM rfl (vH rfl rfl (lg _ _ _) rfl) ?_);refine dC ?_;refine dC ?_;refine gd ?_;refine bF ⟨by kernel_rfl,⟨g8 rfl,trivial⟩,?_⟩;refine go ?_;exact lC ⟨_,(l9++[(FT .u64 jT i7)]),(bL+1),J,rfl,rfl⟩;refine go ?_;exact xC ⟨l9,bL,J,rfl,rfl⟩
def bn: Option (Bool):=
 some true
def Zm(p1:List Int)(p2:List Int):Nat->Int->Option (Bool)
 |0,_=>none|m1+1,z7=>cond (decide (z7<(p1.length:Int))) (a8 (aB p1 z7) fun x9=>a8 (aB p2 z7) fun j9=>cond (x9 != j9) (some false) ((Zm p1 p2 m1) (IntKind.i64.wrap (z7+1)))) (bn)
def PS(n:Nat)(p1:List Int)(p2:List Int):Option (Bool):=
 cond ((p1.length:Int) != (p2.length:Int)) (some false) (Zm p1 p2 n 0)
theorem qlj(n:Nat)(p1:List Int)(p2:List Int)(r:Bool)(J:PS n p1 p2=some r):dF prog 121 [.isl false (p1.map (cI .u64)),.isl false (p2.map (cI .u64))] (.bool r):=by
 unfold PS at J;refine gO 26 I1 ?_;refine gF J ?_ ?_<;>intro h3 J;exact gx J;refine go ?_;refine gL (fun m tm O=>∃z7,Zm p1 p2 m z7=some r/\tm=fr 26 [(0,.iM (cI .u64) p1),(1,.iM (cI .u64) p2),(5,.i6 z7)]/\O=⟨[],0⟩) (fun tm O=>bn=some r/\tm=fr 26 []/\O=⟨[],0⟩) n ⟨0,J,rfl,rfl⟩ ?_ ?_;rintro _ _ ⟨J,rfl,rfl⟩;unfold bn at J;exact gx J;rintro(_|m1) _ _ ⟨z7,J,rfl,rfl⟩;cases J;unfold Zm at J;refine gF J ?_ ?_<;>intro h8 J;refine go ?_;apply aV;obtain⟨x9,eY,J⟩:=aC J;obtain⟨j9,eX,J⟩:=aC J;refine go ?_;refine dE [] ?_;refine gd ?_;refine cK eY ?_;refine gd ?_;refine cK eX ?_;refine gd ?_;refine bF ⟨by kernel_rfl,trivial,?_⟩;refine gF J ?_ ?_<;>intro dQ J;exact gx J;refine go ?_;exact lC ⟨_,J,rfl,rfl⟩;refine go ?_;exact xC ⟨J,rfl,rfl⟩
def Yi: Option (Bool):=
 some false
def VN(p1:List (List Int))(p2:List Int)(n:Nat):Nat->Int->Option (Bool)
 |0,_=>none|m1+1,z6=>cond (decide (z6<(p1.length:Int))) (a8 (aB p1 z6) fun x8=>a8 (PS n x8 p2) fun lL=>cond lL (some true) ((VN p1 p2 n m1) (IntKind.i64.wrap (z6+1)))) (Yi)
def Xc(n:Nat)(p1:List (List Int))(p2:List Int):Option (Bool):=
 VN p1 p2 n n 0
theorem qxz(n:Nat)(p1:List (List Int))(p2:List Int)(r:Bool)(J:Xc n p1 p2=some r):dF prog 129 [.isl false (List.map (cL (cI .u64)) p1),.isl false (p2.map (cI .u64))] (.bool r):=by
 unfold Xc at J;refine gO 18 S3 ?_;refine go ?_;refine gL (fun m tm O=>∃z6,VN p1 p2 n m z6=some r/\tm=fr 18 [(0,.iM (cL (cI .u64)) p1),(1,.iM (cI .u64) p2),(5,.i6 z6)]/\O=⟨[],0⟩) (fun tm O=>Yi=some r/\tm=fr 18 []/\O=⟨[],0⟩) n ⟨0,J,rfl,rfl⟩ ?_ ?_;rintro _ _ ⟨J,rfl,rfl⟩;unfold Yi at J;exact gx J;rintro(_|m1) _ _ ⟨z6,J,rfl,rfl⟩;cases J;unfold VN at J;refine gF J ?_ ?_<;>intro h7 J;refine go ?_;apply aV;obtain⟨x8,h9,J⟩:=aC J;obtain⟨lL,iZ,J⟩:=aC J;refine go ?_;refine aZ h9 ?_;refine go ?_;refine aP rfl (pC (qlj n x8 p2 lL iZ) _) I1 ?_;refine gF J ?_ ?_<;>intro eX J;exact gx J;refine go ?_;exact lC ⟨_,J,rfl,rfl⟩;refine go ?_;exact xC ⟨J,rfl,rfl⟩
def Mw(j4:Int)(o3:Int->(List (List Int))->Option ((List (List Int))))(XC:List (List Int)):Option ((List (List Int))):=
 o3 (IntKind.i64.wrap (j4+1)) XC
def Mu(z6:Int)(rc1:Int->(List (List Int))->Option ((List (List Int))))(sW:List (List Int)):Option ((List (List Int))):=
 rc1 (IntKind.i64.wrap (z6+1)) sW
def Q0(n:Nat)(z6:Int)(rc1:Int->(List (List Int))->Option ((List (List Int)))):Nat->Int->(List (List Int))->Option ((List (List Int)))
 |0,_,_=>none|m2+1,j4,dI=>
  a8 (cond (decide (j4<z6)) (some (decide ((dI.length:Int)<=256))) (some false)) fun oj=>cond oj (a8 (aB dI z6) fun x28=>
   a8 (aB dI j4) fun FH=>
   a8 (VI n x28 FH) fun E3=>
   a8 (cond (decide ((E3.length:Int)>0)) (a8 (Xc n dI E3) fun jA=>some (!jA)) (some false)) fun Ai=>cond Ai (aE ((dI.length+1)*24<=140737488355328/\dI.length+1<=140737488355328) (
    Mw j4 (Q0 n z6 rc1 m2) (dI++[E3]))) (Mw j4 (Q0 n z6 rc1 m2) dI)) (Mu z6 rc1 dI)
def Mv  (l9:List (List Int)):Option ((List (List Int))):=
 some l9
def JS(n:Nat):Nat->Int->(List (List Int))->Option ((List (List Int)))
 |0,_,_=>none|m1+1,z6,l7=>a8 (cond (decide (z6<(l7.length:Int))) (some (decide ((l7.length:Int)<=256))) (some false)) fun ID=>cond ID (Q0 n z6 (JS n m1) n 0 l7) (Mv l7)
def Lu(n:Nat)(p1:List (List Int)):Option ((List (List Int))):=
 aE (p1.length*24<=140737488355328/\p1.length<=140737488355328) (
 JS n n 0 p1)
theorem qon(n:Nat)(p1:List (List Int))(r:(List (List Int)))(J:Lu n p1=some r):dF prog 96 [.isl false (List.map (cL (cI .u64)) p1)] (.isl false (List.map (cL (cI .u64)) r)):=by
 unfold Lu at J;refine kH 54 So ?_;obtain⟨h2,J⟩:=d8 J;refine go ?_;refine aL (u:=.sl 0 0 0 0) (O':=⟨[(0,.row [] 126)],1⟩) rfl (xO qJ.h oS.h rfl rfl rfl rfl rfl rfl rfl) ?_;refine go ?_;refine aL (u:=.vl 1 0 0 p1.length) (O':=⟨[(1,.bv (cL (cI .u64)) p1 126 1 0),(0,.row [] 126)],2⟩) rfl (AW rfl rfl rfl rfl (uc (cL (cI .u64)) p1 qJ.h qJ.h oS.h rfl rfl rfl (Jf (cL (cI .u64)) (G2 (cI .u64))) h2)) ?_;refine go ?_;refine gL (fun m tm O=>∃z6 l7 t8,JS n m z6 l7=some r/\tm=fr 54 [(3,.vl 1 t8 0 l7.length),(4,.i6 z6)]/\O=⟨PJ l7 t8,2⟩) (fun tm O=>∃l9 bL,Mv l9=some r/\tm=fr 54 [(3,.vl 1 bL 0 l9.length)]/\O=⟨PJ l9 bL,2⟩) n ⟨0,p1,0,J,rfl,rfl⟩ ?_ ?_;rintro _ _ ⟨l9,bL,J,rfl,rfl⟩;unfold Mv at J;refine go ?_;obtain rfl:=sI J;exact rT (us:=[.vl 1 bL 0 l9.length]) (u:=.iM (cL (cI .u64)) l9) (eO rfl (dV)) (fR 1 1);rintro(_|m1) _ _ ⟨z6,l7,t8,J,rfl,rfl⟩;cases J;unfold JS at J;obtain⟨ID,dQ,J⟩:=aC J;refine gn ?_;refine dL (fun tm O=>tm=fr 54 [(3,.vl 1 t8 0 l7.length),(4,.i6 z6),(18,.bool ID)]/\O=⟨PJ l7 t8,2⟩) ?_ ?_;rintro _ _ ⟨rfl,rfl⟩;refine gF J ?_ ?_<;>intro gT J;refine go ?_;apply aV;refine go ?_;refine gL (fun m tm O=>∃j4 dI J7,Q0 n z6 (JS n m1) m j4 dI=some r/\tm=fr 54 [(3,.vl 1 J7 0 dI.length),(4,.i6 z6),(5,.i6 j4)]/\O=⟨PJ dI J7,2⟩) (fun tm O=>∃sW Vl,Mu z6 (JS n m1) sW=some r/\tm=fr 54 [(3,.vl 1 Vl 0 sW.length),(4,.i6 z6)]/\O=⟨PJ sW Vl,2⟩) n ⟨0,l7,t8,J,rfl,rfl⟩ ?_ ?_;rintro _ _ ⟨sW,Vl,J,rfl,rfl⟩;unfold Mu at J;refine go ?_;exact lC ⟨_,sW,Vl,J,rfl,rfl⟩;rintro(_|m2) _ _ ⟨j4,dI,J7,J,rfl,rfl⟩;cases J;unfold Q0 at J;obtain⟨oj,mC,J⟩:=aC J;refine gn ?_;refine dL (fun tm O=>tm=fr 54 [(3,.vl 1 J7 0 dI.length),(4,.i6 z6),(5,.i6 j4),(28,.bool oj)]/\O=⟨PJ dI J7,2⟩) ?_ ?_;rintro _ _ ⟨rfl,rfl⟩;refine gF J ?_ ?_<;>intro sJ J;refine go ?_;apply aV;obtain⟨x28,mP,J⟩:=aC J;obtain⟨FH,oX,J⟩:=aC J;obtain⟨E3,rD,J⟩:=aC J;refine go ?_;refine dE [] ?_;refine gd ?_;refine aM rfl (dZ rfl rfl (fK (cL (cI .u64)) qJ.h (aW oS.h) (by decide) (G2 (cI .u64)) (vo rfl) mP)) ?_;refine aM rfl (qN (cL (cI .u64)) (fun x=>.iM (cI .u64) x) fT.h rfl (fun _=>rfl) rfl rfl mP) ?_;refine gd ?_;refine aM rfl (dZ rfl rfl (fK (cL (cI .u64)) qJ.h (aW oS.h) (by decide) (G2 (cI .u64)) (vo rfl) oX)) ?_;refine aM rfl (qN (cL (cI .u64)) (fun x=>.iM (cI .u64) x) fT.h rfl (fun _=>rfl) rfl rfl oX) (iR rfl (pC (qnl n x28 FH E3 rD)) I2 ?_);refine gd ?_;refine bF ⟨by kernel_rfl,trivial,?_⟩;obtain⟨Ai,mA,J⟩:=aC J;refine gn ?_;refine dL (fun tm O=>tm=fr 54 [(3,.vl 1 J7 0 dI.length),(4,.i6 z6),(5,.i6 j4),(6,.iM (cI .u64) E3),(48,.bool Ai)]/\O=⟨PJ dI J7,2⟩) ?_ ?_;rintro _ _ ⟨rfl,rfl⟩;refine gn ?_;refine dL (fun tm O=>∃XC Vj,Mw j4 (Q0 n z6 (JS n m1) m2) XC=some r/\tm=fr 54 [(3,.vl 1 Vj 0 XC.length),(4,.i6 z6),(5,.i6 j4)]/\O=⟨PJ XC Vj,2⟩) ?_ ?_;rintro _ _ ⟨XC,Vj,J,rfl,rfl⟩;unfold Mw at J;refine go ?_;exact lC ⟨_,XC,Vj,J,rfl,rfl⟩;refine cF J ?_ ?_<;>intro y8 J;obtain⟨uY,J⟩:=d8 J;refine go ?_;refine bU ?_;refine bU ?_;refine go ?_;exact xC ⟨(dI++[E3]),(J7+1),J,rfl,rfl⟩;refine go ?_;exact xC ⟨dI,J7,J,rfl,rfl⟩;refine go ?_;rcases gB mA with⟨mB,mA⟩|⟨mB,mA⟩;obtain⟨jA,BN,mA⟩:=aC mA;obtain rfl:=sI mA;refine go ?_;refine aP rfl (vw (qxz n dI E3 jA BN) (lT 1 1)) S3 ?_;refine go ?_;exact xC ⟨rfl,rfl⟩;exact gy mA;refine go ?_;exact xC ⟨dI,J7,J,rfl,rfl⟩;refine go ?_;rcases gB mC with⟨nZ,mC⟩|⟨nZ,mC⟩;exact gy mC;exact gy mC;refine go ?_;exact xC ⟨l7,t8,J,rfl,rfl⟩;refine go ?_;rcases gB dQ with⟨iZ,dQ⟩|⟨iZ,dQ⟩;exact gy dQ;exact gy dQ
def Du(n:Nat)(cZ:List Int):Option ((List Int)):=
 a8 (JL n cZ) fun gD=>some gD
def Mr(p1:List Int)(p2:List Int)(n:Nat):Nat->Int->(List Int)->Option ((List Int))
 |0,_,_=>none|m1+1,z8,l9=>
  cond (decide (z8<(p1.length:Int))) (a8 (aB p1 z8) fun jT=>
   a8 (VK n p2 z8) fun i7=>
   aE ((l9.length+1)*8<=140737488355328/\l9.length+1<=140737488355328) ((Mr p1 p2 n m1) (IntKind.i64.wrap (z8+1)) (l9++[(PI .u64 jT i7)]))) (Du n l9)
def Cy(n:Nat)(p1:List Int)(p2:List Int):Option ((List Int)):=
 Mr p1 p2 n n 0 ([]:List Int)
theorem qqh(n:Nat)(p1:List Int)(p2:List Int)(r:(List Int))(J:Cy n p1 p2=some r):dF prog 153 [.isl false (p1.map (cI .u64)),.isl false (p2.map (cI .u64))] (.isl false (r.map (cI .u64))):=by
 unfold Cy at J;refine gO 26 RP ?_;refine gr ?_;refine gr ?_;refine gr ?_;refine gV 5 191 1 1 ?_;refine gL (fun m tm O=>∃z8 l9 bL,Mr p1 p2 n m z8 l9=some r/\tm=fr 26 [(0,.iM (cI .u64) p1),(1,.iM (cI .u64) p2),(5,.vl 0 bL 0 l9.length),(6,.i6 z8)]/\O=⟨[(0,.bv (cI .u64) l9 191 1 bL)],1⟩) (fun tm O=>∃cZ d7,Du n cZ=some r/\tm=fr 26 [(5,.vl 0 d7 0 cZ.length)]/\O=⟨[(0,.bv (cI .u64) cZ 191 1 d7)],1⟩) n ⟨0,([]:List Int),0,J,rfl,rfl⟩ ?_ ?_;rintro _ _ ⟨cZ,d7,J,rfl,rfl⟩;unfold Du at J;refine gn ?_;refine c9 (tm':=fr 26 [(5,.iM (cI .u64) cZ)]) (O':=⟨[],1⟩) (Gh.trans (Gh.sub (l':=[(5,.vl 0 d7 0 cZ.length)]) ⟨rfl,trivial⟩) (DS 0 1)) NZ ?_;obtain⟨gD,gT,J⟩:=aC J;refine go ?_;refine aP rfl (pC (qr n cZ gD gT) _) wY ?_;exact gx J;rintro(_|m1) _ _ ⟨z8,l9,bL,J,rfl,rfl⟩;cases J;unfold Mr at J;refine gF J ?_ ?_<;>intro eD J;refine go ?_;apply aV;obtain⟨jT,fN,J⟩:=aC J;obtain⟨i7,iB,J⟩:=aC J;obtain⟨rE,J⟩:=d8 J;refine go ?_;refine dE [(0,9)] ?_;refine gd ?_;refine cK fN ?_;refine gd ?_;refine iR rfl (pC (qlk n p2 z8 i7 iB)) HV (aM rfl (vH rfl rfl (qsd _ _ _) rfl) ?_);refine dC ?_;refine dC ?_;refine gd ?_;refine bF ⟨by kernel_rfl,⟨g8 rfl,trivial⟩,?_⟩;refine go ?_;exact lC ⟨_,(l9++[(PI .u64 jT i7)]),(bL+1),J,rfl,rfl⟩;refine go ?_;exact xC ⟨l9,bL,J,rfl,rfl⟩
def VR(n:Nat)(p1:List Int)(p2:List Int):Option (Bool):=
 a8 (Cy n p1 p2) fun r3=>some ((r3.length:Int)==0)
theorem bq(n:Nat)(p1:List Int)(p2:List Int)(r:Bool)(J:VR n p1 p2=some r):dF prog 134 [.isl false (p1.map (cI .u64)),.isl false (p2.map (cI .u64))] (.bool r):=by
 unfold VR at J;refine gO 10 BO ?_;obtain⟨r3,h4,J⟩:=aC J;refine go ?_;refine aP rfl (pC (qqh n p1 p2 r3 h4) _) RP ?_;exact gx J
def Lm(n:Nat)(p1:List Int)(p2:List Int):Option (Bool):=
 a8 (a8 (VR n p1 p2) fun r3=>cond r3 (a8 (VR n p2 p1) fun r6=>some r6) (some false)) fun b8=>some b8
theorem qqg(n:Nat)(p1:List Int)(p2:List Int)(r:Bool)(J:Lm n p1 p2=some r):dF prog 130 [.isl false (p1.map (cI .u64)),.isl false (p2.map (cI .u64))] (.bool r):=by
 unfold Lm at J;refine gO 13 S2 ?_;obtain⟨b8,h9,J⟩:=aC J;refine gr ?_;refine dL (fun tm O=>tm=fr 13 [(4,.bool b8)]/\O=⟨[],0⟩) ?_ ?_;rintro _ _ ⟨rfl,rfl⟩;exact gx J;obtain⟨r3,h4,h9⟩:=aC h9;refine go ?_;refine aP rfl (pC (bq n p1 p2 r3 h4) _) BO ?_;refine go ?_;rcases gB h9 with⟨h5,h9⟩|⟨h5,h9⟩;obtain⟨r6,h7,h9⟩:=aC h9;obtain rfl:=sI h9;refine go ?_;refine aP rfl (pC (bq n p2 p1 r6 h7) _) BO ?_;refine go ?_;exact xC ⟨rfl,rfl⟩;exact gy h9
def Cp(n:Nat)(p1:List Int)(p2:Int):Option (Bool):=
 a8 (cond (decide (p2<0)) (some true) (some (decide ((IntKind.i64.wrap (p2.tdiv 64))>=(p1.length:Int))))) fun b5=>cond b5 (some false) (a8 (aB p1 (IntKind.i64.wrap (p2.tdiv 64))) fun x9=>aE (¬ (IntKind.u64.wrap (p2.tmod 64))<0) (some ((FT .u64 (x9.fdiv (2^(min (IntKind.u64.wrap (p2.tmod 64)).toNat IntKind.u64.bits))) 1)==1)))
theorem qnm(n:Nat)(p1:List Int)(p2:Int)(r:Bool)(J:Cp n p1 p2=some r):dF prog 131 [.isl false (p1.map (cI .u64)),.int .i64 p2] (.bool r):=by
 unfold Cp at J;refine gO 25 I0 ?_;obtain⟨b5,h6,J⟩:=aC J;refine gr ?_;refine dL (fun tm O=>tm=fr 25 [(0,.iM (cI .u64) p1),(1,.i6 p2),(13,.bool b5)]/\O=⟨[],0⟩) ?_ ?_;rintro _ _ ⟨rfl,rfl⟩;refine gF J ?_ ?_<;>intro h7 J;exact gx J;obtain⟨x9,eY,J⟩:=aC J;obtain⟨eX,J⟩:=d8 J;refine go ?_;refine aL rfl (vH rfl rfl (Vy _ (by decide)) rfl) ?_;refine aZ eY ?_;refine go ?_;refine aL rfl (vH rfl rfl (p_ _ (by decide)) rfl) ?_;refine aL (u:=.int .u64 (IntKind.u64.wrap (p2.tmod 64))) rfl (Ws rfl rfl (by simp only[convX,kL.h,AF.h]<;>rfl) rfl) ?_;refine aL rfl (vH rfl rfl (o_ _ eX) rfl) (aL rfl (vH rfl rfl (lg _ _ _) rfl) ?_);exact gx J;refine go ?_;rcases gB h6 with⟨h3,h6⟩|⟨h3,h6⟩;exact gy h6;obtain rfl:=sI h6;refine go ?_;refine RS.w rfl (vH rfl rfl (Vy _ (by decide)) rfl) ?_;refine go ?_;exact xC ⟨rfl,rfl⟩
def Ng(z8:Int)(rc1:(List (List UInt8))->Int->Option ((List (List UInt8))))(fG:List (List UInt8)):Option ((List (List UInt8))):=
 rc1 fG (IntKind.i64.wrap (z8+1))
def zw  (l9:List (List UInt8)):Option ((List (List UInt8))):=
 some l9
def MC(p1:List bG)(p2:List (List UInt8))(n:Nat):Nat->(List (List UInt8))->Int->Option ((List (List UInt8)))
 |0,_,_=>none|m1+1,l7,z8=>
  cond (decide (z8<(p2.length:Int))) (a8 (aB p2 z8) fun j9=>
   a8 (G7 n p1 j9) fun gD=>cond (decide (gD>=0)) (a8 (aB p2 z8) fun nJ=>
    a8 (LO n l7 nJ) fun E4=>
    Ng z8 (MC p1 p2 n m1) E4) (Ng z8 (MC p1 p2 n m1) l7)) (zw l7)
def qf(n:Nat)(p1:List bG)(p2:List (List UInt8)):Option ((List (List UInt8))):=
 MC p1 p2 n n [] 0
theorem qlz(n:Nat)(p1:List bG)(p2:List (List UInt8))(r:(List (List UInt8)))(J:qf n p1 p2=some r):dF prog 150 [.isl false (p1.map bQ),.isl false (p2.map cS)] (.isl false (r.map cS)):=by
 unfold qf at J;refine gO 27 RV ?_;refine gr ?_;refine gr ?_;refine gr ?_;refine c9 (tm':=fr 27 [(0,.iM bQ p1),(1,.iM cS p2),(5,.iM cS []),(6,.i6 0)]) (Gh.trans (Gh.sub (l':=[(0,.iM bQ p1),(1,.iM cS p2),(5,.nils),(6,.i6 0)]) ⟨rfl,rfl,rfl,rfl,trivial⟩) (Gh.wkS (l':=[(0,.iM bQ p1),(1,.iM cS p2),(5,.iM cS []),(6,.i6 0)]) (.cons (.refl _) (.cons (.refl _) (.cons (.nil false) (.cons (.refl _) .nil)))))) NZ ?_;refine gL (fun m tm O=>∃l7 z8,MC p1 p2 n m l7 z8=some r/\tm=fr 27 [(0,.iM bQ p1),(1,.iM cS p2),(5,.iM cS l7),(6,.i6 z8)]/\O=⟨[],0⟩) (fun tm O=>∃l9,zw l9=some r/\tm=fr 27 [(5,.iM cS l9)]/\O=⟨[],0⟩) n ⟨[],0,J,rfl,rfl⟩ ?_ ?_;rintro _ _ ⟨l9,J,rfl,rfl⟩;unfold zw at J;exact gx J;rintro(_|m1) _ _ ⟨l7,z8,J,rfl,rfl⟩;cases J;unfold MC at J;refine gF J ?_ ?_<;>intro eY J;refine go ?_;apply aV;obtain⟨j9,eX,J⟩:=aC J;obtain⟨gD,gT,J⟩:=aC J;refine go ?_;refine aZ eX ?_;refine go ?_;refine aP rfl (pC (Dg n p1 j9 gD gT) _) rH ?_;refine gn ?_;refine dL (fun tm O=>∃fG,Ng z8 (MC p1 p2 n m1) fG=some r/\tm=fr 27 [(0,.iM bQ p1),(1,.iM cS p2),(5,.iM cS fG),(6,.i6 z8)]/\O=⟨[],0⟩) ?_ ?_;rintro _ _ ⟨fG,J,rfl,rfl⟩;unfold Ng at J;refine go ?_;exact lC ⟨fG,(IntKind.i64.wrap (z8+1)),J,rfl,rfl⟩;refine cF J ?_ ?_<;>intro eD J;obtain⟨nJ,dP,J⟩:=aC J;obtain⟨E4,rE,J⟩:=aC J;refine go ?_;refine aZ dP ?_;refine go ?_;refine aP rfl (pC (Cw n l7 nJ E4 rE) _) rJ ?_;refine go ?_;exact xC ⟨E4,J,rfl,rfl⟩;refine go ?_;exact xC ⟨l7,J,rfl,rfl⟩;refine go ?_;exact xC ⟨l7,J,rfl,rfl⟩
def qo  (eQ:List (List UInt8)):Option ((List (List UInt8))):=
 some eQ
def PZ(n:Nat)(cE:List (List UInt8)):Nat->(List (List UInt8))->Int->Option ((List (List UInt8)))
 |0,_,_=>none|m2+1,fL,eJ=>cond (decide (eJ<(cE.length:Int))) (a8 (aB cE eJ) fun v6=>a8 (LO n fL v6) fun mU=>(PZ n cE m2) mU (IntKind.i64.wrap (eJ+1))) (qo fL)
def Mq(sM:Int)(Ia:Int->(List (List UInt8))->Option ((List (List UInt8))))(oA:List (List UInt8)):Option ((List (List UInt8))):=
 Ia (IntKind.i64.wrap (sM+1)) oA
def qn(dY:Int)(rc1:Int->(List (List UInt8))->Option ((List (List UInt8))))(k8:List (List UInt8)):Option ((List (List UInt8))):=
 rc1 (IntKind.i64.wrap (dY+1)) k8
def M8(n:Nat)(dY:Int)(rc1:Int->(List (List UInt8))->Option ((List (List UInt8))))(jS:bG):Nat->Int->(List (List UInt8))->Option ((List (List UInt8)))
 |0,_,_=>none|m3+1,sM,nX=>
  cond (decide (sM<(jS.Supers.length:Int))) (a8 (aB jS.Supers sM) fun OA=>
   a8 (EQ n nX OA) fun OO=>cond (!OO) (a8 (aB jS.Supers sM) fun IV=>
    aE ((nX.length+1)*16<=140737488355328/\nX.length+1<=140737488355328) (
    Mq sM (M8 n dY rc1 jS m3) (nX++[IV]))) (Mq sM (M8 n dY rc1 jS m3) nX)) (qn dY rc1 nX)
def qp(n:Nat)(cE:List (List UInt8)):Option ((List (List UInt8))):=
 PZ n cE n [] 0
def JR(p1:List bG)(n:Nat):Nat->Int->(List (List UInt8))->Option ((List (List UInt8)))
 |0,_,_=>none|m1+1,dY,cZ=>
  cond (decide (dY<(cZ.length:Int))) (a8 (aB cZ dY) fun x28=>
   a8 (G7 n p1 x28) fun cJ=>
   a8 (aB p1 cJ) fun jS=>
   M8 n dY (JR p1 n m1) jS n 0 cZ) (qp n cZ)
def Ll(n:Nat)(p1:List bG)(p2:List UInt8):Option ((List (List UInt8))):=
 a8 (G7 n p1 p2) fun r3=>cond (decide (r3<0)) (some []) (JR p1 n n 0 ([p2]))
theorem qqi(n:Nat)(p1:List bG)(p2:List UInt8)(r:(List (List UInt8)))(J:Ll n p1 p2=some r):dF prog 151 [.isl false (p1.map bQ),.str p2] (.isl false (r.map cS)):=by
 unfold Ll at J;refine gO 66 RT ?_;obtain⟨r3,h4,J⟩:=aC J;refine go ?_;refine aP rfl (pC (Dg n p1 p2 r3 h4) _) rH ?_;refine gF J ?_ ?_<;>intro h5 J;refine go ?_;obtain rfl:=sI J;exact rT (us:=[.nils]) (u:=.isl false []) (eO rfl (dV)) wR;refine go ?_;refine RS.step (u:=.vl 0 0 0 ([p2].length)) (O':=⟨[(0,.bv cS ([p2]) 9 1 0)],1⟩) rfl (EC.bslv (cs:=(List.map cS [p2]).flatten) tb_ok rfl jH.h GT.h rfl rfl rfl rfl rfl rfl rfl rfl) rfl rfl ?_;refine go ?_;refine gL (fun m tm O=>∃dY cZ d7,JR p1 n m dY cZ=some r/\tm=fr 66 [(0,.iM bQ p1),(5,.vl 0 d7 0 cZ.length),(6,.i6 dY)]/\O=⟨m6 cZ d7,1⟩) (fun tm O=>∃cE g7,qp n cE=some r/\tm=fr 66 [(5,.vl 0 g7 0 cE.length)]/\O=⟨m6 cE g7,1⟩) n ⟨0,[p2],0,J,rfl,rfl⟩ ?_ ?_;rintro _ _ ⟨cE,g7,J,rfl,rfl⟩;unfold qp at J;refine gr ?_;refine gr ?_;refine c9 (tm':=fr 66 [(5,.vl 0 g7 0 cE.length),(9,.iM cS []),(10,.i6 0)]) (Gh.trans (Gh.sub (l':=[(5,.vl 0 g7 0 cE.length),(9,.nils),(10,.i6 0)]) ⟨rfl,rfl,rfl,trivial⟩) (Gh.wkS (l':=[(5,.vl 0 g7 0 cE.length),(9,.iM cS []),(10,.i6 0)]) (.cons (.refl _) (.cons (.nil false) (.cons (.refl _) .nil))))) NZ ?_;refine gL (fun m tm O=>∃fL eJ,PZ n cE m fL eJ=some r/\tm=fr 66 [(5,.vl 0 g7 0 cE.length),(9,.iM cS fL),(10,.i6 eJ)]/\O=⟨m6 cE g7,1⟩) (fun tm O=>∃eQ,qo eQ=some r/\tm=fr 66 [(9,.iM cS eQ)]/\O=⟨m6 cE g7,1⟩) n ⟨[],0,J,rfl,rfl⟩ ?_ ?_;rintro _ _ ⟨eQ,J,rfl,rfl⟩;unfold qo at J;exact gx J;rintro(_|m2) _ _ ⟨fL,eJ,J,rfl,rfl⟩;cases J;unfold PZ at J;refine gF J ?_ ?_<;>intro qG J;refine go ?_;apply aV;obtain⟨v6,nZ,J⟩:=aC J;obtain⟨mU,mC,J⟩:=aC J;refine go ?_;refine aL rfl (dZ rfl rfl (fK cS jH.h (aW GT.h) (by decide) L8 (vo rfl) nZ)) ?_;refine aL rfl (qN cS (fun x=>.str x) IZ.h rfl (fun _=>rfl) rfl rfl nZ) (aP rfl (pC (Cw n fL v6 mU mC) _) rJ ?_);refine go ?_;exact lC ⟨mU,(IntKind.i64.wrap (eJ+1)),J,rfl,rfl⟩;refine go ?_;exact xC ⟨fL,J,rfl,rfl⟩;rintro(_|m1) _ _ ⟨dY,cZ,d7,J,rfl,rfl⟩;cases J;unfold JR at J;refine gF J ?_ ?_<;>intro sJ J;refine go ?_;apply aV;obtain⟨x28,mP,J⟩:=aC J;obtain⟨cJ,oX,J⟩:=aC J;obtain⟨jS,rD,J⟩:=aC J;refine go ?_;refine aL rfl (dZ rfl rfl (fK cS jH.h (aW GT.h) (by decide) L8 (vo rfl) mP)) ?_;refine aL rfl (qN cS (fun x=>.str x) IZ.h rfl (fun _=>rfl) rfl rfl mP) (aP rfl (pC (Dg n p1 x28 cJ oX) _) rH ?_);refine aZ rD ?_;refine go ?_;refine gL (fun m tm O=>∃sM nX C6,M8 n dY (JR p1 n m1) jS m sM nX=some r/\tm=fr 66 [(0,.iM bQ p1),(5,.vl 0 C6 0 nX.length),(6,.i6 dY),(7,.iM cS jS.Supers),(8,.i6 sM)]/\O=⟨m6 nX C6,1⟩) (fun tm O=>∃k8 KT,qn dY (JR p1 n m1) k8=some r/\tm=fr 66 [(0,.iM bQ p1),(5,.vl 0 KT 0 k8.length),(6,.i6 dY)]/\O=⟨m6 k8 KT,1⟩) n ⟨0,cZ,d7,J,rfl,rfl⟩ ?_ ?_;rintro _ _ ⟨k8,KT,J,rfl,rfl⟩;unfold qn at J;refine go ?_;exact lC ⟨_,k8,KT,J,rfl,rfl⟩;rintro(_|m3) _ _ ⟨sM,nX,C6,J,rfl,rfl⟩;cases J;unfold M8 at J;refine gF J ?_ ?_<;>intro qE J;refine go ?_;apply aV;obtain⟨OA,Fu,J⟩:=aC J;obtain⟨OO,it,J⟩:=aC J;refine go ?_;refine aZ Fu ?_;refine go ?_;refine aP rfl (vw (M2 n nX OA OO it) (lT 0 1)) mD ?_;refine gn ?_;refine dL (fun tm O=>∃oA rQ,Mq sM (M8 n dY (JR p1 n m1) jS m3) oA=some r/\tm=fr 66 [(0,.iM bQ p1),(5,.vl 0 rQ 0 oA.length),(6,.i6 dY),(7,.iM cS jS.Supers),(8,.i6 sM)]/\O=⟨m6 oA rQ,1⟩) ?_ ?_;rintro _ _ ⟨oA,rQ,J,rfl,rfl⟩;unfold Mq at J;refine go ?_;exact lC ⟨_,oA,rQ,J,rfl,rfl⟩;refine cF J ?_ ?_<;>intro ir J;obtain⟨IV,RE,J⟩:=aC J;obtain⟨RC,J⟩:=d8 J;refine go ?_;refine aZ RE ?_;refine go ?_;refine bU ?_;refine bU ?_;refine go ?_;exact xC ⟨(nX++[IV]),(C6+1),J,rfl,rfl⟩;refine go ?_;exact xC ⟨nX,C6,J,rfl,rfl⟩;refine go ?_;exact xC ⟨nX,C6,J,rfl,rfl⟩;refine go ?_;exact xC ⟨cZ,d7,J,rfl,rfl⟩
def Nf(dY:Int)(rc1:Int->(List (List UInt8))->Option ((List (List UInt8))))(k9:List (List UInt8)):Option ((List (List UInt8))):=
 rc1 (IntKind.i64.wrap (dY+1)) k9
def zo(r3:(List (List UInt8)))(dY:Int)(cZ:List (List UInt8))(rc1:Int->(List (List UInt8))->Option ((List (List UInt8))))(Ui:Bool):Option ((List (List UInt8))):=
 cond Ui (a8 (aB r3 dY) fun qI=>
  aE ((cZ.length+1)*16<=140737488355328/\cZ.length+1<=140737488355328) (
  Nf dY rc1 (cZ++[qI]))) (Nf dY rc1 cZ)
def WD(n:Nat)(r3:(List (List UInt8)))(dY:Int)(cZ:List (List UInt8))(rc1:Int->(List (List UInt8))->Option ((List (List UInt8))))(i7:(List (List UInt8))):Nat->Bool->Int->Option ((List (List UInt8)))
 |0,_,_=>none|m2+1,IC,o0=>cond (decide (o0<(r3.length:Int))) (a8 (cond IC (cond (o0==dY) (some true) (a8 (aB r3 o0) fun uB=>a8 (EQ n i7 uB) fun yz=>some (!yz))) (some false)) fun kg=>(WD n r3 dY cZ rc1 i7 m2) kg (IntKind.i64.wrap (o0+1))) (zo r3 dY cZ rc1 IC)
def zp  (cE:List (List UInt8)):Option ((List (List UInt8))):=
 some cE
def GB(p1:List bG)(n:Nat)(r3:(List (List UInt8))):Nat->Int->(List (List UInt8))->Option ((List (List UInt8)))
 |0,_,_=>none|m1+1,dY,cZ=>
  cond (decide (dY<(r3.length:Int))) (a8 (aB r3 dY) fun jT=>
   a8 (Ll n p1 jT) fun i7=>
   WD n r3 dY cZ (GB p1 n r3 m1) i7 n true 0) (zp cZ)
def Dn(n:Nat)(p1:List bG)(p2:List (List UInt8)):Option ((List (List UInt8))):=
 a8 (qf n p1 p2) fun r3=>
 GB p1 n r3 n 0 ([]:List (List UInt8))
theorem qgk(n:Nat)(p1:List bG)(p2:List (List UInt8))(r:(List (List UInt8)))(J:Dn n p1 p2=some r):dF prog 132 [.isl false (p1.map bQ),.isl false (p2.map cS)] (.isl false (r.map cS)):=by
 unfold Dn at J;refine gO 56 HZ ?_;obtain⟨r3,h4,J⟩:=aC J;refine go ?_;refine aP rfl (pC (qlz n p1 p2 r3 h4) _) RV ?_;refine gr ?_;refine gV 5 9 1 1 ?_;refine gL (fun m tm O=>∃dY cZ d7,GB p1 n r3 m dY cZ=some r/\tm=fr 56 [(0,.iM bQ p1),(5,.vl 0 d7 0 cZ.length),(6,.iM cS r3),(7,.i6 dY)]/\O=⟨m6 cZ d7,1⟩) (fun tm O=>∃cE g7,zp cE=some r/\tm=fr 56 [(5,.vl 0 g7 0 cE.length)]/\O=⟨m6 cE g7,1⟩) n ⟨0,([]:List (List UInt8)),0,J,rfl,rfl⟩ ?_ ?_;rintro _ _ ⟨cE,g7,J,rfl,rfl⟩;unfold zp at J;refine go ?_;obtain rfl:=sI J;exact rT (us:=[.vl 0 g7 0 cE.length]) (u:=.iM cS cE) (eO rfl (dV)) (fR 0 1);rintro(_|m1) _ _ ⟨dY,cZ,d7,J,rfl,rfl⟩;cases J;unfold GB at J;refine gF J ?_ ?_<;>intro eD J;refine go ?_;apply aV;obtain⟨jT,fN,J⟩:=aC J;obtain⟨i7,iB,J⟩:=aC J;refine go ?_;refine aZ fN ?_;refine go ?_;refine aP rfl (pC (qqi n p1 jT i7 iB) _) RT ?_;refine go ?_;refine gL (fun m tm O=>∃IC o0,WD n r3 dY cZ (GB p1 n r3 m1) i7 m IC o0=some r/\tm=fr 56 [(0,.iM bQ p1),(5,.vl 0 d7 0 cZ.length),(6,.iM cS r3),(7,.i6 dY),(8,.iM cS i7),(9,.bool IC),(10,.i6 o0)]/\O=⟨m6 cZ d7,1⟩) (fun tm O=>∃Ui,zo r3 dY cZ (GB p1 n r3 m1) Ui=some r/\tm=fr 56 [(0,.iM bQ p1),(5,.vl 0 d7 0 cZ.length),(6,.iM cS r3),(7,.i6 dY),(9,.bool Ui)]/\O=⟨m6 cZ d7,1⟩) n ⟨true,0,J,rfl,rfl⟩ ?_ ?_;rintro _ _ ⟨Ui,J,rfl,rfl⟩;unfold zo at J;refine gr ?_;refine dL (fun tm O=>∃k9 nK,Nf dY (GB p1 n r3 m1) k9=some r/\tm=fr 56 [(0,.iM bQ p1),(5,.vl 0 nK 0 k9.length),(6,.iM cS r3),(7,.i6 dY)]/\O=⟨m6 k9 nK,1⟩) ?_ ?_;rintro _ _ ⟨k9,nK,J,rfl,rfl⟩;unfold Nf at J;refine go ?_;exact lC ⟨_,k9,nK,J,rfl,rfl⟩;refine cF J ?_ ?_<;>intro oX J;obtain⟨qI,pR,J⟩:=aC J;obtain⟨BN,J⟩:=d8 J;refine go ?_;refine aZ pR ?_;refine go ?_;refine bU ?_;refine bU ?_;refine go ?_;exact xC ⟨(cZ++[qI]),(d7+1),J,rfl,rfl⟩;refine go ?_;exact xC ⟨cZ,d7,J,rfl,rfl⟩;rintro(_|m2) _ _ ⟨IC,o0,J,rfl,rfl⟩;cases J;unfold WD at J;refine gF J ?_ ?_<;>intro BM J;refine go ?_;apply aV;obtain⟨kg,qE,J⟩:=aC J;refine gn ?_;refine dL (fun tm O=>tm=fr 56 [(0,.iM bQ p1),(5,.vl 0 d7 0 cZ.length),(6,.iM cS r3),(7,.i6 dY),(8,.iM cS i7),(9,.bool kg),(10,.i6 o0)]/\O=⟨m6 cZ d7,1⟩) ?_ ?_;rintro _ _ ⟨rfl,rfl⟩;refine go ?_;exact lC ⟨kg,(IntKind.i64.wrap (o0+1)),J,rfl,rfl⟩;refine go ?_;rcases gB qE with⟨mA,qE⟩|⟨mA,qE⟩;refine go ?_;rcases gB qE with⟨y8,qE⟩|⟨y8,qE⟩;exact gy qE;obtain⟨uB,NI,qE⟩:=aC qE;obtain⟨yz,kc,qE⟩:=aC qE;obtain rfl:=sI qE;refine go ?_;refine aZ NI ?_;refine go ?_;refine aP rfl (pC (M2 n i7 uB yz kc) _) mD ?_;refine go ?_;exact xC ⟨rfl,rfl⟩;obtain rfl:=sI qE;refine go ?_
 repeat refine RS.no (CF rfl rfl rfl) rfl rfl ?_
 refine go ?_;exact xC ⟨rfl,rfl⟩;refine go ?_;exact xC ⟨IC,J,rfl,rfl⟩;refine go ?_;exact xC ⟨cZ,d7,J,rfl,rfl⟩
def Mh(dR:(List (List UInt8)))(eE:Int)(o3:(List UInt8)->Int->Option ((List UInt8)))(OI:List UInt8):Option ((List UInt8)):=
 a8 (aB dR eE) fun x28=>
 aE (OI.length+x28.length<=9223372036854775807) (
 o3 (OI++x28) (IntKind.i64.wrap (eE+1)))
def Zg  (Hw:List UInt8):Option ((List UInt8)):=
 some Hw
def JM(dR:(List (List UInt8))):Nat->(List UInt8)->Int->Option ((List UInt8))
 |0,_,_=>none|m2+1,uG,eE=>
  cond (decide (eE<(dR.length:Int))) (cond (decide (eE>0)) (aE (uG.length+([38]).length<=9223372036854775807) (
    Mh dR eE (JM dR m2) (uG++[38]))) (Mh dR eE (JM dR m2) uG)) (Zg uG)
def Mf(eK:Int)(rc1:Int->(List (List UInt8))->Option ((List UInt8)))(k8:List (List UInt8)):Option ((List UInt8)):=
 rc1 (IntKind.i64.wrap (eK+1)) k8
def Zh(p1:List bG)(n:Nat)(d5:List (List UInt8)):Option ((List UInt8)):=
 a8 (Dn n p1 d5) fun dR=>
 JM dR n [] 0
def LZ(p1:List bG)(p2:List (List UInt8))(p3:List (List Int))(p4:List Int)(n:Nat):Nat->Int->(List (List UInt8))->Option ((List UInt8))
 |0,_,_=>none|m1+1,eK,cE=>
  cond (decide (eK<(p2.length:Int))) (a8 (aB p3 eK) fun oZ=>
   a8 (Lm n oZ p4) fun jA=>cond jA (a8 (aB p2 eK) fun IW=>some IW) (a8 (Cp n p4 eK) fun UH=>cond UH (a8 (aB p2 eK) fun yk=>
     aE ((cE.length+1)*16<=140737488355328/\cE.length+1<=140737488355328) (
     Mf eK (LZ p1 p2 p3 p4 n m1) (cE++[yk]))) (Mf eK (LZ p1 p2 p3 p4 n m1) cE))) (Zh p1 n cE)
def Kt(n:Nat)(p1:List bG)(p2:List (List UInt8))(p3:List (List Int))(p4:List Int):Option ((List UInt8)):=
 LZ p1 p2 p3 p4 n n 0 ([]:List (List UInt8))
theorem qt3(n:Nat)(p1:List bG)(p2:List (List UInt8))(p3:List (List Int))(p4:List Int)(r:(List UInt8))(J:Kt n p1 p2 p3 p4=some r):dF prog 97 [.isl false (p1.map bQ),.isl false (p2.map cS),.isl false (List.map (cL (cI .u64)) p3),.isl false (p4.map (cI .u64))] (.str r):=by
 unfold Kt at J;refine nr 59 Sm ?_;refine gr ?_;refine gr ?_;refine gr ?_;refine gV 9 9 1 1 ?_;refine gL (fun m tm O=>∃eK cE g7,LZ p1 p2 p3 p4 n m eK cE=some r/\tm=fr 59 [(0,.iM bQ p1),(1,.iM cS p2),(2,.iM (cL (cI .u64)) p3),(3,.iM (cI .u64) p4),(9,.vl 0 g7 0 cE.length),(10,.i6 eK)]/\O=⟨m6 cE g7,1⟩) (fun tm O=>∃d5 iW,Zh p1 n d5=some r/\tm=fr 59 [(0,.iM bQ p1),(9,.vl 0 iW 0 d5.length)]/\O=⟨m6 d5 iW,1⟩) n ⟨0,([]:List (List UInt8)),0,J,rfl,rfl⟩ ?_ ?_;rintro _ _ ⟨d5,iW,J,rfl,rfl⟩;unfold Zh at J;refine gn ?_;refine c9 (tm':=fr 59 [(0,.iM bQ p1),(9,.iM cS d5)]) (O':=⟨[],1⟩) (Gh.trans (Gh.sub (l':=[(0,.iM bQ p1),(9,.vl 0 iW 0 d5.length)]) ⟨rfl,rfl,trivial⟩) (DS 0 1)) NZ ?_;obtain⟨dR,dP,J⟩:=aC J;refine go ?_;refine aP rfl (pC (qgk n p1 d5 dR dP) _) HZ ?_;refine go ?_;refine gL (fun m tm O=>∃uG eE,JM dR m uG eE=some r/\tm=fr 59 [(9,.iM cS dR),(11,.str uG),(12,.i6 eE)]/\O=⟨[],1⟩) (fun tm O=>∃Hw,Zg Hw=some r/\tm=fr 59 [(11,.str Hw)]/\O=⟨[],1⟩) n ⟨[],0,J,rfl,rfl⟩ ?_ ?_;rintro _ _ ⟨Hw,J,rfl,rfl⟩;unfold Zg at J;exact gx J;rintro(_|m2) _ _ ⟨uG,eE,J,rfl,rfl⟩;cases J;unfold JM at J;refine gF J ?_ ?_<;>intro lS J;refine go ?_;apply aV;refine gr ?_;refine dL (fun tm O=>∃OI,Mh dR eE (JM dR m2) OI=some r/\tm=fr 59 [(9,.iM cS dR),(11,.str OI),(12,.i6 eE)]/\O=⟨[],1⟩) ?_ ?_;rintro _ _ ⟨OI,J,rfl,rfl⟩;unfold Mh at J;obtain⟨x28,mP,J⟩:=aC J;obtain⟨vQ,J⟩:=d8 J;refine go ?_;refine aZ mP ?_;refine go ?_;refine aL (u:=.str (OI++x28)) rfl (EH rfl rfl (rl vQ) rfl) ?_;refine go ?_;exact lC ⟨(OI++x28),(IntKind.i64.wrap (eE+1)),J,rfl,rfl⟩;refine cF J ?_ ?_<;>intro mC J;obtain⟨oX,J⟩:=d8 J;refine go ?_;refine aL (u:=.str (uG++[38])) rfl (EH rfl rfl (rl oX) rfl) ?_;refine go ?_;exact xC ⟨(uG++[38]),J,rfl,rfl⟩;refine go ?_;exact xC ⟨uG,J,rfl,rfl⟩;refine go ?_;exact xC ⟨uG,J,rfl,rfl⟩;rintro(_|m1) _ _ ⟨eK,cE,g7,J,rfl,rfl⟩;cases J;unfold LZ at J;refine gF J ?_ ?_<;>intro oW J;refine go ?_;apply aV;obtain⟨oZ,mB,J⟩:=aC J;obtain⟨jA,BN,J⟩:=aC J;refine go ?_;refine aZ mB ?_;refine go ?_;refine aP rfl (pC (qqg n oZ p4 jA BN) _) S2 ?_;refine gF J ?_ ?_<;>intro BM J;obtain⟨IW,y8,J⟩:=aC J;refine go ?_;refine aZ y8 ?_;exact gx J;obtain⟨UH,NI,J⟩:=aC J;refine go ?_;refine aP rfl (pC (qnm n p4 eK UH NI) _) I0 ?_;refine gn ?_;refine dL (fun tm O=>∃k8 KT,Mf eK (LZ p1 p2 p3 p4 n m1) k8=some r/\tm=fr 59 [(0,.iM bQ p1),(1,.iM cS p2),(2,.iM (cL (cI .u64)) p3),(3,.iM (cI .u64) p4),(9,.vl 0 KT 0 k8.length),(10,.i6 eK)]/\O=⟨m6 k8 KT,1⟩) ?_ ?_;rintro _ _ ⟨k8,KT,J,rfl,rfl⟩;unfold Mf at J;refine go ?_;exact lC ⟨_,k8,KT,J,rfl,rfl⟩;refine cF J ?_ ?_<;>intro uY J;obtain⟨yk,h46,J⟩:=aC J;obtain⟨Fu,J⟩:=d8 J;refine go ?_;refine aZ h46 ?_;refine go ?_;refine bU ?_;refine bU ?_;refine go ?_;exact xC ⟨(cE++[yk]),(g7+1),J,rfl,rfl⟩;refine go ?_;exact xC ⟨cE,g7,J,rfl,rfl⟩;refine go ?_;exact xC ⟨cE,g7,J,rfl,rfl⟩
def Mj(z6:Int)(rc1:Int->(List Int)->Option ((List Int)))(d5:List Int):Option ((List Int)):=
 rc1 (IntKind.i64.wrap (z6+1)) d5
def Zn  (l9:List Int):Option ((List Int)):=
 some l9
def M3(p1:List Int)(n:Nat):Nat->Int->(List Int)->Option ((List Int))
 |0,_,_=>none|m1+1,z6,l7=>
  cond (decide (z6<(IntKind.i64.wrap (64*(p1.length:Int))))) (a8 (Cp n p1 z6) fun fI=>cond fI (aE ((l7.length+1)*8<=140737488355328/\l7.length+1<=140737488355328) (
    Mj z6 (M3 p1 n m1) (l7++[z6]))) (Mj z6 (M3 p1 n m1) l7)) (Zn l7)
def Xy(n:Nat)(p1:List Int):Option ((List Int)):=
 M3 p1 n n 0 ([]:List Int)
theorem qt0(n:Nat)(p1:List Int)(r:(List Int))(J:Xy n p1=some r):dF prog 152 [.isl false (p1.map (cI .u64))] (.isl false (r.map (cI .i64))):=by
 unfold Xy at J;refine kH 20 RR ?_;refine gr ?_;refine gr ?_;refine gr ?_;refine gV 3 3 1 1 ?_;refine gL (fun m tm O=>∃z6 l7 t8,M3 p1 n m z6 l7=some r/\tm=fr 20 [(0,.iM (cI .u64) p1),(3,.vl 0 t8 0 l7.length),(4,.i6 z6)]/\O=⟨CN l7 t8,1⟩) (fun tm O=>∃l9 bL,Zn l9=some r/\tm=fr 20 [(3,.vl 0 bL 0 l9.length)]/\O=⟨CN l9 bL,1⟩) n ⟨0,([]:List Int),0,J,rfl,rfl⟩ ?_ ?_;rintro _ _ ⟨l9,bL,J,rfl,rfl⟩;unfold Zn at J;refine go ?_;obtain rfl:=sI J;exact rT (us:=[.vl 0 bL 0 l9.length]) (u:=.iM (cI .i64) l9) (eO rfl (dV)) (fR 0 1);rintro(_|m1) _ _ ⟨z6,l7,t8,J,rfl,rfl⟩;cases J;unfold M3 at J;refine gF J ?_ ?_<;>intro iZ J;refine go ?_;apply aV;obtain⟨fI,dQ,J⟩:=aC J;refine go ?_;refine aP rfl (pC (qnm n p1 z6 fI dQ) _) I0 ?_;refine gn ?_;refine dL (fun tm O=>∃d5 iW,Mj z6 (M3 p1 n m1) d5=some r/\tm=fr 20 [(0,.iM (cI .u64) p1),(3,.vl 0 iW 0 d5.length),(4,.i6 z6)]/\O=⟨CN d5 iW,1⟩) ?_ ?_;rintro _ _ ⟨d5,iW,J,rfl,rfl⟩;unfold Mj at J;refine go ?_;exact lC ⟨_,d5,iW,J,rfl,rfl⟩;refine cF J ?_ ?_<;>intro gT J;obtain⟨fN,J⟩:=d8 J;refine go ?_;refine bU ?_;refine bU ?_;refine go ?_;exact xC ⟨(l7++[z6]),(t8+1),J,rfl,rfl⟩;refine go ?_;exact xC ⟨l7,t8,J,rfl,rfl⟩;refine go ?_;exact xC ⟨l7,t8,J,rfl,rfl⟩
def Cz(n:Nat)(p1:List Int):Option (Int):=
 a8 (Xy n p1) fun r2=>some (r2.length:Int)
theorem qjn(n:Nat)(p1:List Int)(r:Int)(J:Cz n p1=some r):dF prog 133 [.isl false (p1.map (cI .u64))] (.int .i64 r):=by
 unfold Cz at J;refine kH 6 HY ?_;obtain⟨r2,h3,J⟩:=aC J;refine go ?_;refine aP rfl (pC (qt0 n p1 r2 h3) _) RR ?_;exact gx J
def Lv(n:Nat)(p1:dG)(p2:dG):Option (Bool):=
 a8 (Cz n p1.Code) fun r3=>
 a8 (Cz n p2.Code) fun r5=>
 a8 (cond (decide (r3>r5)) (some true) (cond (r3==r5) (some (jN p1.Name p2.Name)) (some false))) fun b9=>some b9
theorem qom(n:Nat)(p1:dG)(p2:dG)(r:Bool)(J:Lv n p1 p2=some r):dF prog 98 [.agg (fE p1),.agg (fE p2)] (.bool r):=by
 unfold Lv at J;refine gO 28 Sl ?_;obtain⟨r3,h4,J⟩:=aC J;refine go ?_;refine aP rfl (pC (qjn n p1.Code r3 h4) _) HY ?_;obtain⟨r5,h6,J⟩:=aC J;refine go ?_;refine aP rfl (pC (qjn n p2.Code r5 h6) _) HY ?_;obtain⟨b9,eY,J⟩:=aC J;refine gn ?_;refine dL (fun tm O=>tm=fr 28 [(4,.bool b9)]/\O=⟨[(1,.row (fE p2) 128),(0,.row (fE p1) 128)],2⟩) ?_ ?_;rintro _ _ ⟨rfl,rfl⟩;exact gx J;refine go ?_;rcases gB eY with⟨h7,eY⟩|⟨h7,eY⟩;obtain rfl:=sI eY;refine go ?_
 repeat refine RS.no (CF rfl rfl rfl) rfl rfl ?_
 refine go ?_;exact xC ⟨rfl,rfl⟩;refine go ?_;rcases gB eY with⟨h8,eY⟩|⟨h8,eY⟩;obtain rfl:=sI eY;refine go ?_;refine RS.w (u:=.bool (jN p1.Name p2.Name)) rfl (EH rfl rfl rfl rfl) ?_;refine go ?_;exact xC ⟨rfl,rfl⟩;exact gy eY
def Mm(iU:Int)(cY:List dG)(o3:Int->(List dG)->Option ((List dG)×Int))(jA:(List UInt8))(jR:List Int)(gJ:Int):Option ((List dG)×Int):=
 aE ((0:Int)<=gJ/\gJ<=((cY.length:Nat):Int)) (
 aE (0+gJ.toNat<=cY.length) (
 aE (((cY.drop 0).take gJ.toNat).length*40<=140737488355328/\((cY.drop 0).take gJ.toNat).length<=140737488355328) (
 aE ((((cY.drop 0).take gJ.toNat).length+1)*40<=140737488355328/\((cY.drop 0).take gJ.toNat).length+1<=140737488355328) (
 aE ((0:Int)<=gJ/\gJ<=((cY.length:Nat):Int)) (
 aE ((0+gJ.toNat)+(cY.length-gJ.toNat)<=cY.length) (
 aE (((((cY.drop 0).take gJ.toNat)++[(dG.mk jA jR)]).length+((cY.drop (0+gJ.toNat)).take (cY.length-gJ.toNat)).length)*40<=140737488355328/\(((cY.drop 0).take gJ.toNat)++[(dG.mk jA jR)]).length+((cY.drop (0+gJ.toNat)).take (cY.length-gJ.toNat)).length<=140737488355328) (
 o3 (IntKind.i64.wrap (iU+1)) ((((cY.drop 0).take gJ.toNat)++[(dG.mk jA jR)])++((cY.drop (0+gJ.toNat)).take (cY.length-gJ.toNat))))))))))
def Ds(n:Nat)(iU:Int)(cY:List dG)(o3:Int->(List dG)->Option ((List dG)×Int))(jA:(List UInt8))(jR:List Int):Nat->Int->Option ((List dG)×Int)
 |0,_=>none|m3+1,IL=>a8 (cond (decide (IL>0)) (a8 (aB cY (IntKind.i64.wrap (IL-1))) fun DU=>a8 (Lv n (dG.mk jA jR) DU) fun ON=>some ON) (some false)) fun ob=>cond ob ((Ds n iU cY o3 jA jR m3) (IntKind.i64.wrap (IL-1))) (Mm iU cY o3 jA jR IL)
def Zz  (oC:List dG):Option ((List dG)×Int):=
 some (oC,0)
def M5(p1:List bG)(n:Nat)(r5:(List (List UInt8)))(d5:List (List Int))(dR:(List (List Int))):Nat->Int->(List dG)->Option ((List dG)×Int)
 |0,_,_=>none|m2+1,iU,cY=>
  cond (decide (iU<(dR.length:Int))) (a8 (aB dR iU) fun oZ=>
   a8 (Kt n p1 r5 d5 oZ) fun jA=>
   a8 (aB dR iU) fun jR=>
   Ds n iU cY (M5 p1 n r5 d5 dR m2) jA jR n (cY.length:Int)) (Zz cY)
def qb(p1:List bG)(n:Nat)(r5:(List (List UInt8)))(d5:List (List Int)):Option ((List dG)×Int):=
 a8 (Lu n d5) fun dR=>cond (decide ((dR.length:Int)>256)) (some ([],7)) (M5 p1 n r5 d5 dR n 0 ([]:List dG))
def W2(p1:List bG)(n:Nat)(r5:(List (List UInt8))):Nat->Int->(List (List Int))->Option ((List dG)×Int)
 |0,_,_=>none|m1+1,eK,cE=>
  cond (decide (eK<(r5.length:Int))) (a8 (aB r5 eK) fun yg=>
   a8 (Ku n p1 r5 yg) fun Vp=>
   aE ((cE.length+1)*24<=140737488355328/\cE.length+1<=140737488355328) ((W2 p1 n r5 m1) (IntKind.i64.wrap (eK+1)) (cE++[Vp]))) (qb p1 n r5 cE)
def LS(n:Nat)(p1:List bG):Option ((List dG)×Int):=
 a8 (Lj n p1) fun r2=>cond (r2 != 0) (some ([],r2)) (a8 (Li n p1) fun r5=>W2 p1 n r5 n 0 ([]:List (List Int)))
theorem Zk(n:Nat)(p1:List bG)(r:(List dG)×Int)(J:LS n p1=some r):dF prog 60 [.isl false (p1.map bQ)] (.tup [.isl false (r.1.map fE),.int .i64 r.2]):=by
 unfold LS at J;refine kH 92 HQ ?_;obtain⟨r2,h3,J⟩:=aC J;refine go ?_;refine aP rfl (pC (qqk n p1 r2 h3) _) Sq ?_;refine gF J ?_ ?_<;>intro h4 J;refine go ?_;obtain rfl:=sI J;exact rT (us:=[.nils,.i6 r2]) (u:=.tup [.isl false [],.i6 r2]) (eO rfl (eO rfl (dV))) wR;obtain⟨r5,h6,J⟩:=aC J;refine go ?_;refine aP rfl (pC (qjp n p1 r5 h6) _) Z4 ?_;refine gr ?_;refine gr ?_;refine gV 6 126 1 1 ?_;refine gL (fun m tm O=>∃eK cE g7,W2 p1 n r5 m eK cE=some r/\tm=fr 92 [(0,.iM bQ p1),(5,.iM cS r5),(6,.vl 0 g7 0 cE.length),(7,.i6 eK)]/\O=⟨[(0,.bv (cL (cI .u64)) cE 126 1 g7)],1⟩) (fun tm O=>∃d5 iW,qb p1 n r5 d5=some r/\tm=fr 92 [(0,.iM bQ p1),(5,.iM cS r5),(6,.vl 0 iW 0 d5.length)]/\O=⟨[(0,.bv (cL (cI .u64)) d5 126 1 iW)],1⟩) n ⟨0,([]:List (List Int)),0,J,rfl,rfl⟩ ?_ ?_;rintro _ _ ⟨d5,iW,J,rfl,rfl⟩;unfold qb at J;refine gn ?_;refine c9 (tm':=fr 92 [(0,.iM bQ p1),(5,.iM cS r5),(6,.iM (cL (cI .u64)) d5)]) (O':=⟨[],1⟩) (Gh.trans (Gh.sub (l':=[(0,.iM bQ p1),(5,.iM cS r5),(6,.vl 0 iW 0 d5.length)]) ⟨rfl,rfl,rfl,trivial⟩) (DS 0 1)) NZ ?_;obtain⟨dR,dP,J⟩:=aC J;refine go ?_;refine aP rfl (pC (qon n d5 dR dP) _) So ?_;refine gF J ?_ ?_<;>intro iB J;refine go ?_;obtain rfl:=sI J;exact rT (us:=[.nils,.i6 7]) (u:=.tup [.isl false [],.i6 7]) (eO rfl (eO rfl (dV))) wR;refine gr ?_;refine gr ?_;refine gV 9 128 2 2 ?_;refine gL (fun m tm O=>∃iU cY pV,M5 p1 n r5 d5 dR m iU cY=some r/\tm=fr 92 [(0,.iM bQ p1),(5,.iM cS r5),(6,.iM (cL (cI .u64)) d5),(8,.iM (cL (cI .u64)) dR),(9,.vl 1 pV 0 cY.length),(10,.i6 iU)]/\O=⟨[(1,.bv fE cY 128 2 pV)],2⟩) (fun tm O=>∃oC J6,Zz oC=some r/\tm=fr 92 [(9,.vl 1 J6 0 oC.length)]/\O=⟨[(1,.bv fE oC 128 2 J6)],2⟩) n ⟨0,([]:List dG),0,J,rfl,rfl⟩ ?_ ?_;rintro _ _ ⟨oC,J6,J,rfl,rfl⟩;unfold Zz at J;refine go ?_;obtain rfl:=sI J;exact rT (us:=[.vl 1 J6 0 oC.length,.i6 0]) (u:=.tup [.iM fE oC,.i6 0]) (eO rfl (eO rfl (dV))) (fR 1 2);rintro(_|m2) _ _ ⟨iU,cY,pV,J,rfl,rfl⟩;cases J;unfold M5 at J;refine gF J ?_ ?_<;>intro oW J;refine go ?_;apply aV;obtain⟨oZ,mB,J⟩:=aC J;obtain⟨jA,BN,J⟩:=aC J;obtain⟨jR,mA,J⟩:=aC J;refine go ?_;refine dE [(0,13),(1,13),(2,13),(3,13),(4,13),(5,13),(6,13),(8,13),(9,13),(10,13),(11,13),(12,13)] ?_;refine gd ?_;refine cK mB ?_;refine gd ?_;refine iR rfl (pC (qt3 n p1 r5 d5 oZ jA BN)) Sm ?_;refine gd ?_;refine cK mA ?_;refine gd ?_;refine dC ?_;refine v5 ?_;refine bF ⟨by kernel_rfl,⟨g8 rfl,⟨g8 rfl,⟨g8 rfl,⟨g8 rfl,⟨g8 rfl,⟨dZ rfl rfl (Bq (cL (cI .u64)) qJ.h (aW oS.h) (G2 (cI .u64)) mB rfl),⟨Iq fT.h rfl rfl rfl,⟨g8 rfl,⟨g8 rfl,⟨dZ rfl rfl (Bq (cL (cI .u64)) qJ.h (aW oS.h) (G2 (cI .u64)) mA rfl),⟨Iq fT.h rfl rfl rfl,⟨Vt Ug.h rfl rfl rfl,trivial⟩⟩⟩⟩⟩⟩⟩⟩⟩⟩⟩⟩,?_⟩;refine go ?_;refine gL (fun m tm O=>∃IL,Ds n iU cY (M5 p1 n r5 d5 dR m2) jA jR m IL=some r/\tm=fr 92 [(0,.iM bQ p1),(5,.iM cS r5),(6,.iM (cL (cI .u64)) d5),(8,.iM (cL (cI .u64)) dR),(9,.vl 1 pV 0 cY.length),(10,.i6 iU),(11,.ptr 2 0 0),(12,.i6 IL)]/\O=⟨Jw (.str jA) jR cY pV,3⟩) (fun tm O=>∃gJ,Mm iU cY (M5 p1 n r5 d5 dR m2) jA jR gJ=some r/\tm=fr 92 [(0,.iM bQ p1),(5,.iM cS r5),(6,.iM (cL (cI .u64)) d5),(8,.iM (cL (cI .u64)) dR),(9,.vl 1 pV 0 cY.length),(10,.i6 iU),(11,.ptr 2 0 0),(12,.i6 gJ)]/\O=⟨Jw (.str jA) jR cY pV,3⟩) n ⟨(cY.length:Int),J,rfl,rfl⟩ ?_ ?_;rintro _ _ ⟨gJ,J,rfl,rfl⟩;unfold Mm at J;obtain⟨vP,J⟩:=d8 J;obtain⟨NH,J⟩:=d8 J;obtain⟨h53,J⟩:=d8 J;refine go ?_;refine aL (u:=.vl 1 pV 0 gJ.toNat) rfl (nR rfl fJ (nN rfl) fJ (J9 fE qK.h (aW qP.h) PV (vo rfl) (Nat.le_of_eq (Nat.zero_add _)) (P8 vP.1 vP.2))) (aL (u:=.vl 3 0 0 (((cY.drop 0).take gJ.toNat).length)) (O':=⟨(3,.bv fE ((cY.drop 0).take gJ.toNat) 128 2 0)::Jw (.str jA) jR cY pV,4⟩) rfl (AW rfl rfl rfl rfl (ub fE ((cY.drop 0).take gJ.toNat) qK.h qK.h qP.h rfl (Vr fE PV (vo rfl) NH) h53)) ?_);obtain⟨RE,J⟩:=d8 J;refine go ?_;refine bU ?_;refine bU ?_;obtain⟨RC,J⟩:=d8 J;obtain⟨YP,J⟩:=d8 J;obtain⟨HO,J⟩:=d8 J;refine go ?_;refine aL (u:=.vl 1 pV (0+gJ.toNat) (cY.length-gJ.toNat)) rfl (nR rfl (nN rfl) fJ fJ (J9 fE qK.h (aW qP.h) PV (vo rfl) (Nat.le_of_eq (Nat.zero_add _)) (Wf RC.1 RC.2))) (aL (u:=.vl 3 2 0 (((((cY.drop 0).take gJ.toNat)++[(dG.mk jA jR)])++((cY.drop (0+gJ.toNat)).take (cY.length-gJ.toNat))).length)) (O':=⟨(4,.row [.str jA,.iM (cI .u64) jR] 128)::(3,.bv fE ((((cY.drop 0).take gJ.toNat)++[(dG.mk jA jR)])++((cY.drop (0+gJ.toNat)).take (cY.length-gJ.toNat))) 128 2 2)::Jw (.str jA) jR cY pV,5⟩) rfl (AW rfl rfl rfl rfl (P9 fE ((cY.drop (0+gJ.toNat)).take (cY.length-gJ.toNat)) qK.h qK.h qP.h rfl PV rfl (Vr fE PV (vo rfl) YP) HO)) ?_);refine go ?_;exact⟨m2,_,_,zN _,⟨(IntKind.i64.wrap (iU+1)),((((cY.drop 0).take gJ.toNat)++[(dG.mk jA jR)])++((cY.drop (0+gJ.toNat)).take (cY.length-gJ.toNat))),2,J,rfl,rfl⟩,NZ,Gh.trans (Gh.sub (l':=[(0,.iM bQ p1),(5,.iM cS r5),(6,.iM (cL (cI .u64)) d5),(8,.iM (cL (cI .u64)) dR),(9,.vl 3 2 0 (((((cY.drop 0).take gJ.toNat)++[(dG.mk jA jR)])++((cY.drop (0+gJ.toNat)).take (cY.length-gJ.toNat))).length)),(10,.i6 (IntKind.i64.wrap (iU+1)))]) ⟨rfl,rfl,rfl,rfl,rfl,rfl,trivial⟩) (Gh.trans (Gh.mv (l':=[(0,.iM bQ p1),(5,.iM cS r5),(6,.iM (cL (cI .u64)) d5),(8,.iM (cL (cI .u64)) dR),(9,.vl 1 2 0 (((((cY.drop 0).take gJ.toNat)++[(dG.mk jA jR)])++((cY.drop (0+gJ.toNat)).take (cY.length-gJ.toNat))).length)),(10,.i6 (IntKind.i64.wrap (iU+1)))]) (h':=[(4,.row [.str jA,.iM (cI .u64) jR] 128),(1,.bv fE ((((cY.drop 0).take gJ.toNat)++[(dG.mk jA jR)])++((cY.drop (0+gJ.toNat)).take (cY.length-gJ.toNat))) 128 2 2),(2,.row [.str jA,.iM (cI .u64) jR] 128)]) 1 3 NZ rfl rfl (by simp only[rS,rU,iD,PB,xV,Nat.beq,zC,zD]) rfl (by simp only[Uk,rB,Bm,iD,rU,PB,Vs,xV,Nat.beq,zC,zD,and_self])) (Gh.toC (n1:=2) ⟨rfl,rfl,rfl,rfl,rfl,rfl,trivial⟩ rfl NZ (by simp)))⟩;rintro(_|m3) _ _ ⟨IL,J,rfl,rfl⟩;cases J;unfold Ds at J;obtain⟨ob,pQ,J⟩:=aC J;refine gn ?_;refine dL (fun tm O=>tm=fr 92 [(0,.iM bQ p1),(5,.iM cS r5),(6,.iM (cL (cI .u64)) d5),(8,.iM (cL (cI .u64)) dR),(9,.vl 1 pV 0 cY.length),(10,.i6 iU),(11,.ptr 2 0 0),(12,.i6 IL),(73,.bool ob)]/\O=⟨Jw (.str jA) jR cY pV,3⟩) ?_ ?_;rintro _ _ ⟨rfl,rfl⟩;refine gF J ?_ ?_<;>intro iq J;refine go ?_;apply aV;refine go ?_;exact lC ⟨_,J,rfl,rfl⟩;refine go ?_;exact xC ⟨IL,J,rfl,rfl⟩;refine dE [] ?_;refine gd ?_;rcases gB pQ with⟨RB,pQ⟩|⟨RB,pQ⟩;obtain⟨DU,NG,pQ⟩:=aC pQ;obtain⟨ON,DE,pQ⟩:=aC pQ;obtain rfl:=sI pQ;refine gd ?_;refine RD.w rfl (dZ rfl rfl (fK fE qK.h (aW qP.h) (by decide) PV (vo rfl) NG)) ?_;refine RD.w (u:=.agg (fE DU)) rfl (OZ fE OF.h rfl (aW qP.h) PV rfl rfl NG rfl) (iR rfl (pC (qom n (dG.mk jA jR) DU ON DE)) Sl ?_);refine gd ?_;refine bF ⟨by kernel_rfl,trivial,?_⟩;refine go ?_;exact xC ⟨rfl,rfl⟩;obtain rfl:=sI pQ;refine gd ?_;refine bF ⟨by kernel_rfl,trivial,?_⟩;refine go ?_;exact xC ⟨rfl,rfl⟩;refine go ?_;exact xC ⟨cY,pV,J,rfl,rfl⟩;rintro(_|m1) _ _ ⟨eK,cE,g7,J,rfl,rfl⟩;cases J;unfold W2 at J;refine gF J ?_ ?_<;>intro uX J;refine go ?_;apply aV;obtain⟨yg,jy,J⟩:=aC J;obtain⟨Vp,h70,J⟩:=aC J;obtain⟨jw,J⟩:=d8 J;refine go ?_;refine aZ jy ?_;refine go ?_;refine aP rfl (pC (qt2 n p1 r5 yg Vp h70) _) Sp ?_;refine bU ?_;refine bU ?_;refine go ?_;exact lC ⟨_,(cE++[Vp]),(g7+1),J,rfl,rfl⟩;refine go ?_;exact xC ⟨cE,g7,J,rfl,rfl⟩
def Zs: Option ((List UInt8)×Bool):=
 some ([],false)
def VX(p1:bG)(p2:List UInt8):Nat->Int->Option ((List UInt8)×Bool)
 |0,_=>none|m1+1,z8=>cond (decide (z8<(p1.Feats.length:Int))) (a8 (aB p1.Feats z8) fun mT=>cond (kO mT.Feat p2) (a8 (aB p1.Feats z8) fun DW=>some (DW.Value,true)) ((VX p1 p2 m1) (IntKind.i64.wrap (z8+1)))) (Zs)
def Lf(n:Nat)(p1:bG)(p2:List UInt8):Option ((List UInt8)×Bool):=
 VX p1 p2 n 0
theorem qjs(n:Nat)(p1:bG)(p2:List UInt8)(r:(List UInt8)×Bool)(J:Lf n p1 p2=some r):dF prog 118 [.agg (bQ p1),.str p2] (.tup [.str r.1,.bool r.2]):=by
 unfold Lf at J;refine gO 28 I3 ?_;refine go ?_;refine gL (fun m tm O=>∃z8,VX p1 p2 m z8=some r/\tm=fr 28 [(1,.str p2),(2,.ptr 0 0 0),(6,.i6 z8)]/\O=⟨[(0,.row (bQ p1) 138)],1⟩) (fun tm O=>Zs=some r/\tm=fr 28 []/\O=⟨[(0,.row (bQ p1) 138)],1⟩) n ⟨0,J,rfl,rfl⟩ ?_ ?_;rintro _ _ ⟨J,rfl,rfl⟩;unfold Zs at J;refine go ?_;obtain rfl:=sI J;exact J8 rfl rfl rfl rfl rfl;rintro(_|m1) _ _ ⟨z8,J,rfl,rfl⟩;cases J;unfold VX at J;refine gF J ?_ ?_<;>intro h9 J;refine go ?_;apply aV;obtain⟨mT,iZ,J⟩:=aC J;refine go ?_;refine aZ iZ ?_;refine go ?_;refine aL (u:=.bool (kO mT.Feat p2)) rfl (EH rfl rfl rfl rfl) ?_;refine gF J ?_ ?_<;>intro eX J;obtain⟨DW,gT,J⟩:=aC J;refine go ?_;refine aZ gT ?_;refine go ?_;obtain rfl:=sI J;exact J8 rfl rfl rfl rfl rfl;refine go ?_;exact lC ⟨_,J,rfl,rfl⟩;refine go ?_;exact xC ⟨J,rfl,rfl⟩
def Mk(z8:Int)(rc1:(List (List UInt8))->Int->Option ((List UInt8)×Bool))(eQ:List (List UInt8)):Option ((List UInt8)×Bool):=
 rc1 eQ (IntKind.i64.wrap (z8+1))
def Zt(p1:List bG)(n:Nat)(l9:List (List UInt8)):Option ((List UInt8)×Bool):=
 a8 (Dn n p1 l9) fun lL=>cond ((lL.length:Int) != 1) (some ([],false)) (a8 (aB lL 0) fun DW=>some (DW,true))
def M4(p1:List bG)(p2:List UInt8)(n:Nat):Nat->(List (List UInt8))->Int->Option ((List UInt8)×Bool)
 |0,_,_=>none|m1+1,l7,z8=>
  cond (decide (z8<(p1.length:Int))) (a8 (aB p1 z8) fun jT=>
   a8 (Lf n jT p2) fun i7=>cond i7.2 (a8 (aB p1 z8) fun iC=>
    a8 (LO n l7 iC.Name) fun vB=>
    Mk z8 (M4 p1 p2 n m1) vB) (Mk z8 (M4 p1 p2 n m1) l7)) (Zt p1 n l7)
def Lg(n:Nat)(p1:List bG)(p2:List UInt8):Option ((List UInt8)×Bool):=
 M4 p1 p2 n n [] 0
theorem qjr(n:Nat)(p1:List bG)(p2:List UInt8)(r:(List UInt8)×Bool)(J:Lg n p1 p2=some r):dF prog 100 [.isl false (p1.map bQ),.str p2] (.tup [.str r.1,.bool r.2]):=by
 unfold Lg at J;refine gO 43 I5 ?_;refine gr ?_;refine gr ?_;refine gr ?_;refine c9 (tm':=fr 43 [(0,.iM bQ p1),(1,.str p2),(6,.iM cS []),(7,.i6 0)]) (Gh.trans (Gh.sub (l':=[(0,.iM bQ p1),(1,.str p2),(6,.nils),(7,.i6 0)]) ⟨rfl,rfl,rfl,rfl,trivial⟩) (Gh.wkS (l':=[(0,.iM bQ p1),(1,.str p2),(6,.iM cS []),(7,.i6 0)]) (.cons (.refl _) (.cons (.refl _) (.cons (.nil false) (.cons (.refl _) .nil)))))) NZ ?_;refine gL (fun m tm O=>∃l7 z8,M4 p1 p2 n m l7 z8=some r/\tm=fr 43 [(0,.iM bQ p1),(1,.str p2),(6,.iM cS l7),(7,.i6 z8)]/\O=⟨[],0⟩) (fun tm O=>∃l9,Zt p1 n l9=some r/\tm=fr 43 [(0,.iM bQ p1),(6,.iM cS l9)]/\O=⟨[],0⟩) n ⟨[],0,J,rfl,rfl⟩ ?_ ?_;rintro _ _ ⟨l9,J,rfl,rfl⟩;unfold Zt at J;obtain⟨lL,iZ,J⟩:=aC J;refine go ?_;refine aP rfl (pC (qgk n p1 l9 lL iZ) _) HZ ?_;refine gF J ?_ ?_<;>intro eX J;refine go ?_;obtain rfl:=sI J;exact J8 rfl rfl rfl rfl rfl;obtain⟨DW,gT,J⟩:=aC J;refine go ?_;refine aZ gT ?_;refine go ?_;obtain rfl:=sI J;exact J8 rfl rfl rfl rfl rfl;rintro(_|m1) _ _ ⟨l7,z8,J,rfl,rfl⟩;cases J;unfold M4 at J;refine gF J ?_ ?_<;>intro eD J;refine go ?_;apply aV;obtain⟨jT,fN,J⟩:=aC J;obtain⟨i7,iB,J⟩:=aC J;refine go ?_;refine aZ fN ?_;refine go ?_;refine aP rfl (pC (qjs n jT p2 i7 iB) _) I3 ?_;refine gr ?_;refine dL (fun tm O=>∃eQ,Mk z8 (M4 p1 p2 n m1) eQ=some r/\tm=fr 43 [(0,.iM bQ p1),(1,.str p2),(6,.iM cS eQ),(7,.i6 z8)]/\O=⟨[],0⟩) ?_ ?_;rintro _ _ ⟨eQ,J,rfl,rfl⟩;unfold Mk at J;refine go ?_;exact lC ⟨eQ,(IntKind.i64.wrap (z8+1)),J,rfl,rfl⟩;refine cF J ?_ ?_<;>intro rE J;obtain⟨iC,mQ,J⟩:=aC J;obtain⟨vB,lS,J⟩:=aC J;refine go ?_;refine aZ mQ ?_;refine go ?_;refine aP rfl (pC (Cw n l7 iC.Name vB lS) _) rJ ?_;refine go ?_;exact xC ⟨vB,J,rfl,rfl⟩;refine go ?_;exact xC ⟨l7,J,rfl,rfl⟩;refine go ?_;exact xC ⟨l7,J,rfl,rfl⟩
def VV(n:Nat)(p1:List UInt8):Option (Bool):=
 a8 (Da n p1 true) fun r2=>some r2
theorem qnk(n:Nat)(p1:List UInt8)(r:Bool)(J:VV n p1=some r):dF prog 145 [.str p1] (.bool r):=by
 unfold VV at J;refine kH 5 RY ?_;obtain⟨r2,h3,J⟩:=aC J;refine go ?_;refine aP rfl (pC (qjm n p1 true r2 h3) _) HU ?_;exact gx J
def wo(n:Nat)(r2:(List (List UInt8)))(x9:bG)(jG:Int)(o3:Int->Option (Int)): Option (Int):=
 a8 (aB x9.Feats jG) fun FH=>
 a8 (EQ n r2 FH.Value) fun E3=>cond (!E3) (some 5) (o3 (IntKind.i64.wrap (jG+1)))
def Ei(n:Nat)(r2:(List (List UInt8)))(x9:bG)(jG:Int)(o3:Int->Option (Int)):Nat->Int->Option (Int)
 |0,_=>none|m3+1,o0=>cond (decide (o0<jG)) (a8 (aB x9.Feats o0) fun kK=>a8 (aB x9.Feats jG) fun IW=>cond (kO kK.Feat IW.Feat) (some 4) ((Ei n r2 x9 jG o3 m3) (IntKind.i64.wrap (o0+1)))) (wo n r2 x9 jG o3)
def wq(z7:Int)(rc1:Int->Option (Int)): Option (Int):=
 rc1 (IntKind.i64.wrap (z7+1))
def JW(n:Nat)(r2:(List (List UInt8)))(z7:Int)(rc1:Int->Option (Int))(x9:bG):Nat->Int->Option (Int)
 |0,_=>none|m2+1,jG=>cond (decide (jG<(x9.Feats.length:Int))) (a8 (aB x9.Feats jG) fun DV=>a8 (VV n DV.Feat) fun L1=>cond (!L1) (some 1) (Ei n r2 x9 jG (JW n r2 z7 rc1 x9 m2) n 0)) (wq z7 rc1)
def wt: Option (Int):=
 some 0
def CR(p1:List bG)(n:Nat)(r2:(List (List UInt8))):Nat->Int->Option (Int)
 |0,_=>none|m1+1,z7=>cond (decide (z7<(p1.length:Int))) (a8 (aB p1 z7) fun x9=>JW n r2 z7 (CR p1 n r2 m1) x9 n 0) (wt)
def Nj(n:Nat)(p1:List bG):Option (Int):=
 a8 (Li n p1) fun r2=>
 CR p1 n r2 n 0
theorem qhk(n:Nat)(p1:List bG)(r:Int)(J:Nj n p1=some r):dF prog 116 [.isl false (p1.map bQ)] (.int .i64 r):=by
 unfold Nj at J;refine kH 58 SA ?_;obtain⟨r2,h3,J⟩:=aC J;refine go ?_;refine aP rfl (pC (qjp n p1 r2 h3) _) Z4 ?_;refine go ?_;refine gL (fun m tm O=>∃z7,CR p1 n r2 m z7=some r/\tm=fr 58 [(0,.iM bQ p1),(3,.iM cS r2),(4,.i6 z7)]/\O=⟨[],0⟩) (fun tm O=>wt=some r/\tm=fr 58 []/\O=⟨[],0⟩) n ⟨0,J,rfl,rfl⟩ ?_ ?_;rintro _ _ ⟨J,rfl,rfl⟩;unfold wt at J;exact gx J;rintro(_|m1) _ _ ⟨z7,J,rfl,rfl⟩;cases J;unfold CR at J;refine gF J ?_ ?_<;>intro h8 J;refine go ?_;apply aV;obtain⟨x9,eY,J⟩:=aC J;refine go ?_;refine aZ eY ?_;refine go ?_;refine gL (fun m tm O=>∃jG,JW n r2 z7 (CR p1 n r2 m1) x9 m jG=some r/\tm=fr 58 [(0,.iM bQ p1),(3,.iM cS r2),(4,.i6 z7),(5,.iM kP x9.Feats),(6,.i6 jG)]/\O=⟨[],0⟩) (fun tm O=>wq z7 (CR p1 n r2 m1)=some r/\tm=fr 58 [(0,.iM bQ p1),(3,.iM cS r2),(4,.i6 z7)]/\O=⟨[],0⟩) n ⟨0,J,rfl,rfl⟩ ?_ ?_;rintro _ _ ⟨J,rfl,rfl⟩;unfold wq at J;refine go ?_;exact lC ⟨_,J,rfl,rfl⟩;rintro(_|m2) _ _ ⟨jG,J,rfl,rfl⟩;cases J;unfold JW at J;refine gF J ?_ ?_<;>intro fN J;refine go ?_;apply aV;obtain⟨DV,iB,J⟩:=aC J;obtain⟨L1,kF,J⟩:=aC J;refine go ?_;refine aZ iB ?_;refine go ?_;refine aP rfl (pC (qnk n DV.Feat L1 kF) _) RY ?_;refine gF J ?_ ?_<;>intro qG J;exact gx J;refine go ?_;refine gL (fun m tm O=>∃o0,Ei n r2 x9 jG (JW n r2 z7 (CR p1 n r2 m1) x9 m2) m o0=some r/\tm=fr 58 [(0,.iM bQ p1),(3,.iM cS r2),(4,.i6 z7),(5,.iM kP x9.Feats),(6,.i6 jG),(7,.i6 o0)]/\O=⟨[],0⟩) (fun tm O=>wo n r2 x9 jG (JW n r2 z7 (CR p1 n r2 m1) x9 m2)=some r/\tm=fr 58 [(0,.iM bQ p1),(3,.iM cS r2),(4,.i6 z7),(5,.iM kP x9.Feats),(6,.i6 jG)]/\O=⟨[],0⟩) n ⟨0,J,rfl,rfl⟩ ?_ ?_;rintro _ _ ⟨J,rfl,rfl⟩;unfold wo at J;obtain⟨FH,oX,J⟩:=aC J;obtain⟨E3,rD,J⟩:=aC J;refine go ?_;refine aZ oX ?_;refine go ?_;refine aP rfl (pC (M2 n r2 FH.Value E3 rD) _) mD ?_;refine gF J ?_ ?_<;>intro mB J;exact gx J;refine go ?_;exact lC ⟨_,J,rfl,rfl⟩;rintro(_|m3) _ _ ⟨o0,J,rfl,rfl⟩;cases J;unfold Ei at J;refine gF J ?_ ?_<;>intro pR J;refine go ?_;apply aV;obtain⟨kK,BM,J⟩:=aC J;obtain⟨IW,y8,J⟩:=aC J;refine go ?_;refine dE [] ?_;refine gd ?_;refine cK BM ?_;refine gd ?_;refine cK y8 ?_;refine gd ?_;refine aM (u:=.bool (kO kK.Feat IW.Feat)) rfl (EH rfl rfl rfl rfl) ?_;refine bF ⟨by kernel_rfl,trivial,?_⟩;refine gF J ?_ ?_<;>intro BL J;exact gx J;refine go ?_;exact lC ⟨_,J,rfl,rfl⟩;refine go ?_;exact xC ⟨J,rfl,rfl⟩;refine go ?_;exact xC ⟨J,rfl,rfl⟩;refine go ?_;exact xC ⟨J,rfl,rfl⟩
def Zu(z6:Int)(rc1:(List (List UInt8))->Int->Option ((List (List UInt8))))(d5:List (List UInt8)):Option ((List (List UInt8))):=
 rc1 d5 (IntKind.i64.wrap (z6+1))
def VY(p1:List bG)(n:Nat)(z6:Int)(rc1:(List (List UInt8))->Int->Option ((List (List UInt8)))):Nat->(List (List UInt8))->Int->Option ((List (List UInt8)))
 |0,_,_=>none|m2+1,cE,uA=>
  a8 (aB p1 z6) fun jT=>cond (decide (uA<(jT.Feats.length:Int))) (a8 (aB p1 z6) fun KN=>
   a8 (aB KN.Feats uA) fun sN=>
   a8 (LO n cE sN.Feat) fun w5=>(VY p1 n z6 rc1 m2) w5 (IntKind.i64.wrap (uA+1))) (Zu z6 rc1 cE)
def Zv  (l7:List (List UInt8)):Option ((List (List UInt8))):=
 some l7
def JO(p1:List bG)(n:Nat):Nat->(List (List UInt8))->Int->Option ((List (List UInt8)))
 |0,_,_=>none|m1+1,l5,z6=>cond (decide (z6<(p1.length:Int))) (VY p1 n z6 (JO p1 n m1) n l5 0) (Zv l5)
def VM(n:Nat)(p1:List bG):Option ((List (List UInt8))):=
 JO p1 n n [] 0
theorem bm(n:Nat)(p1:List bG)(r:(List (List UInt8)))(J:VM n p1=some r):dF prog 90 [.isl false (p1.map bQ)] (.isl false (r.map cS)):=by
 unfold VM at J;refine kH 34 NK ?_;refine gr ?_;refine gr ?_;refine gr ?_;refine c9 (tm':=fr 34 [(0,.iM bQ p1),(3,.iM cS []),(4,.i6 0)]) (Gh.trans (Gh.sub (l':=[(0,.iM bQ p1),(3,.nils),(4,.i6 0)]) ⟨rfl,rfl,rfl,trivial⟩) (Gh.wkS (l':=[(0,.iM bQ p1),(3,.iM cS []),(4,.i6 0)]) (.cons (.refl _) (.cons (.nil false) (.cons (.refl _) .nil))))) NZ ?_;refine gL (fun m tm O=>∃l5 z6,JO p1 n m l5 z6=some r/\tm=fr 34 [(0,.iM bQ p1),(3,.iM cS l5),(4,.i6 z6)]/\O=⟨[],0⟩) (fun tm O=>∃l7,Zv l7=some r/\tm=fr 34 [(3,.iM cS l7)]/\O=⟨[],0⟩) n ⟨[],0,J,rfl,rfl⟩ ?_ ?_;rintro _ _ ⟨l7,J,rfl,rfl⟩;unfold Zv at J;exact gx J;rintro(_|m1) _ _ ⟨l5,z6,J,rfl,rfl⟩;cases J;unfold JO at J;refine gF J ?_ ?_<;>intro h8 J;refine go ?_;apply aV;refine go ?_;refine gL (fun m tm O=>∃cE uA,VY p1 n z6 (JO p1 n m1) m cE uA=some r/\tm=fr 34 [(0,.iM bQ p1),(3,.iM cS cE),(4,.i6 z6),(5,.i6 uA)]/\O=⟨[],0⟩) (fun tm O=>∃d5,Zu z6 (JO p1 n m1) d5=some r/\tm=fr 34 [(0,.iM bQ p1),(3,.iM cS d5),(4,.i6 z6)]/\O=⟨[],0⟩) n ⟨l5,0,J,rfl,rfl⟩ ?_ ?_;rintro _ _ ⟨d5,J,rfl,rfl⟩;unfold Zu at J;refine go ?_;exact lC ⟨d5,(IntKind.i64.wrap (z6+1)),J,rfl,rfl⟩;rintro(_|m2) _ _ ⟨cE,uA,J,rfl,rfl⟩;cases J;unfold VY at J;obtain⟨jT,fN,J⟩:=aC J;refine go ?_;refine aZ fN ?_;refine gF J ?_ ?_<;>intro dP J;refine go ?_;apply aV;obtain⟨KN,rE,J⟩:=aC J;obtain⟨sN,qG,J⟩:=aC J;obtain⟨w5,nZ,J⟩:=aC J;refine go ?_;refine aZ rE ?_;refine go ?_;refine aZ qG ?_;refine go ?_;refine aP rfl (pC (Cw n cE sN.Feat w5 nZ) _) rJ ?_;refine go ?_;exact lC ⟨w5,(IntKind.i64.wrap (uA+1)),J,rfl,rfl⟩;refine go ?_;exact xC ⟨cE,J,rfl,rfl⟩;refine go ?_;exact xC ⟨l5,J,rfl,rfl⟩
def qy: Option (Int):=
 some (-1)
def WA(p1:List dG)(p2:List UInt8):Nat->Int->Option (Int)
 |0,_=>none|m1+1,z6=>cond (decide (z6<(p1.length:Int))) (a8 (aB p1 z6) fun x8=>cond (kO x8.Name p2) (some z6) ((WA p1 p2 m1) (IntKind.i64.wrap (z6+1)))) (qy)
def De(n:Nat)(p1:List dG)(p2:List UInt8):Option (Int):=
 WA p1 p2 n 0
theorem bp(n:Nat)(p1:List dG)(p2:List UInt8)(r:Int)(J:De n p1 p2=some r):dF prog 101 [.isl false (p1.map fE),.str p2] (.int .i64 r):=by
 unfold De at J;refine gO 20 BP ?_;refine go ?_;refine gL (fun m tm O=>∃z6,WA p1 p2 m z6=some r/\tm=fr 20 [(0,.iM fE p1),(1,.str p2),(5,.i6 z6)]/\O=⟨[],0⟩) (fun tm O=>qy=some r/\tm=fr 20 []/\O=⟨[],0⟩) n ⟨0,J,rfl,rfl⟩ ?_ ?_;rintro _ _ ⟨J,rfl,rfl⟩;unfold qy at J;exact gx J;rintro(_|m1) _ _ ⟨z6,J,rfl,rfl⟩;cases J;unfold WA at J;refine gF J ?_ ?_<;>intro h7 J;refine go ?_;apply aV;obtain⟨x8,h9,J⟩:=aC J;refine go ?_;refine aZ h9 ?_;refine go ?_;refine aL (u:=.bool (kO x8.Name p2)) rfl (EH rfl rfl rfl rfl) ?_;refine gF J ?_ ?_<;>intro eY J;exact gx J;refine go ?_;exact lC ⟨_,J,rfl,rfl⟩;refine go ?_;exact xC ⟨J,rfl,rfl⟩
def PX(n:Nat)(p1:List dG)(p2:Int)(p3:Int):Option (Bool):=
 a8 (aB p1 p3) fun x4=>
 a8 (aB p1 p2) fun x6=>
 a8 (VR n x4.Code x6.Code) fun r8=>some r8
theorem zn(n:Nat)(p1:List dG)(p2:Int)(p3:Int)(r:Bool)(J:PX n p1 p2 p3=some r):dF prog 99 [.isl false (p1.map fE),.int .i64 p2,.int .i64 p3] (.bool r):=by
 unfold PX at J;refine KA 18 HP ?_;obtain⟨x4,h5,J⟩:=aC J;obtain⟨x6,h7,J⟩:=aC J;obtain⟨r8,h9,J⟩:=aC J;refine go ?_;refine dE [] ?_;refine gd ?_;refine cK h5 ?_;refine gd ?_;refine cK h7 ?_;refine gd ?_;refine iR rfl (pC (bq n x4.Code x6.Code r8 h9)) BO ?_;refine gd ?_;refine bF ⟨by kernel_rfl,trivial,?_⟩;exact gx J
def wa  (wZ:Bool) (qO:List Int):Option ((List Int)×Bool):=
 some (qO,wZ)
def Q3(p1:List bG)(p2:List dG)(p3:Int)(p4:List UInt8)(n:Nat):Nat->Bool->(List Int)->Int->Option ((List Int)×Bool)
 |0,_,_,_=>none|m1+1,tL,d5,jG=>
  cond (decide (jG<(p1.length:Int))) (a8 (aB p1 jG) fun jD=>
   a8 (Lf n jD p4) fun pW=>
   a8 (cond (!pW.2) (some true) (a8 (aB p1 jG) fun IX=>
    a8 (De n p2 IX.Name) fun L0=>
    a8 (PX n p2 L0 p3) fun ld=>some (!ld))) fun oi=>cond oi ((Q3 p1 p2 p3 p4 n m1) tL d5 (IntKind.i64.wrap (jG+1))) (a8 (De n p2 pW.1) fun UI=>
    a8 (aB p2 UI) fun kK=>
    a8 (VI n d5 kK.Code) fun OP=>(Q3 p1 p2 p3 p4 n m1) true OP (IntKind.i64.wrap (jG+1)))) (wa tL d5)
def Dx(n:Nat)(p1:List bG)(p2:List dG)(p3:Int)(p4:List UInt8):Option ((List Int)×Bool):=
 a8 (aB p2 0) fun x5=>
 Q3 p1 p2 p3 p4 n n false x5.Code 0
theorem qeo(n:Nat)(p1:List bG)(p2:List dG)(p3:Int)(p4:List UInt8)(r:(List Int)×Bool)(J:Dx n p1 p2 p3 p4=some r):dF prog 91 [.isl false (p1.map bQ),.isl false (p2.map fE),.int .i64 p3,.str p4] (.tup [.isl false (r.1.map (cI .u64)),.bool r.2]):=by
 unfold Dx at J;refine nr 60 Z5 ?_;obtain⟨x5,h6,J⟩:=aC J;refine go ?_;refine aZ h6 ?_;refine go ?_;refine gL (fun m tm O=>∃tL d5 jG,Q3 p1 p2 p3 p4 n m tL d5 jG=some r/\tm=fr 60 [(0,.iM bQ p1),(1,.iM fE p2),(2,.i6 p3),(3,.str p4),(10,.bool tL),(11,.iM (cI .u64) d5),(12,.i6 jG)]/\O=⟨[],0⟩) (fun tm O=>∃wZ qO,wa wZ qO=some r/\tm=fr 60 [(10,.bool wZ),(11,.iM (cI .u64) qO)]/\O=⟨[],0⟩) n ⟨false,x5.Code,0,J,rfl,rfl⟩ ?_ ?_;rintro _ _ ⟨wZ,qO,J,rfl,rfl⟩;unfold wa at J;refine go ?_;obtain rfl:=sI J;exact J8 rfl rfl rfl rfl rfl;rintro(_|m1) _ _ ⟨tL,d5,jG,J,rfl,rfl⟩;cases J;unfold Q3 at J;refine gF J ?_ ?_<;>intro iB J;refine go ?_;apply aV;obtain⟨jD,kF,J⟩:=aC J;obtain⟨pW,mQ,J⟩:=aC J;refine go ?_;refine aZ kF ?_;refine go ?_;refine aP rfl (pC (qjs n jD p4 pW mQ) _) I3 ?_;obtain⟨oi,oW,J⟩:=aC J;refine gn ?_;refine dL (fun tm O=>tm=fr 60 [(0,.iM bQ p1),(1,.iM fE p2),(2,.i6 p3),(3,.str p4),(10,.bool tL),(11,.iM (cI .u64) d5),(12,.i6 jG),(13,.str pW.1),(48,.bool oi)]/\O=⟨[],0⟩) ?_ ?_;rintro _ _ ⟨rfl,rfl⟩;refine gF J ?_ ?_<;>intro rD J;refine go ?_;exact lC ⟨tL,d5,(IntKind.i64.wrap (jG+1)),J,rfl,rfl⟩;obtain⟨UI,pR,J⟩:=aC J;obtain⟨kK,BM,J⟩:=aC J;obtain⟨OP,y8,J⟩:=aC J;refine go ?_;refine aP rfl (pC (bp n p2 pW.1 UI pR) _) BP ?_;refine aZ BM ?_;refine go ?_;refine aP rfl (pC (qnl n d5 kK.Code OP y8) _) I2 ?_;refine go ?_;exact lC ⟨true,OP,(IntKind.i64.wrap (jG+1)),J,rfl,rfl⟩;refine go ?_;rcases gB oW with⟨nZ,oW⟩|⟨nZ,oW⟩;exact gy oW;obtain⟨IX,mC,oW⟩:=aC oW;obtain⟨L0,qF,oW⟩:=aC oW;obtain⟨ld,vQ,oW⟩:=aC oW;obtain rfl:=sI oW;refine go ?_;refine aZ mC ?_;refine go ?_;refine aP rfl (pC (bp n p2 IX.Name L0 qF) _) BP ?_;refine go ?_;refine aP rfl (pC (zn n p2 L0 p3 ld vQ) _) HP ?_;refine go ?_;exact xC ⟨rfl,rfl⟩;refine go ?_;exact xC ⟨tL,d5,J,rfl,rfl⟩
def Zw(eJ:Int)(o3:Int->Option (Int)): Option (Int):=
 o3 (IntKind.i64.wrap (eJ+1))
def VZ(p1:List bG)(n:Nat)(r2:(List dG)×Int)(r5:(List (List UInt8)))(eJ:Int)(o3:Int->Option (Int)):Nat->Int->Option (Int)
 |0,_=>none|m3+1,iU=>
  cond (decide (iU<(r5.length:Int))) (a8 (aB r5 iU) fun iV=>
   a8 (Dx n p1 r2.1 eJ iV) fun Vq=>
   a8 (cond Vq.2 (some ((Vq.1.length:Int)==0)) (some false)) fun og=>cond og (some 11) ((VZ p1 n r2 r5 eJ o3 m3) (IntKind.i64.wrap (iU+1)))) (Zw eJ o3)
def Zx: Option (Int):=
 some 0
def JP(p1:List bG)(n:Nat)(r2:(List dG)×Int)(r5:(List (List UInt8))):Nat->Int->Option (Int)
 |0,_=>none|m2+1,eJ=>cond (decide (eJ<(r2.1.length:Int))) (VZ p1 n r2 r5 eJ (JP p1 n r2 r5 m2) n 0) (Zx)
def Zy(p1:List bG)(n:Nat)(r2:(List dG)×Int)(r5:(List (List UInt8))): Option (Int):=
 JP p1 n r2 r5 n 0
def W0(p1:List bG)(n:Nat)(r2:(List dG)×Int)(r5:(List (List UInt8))):Nat->Int->Option (Int)
 |0,_=>none|m1+1,fS=>cond (decide (fS<(r5.length:Int))) (a8 (aB r5 fS) fun IW=>a8 (Lg n p1 IW) fun UH=>cond (!UH.2) (some 10) ((W0 p1 n r2 r5 m1) (IntKind.i64.wrap (fS+1)))) (Zy p1 n r2 r5)
def PU(n:Nat)(p1:List bG):Option (Int):=
 a8 (LS n p1) fun r2=>cond (r2.2 != 0) (some r2.2) (a8 (VM n p1) fun r5=>cond (decide ((r5.length:Int)>64)) (some 7) (a8 (Nj n p1) fun r8=>cond (r8 != 0) (some r8) (W0 p1 n r2 r5 n 0)))
theorem qjq(n:Nat)(p1:List bG)(r:Int)(J:PU n p1=some r):dF prog 89 [.isl false (p1.map bQ)] (.int .i64 r):=by
 unfold PU at J;refine kH 78 Z6 ?_;obtain⟨r2,h3,J⟩:=aC J;refine go ?_;refine aP rfl (pC (Zk n p1 r2 h3) _) HQ ?_;refine gF J ?_ ?_<;>intro h4 J;exact gx J;obtain⟨r5,h6,J⟩:=aC J;refine go ?_;refine aP rfl (pC (bm n p1 r5 h6) _) NK ?_;refine gF J ?_ ?_<;>intro h7 J;exact gx J;obtain⟨r8,h9,J⟩:=aC J;refine go ?_;refine aP rfl (pC (qhk n p1 r8 h9) _) SA ?_;refine gF J ?_ ?_<;>intro eY J;exact gx J;refine go ?_;refine gL (fun m tm O=>∃fS,W0 p1 n r2 r5 m fS=some r/\tm=fr 78 [(0,.iM bQ p1),(3,.iM fE r2.1),(5,.iM cS r5),(7,.i6 fS)]/\O=⟨[],0⟩) (fun tm O=>Zy p1 n r2 r5=some r/\tm=fr 78 [(0,.iM bQ p1),(3,.iM fE r2.1),(5,.iM cS r5)]/\O=⟨[],0⟩) n ⟨0,J,rfl,rfl⟩ ?_ ?_;rintro _ _ ⟨J,rfl,rfl⟩;unfold Zy at J;refine go ?_;refine gL (fun m tm O=>∃eJ,JP p1 n r2 r5 m eJ=some r/\tm=fr 78 [(0,.iM bQ p1),(3,.iM fE r2.1),(5,.iM cS r5),(10,.i6 eJ)]/\O=⟨[],0⟩) (fun tm O=>Zx=some r/\tm=fr 78 []/\O=⟨[],0⟩) n ⟨0,J,rfl,rfl⟩ ?_ ?_;rintro _ _ ⟨J,rfl,rfl⟩;unfold Zx at J;exact gx J;rintro(_|m2) _ _ ⟨eJ,J,rfl,rfl⟩;cases J;unfold JP at J;refine gF J ?_ ?_<;>intro kF J;refine go ?_;apply aV;refine go ?_;refine gL (fun m tm O=>∃iU,VZ p1 n r2 r5 eJ (JP p1 n r2 r5 m2) m iU=some r/\tm=fr 78 [(0,.iM bQ p1),(3,.iM fE r2.1),(5,.iM cS r5),(10,.i6 eJ),(11,.i6 iU)]/\O=⟨[],0⟩) (fun tm O=>Zw eJ (JP p1 n r2 r5 m2)=some r/\tm=fr 78 [(0,.iM bQ p1),(3,.iM fE r2.1),(5,.iM cS r5),(10,.i6 eJ)]/\O=⟨[],0⟩) n ⟨0,J,rfl,rfl⟩ ?_ ?_;rintro _ _ ⟨J,rfl,rfl⟩;unfold Zw at J;refine go ?_;exact lC ⟨_,J,rfl,rfl⟩;rintro(_|m3) _ _ ⟨iU,J,rfl,rfl⟩;cases J;unfold VZ at J;refine gF J ?_ ?_<;>intro qF J;refine go ?_;apply aV;obtain⟨iV,vQ,J⟩:=aC J;obtain⟨Vq,oW,J⟩:=aC J;refine go ?_;refine aZ vQ ?_;refine go ?_;refine aP rfl (pC (qeo n p1 r2.1 eJ iV Vq oW) _) Z5 ?_;obtain⟨og,pR,J⟩:=aC J;refine gn ?_;refine dL (fun tm O=>tm=fr 78 [(0,.iM bQ p1),(3,.iM fE r2.1),(5,.iM cS r5),(10,.i6 eJ),(11,.i6 iU),(77,.bool og)]/\O=⟨[],0⟩) ?_ ?_;rintro _ _ ⟨rfl,rfl⟩;refine gF J ?_ ?_<;>intro BN J;exact gx J;refine go ?_;exact lC ⟨_,J,rfl,rfl⟩;refine go ?_;rcases gB pR with⟨rD,pR⟩|⟨rD,pR⟩;exact gy pR;exact gy pR;refine go ?_;exact xC ⟨J,rfl,rfl⟩;refine go ?_;exact xC ⟨J,rfl,rfl⟩;rintro(_|m1) _ _ ⟨fS,J,rfl,rfl⟩;cases J;unfold W0 at J;refine gF J ?_ ?_<;>intro BM J;refine go ?_;apply aV;obtain⟨IW,y8,J⟩:=aC J;obtain⟨UH,NI,J⟩:=aC J;refine go ?_;refine aZ y8 ?_;refine go ?_;refine aP rfl (pC (qjr n p1 IW UH NI) _) I5 ?_;refine gF J ?_ ?_<;>intro uY J;exact gx J;refine go ?_;exact lC ⟨_,J,rfl,rfl⟩;refine go ?_;exact xC ⟨J,rfl,rfl⟩
def Zj: Option (Int):=
 some (-1)
def VT(p1:List dG)(n:Nat)(r3:(List Int)):Nat->Int->Option (Int)
 |0,_=>none|m1+1,z8=>cond (decide (z8<(p1.length:Int))) (a8 (aB p1 z8) fun mT=>a8 (PS n mT.Code r3) fun fI=>cond fI (some z8) ((VT p1 n r3 m1) (IntKind.i64.wrap (z8+1)))) (Zj)
def Kv(n:Nat)(p1:List dG)(p2:List Int):Option (Int):=
 a8 (JL n p2) fun r3=>
 VT p1 n r3 n 0
theorem qt1(n:Nat)(p1:List dG)(p2:List Int)(r:Int)(J:Kv n p1 p2=some r):dF prog 92 [.isl false (p1.map fE),.isl false (p2.map (cI .u64))] (.int .i64 r):=by
 unfold Kv at J;refine gO 23 Sr ?_;obtain⟨r3,h4,J⟩:=aC J;refine go ?_;refine aP rfl (pC (qr n p2 r3 h4) _) wY ?_;refine go ?_;refine gL (fun m tm O=>∃z8,VT p1 n r3 m z8=some r/\tm=fr 23 [(0,.iM fE p1),(5,.iM (cI .u64) r3),(6,.i6 z8)]/\O=⟨[],0⟩) (fun tm O=>Zj=some r/\tm=fr 23 []/\O=⟨[],0⟩) n ⟨0,J,rfl,rfl⟩ ?_ ?_;rintro _ _ ⟨J,rfl,rfl⟩;unfold Zj at J;exact gx J;rintro(_|m1) _ _ ⟨z8,J,rfl,rfl⟩;cases J;unfold VT at J;refine gF J ?_ ?_<;>intro h9 J;refine go ?_;apply aV;obtain⟨mT,iZ,J⟩:=aC J;obtain⟨fI,dQ,J⟩:=aC J;refine go ?_;refine aZ iZ ?_;refine go ?_;refine aP rfl (pC (qlj n mT.Code r3 fI dQ) _) I1 ?_;refine gF J ?_ ?_<;>intro gT J;exact gx J;refine go ?_;exact lC ⟨_,J,rfl,rfl⟩;refine go ?_;exact xC ⟨J,rfl,rfl⟩
def Mt(AD:Int)(o3:Int->(List lN)->Option ((List (List lN))×Int))(XB:List lN):Option ((List (List lN))×Int):=
 o3 (IntKind.i64.wrap (AD+1)) XB
def qz(fS:Int)(fG:List (List lN))(rc1:Int->(List (List lN))->Option ((List (List lN))×Int))(xW:List lN):Option ((List (List lN))×Int):=
 aE ((fG.length+1)*24<=140737488355328/\fG.length+1<=140737488355328) (
 rc1 (IntKind.i64.wrap (fS+1)) (fG++[xW]))
def MA(p1:List bG)(n:Nat)(r5:(List dG)×Int)(r7:(List (List UInt8)))(fS:Int)(fG:List (List lN))(rc1:Int->(List (List lN))->Option ((List (List lN))×Int)):Nat->Int->(List lN)->Option ((List (List lN))×Int)
 |0,_,_=>none|m2+1,AD,gA=>
  cond (decide (AD<(r7.length:Int))) (a8 (aB r7 AD) fun jR=>
   a8 (Dx n p1 r5.1 fS jR) fun vA=>cond vA.2 (a8 (Kv n r5.1 vA.1) fun fU=>
    aE ((gA.length+1)*16<=140737488355328/\gA.length+1<=140737488355328) (
    Mt AD (MA p1 n r5 r7 fS fG rc1 m2) (gA++[(lN.mk AD fU)]))) (Mt AD (MA p1 n r5 r7 fS fG rc1 m2) gA)) (qz fS fG rc1 gA)
def zd  (qO:List (List lN)):Option ((List (List lN))×Int):=
 some (qO,0)
def G9(p1:List bG)(n:Nat)(r5:(List dG)×Int)(r7:(List (List UInt8))):Nat->Int->(List (List lN))->Option ((List (List lN))×Int)
 |0,_,_=>none|m1+1,fS,fG=>cond (decide (fS<(r5.1.length:Int))) (MA p1 n r5 r7 fS fG (G9 p1 n r5 r7 m1) n 0 ([]:List lN)) (zd fG)
def Df(n:Nat)(p1:List bG):Option ((List (List lN))×Int):=
 a8 (PU n p1) fun r2=>cond (r2 != 0) (some ([],r2)) (a8 (LS n p1) fun r5=>
  a8 (VM n p1) fun r7=>
  G9 p1 n r5 r7 n 0 ([]:List (List lN)))
theorem qoo(n:Nat)(p1:List bG)(r:(List (List lN))×Int)(J:Df n p1=some r):dF prog 59 [.isl false (p1.map bQ)] (.tup [.isl false (r.1.map (cL sD)),.int .i64 r.2]):=by
 unfold Df at J;refine kH 63 Tf ?_;obtain⟨r2,h3,J⟩:=aC J;refine go ?_;refine aP rfl (pC (qjq n p1 r2 h3) _) Z6 ?_;refine gF J ?_ ?_<;>intro h4 J;refine go ?_;obtain rfl:=sI J;exact rT (us:=[.nils,.i6 r2]) (u:=.tup [.isl false [],.i6 r2]) (eO rfl (eO rfl (dV))) wR;obtain⟨r5,h6,J⟩:=aC J;refine go ?_;refine aP rfl (pC (Zk n p1 r5 h6) _) HQ ?_;obtain⟨r7,h8,J⟩:=aC J;refine go ?_;refine aP rfl (pC (bm n p1 r7 h8) _) NK ?_;refine gr ?_;refine gr ?_;refine gV 8 130 1 1 ?_;refine gL (fun m tm O=>∃fS fG pD,G9 p1 n r5 r7 m fS fG=some r/\tm=fr 63 [(0,.iM bQ p1),(5,.iM fE r5.1),(7,.iM cS r7),(8,.vl 0 pD 0 fG.length),(9,.i6 fS)]/\O=⟨[(0,.bv (cL sD) fG 130 1 pD)],1⟩) (fun tm O=>∃qO KW,zd qO=some r/\tm=fr 63 [(8,.vl 0 KW 0 qO.length)]/\O=⟨[(0,.bv (cL sD) qO 130 1 KW)],1⟩) n ⟨0,([]:List (List lN)),0,J,rfl,rfl⟩ ?_ ?_;rintro _ _ ⟨qO,KW,J,rfl,rfl⟩;unfold zd at J;refine go ?_;obtain rfl:=sI J;exact rT (us:=[.vl 0 KW 0 qO.length,.i6 0]) (u:=.tup [.iM (cL sD) qO,.i6 0]) (eO rfl (eO rfl (dV))) (fR 0 1);rintro(_|m1) _ _ ⟨fS,fG,pD,J,rfl,rfl⟩;cases J;unfold G9 at J;refine gF J ?_ ?_<;>intro rE J;refine go ?_;apply aV;refine gr ?_;refine gr ?_;refine gV 10 176 2 2 ?_;refine gL (fun m tm O=>∃AD gA tQ,MA p1 n r5 r7 fS fG (G9 p1 n r5 r7 m1) m AD gA=some r/\tm=fr 63 [(0,.iM bQ p1),(5,.iM fE r5.1),(7,.iM cS r7),(8,.vl 0 pD 0 fG.length),(9,.i6 fS),(10,.vl 1 tQ 0 gA.length),(11,.i6 AD)]/\O=⟨[(1,.bv sD gA 176 2 tQ),(0,.bv (cL sD) fG 130 1 pD)],2⟩) (fun tm O=>∃xW KU,qz fS fG (G9 p1 n r5 r7 m1) xW=some r/\tm=fr 63 [(0,.iM bQ p1),(5,.iM fE r5.1),(7,.iM cS r7),(8,.vl 0 pD 0 fG.length),(9,.i6 fS),(10,.vl 1 KU 0 xW.length)]/\O=⟨[(1,.bv sD xW 176 2 KU),(0,.bv (cL sD) fG 130 1 pD)],2⟩) n ⟨0,([]:List lN),0,J,rfl,rfl⟩ ?_ ?_;rintro _ _ ⟨xW,KU,J,rfl,rfl⟩;unfold qz at J;refine gn ?_;refine c9 (tm':=fr 63 [(0,.iM bQ p1),(5,.iM fE r5.1),(7,.iM cS r7),(8,.vl 0 pD 0 fG.length),(9,.i6 fS),(10,.iM sD xW)]) (O':=⟨[(0,.bv (cL sD) fG 130 1 pD)],2⟩) (Gh.trans (Gh.sub (l':=[(0,.iM bQ p1),(5,.iM fE r5.1),(7,.iM cS r7),(8,.vl 0 pD 0 fG.length),(9,.i6 fS),(10,.vl 1 KU 0 xW.length)]) ⟨rfl,rfl,rfl,rfl,rfl,rfl,trivial⟩) (DS 1 2)) NZ ?_;obtain⟨pR,J⟩:=d8 J;refine go ?_;refine bU ?_;refine bU ?_;refine go ?_;exact lC ⟨_,(fG++[xW]),(pD+1),J,rfl,rfl⟩;rintro(_|m2) _ _ ⟨AD,gA,tQ,J,rfl,rfl⟩;cases J;unfold MA at J;refine gF J ?_ ?_<;>intro BN J;refine go ?_;apply aV;obtain⟨jR,mA,J⟩:=aC J;obtain⟨vA,BL,J⟩:=aC J;refine go ?_;refine aZ mA ?_;refine go ?_;refine aP rfl (pC (qeo n p1 r5.1 fS jR vA BL) _) Z5 ?_;refine gr ?_;refine dL (fun tm O=>∃XB UC,Mt AD (MA p1 n r5 r7 fS fG (G9 p1 n r5 r7 m1) m2) XB=some r/\tm=fr 63 [(0,.iM bQ p1),(5,.iM fE r5.1),(7,.iM cS r7),(8,.vl 0 pD 0 fG.length),(9,.i6 fS),(10,.vl 1 UC 0 XB.length),(11,.i6 AD)]/\O=⟨[(1,.bv sD XB 176 2 UC),(0,.bv (cL sD) fG 130 1 pD)],2⟩) ?_ ?_;rintro _ _ ⟨XB,UC,J,rfl,rfl⟩;unfold Mt at J;refine go ?_;exact lC ⟨_,XB,UC,J,rfl,rfl⟩;refine cF J ?_ ?_<;>intro NI J;obtain⟨fU,qE,J⟩:=aC J;obtain⟨h46,J⟩:=d8 J;refine go ?_;refine aP rfl (pC (qt1 n r5.1 vA.1 fU qE) _) Sr ?_;refine go ?_;refine bU ?_;refine bU ?_;refine go ?_;exact xC ⟨(gA++[(lN.mk AD fU)]),(tQ+1),J,rfl,rfl⟩;refine go ?_;exact xC ⟨gA,tQ,J,rfl,rfl⟩;refine go ?_;exact xC ⟨gA,tQ,J,rfl,rfl⟩;refine go ?_;exact xC ⟨fG,pD,J,rfl,rfl⟩
def Mx(z8:Int)(rc1:Int->(List Int)->Option ((List Int)))(gA:List Int):Option ((List Int)):=
 rc1 (IntKind.i64.wrap (z8+1)) gA
def ze(z8:Int)(l9:List Int)(rc1:Int->(List Int)->Option ((List Int)))(Uj:Bool):Option ((List Int)):=
 cond Uj (aE ((l9.length+1)*8<=140737488355328/\l9.length+1<=140737488355328) (
  Mx z8 rc1 (l9++[z8]))) (Mx z8 rc1 l9)
def Q1(p1:List dG)(p2:Int)(n:Nat)(z8:Int)(l9:List Int)(rc1:Int->(List Int)->Option ((List Int))):Nat->Bool->Int->Option ((List Int))
 |0,_,_=>none|m2+1,Aj,AE=>cond (decide (AE<(p1.length:Int))) (a8 (cond Aj (cond (AE==p2) (some true) (cond (AE==z8) (some true) (a8 (PX n p1 z8 AE) fun OP=>cond (!OP) (some true) (a8 (PX n p1 AE p2) fun v9=>some (!v9))))) (some false)) fun SL=>(Q1 p1 p2 n z8 l9 rc1 m2) SL (IntKind.i64.wrap (AE+1))) (ze z8 l9 rc1 Aj)
def zf  (cZ:List Int):Option ((List Int)):=
 some cZ
def CQ(p1:List dG)(p2:Int)(n:Nat):Nat->Int->(List Int)->Option ((List Int))
 |0,_,_=>none|m1+1,z8,l9=>cond (decide (z8<(p1.length:Int))) (a8 (cond (z8==p2) (some true) (a8 (PX n p1 z8 p2) fun uH=>some (!uH))) fun wZ=>cond wZ ((CQ p1 p2 n m1) (IntKind.i64.wrap (z8+1)) l9) (Q1 p1 p2 n z8 l9 (CQ p1 p2 n m1) n true 0)) (zf l9)
def Yt(n:Nat)(p1:List dG)(p2:Int):Option ((List Int)):=
 CQ p1 p2 n n 0 ([]:List Int)
theorem qol(n:Nat)(p1:List dG)(p2:Int)(r:(List Int))(J:Yt n p1 p2=some r):dF prog 61 [.isl false (p1.map fE),.int .i64 p2] (.isl false (r.map (cI .i64))):=by
 unfold Yt at J;refine gO 62 Te ?_;refine gr ?_;refine gr ?_;refine gr ?_;refine gV 5 3 1 1 ?_;refine gL (fun m tm O=>∃z8 l9 bL,CQ p1 p2 n m z8 l9=some r/\tm=fr 62 [(0,.iM fE p1),(1,.i6 p2),(5,.vl 0 bL 0 l9.length),(6,.i6 z8)]/\O=⟨CN l9 bL,1⟩) (fun tm O=>∃cZ d7,zf cZ=some r/\tm=fr 62 [(5,.vl 0 d7 0 cZ.length)]/\O=⟨CN cZ d7,1⟩) n ⟨0,([]:List Int),0,J,rfl,rfl⟩ ?_ ?_;rintro _ _ ⟨cZ,d7,J,rfl,rfl⟩;unfold zf at J;refine go ?_;obtain rfl:=sI J;exact rT (us:=[.vl 0 d7 0 cZ.length]) (u:=.iM (cI .i64) cZ) (eO rfl (dV)) (fR 0 1);rintro(_|m1) _ _ ⟨z8,l9,bL,J,rfl,rfl⟩;cases J;unfold CQ at J;refine gF J ?_ ?_<;>intro dQ J;refine go ?_;apply aV;obtain⟨wZ,dP,J⟩:=aC J;refine gn ?_;refine dL (fun tm O=>tm=fr 62 [(0,.iM fE p1),(1,.i6 p2),(5,.vl 0 bL 0 l9.length),(6,.i6 z8),(24,.bool wZ)]/\O=⟨CN l9 bL,1⟩) ?_ ?_;rintro _ _ ⟨rfl,rfl⟩;refine gF J ?_ ?_<;>intro iB J;refine go ?_;exact lC ⟨_,l9,bL,J,rfl,rfl⟩;refine go ?_;refine gL (fun m tm O=>∃Aj AE,Q1 p1 p2 n z8 l9 (CQ p1 p2 n m1) m Aj AE=some r/\tm=fr 62 [(0,.iM fE p1),(1,.i6 p2),(5,.vl 0 bL 0 l9.length),(6,.i6 z8),(7,.bool Aj),(8,.i6 AE)]/\O=⟨CN l9 bL,1⟩) (fun tm O=>∃Uj,ze z8 l9 (CQ p1 p2 n m1) Uj=some r/\tm=fr 62 [(0,.iM fE p1),(1,.i6 p2),(5,.vl 0 bL 0 l9.length),(6,.i6 z8),(7,.bool Uj)]/\O=⟨CN l9 bL,1⟩) n ⟨true,0,J,rfl,rfl⟩ ?_ ?_;rintro _ _ ⟨Uj,J,rfl,rfl⟩;unfold ze at J;refine gr ?_;refine dL (fun tm O=>∃gA tQ,Mx z8 (CQ p1 p2 n m1) gA=some r/\tm=fr 62 [(0,.iM fE p1),(1,.i6 p2),(5,.vl 0 tQ 0 gA.length),(6,.i6 z8)]/\O=⟨CN gA tQ,1⟩) ?_ ?_;rintro _ _ ⟨gA,tQ,J,rfl,rfl⟩;unfold Mx at J;refine go ?_;exact lC ⟨_,gA,tQ,J,rfl,rfl⟩;refine cF J ?_ ?_<;>intro vQ J;obtain⟨rD,J⟩:=d8 J;refine go ?_;refine bU ?_;refine bU ?_;refine go ?_;exact xC ⟨(l9++[z8]),(bL+1),J,rfl,rfl⟩;refine go ?_;exact xC ⟨l9,bL,J,rfl,rfl⟩;rintro(_|m2) _ _ ⟨Aj,AE,J,rfl,rfl⟩;cases J;unfold Q1 at J;refine gF J ?_ ?_<;>intro mB J;refine go ?_;apply aV;obtain⟨SL,lR,J⟩:=aC J;refine gn ?_;refine dL (fun tm O=>tm=fr 62 [(0,.iM fE p1),(1,.i6 p2),(5,.vl 0 bL 0 l9.length),(6,.i6 z8),(7,.bool SL),(8,.i6 AE)]/\O=⟨CN l9 bL,1⟩) ?_ ?_;rintro _ _ ⟨rfl,rfl⟩;refine go ?_;exact lC ⟨SL,(IntKind.i64.wrap (AE+1)),J,rfl,rfl⟩;refine go ?_;rcases gB lR with⟨pR,lR⟩|⟨pR,lR⟩;refine go ?_;rcases gB lR with⟨BN,lR⟩|⟨BN,lR⟩;exact gy lR;refine go ?_;rcases gB lR with⟨BM,lR⟩|⟨BM,lR⟩;exact gy lR;obtain⟨OP,y8,lR⟩:=aC lR;refine go ?_;refine aP rfl (pC (zn n p1 z8 AE OP y8) _) HP ?_;refine go ?_;rcases gB lR with⟨BL,lR⟩|⟨BL,lR⟩;exact gy lR;obtain⟨v9,uY,lR⟩:=aC lR;obtain rfl:=sI lR;refine go ?_;refine aP rfl (pC (zn n p1 AE p2 v9 uY) _) HP ?_;refine go ?_;exact xC ⟨rfl,rfl⟩;obtain rfl:=sI lR;refine go ?_
 repeat refine RS.no (CF rfl rfl rfl) rfl rfl ?_
 refine go ?_
 repeat refine RS.no (CF rfl rfl rfl) rfl rfl ?_
 refine go ?_
 repeat refine RS.no (CF rfl rfl rfl) rfl rfl ?_
 refine go ?_;exact xC ⟨rfl,rfl⟩;refine go ?_;exact xC ⟨Aj,J,rfl,rfl⟩;refine go ?_;rcases gB dP with⟨gT,dP⟩|⟨gT,dP⟩;exact gy dP;obtain⟨uH,rF,dP⟩:=aC dP;obtain rfl:=sI dP;refine go ?_;refine aP rfl (pC (zn n p1 z8 p2 uH rF) _) HP ?_;refine go ?_;exact xC ⟨rfl,rfl⟩;refine go ?_;exact xC ⟨l9,bL,J,rfl,rfl⟩
def zt  (qO:List dK):Option ((List dK)×Int):=
 some (qO,0)
def WE(p1:List bG)(n:Nat)(r5:(List dG)×Int)(r7:(List (List UInt8))):Nat->Int->(List dK)->Option ((List dK)×Int)
 |0,_,_=>none|m1+1,fS,fG=>
  cond (decide (fS<(r7.length:Int))) (a8 (aB r7 fS) fun sN=>
   a8 (Lg n p1 sN) fun w5=>
   a8 (aB r7 fS) fun IX=>
   a8 (De n r5.1 w5.1) fun L0=>
   aE ((fG.length+1)*24<=140737488355328/\fG.length+1<=140737488355328) ((WE p1 n r5 r7 m1) (IntKind.i64.wrap (fS+1)) (fG++[(dK.mk IX L0)]))) (zt fG)
def Ml(n:Nat)(p1:List bG):Option ((List dK)×Int):=
 a8 (PU n p1) fun r2=>cond (r2 != 0) (some ([],r2)) (a8 (LS n p1) fun r5=>
  a8 (VM n p1) fun r7=>
  WE p1 n r5 r7 n 0 ([]:List dK))
theorem qm0(n:Nat)(p1:List bG)(r:(List dK)×Int)(J:Ml n p1=some r):dF prog 62 [.isl false (p1.map bQ)] (.tup [.isl false (r.1.map gX),.int .i64 r.2]):=by
 unfold Ml at J;refine kH 51 Td ?_;obtain⟨r2,h3,J⟩:=aC J;refine go ?_;refine aP rfl (pC (qjq n p1 r2 h3) _) Z6 ?_;refine gF J ?_ ?_<;>intro h4 J;refine go ?_;obtain rfl:=sI J;exact rT (us:=[.nils,.i6 r2]) (u:=.tup [.isl false [],.i6 r2]) (eO rfl (eO rfl (dV))) wR;obtain⟨r5,h6,J⟩:=aC J;refine go ?_;refine aP rfl (pC (Zk n p1 r5 h6) _) HQ ?_;obtain⟨r7,h8,J⟩:=aC J;refine go ?_;refine aP rfl (pC (bm n p1 r7 h8) _) NK ?_;refine gr ?_;refine gr ?_;refine gV 8 187 2 1 ?_;refine gL (fun m tm O=>∃fS fG pD,WE p1 n r5 r7 m fS fG=some r/\tm=fr 51 [(0,.iM bQ p1),(5,.iM fE r5.1),(7,.iM cS r7),(8,.vl 0 pD 0 fG.length),(9,.i6 fS)]/\O=⟨[(0,.bv gX fG 187 2 pD)],1⟩) (fun tm O=>∃qO KW,zt qO=some r/\tm=fr 51 [(8,.vl 0 KW 0 qO.length)]/\O=⟨[(0,.bv gX qO 187 2 KW)],1⟩) n ⟨0,([]:List dK),0,J,rfl,rfl⟩ ?_ ?_;rintro _ _ ⟨qO,KW,J,rfl,rfl⟩;unfold zt at J;refine go ?_;obtain rfl:=sI J;exact rT (us:=[.vl 0 KW 0 qO.length,.i6 0]) (u:=.tup [.iM gX qO,.i6 0]) (eO rfl (eO rfl (dV))) (fR 0 2);rintro(_|m1) _ _ ⟨fS,fG,pD,J,rfl,rfl⟩;cases J;unfold WE at J;refine gF J ?_ ?_<;>intro rE J;refine go ?_;apply aV;obtain⟨sN,qG,J⟩:=aC J;obtain⟨w5,nZ,J⟩:=aC J;refine go ?_;refine aZ qG ?_;refine go ?_;refine aP rfl (pC (qjr n p1 sN w5 nZ) _) I5 ?_;obtain⟨IX,mC,J⟩:=aC J;obtain⟨L0,qF,J⟩:=aC J;obtain⟨mP,J⟩:=d8 J;refine go ?_;refine dE [(0,9)] ?_;refine gd ?_;refine cK mC ?_;refine gd ?_;refine iR rfl (pC (bp n r5.1 w5.1 L0 qF)) BP ?_;refine gd ?_;refine dC ?_;refine dC ?_;refine gd ?_;refine bF ⟨by kernel_rfl,⟨g8 rfl,trivial⟩,?_⟩;refine go ?_;exact lC ⟨_,(fG++[(dK.mk IX L0)]),(pD+1),J,rfl,rfl⟩;refine go ?_;exact xC ⟨fG,pD,J,rfl,rfl⟩
def zm(p1:List bG)(n:Nat)(fG:List cV):Option (dW×Int):=
 a8 (Ml n p1) fun i7=>some ((dW.mk fG i7.1),0)
def WC(p1:List bG)(n:Nat)(r2:(List (List lN))×Int)(r5:(List dG)×Int):Nat->Int->(List cV)->Option (dW×Int)
 |0,_,_=>none|m1+1,F8,iI=>
  cond (decide (F8<(r5.1.length:Int))) (a8 (aB r5.1 F8) fun sN=>
   a8 (aB r5.1 F8) fun v6=>
   a8 (Yt n r5.1 F8) fun mU=>
   a8 (aB r2.1 F8) fun mS=>
   aE ((iI.length+1)*88<=140737488355328/\iI.length+1<=140737488355328) ((WC p1 n r2 r5 m1) (IntKind.i64.wrap (F8+1)) (iI++[(cV.mk sN.Name v6.Code mU mS)]))) (zm p1 n iI)
def LY(n:Nat)(p1:List bG):Option (dW×Int):=
 a8 (Df n p1) fun r2=>cond (r2.2 != 0) (some ((dW.mk [] []),r2.2)) (a8 (LS n p1) fun r5=>WC p1 n r2 r5 n 0 ([]:List cV))
theorem bw(n:Nat)(p1:List bG)(r:dW×Int)(J:LY n p1=some r):dF prog 31 [.isl false (p1.map bQ)] (.tup [.agg (iG r.1),.int .i64 r.2]):=by
 unfold LY at J;refine kH 63 NR ?_;obtain⟨r2,h3,J⟩:=aC J;refine go ?_;refine aP rfl (pC (qoo n p1 r2 h3) _) Tf ?_;refine gF J ?_ ?_<;>intro h4 J;refine go ?_;obtain rfl:=sI J;exact rT (us:=[.agg [.nils,.nils],.i6 r2.2]) (u:=.tup [.agg [.isl false [],.isl false []],.i6 r2.2]) (pK (pZ uE.h rfl (aW CZ.h) rfl rfl rfl) (eO rfl (dV))) wR;obtain⟨r5,h6,J⟩:=aC J;refine go ?_;refine aP rfl (pC (Zk n p1 r5 h6) _) HQ ?_;refine gr ?_;refine gr ?_;refine c9 (tm':=fr 63 [(0,.iM bQ p1),(2,.ptr 0 0 0),(4,.iM (cL sD) r2.1),(6,.iM fE r5.1),(8,.ptr 1 0 0),(9,.i6 0)]) (O':=⟨[(2,.bv fP ([]:List cV) 132 4 0),(1,.row [.vl 2 0 0 (([]:List cV).length),.nils] 27),(0,.row [.nils,.nils] 27)],3⟩) (Gh.trans (u9 1 0 132 4 (by decide) NZ rfl rfl) (kJ ⟨rfl,rfl,rfl,rfl,rfl,rfl,trivial⟩ rfl)) NZ ?_;refine gL (fun m tm O=>∃F8 iI FP,WC p1 n r2 r5 m F8 iI=some r/\tm=fr 63 [(0,.iM bQ p1),(2,.ptr 0 0 0),(4,.iM (cL sD) r2.1),(6,.iM fE r5.1),(8,.ptr 1 0 0),(9,.i6 F8)]/\O=⟨[(2,.bv fP iI 132 4 FP),(1,.row [.vl 2 FP 0 iI.length,.nils] 27),(0,.row [.nils,.nils] 27)],3⟩) (fun tm O=>∃fG pD,zm p1 n fG=some r/\tm=fr 63 [(0,.iM bQ p1),(2,.ptr 0 0 0),(8,.ptr 1 0 0)]/\O=⟨[(2,.bv fP fG 132 4 pD),(1,.row [.vl 2 pD 0 fG.length,.nils] 27),(0,.row [.nils,.nils] 27)],3⟩) n ⟨0,([]:List cV),0,J,rfl,rfl⟩ ?_ ?_;rintro _ _ ⟨fG,pD,J,rfl,rfl⟩;unfold zm at J;obtain⟨i7,iB,J⟩:=aC J;refine go ?_;refine aP rfl (pC (qm0 n p1 i7 iB) _) Td ?_;refine go ?_;obtain rfl:=sI J;exact rT (us:=[.agg [.vl 2 pD 0 fG.length,.iM gX i7.1],.i6 0]) (u:=.tup [.agg [.iM fP fG,.iM gX i7.1],.i6 0]) (pK (pZ uE.h rfl (aW CZ.h) rfl rfl rfl) (eO rfl (dV))) (fR 2 4);rintro(_|m1) _ _ ⟨F8,iI,FP,J,rfl,rfl⟩;cases J;unfold WC at J;refine gF J ?_ ?_<;>intro rE J;refine go ?_;apply aV;obtain⟨sN,qG,J⟩:=aC J;obtain⟨v6,nZ,J⟩:=aC J;obtain⟨mU,mC,J⟩:=aC J;obtain⟨mS,qF,J⟩:=aC J;obtain⟨mP,J⟩:=d8 J;refine go ?_;refine dE [(0,20),(1,20)] ?_;refine gd ?_;refine cK qG ?_;refine gd ?_;refine cK nZ ?_;refine gd ?_;refine iR rfl (pC (qol n r5.1 F8 mU mC)) Te ?_;refine gd ?_;refine cK qF ?_;refine gd ?_;refine dC ?_;refine dC ?_;refine gd ?_;refine v5 ?_;refine bF ⟨by kernel_rfl,⟨kM uE.h rfl (aW XV.h) rfl rfl rfl,⟨nQ FK.h rfl rfl rfl rfl,trivial⟩⟩,?_⟩;refine go ?_;exact lC ⟨_,(iI++[(cV.mk sN.Name v6.Code mU mS)]),(FP+1),J,rfl,rfl⟩;refine go ?_;exact xC ⟨iI,FP,J,rfl,rfl⟩
def gw(n:Nat): Option (dW):=
 a8 (LY n ([(bG.mk ([116,111,112]) [] ([(nS.mk ([70]) ([116,111,112])),(nS.mk ([71]) ([116,111,112]))])),(bG.mk ([120]) ([[116,111,112]]) []),(bG.mk ([121]) ([[116,111,112]]) [])])) fun r1=>some (dW.mk r1.1.Types r1.1.Feats)
theorem qq1(n:Nat)(r:dW)(J:gw n  = some r):dF prog 33 [] (.agg (iG r)):=by
 unfold gw at J;refine nw 17 Tn ?_;obtain⟨r1,h2,J⟩:=aC J;refine go ?_;refine aL (u:=.sl 1 0 2 2) (O':=⟨qvo,2⟩) rfl (xO FM.h QQ.h rfl rfl rfl rfl rfl rfl rfl) ?_;refine go ?_;refine bU ?_;refine go ?_;refine bU ?_;refine go ?_;refine aL (u:=.sl 4 0 3 3) (O':=⟨(4,.row [.str ([116,111,112]),.nils,.sl 1 0 2 2,.str ([120]),.sl 2 0 1 1,.nils,.str ([121]),.sl 3 0 1 1,.nils] 138)::(3,.row [.str ([116,111,112])] 9)::(2,.row [.str ([116,111,112])] 9)::qvo,5⟩) rfl (xO Hi.h wI.h rfl rfl rfl rfl rfl rfl rfl) (DQ rfl (Gh.trans (lT 1 2) (Gh.trans (lT 2 1) (Gh.trans (lT 3 1) (Gh.trans (Gh.rowC 4) (lT 4 3))))) (pC (bw n ([(bG.mk ([116,111,112]) [] ([(nS.mk ([70]) ([116,111,112])),(nS.mk ([71]) ([116,111,112]))])),(bG.mk ([120]) ([[116,111,112]]) []),(bG.mk ([121]) ([[116,111,112]]) [])]) r1 h2) _) NR ?_);refine go ?_;obtain rfl:=sI J;exact rT (pK (pZ uE.h rfl (aW CZ.h) rfl rfl rfl) (dV)) (vS _ rfl)
def bk(p1:List UInt8)(p2:List UInt8)(d5:List nS):Option (bG):=
 some (bG.mk p1 ([p2]) d5)
def Zf(p1:List UInt8)(p2:List UInt8)(p3:List (List UInt8)):Nat->Int->(List nS)->Option (bG)
 |0,_,_=>none|m1+1,eK,cE=>
  cond (decide ((IntKind.i64.wrap (eK+1))<(p3.length:Int))) (a8 (aB p3 eK) fun DV=>
   a8 (aB p3 (IntKind.i64.wrap (eK+1))) fun jD=>
   aE ((cE.length+1)*32<=140737488355328/\cE.length+1<=140737488355328) ((Zf p1 p2 p3 m1) (IntKind.i64.wrap (eK+2)) (cE++[(nS.mk DV jD)]))) (bk p1 p2 cE)
def bj(p1:List UInt8)(k9:List nS):Option (bG):=
 some (bG.mk p1 [] k9)
def Ze(p1:List UInt8)(p3:List (List UInt8)):Nat->Int->(List nS)->Option (bG)
 |0,_,_=>none|m2+1,o0,oC=>
  cond (decide ((IntKind.i64.wrap (o0+1))<(p3.length:Int))) (a8 (aB p3 o0) fun Gf=>
   a8 (aB p3 (IntKind.i64.wrap (o0+1))) fun jR=>
   aE ((oC.length+1)*32<=140737488355328/\oC.length+1<=140737488355328) ((Ze p1 p3 m2) (IntKind.i64.wrap (o0+2)) (oC++[(nS.mk Gf jR)]))) (bj p1 oC)
def yW(n:Nat)(p1:List UInt8)(p2:List UInt8)(p3:List (List UInt8)):Option (bG):=
 cond (!kO p2 []) (Zf p1 p2 p3 n 0 ([]:List nS)) (Ze p1 p3 n 0 ([]:List nS))
theorem CP(n:Nat)(p1:List UInt8)(p2:List UInt8)(p3:List (List UInt8))(r:bG)(J:yW n p1 p2 p3=some r):dF prog 63 [.str p1,.str p2,.isl false (p3.map cS)] (.agg (bQ r)):=by
 unfold yW at J;refine KA 39 nG ?_;refine go ?_;refine aL (u:=.bool (!kO p2 [])) rfl (EH rfl rfl rfl rfl) ?_;refine gF J ?_ ?_<;>intro h4 J;refine go ?_;refine bU ?_;refine gr ?_;refine c9 (tm':=fr 39 [(2,.iM cS p3),(6,.ptr 0 0 0),(7,.ptr 1 0 0),(8,.i6 0)]) (O':=⟨(3,.bv kP ([]:List nS) 141 2 0)::(2,.row [.str p2] 9)::(1,.row [.str p1,.sl 2 0 1 1,.vl 3 0 0 (([]:List nS).length)] 138)::Ci,4⟩) (Gh.trans (u9 1 2 141 2 (by decide) NZ rfl rfl) (kJ ⟨rfl,rfl,rfl,rfl,trivial⟩ rfl)) NZ ?_;refine gL (fun m tm O=>∃eK cE g7,Zf p1 p2 p3 m eK cE=some r/\tm=fr 39 [(2,.iM cS p3),(6,.ptr 0 0 0),(7,.ptr 1 0 0),(8,.i6 eK)]/\O=⟨(3,.bv kP cE 141 2 g7)::(2,.row [.str p2] 9)::(1,.row [.str p1,.sl 2 0 1 1,.vl 3 g7 0 cE.length] 138)::Ci,4⟩) (fun tm O=>∃d5 iW,bk p1 p2 d5=some r/\tm=fr 39 [(6,.ptr 0 0 0),(7,.ptr 1 0 0)]/\O=⟨(3,.bv kP d5 141 2 iW)::(2,.row [.str p2] 9)::(1,.row [.str p1,.sl 2 0 1 1,.vl 3 iW 0 d5.length] 138)::Ci,4⟩) n ⟨0,([]:List nS),0,J,rfl,rfl⟩ ?_ ?_;rintro _ _ ⟨d5,iW,J,rfl,rfl⟩;unfold bk at J;refine go ?_;obtain rfl:=sI J;exact⟨.inr rfl,[.agg [.str p1,.sl 2 0 1 1,.vl 3 iW 0 d5.length]],pK (pZ vX.h rfl (aW wI.h) rfl rfl rfl) (dV),.agg [.str p1,.iM cS ([p2]),.iM kP d5],⟨[],0⟩,zF _,Gh.trans (lT 2 1) (Gh.trans (lT 3 2) (vS (.agg [.str p1,.iM cS ([p2]),.iM kP d5]) rfl)),rfl,BU.h⟩;rintro(_|m1) _ _ ⟨eK,cE,g7,J,rfl,rfl⟩;cases J;unfold Zf at J;refine gF J ?_ ?_<;>intro fN J;refine go ?_;apply aV;obtain⟨DV,iB,J⟩:=aC J;obtain⟨jD,kF,J⟩:=aC J;obtain⟨qG,J⟩:=d8 J;refine go ?_;refine dE [(0,12),(1,12)] ?_;refine gd ?_;refine cK iB ?_;refine gd ?_;refine cK kF ?_;refine gd ?_;refine dC ?_;refine dC ?_;refine gd ?_;refine v5 ?_;refine bF ⟨by kernel_rfl,⟨kM vX.h rfl (aW QR.h) rfl rfl rfl,⟨nQ FM.h rfl rfl rfl rfl,trivial⟩⟩,?_⟩;refine go ?_;exact lC ⟨_,(cE++[(nS.mk DV jD)]),(g7+1),J,rfl,rfl⟩;refine go ?_;exact xC ⟨cE,g7,J,rfl,rfl⟩;refine gr ?_;refine c9 (tm':=fr 39 [(2,.iM cS p3),(6,.ptr 0 0 0),(7,.ptr 1 0 0),(8,.i6 0)]) (O':=⟨(2,.bv kP ([]:List nS) 141 2 0)::(1,.row [.str p1,.nils,.vl 2 0 0 (([]:List nS).length)] 138)::Ci,3⟩) (Gh.trans (u9 1 2 141 2 (by decide) NZ rfl rfl) (kJ ⟨rfl,rfl,rfl,rfl,trivial⟩ rfl)) NZ ?_;refine gL (fun m tm O=>∃o0 oC J6,Ze p1 p3 m o0 oC=some r/\tm=fr 39 [(2,.iM cS p3),(6,.ptr 0 0 0),(7,.ptr 1 0 0),(8,.i6 o0)]/\O=⟨(2,.bv kP oC 141 2 J6)::(1,.row [.str p1,.nils,.vl 2 J6 0 oC.length] 138)::Ci,3⟩) (fun tm O=>∃k9 nK,bj p1 k9=some r/\tm=fr 39 [(6,.ptr 0 0 0),(7,.ptr 1 0 0)]/\O=⟨(2,.bv kP k9 141 2 nK)::(1,.row [.str p1,.nils,.vl 2 nK 0 k9.length] 138)::Ci,3⟩) n ⟨0,([]:List nS),0,J,rfl,rfl⟩ ?_ ?_;rintro _ _ ⟨k9,nK,J,rfl,rfl⟩;unfold bj at J;refine go ?_;obtain rfl:=sI J;exact⟨.inr rfl,[.agg [.str p1,.nils,.vl 2 nK 0 k9.length]],pK (pZ vX.h rfl (aW wI.h) rfl rfl rfl) (dV),.agg [.str p1,.isl false [],.iM kP k9],⟨[],0⟩,zF _,Gh.trans (lT 2 2) (Gh.trans (Gh.wk (.cons (.agg (.cons (.refl _) (.cons (.nil false) (.cons (.refl _) .nil)))) .nil)) (vS (.agg [.str p1,.isl false [],.iM kP k9]) rfl)),rfl,BU.h⟩;rintro(_|m2) _ _ ⟨o0,oC,J6,J,rfl,rfl⟩;cases J;unfold Ze at J;refine gF J ?_ ?_<;>intro mB J;refine go ?_;apply aV;obtain⟨Gf,BN,J⟩:=aC J;obtain⟨jR,mA,J⟩:=aC J;obtain⟨y8,J⟩:=d8 J;refine go ?_;refine dE [(0,12),(1,12)] ?_;refine gd ?_;refine cK BN ?_;refine gd ?_;refine cK mA ?_;refine gd ?_;refine dC ?_;refine dC ?_;refine gd ?_;refine v5 ?_;refine bF ⟨by kernel_rfl,⟨kM vX.h rfl (aW QR.h) rfl rfl rfl,⟨nQ FM.h rfl rfl rfl rfl,trivial⟩⟩,?_⟩;refine go ?_;exact lC ⟨_,(oC++[(nS.mk Gf jR)]),(J6+1),J,rfl,rfl⟩;refine go ?_;exact xC ⟨oC,J6,J,rfl,rfl⟩
def Me(n:Nat): Option ((List bG)):=
 a8 (yW n ([116,111,112]) [] []) fun r1=>
 a8 (yW n ([108,105,115,116]) ([116,111,112]) []) fun r3=>
 a8 (yW n ([99,111,110,115]) ([108,105,115,116]) ([[70,73,82,83,84],[116,111,112],[82,69,83,84],[108,105,115,116]])) fun r5=>
 a8 (yW n ([110,117,108,108]) ([108,105,115,116]) []) fun r7=>
 a8 (yW n ([100,108,105,115,116]) ([116,111,112]) ([[76,73,83,84],[108,105,115,116],[76,65,83,84],[108,105,115,116]])) fun r9=>
 a8 (yW n ([105,110,100,101,120]) ([116,111,112]) []) fun sQ=>
 a8 (yW n ([104,97,110,100,108,101]) ([105,110,100,101,120]) []) fun gD=>
 a8 (yW n ([101,118,101,110,116]) ([105,110,100,101,120]) []) fun uH=>
 a8 (yW n ([101,110,116,105,116,121]) ([105,110,100,101,120]) []) fun dR=>
 a8 (yW n ([114,101,108]) ([116,111,112]) ([[76,65,66,69,76],[104,97,110,100,108,101]])) fun E4=>
 a8 (yW n ([113,101,113]) ([116,111,112]) ([[72,73,71,72],[104,97,110,100,108,101],[76,79,87],[104,97,110,100,108,101]])) fun FR=>
 a8 (yW n ([115,101,109]) ([116,111,112]) ([[84,79,80],[104,97,110,100,108,101],[73,78,68,69,88],[105,110,100,101,120],[82,69,76,83],[100,108,105,115,116],[67,79,78,83],[100,108,105,115,116]])) fun w5=>
 a8 (yW n ([115,105,103,110]) ([116,111,112]) ([[83,69,77],[115,101,109],[65,82,71,83],[108,105,115,116]])) fun mU=>some ([r1,r3,r5,r7,r9,sQ,gD,uH,dR,E4,FR,w5,mU])
theorem qnn(n:Nat)(r:(List bG))(J:Me n  = some r):dF prog 32 [] (.isl false (r.map bQ)):=by
 unfold Me at J;refine nw 21 Tp ?_;obtain⟨r1,h2,J⟩:=aC J;obtain⟨r3,h4,J⟩:=aC J;obtain⟨r5,h6,J⟩:=aC J;obtain⟨r7,h8,J⟩:=aC J;obtain⟨r9,eY,J⟩:=aC J;obtain⟨sQ,eX,J⟩:=aC J;obtain⟨gD,gT,J⟩:=aC J;obtain⟨uH,rF,J⟩:=aC J;obtain⟨dR,dP,J⟩:=aC J;obtain⟨E4,rE,J⟩:=aC J;obtain⟨FR,qG,J⟩:=aC J;obtain⟨w5,nZ,J⟩:=aC J;obtain⟨mU,mC,J⟩:=aC J;refine go ?_;refine aP rfl (IK (args':=[.str ([116,111,112]),.str [],.isl false []]) (.cons (.refl _) (.cons (.refl _) (.cons (.nil false) .nil))) (pC (CP n ([116,111,112]) [] [] r1 h2)) _) nG (aP rfl (IK (args':=[.str ([108,105,115,116]),.str ([116,111,112]),.isl false []]) (.cons (.refl _) (.cons (.refl _) (.cons (.nil false) .nil))) (pC (CP n ([108,105,115,116]) ([116,111,112]) [] r3 h4)) _) nG ?_);refine bU ?_;refine DQ rfl (lT 0 1) (pC (CP n ([99,111,110,115]) ([108,105,115,116]) ([[70,73,82,83,84],[116,111,112],[82,69,83,84],[108,105,115,116]]) r5 h6) _) nG (aP rfl (IK (args':=[.str ([110,117,108,108]),.str ([108,105,115,116]),.isl false []]) (.cons (.refl _) (.cons (.refl _) (.cons (.nil false) .nil))) (pC (CP n ([110,117,108,108]) ([108,105,115,116]) [] r7 h8)) _) nG ?_);refine bU ?_;refine DQ rfl (lT 1 1) (pC (CP n ([100,108,105,115,116]) ([116,111,112]) ([[76,73,83,84],[108,105,115,116],[76,65,83,84],[108,105,115,116]]) r9 eY) _) nG (aP rfl (IK (args':=[.str ([105,110,100,101,120]),.str ([116,111,112]),.isl false []]) (.cons (.refl _) (.cons (.refl _) (.cons (.nil false) .nil))) (pC (CP n ([105,110,100,101,120]) ([116,111,112]) [] sQ eX)) _) nG (aP rfl (IK (args':=[.str ([104,97,110,100,108,101]),.str ([105,110,100,101,120]),.isl false []]) (.cons (.refl _) (.cons (.refl _) (.cons (.nil false) .nil))) (pC (CP n ([104,97,110,100,108,101]) ([105,110,100,101,120]) [] gD gT)) _) nG (aP rfl (IK (args':=[.str ([101,118,101,110,116]),.str ([105,110,100,101,120]),.isl false []]) (.cons (.refl _) (.cons (.refl _) (.cons (.nil false) .nil))) (pC (CP n ([101,118,101,110,116]) ([105,110,100,101,120]) [] uH rF)) _) nG (aP rfl (IK (args':=[.str ([101,110,116,105,116,121]),.str ([105,110,100,101,120]),.isl false []]) (.cons (.refl _) (.cons (.refl _) (.cons (.nil false) .nil))) (pC (CP n ([101,110,116,105,116,121]) ([105,110,100,101,120]) [] dR dP)) _) nG ?_))));refine bU ?_;refine DQ rfl (lT 2 1) (pC (CP n ([114,101,108]) ([116,111,112]) ([[76,65,66,69,76],[104,97,110,100,108,101]]) E4 rE) _) nG ?_;refine bU ?_;refine DQ rfl (lT 3 1) (pC (CP n ([113,101,113]) ([116,111,112]) ([[72,73,71,72],[104,97,110,100,108,101],[76,79,87],[104,97,110,100,108,101]]) FR qG) _) nG (aL (u:=.sl 4 0 8 8) (O':=⟨[(4,.row [.str ([84,79,80]),.str ([104,97,110,100,108,101]),.str ([73,78,68,69,88]),.str ([105,110,100,101,120]),.str ([82,69,76,83]),.str ([100,108,105,115,116]),.str ([67,79,78,83]),.str ([100,108,105,115,116])] 9)],5⟩) rfl (xO jH.h GT.h rfl rfl rfl rfl rfl rfl rfl) (DQ rfl (lT 4 1) (pC (CP n ([115,101,109]) ([116,111,112]) ([[84,79,80],[104,97,110,100,108,101],[73,78,68,69,88],[105,110,100,101,120],[82,69,76,83],[100,108,105,115,116],[67,79,78,83],[100,108,105,115,116]]) w5 nZ) _) nG ?_));refine bU ?_;refine DQ rfl (lT 5 1) (pC (CP n ([115,105,103,110]) ([116,111,112]) ([[83,69,77],[115,101,109],[65,82,71,83],[108,105,115,116]]) mU mC) _) nG (aL (u:=.sl 6 0 13 13) (O':=⟨[(6,.row [.str r1.Name,.iM cS r1.Supers,.iM kP r1.Feats,.str r3.Name,.iM cS r3.Supers,.iM kP r3.Feats,.str r5.Name,.iM cS r5.Supers,.iM kP r5.Feats,.str r7.Name,.iM cS r7.Supers,.iM kP r7.Feats,.str r9.Name,.iM cS r9.Supers,.iM kP r9.Feats,.str sQ.Name,.iM cS sQ.Supers,.iM kP sQ.Feats,.str gD.Name,.iM cS gD.Supers,.iM kP gD.Feats,.str uH.Name,.iM cS uH.Supers,.iM kP uH.Feats,.str dR.Name,.iM cS dR.Supers,.iM kP dR.Feats,.str E4.Name,.iM cS E4.Supers,.iM kP E4.Feats,.str FR.Name,.iM cS FR.Supers,.iM kP FR.Feats,.str w5.Name,.iM cS w5.Supers,.iM kP w5.Feats,.str mU.Name,.iM cS mU.Supers,.iM kP mU.Feats] 138)],7⟩) rfl (xO Hi.h wI.h rfl rfl rfl rfl rfl rfl rfl) ?_);refine go ?_;obtain rfl:=sI J;exact rT (us:=[.sl 6 0 13 13]) (u:=.iM bQ ([r1,r3,r5,r7,r9,sQ,gD,uH,dR,E4,FR,w5,mU])) (eO rfl (dV)) (fR 6 3)
def Ks(n:Nat)(p1:Int):Option (GFS):=
 some (GFS.mk ([(aT.mk p1 [])]))
theorem bg(n:Nat)(p1:Int)(r:GFS)(J:Ks n p1=some r):dF prog 36 [.int .i64 p1] (.agg [.isl false (r.Nodes.map bM)]):=by
 unfold Ks at J;refine kH 7 NP ?_;refine go ?_;refine bU ?_;refine go ?_;obtain rfl:=sI J;exact⟨.inr rfl,[.agg [.sl 1 0 1 1]],pK (pZ jV.h rfl (aW lO.h) rfl rfl rfl) (dV),.agg [.iM bM ([(aT.mk p1 [])])],⟨[],0⟩,zF _,Gh.trans (Gh.trans (Gh.rowC 1) (lT 1 2)) (vS (.agg [.iM bM ([(aT.mk p1 [])])]) rfl),rfl,BU.h⟩
def zk(z6:Int)(rc1:Int->(List Int)->Option ((List Int)))(cY:List Int):Option ((List Int)):=
 rc1 (IntKind.i64.wrap (z6+1)) cY
def Dy(z6:Int)(rc1:Int->(List Int)->Option ((List Int)))(gZ:aT):Nat->Int->(List Int)->Option ((List Int))
 |0,_,_=>none|m2+1,rO,oQ=>
  cond (decide (rO<(gZ.Arcs.length:Int))) (a8 (aB gZ.Arcs rO) fun yJ=>
   a8 (aB gZ.Arcs rO) fun oZ=>
   aE ((oQ.length+2)*8<=140737488355328/\oQ.length+2<=140737488355328) ((Dy z6 rc1 gZ m2) (IntKind.i64.wrap (rO+1)) (oQ++[yJ.Feat,oZ.To]))) (zk z6 rc1 oQ)
def zl  (l9:List Int):Option ((List Int)):=
 some l9
def MB(p1:GFS)(n:Nat):Nat->Int->(List Int)->Option ((List Int))
 |0,_,_=>none|m1+1,z6,l7=>
  cond (decide (z6<(p1.Nodes.length:Int))) (a8 (aB p1.Nodes z6) fun gZ=>
   a8 (aB p1.Nodes z6) fun jU=>
   aE ((l7.length+2)*8<=140737488355328/\l7.length+2<=140737488355328) (
   Dy z6 (MB p1 n m1) gZ n 0 (l7++[jU.Typex,(gZ.Arcs.length:Int)]))) (zl l7)
def Dj(n:Nat)(p1:GFS):Option ((List Int)):=
 MB p1 n n 0 ([(p1.Nodes.length:Int)])
theorem qgm(n:Nat)(p1:GFS)(r:(List Int))(J:Dj n p1=some r):dF prog 80 [.agg [.isl false (p1.Nodes.map bM)]] (.isl false (r.map (cI .i64))):=by
 unfold Dj at J;refine kH 55 Z8 ?_;refine go ?_;refine RS.step (u:=.vl 1 0 0 ([(p1.Nodes.length:Int)].length)) (O':=⟨[(1,.bv (cI .i64) ([(p1.Nodes.length:Int)]) 3 1 0),(0,.row [.iM bM p1.Nodes] 40)],2⟩) rfl (EC.bslv (cs:=(List.map (cI .i64) [(p1.Nodes.length:Int)]).flatten) tb_ok rfl eP.h fW.h rfl rfl rfl rfl rfl rfl rfl rfl) rfl rfl ?_;refine go ?_;refine gL (fun m tm O=>∃z6 l7 t8,MB p1 n m z6 l7=some r/\tm=fr 55 [(1,.ptr 0 0 0),(3,.vl 1 t8 0 l7.length),(4,.i6 z6)]/\O=⟨Cj l7 t8 p1.Nodes,2⟩) (fun tm O=>∃l9 bL,zl l9=some r/\tm=fr 55 [(3,.vl 1 bL 0 l9.length)]/\O=⟨Cj l9 bL p1.Nodes,2⟩) n ⟨0,[(p1.Nodes.length:Int)],0,J,rfl,rfl⟩ ?_ ?_;rintro _ _ ⟨l9,bL,J,rfl,rfl⟩;unfold zl at J;refine go ?_;obtain rfl:=sI J;exact rT (us:=[.vl 1 bL 0 l9.length]) (u:=.iM (cI .i64) l9) (eO rfl (dV)) (fR 1 1);rintro(_|m1) _ _ ⟨z6,l7,t8,J,rfl,rfl⟩;cases J;unfold MB at J;refine gF J ?_ ?_<;>intro iZ J;refine go ?_;apply aV;obtain⟨gZ,dQ,J⟩:=aC J;refine go ?_;refine aZ dQ ?_;obtain⟨jU,eD,J⟩:=aC J;obtain⟨rF,J⟩:=d8 J;refine go ?_;refine aZ eD ?_;refine go ?_;refine bU ?_;refine aL (u:=.vl 1 (t8+1) 0 ((l7++[jU.Typex,(gZ.Arcs.length:Int)]).length)) (O':=⟨(2,.row [.i6 jU.Typex,.i6 (gZ.Arcs.length:Int)] 3)::Cj (l7++[jU.Typex,(gZ.Arcs.length:Int)]) (t8+1) p1.Nodes,3⟩) rfl (AW rfl rfl rfl rfl (P9 (cI .i64) ([jU.Typex,(gZ.Arcs.length:Int)]) eP.h eP.h fW.h rfl (kN .i64) rfl (Je (cI .i64) [jU.Typex,(gZ.Arcs.length:Int)] rfl rfl rfl rfl) rF)) ?_;refine go ?_;refine gL (fun m tm O=>∃rO oQ v7,Dy z6 (MB p1 n m1) gZ m rO oQ=some r/\tm=fr 55 [(1,.ptr 0 0 0),(3,.vl 1 v7 0 oQ.length),(4,.i6 z6),(5,.iM aQ gZ.Arcs),(6,.i6 rO)]/\O=⟨(2,.row [.i6 jU.Typex,.i6 (gZ.Arcs.length:Int)] 3)::Cj oQ v7 p1.Nodes,3⟩) (fun tm O=>∃cY pV,zk z6 (MB p1 n m1) cY=some r/\tm=fr 55 [(1,.ptr 0 0 0),(3,.vl 1 pV 0 cY.length),(4,.i6 z6)]/\O=⟨(2,.row [.i6 jU.Typex,.i6 (gZ.Arcs.length:Int)] 3)::Cj cY pV p1.Nodes,3⟩) n ⟨0,(l7++[jU.Typex,(gZ.Arcs.length:Int)]),(t8+1),J,rfl,rfl⟩ ?_ ?_;rintro _ _ ⟨cY,pV,J,rfl,rfl⟩;unfold zk at J;refine go ?_;exact lC ⟨_,cY,pV,J,rfl,rfl⟩;rintro(_|m2) _ _ ⟨rO,oQ,v7,J,rfl,rfl⟩;cases J;unfold Dy at J;refine gF J ?_ ?_<;>intro vQ J;refine go ?_;apply aV;obtain⟨yJ,oW,J⟩:=aC J;obtain⟨oZ,mB,J⟩:=aC J;obtain⟨pR,J⟩:=d8 J;refine go ?_;refine dE [(0,11)] ?_;refine gd ?_;refine cK oW ?_;refine gd ?_;refine cK mB ?_;refine gd ?_;refine dC ?_;refine RD.act (u:=.vl 1 (v7+1) 0 ((oQ++[yJ.Feat,oZ.To]).length)) (O':=⟨(3,.row [.i6 yJ.Feat,.i6 oZ.To] 3)::(2,.row [.i6 jU.Typex,.i6 (gZ.Arcs.length:Int)] 3)::Cj (oQ++[yJ.Feat,oZ.To]) (v7+1) p1.Nodes,4⟩) rfl (AW rfl rfl rfl rfl (P9 (cI .i64) ([yJ.Feat,oZ.To]) eP.h eP.h fW.h rfl (kN .i64) rfl (Je (cI .i64) [yJ.Feat,oZ.To] rfl rfl rfl rfl) pR)) rfl rfl ?_;refine gd ?_;refine bF ⟨by kernel_rfl,⟨g8 rfl,trivial⟩,?_⟩;refine go ?_;exact lC ⟨_,(oQ++[yJ.Feat,oZ.To]),(v7+1),J,rfl,rfl⟩;refine go ?_;exact xC ⟨oQ,v7,J,rfl,rfl⟩;refine go ?_;exact xC ⟨l7,t8,J,rfl,rfl⟩
def Nd: Option (Int):=
 some 0
def Dz(r3:(List Int))(r5:(List Int)):Nat->Int->Option (Int)
 |0,_=>none|m1+1,eK=>a8 (cond (decide (eK<(r3.length:Int))) (some (decide (eK<(r5.length:Int)))) (some false)) fun tL=>cond tL (a8 (aB r3 eK) fun nJ=>a8 (aB r5 eK) fun KN=>cond (decide (nJ<KN)) (some (-1)) (a8 (aB r3 eK) fun iC=>a8 (aB r5 eK) fun hO=>cond (decide (iC>hO)) (some 1) ((Dz r3 r5 m1) (IntKind.i64.wrap (eK+1))))) (Nd)
def Md(n:Nat)(p1:GFS)(p2:GFS):Option (Int):=
 a8 (Dj n p1) fun r3=>
 a8 (Dj n p2) fun r5=>
 Dz r3 r5 n 0
theorem qno(n:Nat)(p1:GFS)(p2:GFS)(r:Int)(J:Md n p1 p2=some r):dF prog 50 [.agg [.isl false (p1.Nodes.map bM)],.agg [.isl false (p2.Nodes.map bM)]] (.int .i64 r):=by
 unfold Md at J;refine gO 42 Tl ?_;obtain⟨r3,h4,J⟩:=aC J;refine go ?_;refine aP rfl (pC (qgm n p1 r3 h4) _) Z8 ?_;obtain⟨r5,h6,J⟩:=aC J;refine go ?_;refine aP rfl (pC (qgm n p2 r5 h6) _) Z8 ?_;refine go ?_;refine gL (fun m tm O=>∃eK,Dz r3 r5 m eK=some r/\tm=fr 42 [(5,.iM (cI .i64) r3),(6,.iM (cI .i64) r5),(7,.i6 eK)]/\O=⟨[(1,.row [.iM bM p2.Nodes] 40),(0,.row [.iM bM p1.Nodes] 40)],2⟩) (fun tm O=>Nd=some r/\tm=fr 42 []/\O=⟨[(1,.row [.iM bM p2.Nodes] 40),(0,.row [.iM bM p1.Nodes] 40)],2⟩) n ⟨0,J,rfl,rfl⟩ ?_ ?_;rintro _ _ ⟨J,rfl,rfl⟩;unfold Nd at J;exact gx J;rintro(_|m1) _ _ ⟨eK,J,rfl,rfl⟩;cases J;unfold Dz at J;obtain⟨tL,eD,J⟩:=aC J;refine gn ?_;refine dL (fun tm O=>tm=fr 42 [(5,.iM (cI .i64) r3),(6,.iM (cI .i64) r5),(7,.i6 eK),(21,.bool tL)]/\O=⟨[(1,.row [.iM bM p2.Nodes] 40),(0,.row [.iM bM p1.Nodes] 40)],2⟩) ?_ ?_;rintro _ _ ⟨rfl,rfl⟩;refine gF J ?_ ?_<;>intro rF J;refine go ?_;apply aV;obtain⟨nJ,dP,J⟩:=aC J;obtain⟨KN,rE,J⟩:=aC J;refine go ?_;refine dE [] ?_;refine gd ?_;refine cK dP ?_;refine gd ?_;refine cK rE ?_;refine gd ?_;refine bF ⟨by kernel_rfl,trivial,?_⟩;refine gF J ?_ ?_<;>intro kF J;exact gx J;obtain⟨iC,mQ,J⟩:=aC J;obtain⟨hO,lS,J⟩:=aC J;refine go ?_;refine dE [] ?_;refine gd ?_;refine cK mQ ?_;refine gd ?_;refine cK lS ?_;refine gd ?_;refine bF ⟨by kernel_rfl,trivial,?_⟩;refine gF J ?_ ?_<;>intro mC J;exact gx J;refine go ?_;exact lC ⟨_,J,rfl,rfl⟩;refine go ?_;exact xC ⟨J,rfl,rfl⟩;refine go ?_;rcases gB eD with⟨dQ,eD⟩|⟨dQ,eD⟩;exact gy eD;exact gy eD
def LR(n:Nat)(p1:GFS)(p2:GFS):Option (Bool):=
 a8 (Md n p1 p2) fun r3=>some (r3==0)
theorem Mc(n:Nat)(p1:GFS)(p2:GFS)(r:Bool)(J:LR n p1 p2=some r):dF prog 25 [.agg [.isl false (p1.Nodes.map bM)],.agg [.isl false (p2.Nodes.map bM)]] (.bool r):=by
 unfold LR at J;refine gO 9 DI ?_;obtain⟨r3,h4,J⟩:=aC J;refine go ?_;refine aP rfl (pC (qno n p1 p2 r3 h4) _) Tl ?_;exact gx J
def Ju(n:Nat)(p1:List aT):Option (GFS):=
 some (GFS.mk p1)
theorem gg(n:Nat)(p1:List aT)(r:GFS)(J:Ju n p1=some r):dF prog 34 [.isl false (p1.map bM)] (.agg [.isl false (r.Nodes.map bM)]):=by
 unfold Ju at J;refine kH 5 NQ ?_;refine go ?_;obtain rfl:=sI J;exact rT (pK (pZ jV.h rfl (aW lO.h) rfl rfl rfl) (dV)) (vS _ rfl)
def bo(p1:Int)(lJ:List aF):Option (aT):=
 some (aT.mk p1 lJ)
def Zo(p1:Int)(p2:List Int):Nat->Int->(List aF)->Option (aT)
 |0,_,_=>none|m1+1,z9,iJ=>
  cond (decide ((IntKind.i64.wrap (z9+1))<(p2.length:Int))) (a8 (aB p2 z9) fun xD=>
   a8 (aB p2 (IntKind.i64.wrap (z9+1))) fun nJ=>
   aE ((iJ.length+1)*16<=140737488355328/\iJ.length+1<=140737488355328) ((Zo p1 p2 m1) (IntKind.i64.wrap (z9+2)) (iJ++[(aF.mk xD nJ)]))) (bo p1 iJ)
def VL(n:Nat)(p1:Int)(p2:List Int):Option (aT):=
 Zo p1 p2 n 0 ([]:List aF)
theorem Ly(n:Nat)(p1:Int)(p2:List Int)(r:aT)(J:VL n p1 p2=some r):dF prog 35 [.int .i64 p1,.isl false (p2.map (cI .i64))] (.agg (bM r)):=by
 unfold VL at J;refine gO 32 DG ?_;refine gr ?_;refine gr ?_;refine gr ?_;refine c9 (tm':=fr 32 [(1,.iM (cI .i64) p2),(4,.ptr 0 0 0),(5,.ptr 1 0 0),(6,.i6 0)]) (O':=⟨[(2,.bv aQ ([]:List aF) 98 2 0),(1,.row [.i6 p1,.vl 2 0 0 (([]:List aF).length)] 78),(0,.row [.i6 0,.nils] 78)],3⟩) (Gh.trans (u9 1 1 98 2 (by decide) NZ rfl rfl) (kJ ⟨rfl,rfl,rfl,rfl,trivial⟩ rfl)) NZ ?_;refine gL (fun m tm O=>∃z9 iJ jW,Zo p1 p2 m z9 iJ=some r/\tm=fr 32 [(1,.iM (cI .i64) p2),(4,.ptr 0 0 0),(5,.ptr 1 0 0),(6,.i6 z9)]/\O=⟨[(2,.bv aQ iJ 98 2 jW),(1,.row [.i6 p1,.vl 2 jW 0 iJ.length] 78),(0,.row [.i6 0,.nils] 78)],3⟩) (fun tm O=>∃lJ hX,bo p1 lJ=some r/\tm=fr 32 [(4,.ptr 0 0 0),(5,.ptr 1 0 0)]/\O=⟨[(2,.bv aQ lJ 98 2 hX),(1,.row [.i6 p1,.vl 2 hX 0 lJ.length] 78),(0,.row [.i6 0,.nils] 78)],3⟩) n ⟨0,([]:List aF),0,J,rfl,rfl⟩ ?_ ?_;rintro _ _ ⟨lJ,hX,J,rfl,rfl⟩;unfold bo at J;refine go ?_;obtain rfl:=sI J;exact rT (us:=[.agg [.i6 p1,.vl 2 hX 0 lJ.length]]) (u:=.agg [.i6 p1,.iM aQ lJ]) (pK (pZ C2.h rfl (aW uL.h) rfl rfl rfl) (dV)) (fR 2 2);rintro(_|m1) _ _ ⟨z9,iJ,jW,J,rfl,rfl⟩;cases J;unfold Zo at J;refine gF J ?_ ?_<;>intro gT J;refine go ?_;apply aV;obtain⟨xD,rF,J⟩:=aC J;obtain⟨nJ,dP,J⟩:=aC J;obtain⟨iB,J⟩:=d8 J;refine go ?_;refine dE [(0,12),(1,12)] ?_;refine gd ?_;refine cK rF ?_;refine gd ?_;refine cK dP ?_;refine gd ?_;refine dC ?_;refine dC ?_;refine gd ?_;refine v5 ?_;refine bF ⟨by kernel_rfl,⟨kM C2.h rfl (aW oE.h) rfl rfl rfl,⟨nQ dB.h rfl rfl rfl rfl,trivial⟩⟩,?_⟩;refine go ?_;exact lC ⟨_,(iJ++[(aF.mk xD nJ)]),(jW+1),J,rfl,rfl⟩;refine go ?_;exact xC ⟨iJ,jW,J,rfl,rfl⟩
end Go.Proofs
