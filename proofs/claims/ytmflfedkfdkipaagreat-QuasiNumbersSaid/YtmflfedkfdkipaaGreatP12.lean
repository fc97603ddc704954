import Derived.Test.YtmflfedkfdkipaaGreatP11
set_option linter.all false
namespace Go.Proofs
open Go Go.Rx Go.Vx Tryz
instance:TbP prog tb:=⟨tb_ok⟩
set_option maxRecDepth 20000
set_option maxHeartbeats 4000000
set_option synthInstance.maxSize 4000
set_option synthInstance.maxHeartbeats 200000
structure hZ where
 Feat:Int
 Value:Int
def lY(x:hZ):List U:=[.int .i64 x.Feat,.int .i64 x.Value]
instance{a0:Int}{a1:Int}:DeC lY [.int .i64 a0,.int .i64 a1] (hZ.mk a0 a1):=⟨rfl⟩
theorem jg(n:Nat)(x:hZ):aE n (lY x):=by
 simp only[lY,aE,aJ,true_and,and_true]
theorem fg(x:hZ):(lY x).length=2:=rfl
instance:eI lY 2:=⟨fg⟩
instance:BF lY:=⟨jg⟩
structure jH where
 Name:List UInt8
 Code:List Int
 Supers:List Int
 Feats:List hZ
def iK(x:jH):List U:=[.str x.Name,.isl false (x.Code.map (cI .u64)),.isl false (x.Supers.map (cI .i64)),.isl false (x.Feats.map lY)]
instance{a0:List UInt8}{a1:List Int}{a2:List Int}{a3:List hZ}:DeC iK [.str a0,.isl false (a1.map (cI .u64)),.isl false (a2.map (cI .i64)),.isl false (a3.map lY)] (jH.mk a0 a1 a2 a3):=⟨rfl⟩
theorem W8(n:Nat)(x:jH):aE n (iK x):=by
 simp only[iK,aE,aJ,true_and,and_true];exact⟨o5 _ (fun q=>Cw _ .u64 q) _,o5 _ (fun q=>Cw _ .i64 q) _,o5 _ (fun q=>jg _ q) _⟩
theorem Qe(x:jH):(iK x).length=4:=rfl
instance:eI iK 4:=⟨Qe⟩
instance:BF iK:=⟨W8⟩
instance(n:Nat)(x:jH):jC n (iK x):=⟨W8 n x⟩
structure nK where
 Name:List UInt8
 Intro:Int
def kS(x:nK):List U:=[.str x.Name,.int .i64 x.Intro]
instance{a0:List UInt8}{a1:Int}:DeC kS [.str a0,.int .i64 a1] (nK.mk a0 a1):=⟨rfl⟩
theorem Gl(n:Nat)(x:nK):aE n (kS x):=by
 simp only[kS,aE,aJ,true_and,and_true]
theorem ig(x:nK):(kS x).length=2:=rfl
instance:eI kS 2:=⟨ig⟩
instance:BF kS:=⟨Gl⟩
structure dY where
 Types:List jH
 Feats:List nK
def iY(x:dY):List U:=[.isl false (x.Types.map iK),.isl false (x.Feats.map kS)]
theorem ng(n:Nat)(x:dY):aE n (iY x):=by
 simp only[iY,aE,aJ,true_and,and_true];exact⟨o5 _ (fun q=>W8 _ q) _,o5 _ (fun q=>Gl _ q) _⟩
theorem iz(x:dY):(iY x).length=2:=rfl
instance:eI iY 2:=⟨iz⟩
instance(n:Nat)(x:dY):jC n (iY x):=⟨ng n x⟩
structure jI where
 Feat:List UInt8
 Value:List UInt8
def gG(x:jI):List U:=[.str x.Feat,.str x.Value]
instance{a0:List UInt8}{a1:List UInt8}:DeC gG [.str a0,.str a1] (jI.mk a0 a1):=⟨rfl⟩
theorem jw(n:Nat)(x:jI):aE n (gG x):=by
 simp only[gG,aE,aJ,true_and,and_true]
theorem iu(x:jI):(gG x).length=2:=rfl
instance:eI gG 2:=⟨iu⟩
instance:BF gG:=⟨jw⟩
structure aT where
 Name:List UInt8
 Supers:List (List UInt8)
 Feats:List jI
def aX(x:aT):List U:=[.str x.Name,.isl false (x.Supers.map cS),.isl false (x.Feats.map gG)]
theorem jv(n:Nat)(x:aT):aE n (aX x):=by
 simp only[aX,aE,aJ,true_and,and_true];exact⟨o5 _ (fun q=>Wh _ q) _,o5 _ (fun q=>jw _ q) _⟩
theorem it(x:aT):(aX x).length=3:=rfl
instance:eI aX 3:=⟨it⟩
instance:BF aX:=⟨jv⟩
instance(n:Nat)(x:aT):jC n (aX x):=⟨jv n x⟩
structure c7 where
 Name:List UInt8
 Code:List Int
instance:Inhabited c7:=⟨.mk default default⟩
def dD(x:c7):List U:=[.str x.Name,.isl false (x.Code.map (cI .u64))]
instance{a0:List UInt8}{a1:List Int}:DeC dD [.str a0,.isl false (a1.map (cI .u64))] (c7.mk a0 a1):=⟨rfl⟩
theorem xr(n:Nat)(x:c7):aE n (dD x):=by
 simp only[dD,aE,aJ,true_and,and_true];exact o5 _ (fun q=>Cw _ .u64 q) _
theorem G3(x:c7):(dD x).length=2:=rfl
instance:eI dD 2:=⟨G3⟩
instance:BF dD:=⟨xr⟩
instance(n:Nat)(x:c7):jC n (dD x):=⟨xr n x⟩
structure bE where
 Feat:Int
 To:Int
def c6(x:bE):List U:=[.int .i64 x.Feat,.int .i64 x.To]
instance{a0:Int}{a1:Int}:DeC c6 [.int .i64 a0,.int .i64 a1] (bE.mk a0 a1):=⟨rfl⟩
theorem Py(n:Nat)(x:bE):aE n (c6 x):=by
 simp only[c6,aE,aJ,true_and,and_true]
theorem pU(x:bE):(c6 x).length=2:=rfl
instance:eI c6 2:=⟨pU⟩
instance:BF c6:=⟨Py⟩
instance(n:Nat)(x:bE):jC n (c6 x):=⟨Py n x⟩
structure bS where
 Typex:Int
 Arcs:List bE
def bM(x:bS):List U:=[.int .i64 x.Typex,.isl false (x.Arcs.map c6)]
instance{a0:Int}{a1:List bE}:DeC bM [.int .i64 a0,.isl false (a1.map c6)] (bS.mk a0 a1):=⟨rfl⟩
theorem qU(n:Nat)(x:bS):aE n (bM x):=by
 simp only[bM,aE,aJ,true_and,and_true];exact o5 _ (fun q=>Py _ q) _
theorem xa(x:bS):(bM x).length=2:=rfl
instance:eI bM 2:=⟨xa⟩
instance:BF bM:=⟨qU⟩
instance(n:Nat)(x:bS):jC n (bM x):=⟨qU n x⟩
structure GFS where
 Nodes:List bS
def fV(x:GFS):List U:=[.isl false (x.Nodes.map bM)]
theorem qp(n:Nat)(x:GFS):aE n (fV x):=by
 simp only[fV,aE,aJ,true_and,and_true];exact o5 _ (fun q=>qU _ q) _
theorem pg(x:GFS):(fV x).length=1:=rfl
instance:eI fV 1:=⟨pg⟩
instance:BF fV:=⟨qp⟩
instance:oA tb 27 [.nils,.nils] [(0,1),(1,1)]:=⟨pD nD.h u6.h rfl (by kernel_rfl)⟩
instance:oA tb 39 [.nils] [(0,1)]:=⟨pD nB.h oR.h rfl (by kernel_rfl)⟩
instance:oA tb 79 [.int .i64 0,.nils] [(0,1),(1,1)]:=⟨pD vT.h mA.h rfl (by kernel_rfl)⟩
instance:oA tb 105 [.int .i64 0,.int .i64 0] [(0,1),(1,1)]:=⟨pD mI.h fT.h rfl (by kernel_rfl)⟩
instance Av:oA tb 143 [.str [],.nils] [(0,1),(1,1)]:=⟨pD F3.h lN.h rfl (by kernel_rfl)⟩
instance:oA tb 147 [.str [],.nils,.nils,.nils] [(0,1),(1,1),(2,1),(3,1)]:=⟨pD vY.h xY.h rfl (by kernel_rfl)⟩
instance:oA tb 153 [.str [],.nils,.nils] [(0,1),(1,1),(2,1)]:=⟨pD oF.h oS.h rfl (by kernel_rfl)⟩
instance:oA tb 156 [.str [],.str []] [(0,1),(1,1)]:=⟨pD TH.h GS.h rfl (by kernel_rfl)⟩
instance:oA tb 186 [.int .i64 0,.int .i64 0] [(0,1),(1,1)]:=⟨pD TG.h YW.h rfl (by kernel_rfl)⟩
instance:oA tb 197 [.str [],.int .i64 0] [(0,1),(1,1)]:=⟨pD TF.h YV.h rfl (by kernel_rfl)⟩
abbrev FV(a)(b:Nat):=([(1,.bv (cL (cI .u64)) a 141 1 b),(0,.row [] 141)]:List (Nat×B))
abbrev iE(a)(b:Nat):=([(0,.bv cS a 9 1 b)]:List (Nat×B))
abbrev QR(a)(b:Nat)(c):=([(1,.bv (cI .i64) a 3 1 b),(0,.row [.iM bM c] 39)]:List (Nat×B))
abbrev tN(a)(b:Nat):=([(0,.bv (cI .i64) a 3 1 b)]:List (Nat×B))
abbrev QQ:=([(0,.row [.str [],.nils,.nils] 153)]:List (Nat×B))
abbrev VK(a:U)(b)(c)(d:Nat):=([(2,.row [a,.iM (cI .u64) b] 143),(1,.bv dD c 143 2 d)]:List (Nat×B))
abbrev qc:=([(1,.row [.str ([70]),.str ([116,111,112]),.str ([71]),.str ([116,111,112])] 156),(0,.row [.nils,.nils] 27)]:List (Nat×B))
def Gy: Option (Int):=
 some 0
def LF(p1:List aT):Nat->Int->Option (Int)
 |0,_=>none|m1+1,z5=>cond (decide (z5<(p1.length:Int))) (a8 (a8 (aC p1 z5) fun x7=>cond (decide ((x7.Supers.length:Int)>256)) (some true) (a8 (aC p1 z5) fun iR=>some (decide ((iR.Feats.length:Int)>256)))) fun A7=>cond A7 (some 7) ((LF p1 m1) (IntKind.i64.wrap (z5+1)))) (Gy)
def WD(n:Nat)(p1:List aT):Option (Int):=
 cond (decide ((p1.length:Int)>256)) (some 7) (LF p1 n 0)
theorem ft(n:Nat)(p1:List aT)(r:Int)(J:WD n p1=some r):cE prog 121 [.isl false (p1.map aX)] (.int .i64 r):=by
 unfold WD at J;refine gY 29 HT ?_;refine gF J ?_ ?_<;>intro h2 J;exact gx J;refine go ?_;refine gL (fun m tm σ=>∃z5,LF p1 m z5=some r/\tm=fr 29 [(0,.iM aX p1),(3,.i6 z5)]/\σ=⟨[],0⟩) (fun tm σ=>Gy=some r/\tm=fr 29 []/\σ=⟨[],0⟩) n ⟨0,J,rfl,rfl⟩ ?_ ?_;rintro _ _ ⟨J,rfl,rfl⟩;unfold Gy at J;exact gx J;rintro(_|m1) _ _ ⟨z5,J,rfl,rfl⟩;cases J;unfold LF at J;refine gF J ?_ ?_<;>intro h6 J;refine go ?_;apply aL;obtain⟨A7,cX,J⟩:=aB J;refine gn ?_;refine dU (fun tm σ=>tm=fr 29 [(0,.iM aX p1),(3,.i6 z5),(28,.bool A7)]/\σ=⟨[],0⟩) ?_ ?_;rintro _ _ ⟨rfl,rfl⟩;refine gF J ?_ ?_<;>intro fE J;exact gx J;refine go ?_;exact lC ⟨_,J,rfl,rfl⟩;obtain⟨x7,h8,cX⟩:=aB cX;refine go ?_;refine aP h8 ?_;refine go ?_;rcases gB cX with⟨h9,cX⟩|⟨h9,cX⟩;exact gy cX;obtain⟨iR,iP,cX⟩:=aB cX;obtain rfl:=sI cX;refine go ?_;refine aP iP ?_;refine go ?_;exact xC ⟨rfl,rfl⟩;refine go ?_;exact xC ⟨J,rfl,rfl⟩
def L3(n:Nat)(p1:Int):Option (Bool):=
 a8 (cond (decide (p1>=48)) (some (decide (p1<=57))) (some false)) fun b3=>some b3
theorem jp(n:Nat)(p1:Int)(r:Bool)(J:L3 n p1=some r):cE prog 176 [.int .u8 p1] (.bool r):=by
 unfold L3 at J;refine gY 9 yL ?_;obtain⟨b3,h4,J⟩:=aB J;refine gr ?_;refine dU (fun tm σ=>tm=fr 9 [(2,.bool b3)]/\σ=⟨[],0⟩) ?_ ?_;rintro _ _ ⟨rfl,rfl⟩;exact gx J;refine go ?_;rcases gB h4 with⟨h2,h4⟩|⟨h2,h4⟩;exact gy h4;exact gy h4
def Fh(n:Nat)(p1:Int):Option (Bool):=
 a8 (cond (decide (p1>=65)) (some (decide (p1<=90))) (some false)) fun b3=>some b3
theorem ie(n:Nat)(p1:Int)(r:Bool)(J:Fh n p1=some r):cE prog 178 [.int .u8 p1] (.bool r):=by
 unfold Fh at J;refine gY 9 HA ?_;obtain⟨b3,h4,J⟩:=aB J;refine gr ?_;refine dU (fun tm σ=>tm=fr 9 [(2,.bool b3)]/\σ=⟨[],0⟩) ?_ ?_;rintro _ _ ⟨rfl,rfl⟩;exact gx J;refine go ?_;rcases gB h4 with⟨h2,h4⟩|⟨h2,h4⟩;exact gy h4;exact gy h4
def WJ(n:Nat)(p1:Int):Option (Bool):=
 a8 (cond (decide (p1>=97)) (some (decide (p1<=122))) (some false)) fun b3=>some b3
theorem jo(n:Nat)(p1:Int)(r:Bool)(J:WJ n p1=some r):cE prog 179 [.int .u8 p1] (.bool r):=by
 unfold WJ at J;refine gY 9 yK ?_;obtain⟨b3,h4,J⟩:=aB J;refine gr ?_;refine dU (fun tm σ=>tm=fr 9 [(2,.bool b3)]/\σ=⟨[],0⟩) ?_ ?_;rintro _ _ ⟨rfl,rfl⟩;exact gx J;refine go ?_;rcases gB h4 with⟨h2,h4⟩|⟨h2,h4⟩;exact gy h4;exact gy h4
def W6(n:Nat)(p1:Int)(p2:Bool):Option (Bool):=
 a8 (a8 (L3 n p1) fun r3=>cond r3 (some true) (cond (p1==45) (some true) (cond p2 (a8 (Fh n p1) fun r8=>cond r8 (some true) (cond (!p2) (a8 (WJ n p1) fun eY=>some eY) (some false))) (cond (!p2) (a8 (WJ n p1) fun nF=>some nF) (some false))))) fun pF=>some pF
theorem dz(n:Nat)(p1:Int)(p2:Bool)(r:Bool)(J:W6 n p1 p2=some r):cE prog 177 [.int .u8 p1,.bool p2] (.bool r):=by
 unfold W6 at J;refine dF 26 HB ?_;obtain⟨pF,cO,J⟩:=aB J;refine gr ?_;refine dU (fun tm σ=>tm=fr 26 [(4,.bool pF)]/\σ=⟨[],0⟩) ?_ ?_;rintro _ _ ⟨rfl,rfl⟩;exact gx J;obtain⟨r3,h4,cO⟩:=aB cO;refine go ?_;refine aI rfl (pC (jp n p1 r3 h4) _) yL ?_;refine go ?_;rcases gB cO with⟨h5,cO⟩|⟨h5,cO⟩;obtain rfl:=sI cO;refine go ?_
 repeat refine RS.no (B1 rfl rfl rfl) rfl rfl ?_
 refine go ?_
 repeat refine RS.no (B1 rfl rfl rfl) rfl rfl ?_
 refine go ?_;exact xC ⟨rfl,rfl⟩;refine go ?_;rcases gB cO with⟨h6,cO⟩|⟨h6,cO⟩;obtain rfl:=sI cO;refine go ?_
 repeat refine RS.no (B1 rfl rfl rfl) rfl rfl ?_
 refine go ?_
 repeat refine RS.no (B1 rfl rfl rfl) rfl rfl ?_
 refine go ?_;exact xC ⟨rfl,rfl⟩;refine go ?_;rcases gB cO with⟨h7,cO⟩|⟨h7,cO⟩;obtain⟨r8,h9,cO⟩:=aB cO;refine go ?_;refine aI rfl (pC (ie n p1 r8 h9) _) HA ?_;refine go ?_;rcases gB cO with⟨fA,cO⟩|⟨fA,cO⟩;obtain rfl:=sI cO;refine go ?_
 repeat refine RS.no (B1 rfl rfl rfl) rfl rfl ?_
 refine go ?_;exact xC ⟨rfl,rfl⟩;refine go ?_;rcases gB cO with⟨iP,cO⟩|⟨iP,cO⟩;obtain⟨eY,cX,cO⟩:=aB cO;obtain rfl:=sI cO;refine go ?_;refine aI rfl (pC (jo n p1 eY cX) _) yK ?_;refine go ?_;exact xC ⟨rfl,rfl⟩;exact gy cO;refine go ?_;rcases gB cO with⟨fE,cO⟩|⟨fE,cO⟩;obtain⟨nF,rG,cO⟩:=aB cO;obtain rfl:=sI cO;refine go ?_;refine aI rfl (pC (jo n p1 nF rG) _) yK ?_;refine go ?_;exact xC ⟨rfl,rfl⟩;exact gy cO
def Hn: Option (Bool):=
 some true
def LJ(p1:List UInt8)(p2:Bool)(n:Nat):Nat->Int->Option (Bool)
 |0,_=>none|m1+1,dB=>cond (decide (dB<(p1.length:Int))) (a8 (K9 p1 dB) fun rN=>a8 (W6 n rN p2) fun AQ=>cond (!AQ) (some false) ((LJ p1 p2 n m1) (IntKind.i64.wrap (dB+1)))) (Hn)
def R9(n:Nat)(p1:List UInt8)(p2:Bool):Option (Bool):=
 a8 (cond (decide ((p1.length:Int)<1)) (some true) (cond (decide ((p1.length:Int)>32)) (some true) (a8 (K9 p1 0) fun x5=>a8 (L3 n x5) fun r7=>cond r7 (some true) (a8 (K9 p1 0) fun iR=>some (iR==45))))) fun A7=>cond A7 (some false) (LJ p1 p2 n n 0)
theorem jn(n:Nat)(p1:List UInt8)(p2:Bool)(r:Bool)(J:R9 n p1 p2=some r):cE prog 173 [.str p1,.bool p2] (.bool r):=by
 unfold R9 at J;refine dF 36 yM ?_;obtain⟨A7,cX,J⟩:=aB J;refine gr ?_;refine dU (fun tm σ=>tm=fr 36 [(0,.str p1),(1,.bool p2),(23,.bool A7)]/\σ=⟨[],0⟩) ?_ ?_;rintro _ _ ⟨rfl,rfl⟩;refine gF J ?_ ?_<;>intro fE J;exact gx J;refine go ?_;refine gL (fun m tm σ=>∃dB,LJ p1 p2 n m dB=some r/\tm=fr 36 [(0,.str p1),(1,.bool p2),(5,.i6 dB)]/\σ=⟨[],0⟩) (fun tm σ=>Hn=some r/\tm=fr 36 []/\σ=⟨[],0⟩) n ⟨0,J,rfl,rfl⟩ ?_ ?_;rintro _ _ ⟨J,rfl,rfl⟩;unfold Hn at J;exact gx J;rintro(_|m1) _ _ ⟨dB,J,rfl,rfl⟩;cases J;unfold LJ at J;refine go ?_;refine bG (u:=.i6 (p1.length:Int)) rfl (B6 rfl rfl rfl (by simp only[oI,AI.h])) ?_;refine gF J ?_ ?_<;>intro g8 J;refine go ?_;apply aL;obtain⟨rN,nP,J⟩:=aB J;obtain⟨AQ,rF,J⟩:=aB J;refine go ?_;refine bG (u:=.int .u8 rN) rfl (Nl AI.h rfl rfl nP) ?_;refine go ?_;refine aI rfl (pC (dz n rN p2 AQ rF) _) HB ?_;refine gF J ?_ ?_<;>intro kX J;exact gx J;refine go ?_;exact lC ⟨_,J,rfl,rfl⟩;refine go ?_;exact xC ⟨J,rfl,rfl⟩;refine go ?_;refine bG (u:=.i6 (p1.length:Int)) rfl (B6 rfl rfl rfl (by simp only[oI,AI.h])) ?_;refine go ?_;rcases gB cX with⟨h3,cX⟩|⟨h3,cX⟩;exact gy cX;refine go ?_;refine RS.w (u:=.i6 (p1.length:Int)) rfl (B6 rfl rfl rfl (by simp only[oI,AI.h])) ?_;refine go ?_;rcases gB cX with⟨h4,cX⟩|⟨h4,cX⟩;exact gy cX;obtain⟨x5,h6,cX⟩:=aB cX;obtain⟨r7,h8,cX⟩:=aB cX;refine go ?_;refine RS.w (u:=.int .u8 x5) rfl (Nl AI.h rfl rfl h6) (aI rfl (pC (jp n x5 r7 h8) _) yL ?_);refine go ?_;rcases gB cX with⟨h9,cX⟩|⟨h9,cX⟩;exact gy cX;obtain⟨iR,iP,cX⟩:=aB cX;obtain rfl:=sI cX;refine go ?_;refine RS.w (u:=.int .u8 iR) rfl (Nl AI.h rfl rfl iP) ?_;refine go ?_;exact xC ⟨rfl,rfl⟩
def W7(n:Nat)(p1:List UInt8):Option (Bool):=
 a8 (R9 n p1 false) fun r2=>some r2
theorem fa(n:Nat)(p1:List UInt8)(r:Bool)(J:W7 n p1=some r):cE prog 157 [.str p1] (.bool r):=by
 unfold W7 at J;refine gY 5 HH ?_;obtain⟨r2,h3,J⟩:=aB J;refine go ?_;refine aI rfl (pC (jn n p1 false r2 h3) _) yM ?_;exact gx J
def Gf: Option (Int):=
 some (-1)
def L7(p1:List aT)(p2:List UInt8):Nat->Int->Option (Int)
 |0,_=>none|m1+1,z6=>cond (decide (z6<(p1.length:Int))) (a8 (aC p1 z6) fun x8=>cond (gE x8.Name p2) (some z6) ((L7 p1 p2 m1) (IntKind.i64.wrap (z6+1)))) (Gf)
def wX(n:Nat)(p1:List aT)(p2:List UInt8):Option (Int):=
 L7 p1 p2 n 0
theorem RG(n:Nat)(p1:List aT)(p2:List UInt8)(r:Int)(J:wX n p1 p2=some r):cE prog 158 [.isl false (p1.map aX),.str p2] (.int .i64 r):=by
 unfold wX at J;refine dF 20 lP ?_;refine go ?_;refine gL (fun m tm σ=>∃z6,L7 p1 p2 m z6=some r/\tm=fr 20 [(0,.iM aX p1),(1,.str p2),(5,.i6 z6)]/\σ=⟨[],0⟩) (fun tm σ=>Gf=some r/\tm=fr 20 []/\σ=⟨[],0⟩) n ⟨0,J,rfl,rfl⟩ ?_ ?_;rintro _ _ ⟨J,rfl,rfl⟩;unfold Gf at J;exact gx J;rintro(_|m1) _ _ ⟨z6,J,rfl,rfl⟩;cases J;unfold L7 at J;refine gF J ?_ ?_<;>intro h7 J;refine go ?_;apply aL;obtain⟨x8,h9,J⟩:=aB J;refine go ?_;refine aP h9 ?_;refine go ?_;refine bG (u:=.bool (gE x8.Name p2)) rfl (v7 rfl rfl rfl rfl) ?_;refine gF J ?_ ?_<;>intro fA J;exact gx J;refine go ?_;exact lC ⟨_,J,rfl,rfl⟩;refine go ?_;exact xC ⟨J,rfl,rfl⟩
def Ha: Option (Int):=
 some 0
def LH(p1:List aT)(n:Nat):Nat->Int->Option (Int)
 |0,_=>none|m1+1,z4=>cond (decide (z4<(p1.length:Int))) (a8 (aC p1 z4) fun x6=>a8 (W7 n x6.Name) fun r8=>cond (!r8) (some 1) (a8 (aC p1 z4) fun mG=>a8 (wX n p1 mG.Name) fun i8=>cond (decide (i8<z4)) (some 4) ((LH p1 n m1) (IntKind.i64.wrap (z4+1))))) (Ha)
def Ff(n:Nat)(p1:List aT):Option (Int):=
 LH p1 n n 0
theorem fv(n:Nat)(p1:List aT)(r:Int)(J:Ff n p1=some r):cE prog 122 [.isl false (p1.map aX)] (.int .i64 r):=by
 unfold Ff at J;refine gY 26 HS ?_;refine go ?_;refine gL (fun m tm σ=>∃z4,LH p1 n m z4=some r/\tm=fr 26 [(0,.iM aX p1),(3,.i6 z4)]/\σ=⟨[],0⟩) (fun tm σ=>Ha=some r/\tm=fr 26 []/\σ=⟨[],0⟩) n ⟨0,J,rfl,rfl⟩ ?_ ?_;rintro _ _ ⟨J,rfl,rfl⟩;unfold Ha at J;exact gx J;rintro(_|m1) _ _ ⟨z4,J,rfl,rfl⟩;cases J;unfold LH at J;refine gF J ?_ ?_<;>intro h5 J;refine go ?_;apply aL;obtain⟨x6,h7,J⟩:=aB J;obtain⟨r8,h9,J⟩:=aB J;refine go ?_;refine aP h7 ?_;refine go ?_;refine aI rfl (pC (fa n x6.Name r8 h9) _) HH ?_;refine gF J ?_ ?_<;>intro fA J;exact gx J;obtain⟨mG,eW,J⟩:=aB J;obtain⟨i8,fE,J⟩:=aB J;refine go ?_;refine aP eW ?_;refine go ?_;refine aI rfl (pC (RG n p1 mG.Name i8 fE) _) lP ?_;refine gF J ?_ ?_<;>intro gS J;exact gx J;refine go ?_;exact lC ⟨_,J,rfl,rfl⟩;refine go ?_;exact xC ⟨J,rfl,rfl⟩
def Hi: Option (Bool):=
 some false
def RZ(p1:List (List UInt8))(p2:List UInt8):Nat->Int->Option (Bool)
 |0,_=>none|m1+1,z6=>cond (decide (z6<(p1.length:Int))) (a8 (aC p1 z6) fun x8=>cond (gE x8 p2) (some true) ((RZ p1 p2 m1) (IntKind.i64.wrap (z6+1)))) (Hi)
def vC(n:Nat)(p1:List (List UInt8))(p2:List UInt8):Option (Bool):=
 RZ p1 p2 n 0
theorem DJ(n:Nat)(p1:List (List UInt8))(p2:List UInt8)(r:Bool)(J:vC n p1 p2=some r):cE prog 126 [.isl false (p1.map cS),.str p2] (.bool r):=by
 unfold vC at J;refine dF 18 iH ?_;refine go ?_;refine gL (fun m tm σ=>∃z6,RZ p1 p2 m z6=some r/\tm=fr 18 [(0,.iM cS p1),(1,.str p2),(5,.i6 z6)]/\σ=⟨[],0⟩) (fun tm σ=>Hi=some r/\tm=fr 18 []/\σ=⟨[],0⟩) n ⟨0,J,rfl,rfl⟩ ?_ ?_;rintro _ _ ⟨J,rfl,rfl⟩;unfold Hi at J;exact gx J;rintro(_|m1) _ _ ⟨z6,J,rfl,rfl⟩;cases J;unfold RZ at J;refine gF J ?_ ?_<;>intro h7 J;refine go ?_;apply aL;obtain⟨x8,h9,J⟩:=aB J;refine go ?_;refine aP h9 ?_;refine go ?_;refine bG (u:=.bool (gE x8 p2)) rfl (v7 rfl rfl rfl rfl) ?_;refine gF J ?_ ?_<;>intro fA J;exact gx J;refine go ?_;exact lC ⟨_,J,rfl,rfl⟩;refine go ?_;exact xC ⟨J,rfl,rfl⟩
def Hx(z4:Int)(bT:Int->Option (Int)): Option (Int):=
 bT (IntKind.i64.wrap (z4+1))
def LL(p1:List aT)(n:Nat)(z4:Int)(bT:Int->Option (Int))(x6:aT):Nat->Int->Option (Int)
 |0,_=>none|m2+1,dJ=>
  cond (decide (dJ<(x6.Supers.length:Int))) (a8 (aC x6.Supers dJ) fun nR=>
   a8 (wX n p1 nR) fun K5=>cond (decide (K5<0)) (some 5) (a8 (qJ x6.Supers 0 dJ) fun lZ=>
    a8 (aC x6.Supers dJ) fun qF=>
    a8 (vC n lZ qF) fun jV=>cond jV (some 4) ((LL p1 n z4 bT x6 m2) (IntKind.i64.wrap (dJ+1))))) (Hx z4 bT)
def Hy: Option (Int):=
 some 0
def BY(p1:List aT)(n:Nat):Nat->Int->Option (Int)
 |0,_=>none|m1+1,z4=>cond (decide (z4<(p1.length:Int))) (a8 (aC p1 z4) fun x6=>LL p1 n z4 (BY p1 n m1) x6 n 0) (Hy)
def Fq(n:Nat)(p1:List aT):Option (Int):=
 BY p1 n n 0
theorem iq(n:Nat)(p1:List aT)(r:Int)(J:Fq n p1=some r):cE prog 123 [.isl false (p1.map aX)] (.int .i64 r):=by
 unfold Fq at J;refine gY 38 HR ?_;refine go ?_;refine gL (fun m tm σ=>∃z4,BY p1 n m z4=some r/\tm=fr 38 [(0,.iM aX p1),(3,.i6 z4)]/\σ=⟨[],0⟩) (fun tm σ=>Hy=some r/\tm=fr 38 []/\σ=⟨[],0⟩) n ⟨0,J,rfl,rfl⟩ ?_ ?_;rintro _ _ ⟨J,rfl,rfl⟩;unfold Hy at J;exact gx J;rintro(_|m1) _ _ ⟨z4,J,rfl,rfl⟩;cases J;unfold BY at J;refine gF J ?_ ?_<;>intro h5 J;refine go ?_;apply aL;obtain⟨x6,h7,J⟩:=aB J;refine go ?_;refine aP h7 ?_;refine go ?_;refine gL (fun m tm σ=>∃dJ,LL p1 n z4 (BY p1 n m1) x6 m dJ=some r/\tm=fr 38 [(0,.iM aX p1),(3,.i6 z4),(4,.iM cS x6.Supers),(5,.i6 dJ)]/\σ=⟨[],0⟩) (fun tm σ=>Hx z4 (BY p1 n m1)=some r/\tm=fr 38 [(0,.iM aX p1),(3,.i6 z4)]/\σ=⟨[],0⟩) n ⟨0,J,rfl,rfl⟩ ?_ ?_;rintro _ _ ⟨J,rfl,rfl⟩;unfold Hx at J;refine go ?_;exact lC ⟨_,J,rfl,rfl⟩;rintro(_|m2) _ _ ⟨dJ,J,rfl,rfl⟩;cases J;unfold LL at J;refine gF J ?_ ?_<;>intro cX J;refine go ?_;apply aL;obtain⟨nR,gS,J⟩:=aB J;obtain⟨K5,fD,J⟩:=aB J;refine go ?_;refine aP gS ?_;refine go ?_;refine aI rfl (pC (RG n p1 nR K5 fD) _) lP ?_;refine gF J ?_ ?_<;>intro cO J;exact gx J;obtain⟨lZ,mC,J⟩:=aB J;obtain⟨nP,nO⟩:=Cv cS .i64 mC;obtain⟨qF,kX,J⟩:=aB J;obtain⟨jV,jT,J⟩:=aB J;refine go ?_;refine dE [] ?_;refine gd ?_;refine bB (u:=.iM cS lZ) rfl (BK rfl nW (CL rfl) nW (UD cS fN.h (bQ xX.h) CU nP nO)) ?_;refine gd ?_;refine bY kX ?_;refine gd ?_;refine gZ rfl (pC (DJ n lZ qF jV jT)) iH ?_;refine aZ ⟨by kernel_rfl,trivial,?_⟩;refine gF J ?_ ?_<;>intro H3 J;exact gx J;refine go ?_;exact lC ⟨_,J,rfl,rfl⟩;refine go ?_;exact xC ⟨J,rfl,rfl⟩;refine go ?_;exact xC ⟨J,rfl,rfl⟩
def Gz: Option (Bool):=
 some true
def LG(p1:aT)(p2:List (List UInt8))(n:Nat):Nat->Int->Option (Bool)
 |0,_=>none|m1+1,z8=>cond (decide (z8<(p1.Supers.length:Int))) (a8 (aC p1.Supers z8) fun iR=>a8 (vC n p2 iR) fun eY=>cond (!eY) (some false) ((LG p1 p2 n m1) (IntKind.i64.wrap (z8+1)))) (Gz)
def Fe(n:Nat)(p1:aT)(p2:List (List UInt8)):Option (Bool):=
 LG p1 p2 n n 0
theorem fu(n:Nat)(p1:aT)(p2:List (List UInt8))(r:Bool)(J:Fe n p1 p2=some r):cE prog 159 [.agg (aX p1),.isl false (p2.map cS)] (.bool r):=by
 unfold Fe at J;refine dF 21 HG ?_;refine go ?_;refine gL (fun m tm σ=>∃z8,LG p1 p2 n m z8=some r/\tm=fr 21 [(1,.iM cS p2),(2,.ptr 0 0 0),(5,.i6 z8)]/\σ=⟨[(0,.row (aX p1) 153)],1⟩) (fun tm σ=>Gz=some r/\tm=fr 21 []/\σ=⟨[(0,.row (aX p1) 153)],1⟩) n ⟨0,J,rfl,rfl⟩ ?_ ?_;rintro _ _ ⟨J,rfl,rfl⟩;unfold Gz at J;exact gx J;rintro(_|m1) _ _ ⟨z8,J,rfl,rfl⟩;cases J;unfold LG at J;refine gF J ?_ ?_<;>intro h9 J;refine go ?_;apply aL;obtain⟨iR,iP,J⟩:=aB J;obtain⟨eY,cX,J⟩:=aB J;refine go ?_;refine aP iP ?_;refine go ?_;refine aI rfl (pC (DJ n p2 iR eY cX) _) iH ?_;refine gF J ?_ ?_<;>intro fE J;exact gx J;refine go ?_;exact lC ⟨_,J,rfl,rfl⟩;refine go ?_;exact xC ⟨J,rfl,rfl⟩
def XI(bT:Bool->(List (List UInt8))->Option ((List (List UInt8))))(vK:Bool)(jR:List (List UInt8)):Option ((List (List UInt8))):=
 bT vK jR
def XH(dG:Int)(jL:Bool->(List UInt8)->Int->Option ((List (List UInt8))))(P7:List UInt8):Option ((List (List UInt8))):=
 jL true P7 (IntKind.i64.wrap (dG+1))
def Hz(l7:List (List UInt8))(bT:Bool->(List (List UInt8))->Option ((List (List UInt8))))(vK:Bool)(nE:List UInt8):Option ((List (List UInt8))):=
 cond vK (aH ((l7.length+1)*16<=140737488355328/\l7.length+1<=140737488355328) (
  XI bT vK (l7++[nE]))) (XI bT vK l7)
def BZ(p1:List aT)(n:Nat)(l7:List (List UInt8))(bT:Bool->(List (List UInt8))->Option ((List (List UInt8)))):Nat->Bool->(List UInt8)->Int->Option ((List (List UInt8)))
 |0,_,_,_=>none|m2+1,sT,rP,dG=>cond (decide (dG<(p1.length:Int))) (a8 (a8 (aC p1 dG) fun oC=>a8 (vC n l7 oC.Name) fun K4=>cond K4 (some true) (a8 (aC p1 dG) fun kC=>a8 (Fe n kC l7) fun fH=>some (!fH))) fun OT=>cond OT ((BZ p1 n l7 bT m2) sT rP (IntKind.i64.wrap (dG+1))) (a8 (cond (!sT) (some true) (a8 (aC p1 dG) fun IR=>some (fS IR.Name rP))) fun I9=>cond I9 (a8 (aC p1 dG) fun Kr=>XH dG (BZ p1 n l7 bT m2) Kr.Name) (XH dG (BZ p1 n l7 bT m2) rP))) (Hz l7 bT sT rP)
def Ia  (l9:List (List UInt8)):Option ((List (List UInt8))):=
 some l9
def xA(p1:List aT)(n:Nat):Nat->Bool->(List (List UInt8))->Option ((List (List UInt8)))
 |0,_,_=>none|m1+1,b6,l7=>cond b6 (BZ p1 n l7 (xA p1 n m1) n false [] 0) (Ia l7)
def Fs(n:Nat)(p1:List aT):Option ((List (List UInt8))):=
 xA p1 n n true ([]:List (List UInt8))
theorem ir(n:Nat)(p1:List aT)(r:(List (List UInt8)))(J:Fs n p1=some r):cE prog 124 [.isl false (p1.map aX)] (.isl false (r.map cS)):=by
 unfold Fs at J;refine gY 52 HQ ?_;refine gr ?_;refine gr ?_;refine gr ?_;refine gV 3 9 1 1 ?_;refine gL (fun m tm σ=>∃b6 l7 t8,xA p1 n m b6 l7=some r/\tm=fr 52 [(0,.iM aX p1),(3,.vl 0 t8 0 l7.length),(4,.bool b6)]/\σ=⟨iE l7 t8,1⟩) (fun tm σ=>∃l9 dL,Ia l9=some r/\tm=fr 52 [(3,.vl 0 dL 0 l9.length)]/\σ=⟨iE l9 dL,1⟩) n ⟨true,([]:List (List UInt8)),0,J,rfl,rfl⟩ ?_ ?_;rintro _ _ ⟨l9,dL,J,rfl,rfl⟩;unfold Ia at J;refine go ?_;obtain rfl:=sI J;exact rT (us:=[.vl 0 dL 0 l9.length]) (u:=.iM cS l9) (dO rfl (dX)) (fR 0 1);rintro(_|m1) _ _ ⟨b6,l7,t8,J,rfl,rfl⟩;cases J;unfold xA at J;refine gF J ?_ ?_<;>intro iP J;refine go ?_;apply aL;refine go ?_;refine gL (fun m tm σ=>∃sT rP dG,BZ p1 n l7 (xA p1 n m1) m sT rP dG=some r/\tm=fr 52 [(0,.iM aX p1),(3,.vl 0 t8 0 l7.length),(4,.bool sT),(5,.str rP),(6,.i6 dG)]/\σ=⟨iE l7 t8,1⟩) (fun tm σ=>∃vK nE,Hz l7 (xA p1 n m1) vK nE=some r/\tm=fr 52 [(0,.iM aX p1),(3,.vl 0 t8 0 l7.length),(4,.bool vK),(5,.str nE)]/\σ=⟨iE l7 t8,1⟩) n ⟨false,[],0,J,rfl,rfl⟩ ?_ ?_;rintro _ _ ⟨vK,nE,J,rfl,rfl⟩;unfold Hz at J;refine gr ?_;refine dU (fun tm σ=>∃jR t25,XI (xA p1 n m1) vK jR=some r/\tm=fr 52 [(0,.iM aX p1),(3,.vl 0 t25 0 jR.length),(4,.bool vK)]/\σ=⟨iE jR t25,1⟩) ?_ ?_;rintro _ _ ⟨jR,t25,J,rfl,rfl⟩;unfold XI at J;refine go ?_;exact lC ⟨vK,jR,t25,J,rfl,rfl⟩;refine cF J ?_ ?_<;>intro rF J;obtain⟨jT,J⟩:=bU J;refine go ?_;refine bV ?_;refine bV ?_;refine go ?_;exact xC ⟨(l7++[nE]),(t8+1),J,rfl,rfl⟩;refine go ?_;exact xC ⟨l7,t8,J,rfl,rfl⟩;rintro(_|m2) _ _ ⟨sT,rP,dG,J,rfl,rfl⟩;cases J;unfold BZ at J;refine gF J ?_ ?_<;>intro H3 J;refine go ?_;apply aL;obtain⟨OT,iO,J⟩:=aB J;refine gn ?_;refine dU (fun tm σ=>tm=fr 52 [(0,.iM aX p1),(3,.vl 0 t8 0 l7.length),(4,.bool sT),(5,.str rP),(6,.i6 dG),(29,.bool OT)]/\σ=⟨iE l7 t8,1⟩) ?_ ?_;rintro _ _ ⟨rfl,rfl⟩;refine gF J ?_ ?_<;>intro sM J;refine go ?_;exact lC ⟨sT,rP,(IntKind.i64.wrap (dG+1)),J,rfl,rfl⟩;obtain⟨I9,iL,J⟩:=aB J;refine gn ?_;refine dU (fun tm σ=>tm=fr 52 [(0,.iM aX p1),(3,.vl 0 t8 0 l7.length),(5,.str rP),(6,.i6 dG),(40,.bool I9)]/\σ=⟨iE l7 t8,1⟩) ?_ ?_;rintro _ _ ⟨rfl,rfl⟩;refine gn ?_;refine dU (fun tm σ=>∃P7,XH dG (BZ p1 n l7 (xA p1 n m1) m2) P7=some r/\tm=fr 52 [(0,.iM aX p1),(3,.vl 0 t8 0 l7.length),(5,.str P7),(6,.i6 dG)]/\σ=⟨iE l7 t8,1⟩) ?_ ?_;rintro _ _ ⟨P7,J,rfl,rfl⟩;unfold XH at J;refine go ?_;exact lC ⟨true,P7,(IntKind.i64.wrap (dG+1)),J,rfl,rfl⟩;refine cF J ?_ ?_<;>intro mT J;obtain⟨Kr,rk,J⟩:=aB J;refine go ?_;refine aP rk ?_;refine go ?_;exact xC ⟨Kr.Name,J,rfl,rfl⟩;refine go ?_;exact xC ⟨rP,J,rfl,rfl⟩;refine go ?_;rcases gB iL with⟨y9,iL⟩|⟨y9,iL⟩;exact gy iL;obtain⟨IR,y8,iL⟩:=aB iL;obtain rfl:=sI iL;refine go ?_;refine aP y8 ?_;refine go ?_;refine RS.w (u:=.bool (fS IR.Name rP)) rfl (v7 rfl rfl rfl rfl) ?_;refine go ?_;exact xC ⟨rfl,rfl⟩;obtain⟨oC,mV,iO⟩:=aB iO;obtain⟨K4,uA,iO⟩:=aB iO;refine go ?_;refine aP mV ?_;refine go ?_;refine aI rfl (vw (DJ n l7 oC.Name K4 uA) (mF 0 1)) iH ?_;refine go ?_;rcases gB iO with⟨kA,iO⟩|⟨kA,iO⟩;exact gy iO;obtain⟨kC,j8,iO⟩:=aB iO;obtain⟨fH,sN,iO⟩:=aB iO;obtain rfl:=sI iO;refine go ?_;refine aP j8 ?_;refine go ?_;refine aI rfl (vw (fu n kC l7 fH sN) (mF 0 1)) HG ?_;refine go ?_;exact xC ⟨rfl,rfl⟩;refine go ?_;exact xC ⟨sT,rP,J,rfl,rfl⟩;refine go ?_;exact xC ⟨l7,t8,J,rfl,rfl⟩
def X8(dQ:Int)(bT:Int->Int->Option (Int))(z25:Int):Option (Int):=
 bT z25 (IntKind.i64.wrap (dQ+1))
def He(p1:List aT)(n:Nat)(fM:Int):Option (Int):=
 cond (fM != 1) (some 1) (a8 (Fs n p1) fun fO=>cond (decide ((fO.length:Int)<(p1.length:Int))) (some 6) (some 0))
def DN(p1:List aT)(n:Nat):Nat->Int->Int->Option (Int)
 |0,_,_=>none|m1+1,nA,dQ=>cond (decide (dQ<(p1.length:Int))) (a8 (aC p1 dQ) fun lA=>cond ((lA.Supers.length:Int)==0) (X8 dQ (DN p1 n m1) (IntKind.i64.wrap (nA+1))) (X8 dQ (DN p1 n m1) nA)) (He p1 n nA)
def WF(n:Nat)(p1:List aT):Option (Int):=
 a8 (WD n p1) fun r2=>cond (r2 != 0) (some r2) (a8 (Ff n p1) fun r5=>cond (r5 != 0) (some r5) (a8 (Fq n p1) fun r8=>cond (r8 != 0) (some r8) (DN p1 n n 0 0)))
theorem fx(n:Nat)(p1:List aT)(r:Int)(J:WF n p1=some r):cE prog 90 [.isl false (p1.map aX)] (.int .i64 r):=by
 unfold WF at J;refine gY 46 ZO ?_;obtain⟨r2,h3,J⟩:=aB J;refine go ?_;refine aI rfl (pC (ft n p1 r2 h3) _) HT ?_;refine gF J ?_ ?_<;>intro h4 J;exact gx J;obtain⟨r5,h6,J⟩:=aB J;refine go ?_;refine aI rfl (pC (fv n p1 r5 h6) _) HS ?_;refine gF J ?_ ?_<;>intro h7 J;exact gx J;obtain⟨r8,h9,J⟩:=aB J;refine go ?_;refine aI rfl (pC (iq n p1 r8 h9) _) HR ?_;refine gF J ?_ ?_<;>intro fA J;exact gx J;refine go ?_;refine gL (fun m tm σ=>∃nA dQ,DN p1 n m nA dQ=some r/\tm=fr 46 [(0,.iM aX p1),(6,.i6 nA),(7,.i6 dQ)]/\σ=⟨[],0⟩) (fun tm σ=>∃fM,He p1 n fM=some r/\tm=fr 46 [(0,.iM aX p1),(6,.i6 fM)]/\σ=⟨[],0⟩) n ⟨0,0,J,rfl,rfl⟩ ?_ ?_;rintro _ _ ⟨fM,J,rfl,rfl⟩;unfold He at J;refine gF J ?_ ?_<;>intro fD J;exact gx J;obtain⟨fO,g8,J⟩:=aB J;refine go ?_;refine aI rfl (pC (ir n p1 fO g8) _) HQ ?_;refine gF J ?_ ?_<;>intro mC J;exact gx J;exact gx J;rintro(_|m1) _ _ ⟨nA,dQ,J,rfl,rfl⟩;cases J;unfold DN at J;refine gF J ?_ ?_<;>intro nP J;refine go ?_;apply aL;obtain⟨lA,rF,J⟩:=aB J;refine go ?_;refine aP rF ?_;refine gn ?_;refine dU (fun tm σ=>∃z25,X8 dQ (DN p1 n m1) z25=some r/\tm=fr 46 [(0,.iM aX p1),(6,.i6 z25),(7,.i6 dQ)]/\σ=⟨[],0⟩) ?_ ?_;rintro _ _ ⟨z25,J,rfl,rfl⟩;unfold X8 at J;refine go ?_;exact lC ⟨z25,(IntKind.i64.wrap (dQ+1)),J,rfl,rfl⟩;refine cF J ?_ ?_<;>intro kX J;refine go ?_;exact xC ⟨(IntKind.i64.wrap (nA+1)),J,rfl,rfl⟩;refine go ?_;exact xC ⟨nA,J,rfl,rfl⟩;refine go ?_;exact xC ⟨nA,J,rfl,rfl⟩
def WR(p1:List (List UInt8))(p2:List UInt8)(z7:Int):Option ((List (List UInt8))):=
 a8 (cond (decide (z7<(p1.length:Int))) (a8 (aC p1 z7) fun x9=>some (gE x9 p2)) (some false)) fun Uh=>cond Uh (some p1) (a8 (qJ p1 0 z7) fun eK=>
  aH (eK.length*16<=140737488355328/\eK.length<=140737488355328) (
  aH ((eK.length+1)*16<=140737488355328/\eK.length+1<=140737488355328) (
  a8 (qJ p1 z7 (p1.length:Int)) fun gW=>
  aH (((eK++[p2]).length+gW.length)*16<=140737488355328/\(eK++[p2]).length+gW.length<=140737488355328) (some ((eK++[p2])++gW)))))
def RJ(p1:List (List UInt8))(p2:List UInt8):Nat->Int->Option ((List (List UInt8)))
 |0,_=>none|m1+1,z6=>a8 (cond (decide (z6<(p1.length:Int))) (a8 (aC p1 z6) fun Kx=>some (fS Kx p2)) (some false)) fun A6=>cond A6 ((RJ p1 p2 m1) (IntKind.i64.wrap (z6+1))) (WR p1 p2 z6)
def D9(n:Nat)(p1:List (List UInt8))(p2:List UInt8):Option ((List (List UInt8))):=
 RJ p1 p2 n 0
theorem R6(n:Nat)(p1:List (List UInt8))(p2:List UInt8)(r:(List (List UInt8)))(J:D9 n p1 p2=some r):cE prog 116 [.isl false (p1.map cS),.str p2] (.isl false (r.map cS)):=by
 unfold D9 at J;refine dF 48 lQ ?_;refine go ?_;refine gL (fun m tm σ=>∃z6,RJ p1 p2 m z6=some r/\tm=fr 48 [(0,.iM cS p1),(1,.str p2),(5,.nils),(6,.i6 z6)]/\σ=⟨[],0⟩) (fun tm σ=>∃z7,WR p1 p2 z7=some r/\tm=fr 48 [(0,.iM cS p1),(1,.str p2),(5,.nils),(6,.i6 z7)]/\σ=⟨[],0⟩) n ⟨0,J,rfl,rfl⟩ ?_ ?_;rintro _ _ ⟨z7,J,rfl,rfl⟩;unfold WR at J;obtain⟨Uh,eW,J⟩:=aB J;refine gn ?_;refine dU (fun tm σ=>tm=fr 48 [(0,.iM cS p1),(1,.str p2),(5,.nils),(6,.i6 z7),(32,.bool Uh)]/\σ=⟨[],0⟩) ?_ ?_;rintro _ _ ⟨rfl,rfl⟩;refine gF J ?_ ?_<;>intro cX J;exact gx J;obtain⟨eK,gS,J⟩:=aB J;obtain⟨rG,fD⟩:=Cv cS .i64 gS;obtain⟨cO,J⟩:=bU J;refine go ?_;refine bG (u:=.iM cS eK) rfl (BK rfl nW (CL rfl) nW (UD cS fN.h (bQ xX.h) CU rG fD)) (bG (u:=.vl 0 0 0 eK.length) (σ':=⟨[(0,.bv cS eK 9 1 0)],1⟩) rfl (m8 rfl rfl rfl rfl (Ob cS eK fN.h fN.h xX.h rfl (UU cS CU) cO)) ?_);obtain⟨g8,J⟩:=bU J;refine go ?_;refine bV ?_;refine bV ?_;obtain⟨gW,nP,J⟩:=aB J;obtain⟨nO,rF⟩:=OC cS .i64 nP;obtain⟨kX,J⟩:=bU J;refine go ?_;refine bG (u:=.iM cS gW) rfl (BK rfl (CL rfl) nW nW (UD cS fN.h (bQ xX.h) CU nO rF)) ?_;refine bV ?_;refine go ?_;obtain rfl:=sI J;exact rT (us:=[.vl 0 2 0 (((eK++[p2])++gW).length)]) (u:=.iM cS ((eK++[p2])++gW)) (dO rfl (dX)) (fR 0 1);refine go ?_;rcases gB eW with⟨h8,eW⟩|⟨h8,eW⟩;obtain⟨x9,fA,eW⟩:=aB eW;obtain rfl:=sI eW;refine go ?_;refine aP fA ?_;refine go ?_;refine RS.w (u:=.bool (gE x9 p2)) rfl (v7 rfl rfl rfl rfl) ?_;refine go ?_;exact xC ⟨rfl,rfl⟩;exact gy eW;rintro(_|m1) _ _ ⟨z6,J,rfl,rfl⟩;cases J;unfold RJ at J;obtain⟨A6,mV,J⟩:=aB J;refine gn ?_;refine dU (fun tm σ=>tm=fr 48 [(0,.iM cS p1),(1,.str p2),(5,.nils),(6,.i6 z6),(18,.bool A6)]/\σ=⟨[],0⟩) ?_ ?_;rintro _ _ ⟨rfl,rfl⟩;refine gF J ?_ ?_<;>intro qA J;refine go ?_;apply aL;refine go ?_;exact lC ⟨_,J,rfl,rfl⟩;refine go ?_;exact xC ⟨z6,J,rfl,rfl⟩;refine go ?_;rcases gB mV with⟨yE,mV⟩|⟨yE,mV⟩;obtain⟨Kx,H3,mV⟩:=aB mV;obtain rfl:=sI mV;refine go ?_;refine aP H3 ?_;refine go ?_;refine RS.w (u:=.bool (fS Kx p2)) rfl (v7 rfl rfl rfl rfl) ?_;refine go ?_;exact xC ⟨rfl,rfl⟩;exact gy mV
def Hc  (l7:List (List UInt8)):Option ((List (List UInt8))):=
 some l7
def LI(p1:List aT)(n:Nat):Nat->(List (List UInt8))->Int->Option ((List (List UInt8)))
 |0,_,_=>none|m1+1,l5,z6=>cond (decide (z6<(p1.length:Int))) (a8 (aC p1 z6) fun x9=>a8 (D9 n l5 x9.Name) fun m6=>(LI p1 n m1) m6 (IntKind.i64.wrap (z6+1))) (Hc l5)
def WE(n:Nat)(p1:List aT):Option ((List (List UInt8))):=
 LI p1 n n [] 0
theorem jl(n:Nat)(p1:List aT)(r:(List (List UInt8)))(J:WE n p1=some r):cE prog 91 [.isl false (p1.map aX)] (.isl false (r.map cS)):=by
 unfold WE at J;refine gY 19 NV ?_;refine gr ?_;refine gr ?_;refine gr ?_;refine cR (tm':=fr 19 [(0,.iM aX p1),(3,.iM cS []),(4,.i6 0)]) (Gh.trans (Gh.sub (l':=[(0,.iM aX p1),(3,.nils),(4,.i6 0)]) ⟨rfl,rfl,rfl,trivial⟩) (Gh.wkS (l':=[(0,.iM aX p1),(3,.iM cS []),(4,.i6 0)]) (.cons (.refl _) (.cons (.nil false) (.cons (.refl _) .nil))))) NZ ?_;refine gL (fun m tm σ=>∃l5 z6,LI p1 n m l5 z6=some r/\tm=fr 19 [(0,.iM aX p1),(3,.iM cS l5),(4,.i6 z6)]/\σ=⟨[],0⟩) (fun tm σ=>∃l7,Hc l7=some r/\tm=fr 19 [(3,.iM cS l7)]/\σ=⟨[],0⟩) n ⟨[],0,J,rfl,rfl⟩ ?_ ?_;rintro _ _ ⟨l7,J,rfl,rfl⟩;unfold Hc at J;exact gx J;rintro(_|m1) _ _ ⟨l5,z6,J,rfl,rfl⟩;cases J;unfold LI at J;refine gF J ?_ ?_<;>intro h8 J;refine go ?_;apply aL;obtain⟨x9,fA,J⟩:=aB J;obtain⟨m6,eW,J⟩:=aB J;refine go ?_;refine aP fA ?_;refine go ?_;refine aI rfl (pC (R6 n l5 x9.Name m6 eW) _) lQ ?_;refine go ?_;exact lC ⟨m6,(IntKind.i64.wrap (z6+1)),J,rfl,rfl⟩;refine go ?_;exact xC ⟨l5,J,rfl,rfl⟩
def Hg  (o8:List (List UInt8)):Option ((List (List UInt8))):=
 some o8
def G7(n:Nat)(bW:List (List UInt8)):Nat->(List (List UInt8))->Int->Option ((List (List UInt8)))
 |0,_,_=>none|m2+1,lZ,dG=>cond (decide (dG<(bW.length:Int))) (a8 (aC bW dG) fun qF=>a8 (D9 n lZ qF) fun jV=>(G7 n bW m2) jV (IntKind.i64.wrap (dG+1))) (Hg lZ)
def X9(qC:Int)(Ln:Int->(List (List UInt8))->Option ((List (List UInt8))))(lK:List (List UInt8)):Option ((List (List UInt8))):=
 Ln (IntKind.i64.wrap (qC+1)) lK
def Hf(cV:Int)(bT:Int->(List (List UInt8))->Option ((List (List UInt8))))(sH:List (List UInt8)):Option ((List (List UInt8))):=
 bT (IntKind.i64.wrap (cV+1)) sH
def DO(p1:List aT)(n:Nat)(cV:Int)(bT:Int->(List (List UInt8))->Option ((List (List UInt8)))):Nat->Int->(List (List UInt8))->Option ((List (List UInt8)))
 |0,_,_=>none|m3+1,qC,nL=>
  cond (decide (qC<(p1.length:Int))) (a8 (a8 (aC p1 qC) fun CB=>
   a8 (aC nL cV) fun IR=>
   a8 (vC n CB.Supers IR) fun Lp=>cond Lp (a8 (aC p1 qC) fun EU=>
    a8 (vC n nL EU.Name) fun F7=>some (!F7)) (some false)) fun Ua=>cond Ua (a8 (aC p1 qC) fun Kp=>
    aH ((nL.length+1)*16<=140737488355328/\nL.length+1<=140737488355328) (
    X9 qC (DO p1 n cV bT m3) (nL++[Kp.Name]))) (X9 qC (DO p1 n cV bT m3) nL)) (Hf cV bT nL)
def Hh(n:Nat)(bW:List (List UInt8)):Option ((List (List UInt8))):=
 G7 n bW n [] 0
def BV(p1:List aT)(n:Nat):Nat->Int->(List (List UInt8))->Option ((List (List UInt8)))
 |0,_,_=>none|m1+1,cV,bZ=>cond (decide (cV<(bZ.length:Int))) (DO p1 n cV (BV p1 n m1) n 0 bZ) (Hh n bZ)
def WG(n:Nat)(p1:List aT)(p2:List UInt8):Option ((List (List UInt8))):=
 a8 (wX n p1 p2) fun r3=>cond (decide (r3<0)) (some []) (BV p1 n n 0 ([p2]))
theorem fy(n:Nat)(p1:List aT)(p2:List UInt8)(r:(List (List UInt8)))(J:WG n p1 p2=some r):cE prog 125 [.isl false (p1.map aX),.str p2] (.isl false (r.map cS)):=by
 unfold WG at J;refine dF 69 HP ?_;obtain⟨r3,h4,J⟩:=aB J;refine go ?_;refine aI rfl (pC (RG n p1 p2 r3 h4) _) lP ?_;refine gF J ?_ ?_<;>intro h5 J;refine go ?_;obtain rfl:=sI J;exact rT (us:=[.nils]) (u:=.isl false []) (dO rfl (dX)) wR;refine go ?_;refine RS.step (u:=.vl 0 0 0 ([p2].length)) (σ':=⟨[(0,.bv cS ([p2]) 9 1 0)],1⟩) rfl (dM.bslv (cs:=(List.map cS [p2]).flatten) tb_ok rfl fN.h xX.h rfl rfl rfl rfl rfl rfl rfl rfl) rfl rfl ?_;refine go ?_;refine gL (fun m tm σ=>∃cV bZ fL,BV p1 n m cV bZ=some r/\tm=fr 69 [(0,.iM aX p1),(5,.vl 0 fL 0 bZ.length),(6,.i6 cV)]/\σ=⟨iE bZ fL,1⟩) (fun tm σ=>∃bW eM,Hh n bW=some r/\tm=fr 69 [(5,.vl 0 eM 0 bW.length)]/\σ=⟨iE bW eM,1⟩) n ⟨0,[p2],0,J,rfl,rfl⟩ ?_ ?_;rintro _ _ ⟨bW,eM,J,rfl,rfl⟩;unfold Hh at J;refine gr ?_;refine gr ?_;refine cR (tm':=fr 69 [(5,.vl 0 eM 0 bW.length),(8,.iM cS []),(9,.i6 0)]) (Gh.trans (Gh.sub (l':=[(5,.vl 0 eM 0 bW.length),(8,.nils),(9,.i6 0)]) ⟨rfl,rfl,rfl,trivial⟩) (Gh.wkS (l':=[(5,.vl 0 eM 0 bW.length),(8,.iM cS []),(9,.i6 0)]) (.cons (.refl _) (.cons (.nil false) (.cons (.refl _) .nil))))) NZ ?_;refine gL (fun m tm σ=>∃lZ dG,G7 n bW m lZ dG=some r/\tm=fr 69 [(5,.vl 0 eM 0 bW.length),(8,.iM cS lZ),(9,.i6 dG)]/\σ=⟨iE bW eM,1⟩) (fun tm σ=>∃o8,Hg o8=some r/\tm=fr 69 [(8,.iM cS o8)]/\σ=⟨iE bW eM,1⟩) n ⟨[],0,J,rfl,rfl⟩ ?_ ?_;rintro _ _ ⟨o8,J,rfl,rfl⟩;unfold Hg at J;exact gx J;rintro(_|m2) _ _ ⟨lZ,dG,J,rfl,rfl⟩;cases J;unfold G7 at J;refine gF J ?_ ?_<;>intro nO J;refine go ?_;apply aL;obtain⟨qF,kX,J⟩:=aB J;obtain⟨jV,jT,J⟩:=aB J;refine go ?_;refine bG rfl (eJ rfl rfl (lG cS fN.h (bQ xX.h) (by decide) CU (vo rfl) kX)) ?_;refine bG rfl (qQ cS (fun x=>.str x) AI.h rfl (fun _=>rfl) rfl rfl kX) (aI rfl (pC (R6 n lZ qF jV jT) _) lQ ?_);refine go ?_;exact lC ⟨jV,(IntKind.i64.wrap (dG+1)),J,rfl,rfl⟩;refine go ?_;exact xC ⟨lZ,J,rfl,rfl⟩;rintro(_|m1) _ _ ⟨cV,bZ,fL,J,rfl,rfl⟩;cases J;unfold BV at J;refine gF J ?_ ?_<;>intro H3 J;refine go ?_;apply aL;refine go ?_;refine gL (fun m tm σ=>∃qC nL CE,DO p1 n cV (BV p1 n m1) m qC nL=some r/\tm=fr 69 [(0,.iM aX p1),(5,.vl 0 CE 0 nL.length),(6,.i6 cV),(7,.i6 qC)]/\σ=⟨iE nL CE,1⟩) (fun tm σ=>∃sH Bv,Hf cV (BV p1 n m1) sH=some r/\tm=fr 69 [(0,.iM aX p1),(5,.vl 0 Bv 0 sH.length),(6,.i6 cV)]/\σ=⟨iE sH Bv,1⟩) n ⟨0,bZ,fL,J,rfl,rfl⟩ ?_ ?_;rintro _ _ ⟨sH,Bv,J,rfl,rfl⟩;unfold Hf at J;refine go ?_;exact lC ⟨_,sH,Bv,J,rfl,rfl⟩;rintro(_|m3) _ _ ⟨qC,nL,CE,J,rfl,rfl⟩;cases J;unfold DO at J;refine gF J ?_ ?_<;>intro iO J;refine go ?_;apply aL;obtain⟨Ua,o9,J⟩:=aB J;refine gn ?_;refine dU (fun tm σ=>tm=fr 69 [(0,.iM aX p1),(5,.vl 0 CE 0 nL.length),(6,.i6 cV),(7,.i6 qC),(47,.bool Ua)]/\σ=⟨iE nL CE,1⟩) ?_ ?_;rintro _ _ ⟨rfl,rfl⟩;refine gn ?_;refine dU (fun tm σ=>∃lK Bs,X9 qC (DO p1 n cV (BV p1 n m1) m3) lK=some r/\tm=fr 69 [(0,.iM aX p1),(5,.vl 0 Bs 0 lK.length),(6,.i6 cV),(7,.i6 qC)]/\σ=⟨iE lK Bs,1⟩) ?_ ?_;rintro _ _ ⟨lK,Bs,J,rfl,rfl⟩;unfold X9 at J;refine go ?_;exact lC ⟨_,lK,Bs,J,rfl,rfl⟩;refine cF J ?_ ?_<;>intro vj J;obtain⟨Kp,Je,J⟩:=aB J;obtain⟨vf,J⟩:=bU J;refine go ?_;refine aP Je ?_;refine go ?_;refine bV ?_;refine bV ?_;refine go ?_;exact xC ⟨(nL++[Kp.Name]),(CE+1),J,rfl,rfl⟩;refine go ?_;exact xC ⟨nL,CE,J,rfl,rfl⟩;obtain⟨CB,y9,o9⟩:=aB o9;obtain⟨IR,y8,o9⟩:=aB o9;obtain⟨Lp,iL,o9⟩:=aB o9;refine dE [] ?_;refine gd ?_;refine bY y9 ?_;refine gd ?_;refine bB rfl (eJ rfl rfl (lG cS fN.h (bQ xX.h) (by decide) CU (vo rfl) y8)) ?_;refine bB rfl (qQ cS (fun x=>.str x) AI.h rfl (fun _=>rfl) rfl rfl y8) (gZ rfl (pC (DJ n CB.Supers IR Lp iL)) iH ?_);refine gd ?_;rcases gB o9 with⟨mT,o9⟩|⟨mT,o9⟩;obtain⟨EU,Jg,o9⟩:=aB o9;obtain⟨F7,Tm,o9⟩:=aB o9;obtain rfl:=sI o9;refine gd ?_;refine bY Jg ?_;refine gd ?_;refine RD.call (u:=.bool F7) (args:=[.vl 0 CE 0 nL.length,.str EU.Name]) (Jy rfl rfl rfl mT) (wQ rfl rfl iH hb126 rfl rfl) (vw (DJ n nL EU.Name F7 Tm) (mF 0 1)) rfl rfl ?_;refine gd ?_;refine aZ ⟨by kernel_rfl,trivial,?_⟩;refine go ?_;exact xC ⟨rfl,rfl⟩;obtain rfl:=sI o9;refine gd ?_;refine aZ ⟨by kernel_rfl,trivial,?_⟩;refine go ?_;exact xC ⟨rfl,rfl⟩;refine go ?_;exact xC ⟨nL,CE,J,rfl,rfl⟩;refine go ?_;exact xC ⟨bZ,fL,J,rfl,rfl⟩
def XJ(p1:List Int)(z5:Int):Option ((List Int)):=
 a8 (qJ p1 0 z5) fun l6=>
 aH (l6.length*8<=140737488355328/\l6.length<=140737488355328) (some l6)
def GB(p1:List Int):Nat->Int->Option ((List Int))
 |0,_=>none|m1+1,z4=>a8 (cond (decide (z4>0)) (a8 (aC p1 (IntKind.i64.wrap (z4-1))) fun lU=>some (lU==0)) (some false)) fun pG=>cond pG ((GB p1 m1) (IntKind.i64.wrap (z4-1))) (XJ p1 z4)
def BP(n:Nat)(p1:List Int):Option ((List Int)):=
 GB p1 n (p1.length:Int)
theorem Hm(n:Nat)(p1:List Int)(r:(List Int))(J:BP n p1=some r):cE prog 119 [.isl false (p1.map (cI .u64))] (.isl false (r.map (cI .u64))):=by
 unfold BP at J;refine gY 23 pA ?_;refine go ?_;refine gL (fun m tm σ=>∃z4,GB p1 m z4=some r/\tm=fr 23 [(0,.iM (cI .u64) p1),(3,.i6 z4)]/\σ=⟨[],0⟩) (fun tm σ=>∃z5,XJ p1 z5=some r/\tm=fr 23 [(0,.iM (cI .u64) p1),(3,.i6 z5)]/\σ=⟨[],0⟩) n ⟨(p1.length:Int),J,rfl,rfl⟩ ?_ ?_;rintro _ _ ⟨z5,J,rfl,rfl⟩;unfold XJ at J;obtain⟨l6,h7,J⟩:=aB J;obtain⟨h8,h9⟩:=Cv (cI .u64) .i64 h7;obtain⟨fA,J⟩:=bU J;refine go ?_;refine bG (u:=.sl 0 0 0 0) (σ':=⟨[(0,.row [] 213)],1⟩) rfl (wN dR.h gR.h rfl rfl rfl rfl rfl rfl rfl) ?_;refine go ?_;refine bG (u:=.iM (cI .u64) l6) rfl (BK rfl nW (CL rfl) nW (UD (cI .u64) dR.h (bQ gR.h) (nY .u64) h8 h9)) (bG (u:=.vl 1 0 0 l6.length) (σ':=⟨[(1,.bv (cI .u64) l6 213 1 0),(0,.row [] 213)],2⟩) rfl (m8 rfl rfl rfl rfl (Oc (cI .u64) l6 dR.h dR.h gR.h rfl rfl rfl (UU (cI .u64) (nY .u64)) fA)) ?_);refine go ?_;obtain rfl:=sI J;exact rT (us:=[.vl 1 0 0 l6.length]) (u:=.iM (cI .u64) l6) (dO rfl (dX)) (fR 1 1);rintro(_|m1) _ _ ⟨z4,J,rfl,rfl⟩;cases J;unfold GB at J;obtain⟨pG,gS,J⟩:=aB J;refine gn ?_;refine dU (fun tm σ=>tm=fr 23 [(0,.iM (cI .u64) p1),(3,.i6 z4),(15,.bool pG)]/\σ=⟨[],0⟩) ?_ ?_;rintro _ _ ⟨rfl,rfl⟩;refine gF J ?_ ?_<;>intro rG J;refine go ?_;apply aL;refine go ?_;exact lC ⟨_,J,rfl,rfl⟩;refine go ?_;exact xC ⟨z4,J,rfl,rfl⟩;refine go ?_;rcases gB gS with⟨iP,gS⟩|⟨iP,gS⟩;obtain⟨lU,cX,gS⟩:=aB gS;obtain rfl:=sI gS;refine go ?_;refine aP cX ?_;refine go ?_;exact xC ⟨rfl,rfl⟩;exact gy gS
def Fg(n:Nat)(l8:List Int):Option ((List Int)×Int):=
 aH ((64:Int).toNat=l8.length) (
 a8 (BP n l8) fun oH=>some (oH,0))
def L2(p1:List Int)(n:Nat):Nat->Int->(List Int)->Option ((List Int)×Int)
 |0,_,_=>none|m1+1,z6,l7=>
  cond (decide (z6<(p1.length:Int))) (a8 (a8 (aC p1 z6) fun EV=>cond (decide (EV<0)) (some true) (a8 (aC p1 z6) fun fU=>some (decide (fU>4095)))) fun sT=>cond sT (some ([],2)) (a8 (aC p1 z6) fun oD=>
    a8 (aC p1 z6) fun SO=>
    a8 (jM l7 0 ((64:Int).toNat) (IntKind.i64.wrap (SO.tdiv 64))) fun uM=>
    a8 (aC p1 z6) fun oB=>
    aH (¬ (IntKind.u64.wrap (oB.tmod 64))<0) (
    a8 (jM l7 0 ((64:Int).toNat) (IntKind.i64.wrap (oD.tdiv 64))) fun kC=>(L2 p1 n m1) (IntKind.i64.wrap (z6+1)) (l7.set (IntKind.i64.wrap (oD.tdiv 64)).toNat (SB .u64 uM (IntKind.u64.wrap (1*(2^(min (IntKind.u64.wrap (oB.tmod 64)).toNat IntKind.u64.bits))))))))) (Fg n l7)
def VB(n:Nat)(p1:List Int):Option ((List Int)×Int):=
 aH (0<=(64:Int)/\8*(64:Int).toNat<=281474976710656/\(64:Int)<=281474976710656) (
 L2 p1 n n 0 (List.replicate (64:Int).toNat 0))
theorem O'(n:Nat)(p1:List Int)(r:(List Int)×Int)(J:VB n p1=some r):cE prog 127 [.isl false (p1.map (cI .i64))] (.tup [.isl false (r.1.map (cI .u64)),.int .i64 r.2]):=by
 unfold VB at J;refine gY 50 HO ?_;obtain⟨h2,J⟩:=bU J;refine go ?_;refine bG (u:=.sl 0 0 ((64:Int).toNat) ((64:Int).toNat)) (σ':=⟨[(0,.row (List.map (cI .u64) (List.replicate (64:Int).toNat 0)).flatten 213)],1⟩) rfl (Mb (cI .u64) 0 rfl rfl dR.h gR.h rfl rfl rfl rfl h2) ?_;refine go ?_;refine gL (fun m tm σ=>∃z6 l7,L2 p1 n m z6 l7=some r/\tm=fr 50 [(0,.iM (cI .i64) p1),(4,.sl 0 0 ((64:Int).toNat) ((64:Int).toNat)),(5,.i6 z6)]/\σ=⟨[(0,.row (l7.map (cI .u64)).flatten 213)],1⟩) (fun tm σ=>∃l8,Fg n l8=some r/\tm=fr 50 [(4,.sl 0 0 ((64:Int).toNat) ((64:Int).toNat))]/\σ=⟨[(0,.row (l8.map (cI .u64)).flatten 213)],1⟩) n ⟨0,(List.replicate (64:Int).toNat 0),J,rfl,rfl⟩ ?_ ?_;rintro _ _ ⟨l8,J,rfl,rfl⟩;unfold Fg at J;obtain⟨h9,J⟩:=bU J;refine gn ?_;refine cR (tm':=fr 50 [(4,.iM (cI .u64) l8)]) (σ':=⟨[],1⟩) (Gh.trans (Gh.sub (l':=[(4,.sl 0 0 ((64:Int).toNat) ((64:Int).toNat))]) ⟨rfl,trivial⟩) (Gh.fzS (l':=[(4,.iM (cI .u64) l8)]) (h':=[]) 0 (.row (l8.map (cI .u64)).flatten 213) 1 rfl (by simp) (by simp only[fzS,i9,D3,wU,CX,FQ,Q3,QD,V0,V2,V3,QE,CW,UK,Q4,Q2,PJ,CQ,Cc (nY .u64) h9]) (by simp only[fzH,fzB,ug,Nat.beq,zC,zD,i9,D3,wU,CX,FQ,Q3,QD,V0,V2,V3,QE,CW,UK,Q4,Q2,PJ,CQ,Cc (nY .u64) h9]))) NZ ?_;obtain⟨oH,iP,J⟩:=aB J;refine go ?_;refine aI rfl (pC (Hm n l8 oH iP) _) pA ?_;refine go ?_;obtain rfl:=sI J;exact CH rfl rfl rfl rfl rfl;rintro(_|m1) _ _ ⟨z6,l7,J,rfl,rfl⟩;cases J;unfold L2 at J;refine gF J ?_ ?_<;>intro eW J;refine go ?_;apply aL;obtain⟨sT,g8,J⟩:=aB J;refine gn ?_;refine dU (fun tm σ=>tm=fr 50 [(0,.iM (cI .i64) p1),(4,.sl 0 0 ((64:Int).toNat) ((64:Int).toNat)),(5,.i6 z6),(24,.bool sT)]/\σ=⟨[(0,.row (l7.map (cI .u64)).flatten 213)],1⟩) ?_ ?_;rintro _ _ ⟨rfl,rfl⟩;refine gF J ?_ ?_<;>intro mC J;refine go ?_;obtain rfl:=sI J;exact rT (us:=[.nils,.i6 2]) (u:=.tup [.isl false [],.i6 2]) (dO rfl (dO rfl (dX))) wR;obtain⟨oD,nO,J⟩:=aB J;obtain⟨SO,yE,J⟩:=aB J;obtain⟨uM,sP,J⟩:=aB J;obtain⟨oB,qA,J⟩:=aB J;obtain⟨kA,J⟩:=bU J;obtain⟨kC,j8,J⟩:=aB J;refine go ?_;refine dE [] ?_;refine gd ?_;refine bY nO ?_;refine gd ?_;refine bB rfl (pO rfl rfl (Co _ (by decide)) rfl) ?_;refine gd ?_;refine bY yE ?_;refine gd ?_;refine bB rfl (pO rfl rfl (Co _ (by decide)) rfl) ?_;refine bB rfl (eJ rfl rfl (wI dR.h (bQ gR.h) rfl sP)) (bB (u:=.int .u64 uM) rfl (FK (cI .u64) (fun x=>.int .u64 x) TE.h rfl (fun _=>rfl) rfl rfl sP) ?_);refine gd ?_;refine bY qA ?_;refine gd ?_;refine bB rfl (pO rfl rfl (Vp _ (by decide)) rfl) ?_;refine bB (u:=.int .u64 (IntKind.u64.wrap (oB.tmod 64))) rfl (Xr rfl rfl (by simp only[KF,AJ.h,F1.h]<;>rfl) rfl) ?_;refine bB rfl (pO rfl rfl (MO _ kA) rfl) (bB rfl (pO rfl rfl (YE _ _ _) rfl) (bB rfl (eJ rfl rfl (wI dR.h (bQ gR.h) rfl j8)) (SN (u:=.junk) (σ':=⟨[(0,.row (List.map (cI .u64) (l7.set (IntKind.i64.wrap (oD.tdiv 64)).toNat (SB .u64 uM (IntKind.u64.wrap (1*(2^(min (IntKind.u64.wrap (oB.tmod 64)).toNat IntKind.u64.bits))))))).flatten 213)],1⟩) rfl (Jz (cI .u64) (bQ gR.h) (nY .u64) rfl rfl rfl rfl rfl rfl j8 rfl) rfl ?_)));refine aZ ⟨by kernel_rfl,trivial,?_⟩;refine go ?_;exact lC ⟨_,(l7.set (IntKind.i64.wrap (oD.tdiv 64)).toNat (SB .u64 uM (IntKind.u64.wrap (1*(2^(min (IntKind.u64.wrap (oB.tmod 64)).toNat IntKind.u64.bits)))))),J,rfl,rfl⟩;obtain⟨EV,fE,g8⟩:=aB g8;refine go ?_;refine aP fE ?_;refine go ?_;rcases gB g8 with⟨gS,g8⟩|⟨gS,g8⟩;exact gy g8;obtain⟨fU,fD,g8⟩:=aB g8;obtain rfl:=sI g8;refine go ?_;refine aP fD ?_;refine go ?_;exact xC ⟨rfl,rfl⟩;refine go ?_;exact xC ⟨l7,J,rfl,rfl⟩
def X3(iI:Int)(bT:Int->(List Int)->Option ((List Int)))(jR:List Int):Option ((List Int)):=
 bT (IntKind.i64.wrap (iI+1)) jR
def Gc(n:Nat)(eK:List Int):Option ((List Int)):=
 a8 (VB n eK) fun K5=>some K5.1
def DI(p2:List (List UInt8))(n:Nat)(r4:(List (List UInt8))):Nat->Int->(List Int)->Option ((List Int))
 |0,_,_=>none|m1+1,iI,iF=>
  cond (decide (iI<(p2.length:Int))) (a8 (aC p2 iI) fun CC=>
   a8 (vC n r4 CC) fun w9=>cond w9 (aH ((iF.length+1)*8<=140737488355328/\iF.length+1<=140737488355328) (
    X3 iI (DI p2 n r4 m1) (iF++[iI]))) (X3 iI (DI p2 n r4 m1) iF)) (Gc n iF)
def W4(n:Nat)(p1:List aT)(p2:List (List UInt8))(p3:List UInt8):Option ((List Int)):=
 a8 (WG n p1 p3) fun r4=>
 DI p2 n r4 n 0 ([]:List Int)
theorem dw(n:Nat)(p1:List aT)(p2:List (List UInt8))(p3:List UInt8)(r:(List Int))(J:W4 n p1 p2 p3=some r):cE prog 92 [.isl false (p1.map aX),.isl false (p2.map cS),.str p3] (.isl false (r.map (cI .u64))):=by
 unfold W4 at J;refine EI 37 ZN ?_;obtain⟨r4,h5,J⟩:=aB J;refine go ?_;refine aI rfl (pC (fy n p1 p3 r4 h5) _) HP ?_;refine gr ?_;refine gr ?_;refine gV 8 3 1 1 ?_;refine gL (fun m tm σ=>∃iI iF jE,DI p2 n r4 m iI iF=some r/\tm=fr 37 [(1,.iM cS p2),(7,.iM cS r4),(8,.vl 0 jE 0 iF.length),(9,.i6 iI)]/\σ=⟨tN iF jE,1⟩) (fun tm σ=>∃eK AN,Gc n eK=some r/\tm=fr 37 [(8,.vl 0 AN 0 eK.length)]/\σ=⟨tN eK AN,1⟩) n ⟨0,([]:List Int),0,J,rfl,rfl⟩ ?_ ?_;rintro _ _ ⟨eK,AN,J,rfl,rfl⟩;unfold Gc at J;refine gn ?_;refine cR (tm':=fr 37 [(8,.iM (cI .i64) eK)]) (σ':=⟨[],1⟩) (Gh.trans (Gh.sub (l':=[(8,.vl 0 AN 0 eK.length)]) ⟨rfl,trivial⟩) (IH 0 1)) NZ ?_;obtain⟨K5,fD,J⟩:=aB J;refine go ?_;refine aI rfl (pC (O' n eK K5 fD) _) HO ?_;exact gx J;rintro(_|m1) _ _ ⟨iI,iF,jE,J,rfl,rfl⟩;cases J;unfold DI at J;refine gF J ?_ ?_<;>intro cO J;refine go ?_;apply aL;obtain⟨CC,mC,J⟩:=aB J;obtain⟨w9,nO,J⟩:=aB J;refine go ?_;refine aP mC ?_;refine go ?_;refine aI rfl (pC (DJ n r4 CC w9 nO) _) iH ?_;refine gn ?_;refine dU (fun tm σ=>∃jR t25,X3 iI (DI p2 n r4 m1) jR=some r/\tm=fr 37 [(1,.iM cS p2),(7,.iM cS r4),(8,.vl 0 t25 0 jR.length),(9,.i6 iI)]/\σ=⟨tN jR t25,1⟩) ?_ ?_;rintro _ _ ⟨jR,t25,J,rfl,rfl⟩;unfold X3 at J;refine go ?_;exact lC ⟨_,jR,t25,J,rfl,rfl⟩;refine cF J ?_ ?_<;>intro rF J;obtain⟨jT,J⟩:=bU J;refine go ?_;refine bV ?_;refine bV ?_;refine go ?_;exact xC ⟨(iF++[iI]),(jE+1),J,rfl,rfl⟩;refine go ?_;exact xC ⟨iF,jE,J,rfl,rfl⟩;refine go ?_;exact xC ⟨iF,jE,J,rfl,rfl⟩
def KY(n:Nat)(p1:List Int)(p2:Int):Option (Int):=
 cond (decide (p2<(p1.length:Int))) (a8 (aC p1 p2) fun x4=>some x4) (some 0)
theorem ja(n:Nat)(p1:List Int)(p2:Int)(r:Int)(J:KY n p1 p2=some r):cE prog 156 [.isl false (p1.map (cI .u64)),.int .i64 p2] (.int .u64 r):=by
 unfold KY at J;refine dF 13 yN ?_;refine gF J ?_ ?_<;>intro h3 J;obtain⟨x4,h5,J⟩:=aB J;refine go ?_;refine aP h5 ?_;exact gx J;exact gx J
def RL(n:Nat)(bZ:List Int):Option ((List Int)):=
 a8 (BP n bZ) fun i8=>some i8
def WS(p1:List Int)(p2:List Int)(n:Nat):Nat->Int->(List Int)->Option ((List Int))
 |0,_,_=>none|m1+1,z8,l9=>
  cond (decide (z8<(p1.length:Int))) (a8 (aC p1 z8) fun fU=>
   a8 (KY n p2 z8) fun fO=>
   aH ((l9.length+1)*8<=140737488355328/\l9.length+1<=140737488355328) ((WS p1 p2 n m1) (IntKind.i64.wrap (z8+1)) (l9++[(AY .u64 fU fO)]))) (RL n l9)
def KW(n:Nat)(p1:List Int)(p2:List Int):Option ((List Int)):=
 WS p1 p2 n n 0 ([]:List Int)
theorem xl(n:Nat)(p1:List Int)(p2:List Int)(r:(List Int))(J:KW n p1 p2=some r):cE prog 118 [.isl false (p1.map (cI .u64)),.isl false (p2.map (cI .u64))] (.isl false (r.map (cI .u64))):=by
 unfold KW at J;refine dF 26 yU ?_;refine gr ?_;refine gr ?_;refine gr ?_;refine gV 5 213 1 1 ?_;refine gL (fun m tm σ=>∃z8 l9 dL,WS p1 p2 n m z8 l9=some r/\tm=fr 26 [(0,.iM (cI .u64) p1),(1,.iM (cI .u64) p2),(5,.vl 0 dL 0 l9.length),(6,.i6 z8)]/\σ=⟨[(0,.bv (cI .u64) l9 213 1 dL)],1⟩) (fun tm σ=>∃bZ fL,RL n bZ=some r/\tm=fr 26 [(5,.vl 0 fL 0 bZ.length)]/\σ=⟨[(0,.bv (cI .u64) bZ 213 1 fL)],1⟩) n ⟨0,([]:List Int),0,J,rfl,rfl⟩ ?_ ?_;rintro _ _ ⟨bZ,fL,J,rfl,rfl⟩;unfold RL at J;refine gn ?_;refine cR (tm':=fr 26 [(5,.iM (cI .u64) bZ)]) (σ':=⟨[],1⟩) (Gh.trans (Gh.sub (l':=[(5,.vl 0 fL 0 bZ.length)]) ⟨rfl,trivial⟩) (IH 0 1)) NZ ?_;obtain⟨i8,fE,J⟩:=aB J;refine go ?_;refine aI rfl (pC (Hm n bZ i8 fE) _) pA ?_;exact gx J;rintro(_|m1) _ _ ⟨z8,l9,dL,J,rfl,rfl⟩;cases J;unfold WS at J;refine gF J ?_ ?_<;>intro gS J;refine go ?_;apply aL;obtain⟨fU,fD,J⟩:=aB J;obtain⟨fO,g8,J⟩:=aB J;obtain⟨mC,J⟩:=bU J;refine go ?_;refine dE [(0,9)] ?_;refine gd ?_;refine bY fD ?_;refine gd ?_;refine gZ rfl (pC (ja n p2 z8 fO g8)) yN (bB rfl (pO rfl rfl (Mg _ _ _) rfl) ?_);refine dT ?_;refine dT ?_;refine gd ?_;refine aZ ⟨by kernel_rfl,⟨lJ rfl,trivial⟩,?_⟩;refine go ?_;exact lC ⟨_,(l9++[(AY .u64 fU fO)]),(dL+1),J,rfl,rfl⟩;refine go ?_;exact xC ⟨l9,dL,J,rfl,rfl⟩
def Ra: Option (Bool):=
 some true
def Gg(p1:List Int)(p2:List Int):Nat->Int->Option (Bool)
 |0,_=>none|m1+1,z7=>cond (decide (z7<(p1.length:Int))) (a8 (aC p1 z7) fun x9=>a8 (aC p2 z7) fun mG=>cond (x9 != mG) (some false) ((Gg p1 p2 m1) (IntKind.i64.wrap (z7+1)))) (Ra)
def G0(n:Nat)(p1:List Int)(p2:List Int):Option (Bool):=
 cond ((p1.length:Int) != (p2.length:Int)) (some false) (Gg p1 p2 n 0)
theorem jb(n:Nat)(p1:List Int)(p2:List Int)(r:Bool)(J:G0 n p1 p2=some r):cE prog 120 [.isl false (p1.map (cI .u64)),.isl false (p2.map (cI .u64))] (.bool r):=by
 unfold G0 at J;refine dF 26 yT ?_;refine gF J ?_ ?_<;>intro h3 J;exact gx J;refine go ?_;refine gL (fun m tm σ=>∃z7,Gg p1 p2 m z7=some r/\tm=fr 26 [(0,.iM (cI .u64) p1),(1,.iM (cI .u64) p2),(5,.i6 z7)]/\σ=⟨[],0⟩) (fun tm σ=>Ra=some r/\tm=fr 26 []/\σ=⟨[],0⟩) n ⟨0,J,rfl,rfl⟩ ?_ ?_;rintro _ _ ⟨J,rfl,rfl⟩;unfold Ra at J;exact gx J;rintro(_|m1) _ _ ⟨z7,J,rfl,rfl⟩;cases J;unfold Gg at J;refine gF J ?_ ?_<;>intro h8 J;refine go ?_;apply aL;obtain⟨x9,fA,J⟩:=aB J;obtain⟨mG,eW,J⟩:=aB J;refine go ?_;refine dE [] ?_;refine gd ?_;refine bY fA ?_;refine gd ?_;refine bY eW ?_;refine gd ?_;refine aZ ⟨by kernel_rfl,trivial,?_⟩;refine gF J ?_ ?_<;>intro cX J;exact gx J;refine go ?_;exact lC ⟨_,J,rfl,rfl⟩;refine go ?_;exact xC ⟨J,rfl,rfl⟩
def Fc: Option (Bool):=
 some false
def L1(p1:List (List Int))(p2:List Int)(n:Nat):Nat->Int->Option (Bool)
 |0,_=>none|m1+1,z6=>cond (decide (z6<(p1.length:Int))) (a8 (aC p1 z6) fun x8=>a8 (G0 n x8 p2) fun oH=>cond oH (some true) ((L1 p1 p2 n m1) (IntKind.i64.wrap (z6+1)))) (Fc)
def Ds(n:Nat)(p1:List (List Int))(p2:List Int):Option (Bool):=
 L1 p1 p2 n n 0
theorem L'(n:Nat)(p1:List (List Int))(p2:List Int)(r:Bool)(J:Ds n p1 p2=some r):cE prog 128 [.isl false (List.map (cL (cI .u64)) p1),.isl false (p2.map (cI .u64))] (.bool r):=by
 unfold Ds at J;refine dF 18 HN ?_;refine go ?_;refine gL (fun m tm σ=>∃z6,L1 p1 p2 n m z6=some r/\tm=fr 18 [(0,.iM (cL (cI .u64)) p1),(1,.iM (cI .u64) p2),(5,.i6 z6)]/\σ=⟨[],0⟩) (fun tm σ=>Fc=some r/\tm=fr 18 []/\σ=⟨[],0⟩) n ⟨0,J,rfl,rfl⟩ ?_ ?_;rintro _ _ ⟨J,rfl,rfl⟩;unfold Fc at J;exact gx J;rintro(_|m1) _ _ ⟨z6,J,rfl,rfl⟩;cases J;unfold L1 at J;refine gF J ?_ ?_<;>intro h7 J;refine go ?_;apply aL;obtain⟨x8,h9,J⟩:=aB J;obtain⟨oH,iP,J⟩:=aB J;refine go ?_;refine aP h9 ?_;refine go ?_;refine aI rfl (pC (jb n x8 p2 oH iP) _) yT ?_;refine gF J ?_ ?_<;>intro eW J;exact gx J;refine go ?_;exact lC ⟨_,J,rfl,rfl⟩;refine go ?_;exact xC ⟨J,rfl,rfl⟩
def XF(rL:Int)(jL:Int->(List (List Int))->Option ((List (List Int))))(MI:List (List Int)):Option ((List (List Int))):=
 jL (IntKind.i64.wrap (rL+1)) MI
def XD(z6:Int)(bT:Int->(List (List Int))->Option ((List (List Int))))(MK:List (List Int)):Option ((List (List Int))):=
 bT (IntKind.i64.wrap (z6+1)) MK
def G9(n:Nat)(z6:Int)(bT:Int->(List (List Int))->Option ((List (List Int)))):Nat->Int->(List (List Int))->Option ((List (List Int)))
 |0,_,_=>none|m2+1,rL,gW=>
  a8 (cond (decide (rL<z6)) (some (decide ((gW.length:Int)<=256))) (some false)) fun Ue=>cond Ue (a8 (aC gW z6) fun oC=>
   a8 (aC gW rL) fun IT=>
   a8 (KW n oC IT) fun uP=>
   a8 (cond (decide ((uP.length:Int)>0)) (a8 (Ds n gW uP) fun fH=>some (!fH)) (some false)) fun OT=>cond OT (aH ((gW.length+1)*24<=140737488355328/\gW.length+1<=140737488355328) (
    XF rL (G9 n z6 bT m2) (gW++[uP]))) (XF rL (G9 n z6 bT m2) gW)) (XD z6 bT gW)
def XE  (l9:List (List Int)):Option ((List (List Int))):=
 some l9
def BX(n:Nat):Nat->Int->(List (List Int))->Option ((List (List Int)))
 |0,_,_=>none|m1+1,z6,l7=>a8 (cond (decide (z6<(l7.length:Int))) (some (decide ((l7.length:Int)<=256))) (some false)) fun A7=>cond A7 (G9 n z6 (BX n m1) n 0 l7) (XE l7)
def WO(n:Nat)(p1:List (List Int)):Option ((List (List Int))):=
 aH (p1.length*24<=140737488355328/\p1.length<=140737488355328) (
 BX n n 0 p1)
theorem im(n:Nat)(p1:List (List Int))(r:(List (List Int)))(J:WO n p1=some r):cE prog 93 [.isl false (List.map (cL (cI .u64)) p1)] (.isl false (List.map (cL (cI .u64)) r)):=by
 unfold WO at J;refine gY 54 ZM ?_;obtain⟨h2,J⟩:=bU J;refine go ?_;refine bG (u:=.sl 0 0 0 0) (σ':=⟨[(0,.row [] 141)],1⟩) rfl (wN lB.h k9.h rfl rfl rfl rfl rfl rfl rfl) ?_;refine go ?_;refine bG (u:=.vl 1 0 0 p1.length) (σ':=⟨[(1,.bv (cL (cI .u64)) p1 141 1 0),(0,.row [] 141)],2⟩) rfl (m8 rfl rfl rfl rfl (Oc (cL (cI .u64)) p1 lB.h lB.h k9.h rfl rfl rfl (UU (cL (cI .u64)) (PX (cI .u64))) h2)) ?_;refine go ?_;refine gL (fun m tm σ=>∃z6 l7 t8,BX n m z6 l7=some r/\tm=fr 54 [(3,.vl 1 t8 0 l7.length),(4,.i6 z6)]/\σ=⟨FV l7 t8,2⟩) (fun tm σ=>∃l9 dL,XE l9=some r/\tm=fr 54 [(3,.vl 1 dL 0 l9.length)]/\σ=⟨FV l9 dL,2⟩) n ⟨0,p1,0,J,rfl,rfl⟩ ?_ ?_;rintro _ _ ⟨l9,dL,J,rfl,rfl⟩;unfold XE at J;refine go ?_;obtain rfl:=sI J;exact rT (us:=[.vl 1 dL 0 l9.length]) (u:=.iM (cL (cI .u64)) l9) (dO rfl (dX)) (fR 1 1);rintro(_|m1) _ _ ⟨z6,l7,t8,J,rfl,rfl⟩;cases J;unfold BX at J;obtain⟨A7,cX,J⟩:=aB J;refine gn ?_;refine dU (fun tm σ=>tm=fr 54 [(3,.vl 1 t8 0 l7.length),(4,.i6 z6),(18,.bool A7)]/\σ=⟨FV l7 t8,2⟩) ?_ ?_;rintro _ _ ⟨rfl,rfl⟩;refine gF J ?_ ?_<;>intro fE J;refine go ?_;apply aL;refine go ?_;refine gL (fun m tm σ=>∃rL gW AM,G9 n z6 (BX n m1) m rL gW=some r/\tm=fr 54 [(3,.vl 1 AM 0 gW.length),(4,.i6 z6),(5,.i6 rL)]/\σ=⟨FV gW AM,2⟩) (fun tm σ=>∃MK Bx,XD z6 (BX n m1) MK=some r/\tm=fr 54 [(3,.vl 1 Bx 0 MK.length),(4,.i6 z6)]/\σ=⟨FV MK Bx,2⟩) n ⟨0,l7,t8,J,rfl,rfl⟩ ?_ ?_;rintro _ _ ⟨MK,Bx,J,rfl,rfl⟩;unfold XD at J;refine go ?_;exact lC ⟨_,MK,Bx,J,rfl,rfl⟩;rintro(_|m2) _ _ ⟨rL,gW,AM,J,rfl,rfl⟩;cases J;unfold G9 at J;obtain⟨Ue,jT,J⟩:=aB J;refine gn ?_;refine dU (fun tm σ=>tm=fr 54 [(3,.vl 1 AM 0 gW.length),(4,.i6 z6),(5,.i6 rL),(28,.bool Ue)]/\σ=⟨FV gW AM,2⟩) ?_ ?_;rintro _ _ ⟨rfl,rfl⟩;refine gF J ?_ ?_<;>intro H3 J;refine go ?_;apply aL;obtain⟨oC,mV,J⟩:=aB J;obtain⟨IT,uA,J⟩:=aB J;obtain⟨uP,sO,J⟩:=aB J;refine go ?_;refine dE [] ?_;refine gd ?_;refine bB rfl (eJ rfl rfl (lG (cL (cI .u64)) lB.h (bQ k9.h) (by decide) (PX (cI .u64)) (vo rfl) mV)) ?_;refine bB rfl (qQ (cL (cI .u64)) (fun x=>.iM (cI .u64) x) dR.h rfl (fun _=>rfl) rfl rfl mV) ?_;refine gd ?_;refine bB rfl (eJ rfl rfl (lG (cL (cI .u64)) lB.h (bQ k9.h) (by decide) (PX (cI .u64)) (vo rfl) uA)) ?_;refine bB rfl (qQ (cL (cI .u64)) (fun x=>.iM (cI .u64) x) dR.h rfl (fun _=>rfl) rfl rfl uA) (gZ rfl (pC (xl n oC IT uP sO)) yU ?_);refine gd ?_;refine aZ ⟨by kernel_rfl,trivial,?_⟩;obtain⟨OT,iO,J⟩:=aB J;refine gn ?_;refine dU (fun tm σ=>tm=fr 54 [(3,.vl 1 AM 0 gW.length),(4,.i6 z6),(5,.i6 rL),(6,.iM (cI .u64) uP),(48,.bool OT)]/\σ=⟨FV gW AM,2⟩) ?_ ?_;rintro _ _ ⟨rfl,rfl⟩;refine gn ?_;refine dU (fun tm σ=>∃MI Bu,XF rL (G9 n z6 (BX n m1) m2) MI=some r/\tm=fr 54 [(3,.vl 1 Bu 0 MI.length),(4,.i6 z6),(5,.i6 rL)]/\σ=⟨FV MI Bu,2⟩) ?_ ?_;rintro _ _ ⟨MI,Bu,J,rfl,rfl⟩;unfold XF at J;refine go ?_;exact lC ⟨_,MI,Bu,J,rfl,rfl⟩;refine cF J ?_ ?_<;>intro sM J;obtain⟨y8,J⟩:=bU J;refine go ?_;refine bV ?_;refine bV ?_;refine go ?_;exact xC ⟨(gW++[uP]),(AM+1),J,rfl,rfl⟩;refine go ?_;exact xC ⟨gW,AM,J,rfl,rfl⟩;refine go ?_;rcases gB iO with⟨j8,iO⟩|⟨j8,iO⟩;obtain⟨fH,sN,iO⟩:=aB iO;obtain rfl:=sI iO;refine go ?_;refine aI rfl (vw (L' n gW uP fH sN) (mF 1 1)) HN ?_;refine go ?_;exact xC ⟨rfl,rfl⟩;exact gy iO;refine go ?_;exact xC ⟨gW,AM,J,rfl,rfl⟩;refine go ?_;rcases gB jT with⟨kX,jT⟩|⟨kX,jT⟩;exact gy jT;exact gy jT;refine go ?_;exact xC ⟨l7,t8,J,rfl,rfl⟩;refine go ?_;rcases gB cX with⟨iP,cX⟩|⟨iP,cX⟩;exact gy cX;exact gy cX
def S0(n:Nat)(bZ:List Int):Option ((List Int)):=
 a8 (BP n bZ) fun i8=>some i8
def XB(p1:List Int)(p2:List Int)(n:Nat):Nat->Int->(List Int)->Option ((List Int))
 |0,_,_=>none|m1+1,z8,l9=>
  cond (decide (z8<(p1.length:Int))) (a8 (aC p1 z8) fun fU=>
   a8 (KY n p2 z8) fun fO=>
   aH ((l9.length+1)*8<=140737488355328/\l9.length+1<=140737488355328) ((XB p1 p2 n m1) (IntKind.i64.wrap (z8+1)) (l9++[(KS .u64 fU fO)]))) (S0 n l9)
def R7(n:Nat)(p1:List Int)(p2:List Int):Option ((List Int)):=
 XB p1 p2 n n 0 ([]:List Int)
theorem ib(n:Nat)(p1:List Int)(p2:List Int)(r:(List Int))(J:R7 n p1 p2=some r):cE prog 163 [.isl false (p1.map (cI .u64)),.isl false (p2.map (cI .u64))] (.isl false (r.map (cI .u64))):=by
 unfold R7 at J;refine dF 26 HC ?_;refine gr ?_;refine gr ?_;refine gr ?_;refine gV 5 213 1 1 ?_;refine gL (fun m tm σ=>∃z8 l9 dL,XB p1 p2 n m z8 l9=some r/\tm=fr 26 [(0,.iM (cI .u64) p1),(1,.iM (cI .u64) p2),(5,.vl 0 dL 0 l9.length),(6,.i6 z8)]/\σ=⟨[(0,.bv (cI .u64) l9 213 1 dL)],1⟩) (fun tm σ=>∃bZ fL,S0 n bZ=some r/\tm=fr 26 [(5,.vl 0 fL 0 bZ.length)]/\σ=⟨[(0,.bv (cI .u64) bZ 213 1 fL)],1⟩) n ⟨0,([]:List Int),0,J,rfl,rfl⟩ ?_ ?_;rintro _ _ ⟨bZ,fL,J,rfl,rfl⟩;unfold S0 at J;refine gn ?_;refine cR (tm':=fr 26 [(5,.iM (cI .u64) bZ)]) (σ':=⟨[],1⟩) (Gh.trans (Gh.sub (l':=[(5,.vl 0 fL 0 bZ.length)]) ⟨rfl,trivial⟩) (IH 0 1)) NZ ?_;obtain⟨i8,fE,J⟩:=aB J;refine go ?_;refine aI rfl (pC (Hm n bZ i8 fE) _) pA ?_;exact gx J;rintro(_|m1) _ _ ⟨z8,l9,dL,J,rfl,rfl⟩;cases J;unfold XB at J;refine gF J ?_ ?_<;>intro gS J;refine go ?_;apply aL;obtain⟨fU,fD,J⟩:=aB J;obtain⟨fO,g8,J⟩:=aB J;obtain⟨mC,J⟩:=bU J;refine go ?_;refine dE [(0,9)] ?_;refine gd ?_;refine bY fD ?_;refine gd ?_;refine gZ rfl (pC (ja n p2 z8 fO g8)) yN (bB rfl (pO rfl rfl (zm _ _ _) rfl) ?_);refine dT ?_;refine dT ?_;refine gd ?_;refine aZ ⟨by kernel_rfl,⟨lJ rfl,trivial⟩,?_⟩;refine go ?_;exact lC ⟨_,(l9++[(KS .u64 fU fO)]),(dL+1),J,rfl,rfl⟩;refine go ?_;exact xC ⟨l9,dL,J,rfl,rfl⟩
def L4(n:Nat)(p1:List Int)(p2:List Int):Option (Bool):=
 a8 (R7 n p1 p2) fun r3=>some ((r3.length:Int)==0)
theorem Rd(n:Nat)(p1:List Int)(p2:List Int)(r:Bool)(J:L4 n p1 p2=some r):cE prog 133 [.isl false (p1.map (cI .u64)),.isl false (p2.map (cI .u64))] (.bool r):=by
 unfold L4 at J;refine dF 10 sR ?_;obtain⟨r3,h4,J⟩:=aB J;refine go ?_;refine aI rfl (pC (ib n p1 p2 r3 h4) _) HC ?_;exact gx J
def WI(n:Nat)(p1:List Int)(p2:List Int):Option (Bool):=
 a8 (a8 (L4 n p1 p2) fun r3=>cond r3 (a8 (L4 n p2 p1) fun r6=>some r6) (some false)) fun b8=>some b8
theorem ic(n:Nat)(p1:List Int)(p2:List Int)(r:Bool)(J:WI n p1 p2=some r):cE prog 129 [.isl false (p1.map (cI .u64)),.isl false (p2.map (cI .u64))] (.bool r):=by
 unfold WI at J;refine dF 13 HM ?_;obtain⟨b8,h9,J⟩:=aB J;refine gr ?_;refine dU (fun tm σ=>tm=fr 13 [(4,.bool b8)]/\σ=⟨[],0⟩) ?_ ?_;rintro _ _ ⟨rfl,rfl⟩;exact gx J;obtain⟨r3,h4,h9⟩:=aB h9;refine go ?_;refine aI rfl (pC (Rd n p1 p2 r3 h4) _) sR ?_;refine go ?_;rcases gB h9 with⟨h5,h9⟩|⟨h5,h9⟩;obtain⟨r6,h7,h9⟩:=aB h9;obtain rfl:=sI h9;refine go ?_;refine aI rfl (pC (Rd n p2 p1 r6 h7) _) sR ?_;refine go ?_;exact xC ⟨rfl,rfl⟩;exact gy h9
def QX(n:Nat)(p1:List Int)(p2:Int):Option (Bool):=
 a8 (cond (decide (p2<0)) (some true) (some (decide ((IntKind.i64.wrap (p2.tdiv 64))>=(p1.length:Int))))) fun b5=>cond b5 (some false) (a8 (aC p1 (IntKind.i64.wrap (p2.tdiv 64))) fun x9=>aH (¬ (IntKind.u64.wrap (p2.tmod 64))<0) (some ((AY .u64 (x9.fdiv (2^(min (IntKind.u64.wrap (p2.tmod 64)).toNat IntKind.u64.bits))) 1)==1)))
theorem xk(n:Nat)(p1:List Int)(p2:Int)(r:Bool)(J:QX n p1 p2=some r):cE prog 130 [.isl false (p1.map (cI .u64)),.int .i64 p2] (.bool r):=by
 unfold QX at J;refine dF 25 yS ?_;obtain⟨b5,h6,J⟩:=aB J;refine gr ?_;refine dU (fun tm σ=>tm=fr 25 [(0,.iM (cI .u64) p1),(1,.i6 p2),(13,.bool b5)]/\σ=⟨[],0⟩) ?_ ?_;rintro _ _ ⟨rfl,rfl⟩;refine gF J ?_ ?_<;>intro h7 J;exact gx J;obtain⟨x9,fA,J⟩:=aB J;obtain⟨eW,J⟩:=bU J;refine go ?_;refine bG rfl (pO rfl rfl (Co _ (by decide)) rfl) ?_;refine aP fA ?_;refine go ?_;refine bG rfl (pO rfl rfl (Vp _ (by decide)) rfl) ?_;refine bG (u:=.int .u64 (IntKind.u64.wrap (p2.tmod 64))) rfl (Xr rfl rfl (by simp only[KF,AJ.h,F1.h]<;>rfl) rfl) ?_;refine bG rfl (pO rfl rfl (MN _ eW) rfl) (bG rfl (pO rfl rfl (Mg _ _ _) rfl) ?_);exact gx J;refine go ?_;rcases gB h6 with⟨h3,h6⟩|⟨h3,h6⟩;exact gy h6;obtain rfl:=sI h6;refine go ?_;refine RS.w rfl (pO rfl rfl (Co _ (by decide)) rfl) ?_;refine go ?_;exact xC ⟨rfl,rfl⟩
def XM(z8:Int)(bT:(List (List UInt8))->Int->Option ((List (List UInt8))))(dI:List (List UInt8)):Option ((List (List UInt8))):=
 bT dI (IntKind.i64.wrap (z8+1))
def Ik  (l9:List (List UInt8)):Option ((List (List UInt8))):=
 some l9
def DU(p1:List aT)(p2:List (List UInt8))(n:Nat):Nat->(List (List UInt8))->Int->Option ((List (List UInt8)))
 |0,_,_=>none|m1+1,l7,z8=>
  cond (decide (z8<(p2.length:Int))) (a8 (aC p2 z8) fun mG=>
   a8 (wX n p1 mG) fun i8=>cond (decide (i8>=0)) (a8 (aC p2 z8) fun AH=>
    a8 (D9 n l7 AH) fun uQ=>
    XM z8 (DU p1 p2 n m1) uQ) (XM z8 (DU p1 p2 n m1) l7)) (Ik l7)
def Hb(n:Nat)(p1:List aT)(p2:List (List UInt8)):Option ((List (List UInt8))):=
 DU p1 p2 n n [] 0
theorem ni(n:Nat)(p1:List aT)(p2:List (List UInt8))(r:(List (List UInt8)))(J:Hb n p1 p2=some r):cE prog 160 [.isl false (p1.map aX),.isl false (p2.map cS)] (.isl false (r.map cS)):=by
 unfold Hb at J;refine dF 27 HF ?_;refine gr ?_;refine gr ?_;refine gr ?_;refine cR (tm':=fr 27 [(0,.iM aX p1),(1,.iM cS p2),(5,.iM cS []),(6,.i6 0)]) (Gh.trans (Gh.sub (l':=[(0,.iM aX p1),(1,.iM cS p2),(5,.nils),(6,.i6 0)]) ⟨rfl,rfl,rfl,rfl,trivial⟩) (Gh.wkS (l':=[(0,.iM aX p1),(1,.iM cS p2),(5,.iM cS []),(6,.i6 0)]) (.cons (.refl _) (.cons (.refl _) (.cons (.nil false) (.cons (.refl _) .nil)))))) NZ ?_;refine gL (fun m tm σ=>∃l7 z8,DU p1 p2 n m l7 z8=some r/\tm=fr 27 [(0,.iM aX p1),(1,.iM cS p2),(5,.iM cS l7),(6,.i6 z8)]/\σ=⟨[],0⟩) (fun tm σ=>∃l9,Ik l9=some r/\tm=fr 27 [(5,.iM cS l9)]/\σ=⟨[],0⟩) n ⟨[],0,J,rfl,rfl⟩ ?_ ?_;rintro _ _ ⟨l9,J,rfl,rfl⟩;unfold Ik at J;exact gx J;rintro(_|m1) _ _ ⟨l7,z8,J,rfl,rfl⟩;cases J;unfold DU at J;refine gF J ?_ ?_<;>intro fA J;refine go ?_;apply aL;obtain⟨mG,eW,J⟩:=aB J;obtain⟨i8,fE,J⟩:=aB J;refine go ?_;refine aP eW ?_;refine go ?_;refine aI rfl (pC (RG n p1 mG i8 fE) _) lP ?_;refine gn ?_;refine dU (fun tm σ=>∃dI,XM z8 (DU p1 p2 n m1) dI=some r/\tm=fr 27 [(0,.iM aX p1),(1,.iM cS p2),(5,.iM cS dI),(6,.i6 z8)]/\σ=⟨[],0⟩) ?_ ?_;rintro _ _ ⟨dI,J,rfl,rfl⟩;unfold XM at J;refine go ?_;exact lC ⟨dI,(IntKind.i64.wrap (z8+1)),J,rfl,rfl⟩;refine cF J ?_ ?_<;>intro gS J;obtain⟨AH,cO,J⟩:=aB J;obtain⟨uQ,mC,J⟩:=aB J;refine go ?_;refine aP cO ?_;refine go ?_;refine aI rfl (pC (R6 n l7 AH uQ mC) _) lQ ?_;refine go ?_;exact xC ⟨uQ,J,rfl,rfl⟩;refine go ?_;exact xC ⟨l7,J,rfl,rfl⟩;refine go ?_;exact xC ⟨l7,J,rfl,rfl⟩
def Hk  (o8:List (List UInt8)):Option ((List (List UInt8))):=
 some o8
def G8(n:Nat)(bW:List (List UInt8)):Nat->(List (List UInt8))->Int->Option ((List (List UInt8)))
 |0,_,_=>none|m2+1,lZ,dG=>cond (decide (dG<(bW.length:Int))) (a8 (aC bW dG) fun qF=>a8 (D9 n lZ qF) fun jV=>(G8 n bW m2) jV (IntKind.i64.wrap (dG+1))) (Hk lZ)
def XA(sW:Int)(Ln:Int->(List (List UInt8))->Option ((List (List UInt8))))(MG:List (List UInt8)):Option ((List (List UInt8))):=
 Ln (IntKind.i64.wrap (sW+1)) MG
def Hj(cV:Int)(bT:Int->(List (List UInt8))->Option ((List (List UInt8))))(qW:List (List UInt8)):Option ((List (List UInt8))):=
 bT (IntKind.i64.wrap (cV+1)) qW
def DP(n:Nat)(cV:Int)(bT:Int->(List (List UInt8))->Option ((List (List UInt8))))(qD:aT):Nat->Int->(List (List UInt8))->Option ((List (List UInt8)))
 |0,_,_=>none|m3+1,sW,qX=>
  cond (decide (sW<(qD.Supers.length:Int))) (a8 (aC qD.Supers sW) fun EU=>
   a8 (vC n qX EU) fun F7=>cond (!F7) (a8 (aC qD.Supers sW) fun Kq=>
    aH ((qX.length+1)*16<=140737488355328/\qX.length+1<=140737488355328) (
    XA sW (DP n cV bT qD m3) (qX++[Kq]))) (XA sW (DP n cV bT qD m3) qX)) (Hj cV bT qX)
def Hl(n:Nat)(bW:List (List UInt8)):Option ((List (List UInt8))):=
 G8 n bW n [] 0
def BW(p1:List aT)(n:Nat):Nat->Int->(List (List UInt8))->Option ((List (List UInt8)))
 |0,_,_=>none|m1+1,cV,bZ=>
  cond (decide (cV<(bZ.length:Int))) (a8 (aC bZ cV) fun oC=>
   a8 (wX n p1 oC) fun K4=>
   a8 (aC p1 K4) fun qD=>
   DP n cV (BW p1 n m1) qD n 0 bZ) (Hl n bZ)
def WH(n:Nat)(p1:List aT)(p2:List UInt8):Option ((List (List UInt8))):=
 a8 (wX n p1 p2) fun r3=>cond (decide (r3<0)) (some []) (BW p1 n n 0 ([p2]))
theorem ia(n:Nat)(p1:List aT)(p2:List UInt8)(r:(List (List UInt8)))(J:WH n p1 p2=some r):cE prog 161 [.isl false (p1.map aX),.str p2] (.isl false (r.map cS)):=by
 unfold WH at J;refine dF 66 HE ?_;obtain⟨r3,h4,J⟩:=aB J;refine go ?_;refine aI rfl (pC (RG n p1 p2 r3 h4) _) lP ?_;refine gF J ?_ ?_<;>intro h5 J;refine go ?_;obtain rfl:=sI J;exact rT (us:=[.nils]) (u:=.isl false []) (dO rfl (dX)) wR;refine go ?_;refine RS.step (u:=.vl 0 0 0 ([p2].length)) (σ':=⟨[(0,.bv cS ([p2]) 9 1 0)],1⟩) rfl (dM.bslv (cs:=(List.map cS [p2]).flatten) tb_ok rfl fN.h xX.h rfl rfl rfl rfl rfl rfl rfl rfl) rfl rfl ?_;refine go ?_;refine gL (fun m tm σ=>∃cV bZ fL,BW p1 n m cV bZ=some r/\tm=fr 66 [(0,.iM aX p1),(5,.vl 0 fL 0 bZ.length),(6,.i6 cV)]/\σ=⟨iE bZ fL,1⟩) (fun tm σ=>∃bW eM,Hl n bW=some r/\tm=fr 66 [(5,.vl 0 eM 0 bW.length)]/\σ=⟨iE bW eM,1⟩) n ⟨0,[p2],0,J,rfl,rfl⟩ ?_ ?_;rintro _ _ ⟨bW,eM,J,rfl,rfl⟩;unfold Hl at J;refine gr ?_;refine gr ?_;refine cR (tm':=fr 66 [(5,.vl 0 eM 0 bW.length),(9,.iM cS []),(10,.i6 0)]) (Gh.trans (Gh.sub (l':=[(5,.vl 0 eM 0 bW.length),(9,.nils),(10,.i6 0)]) ⟨rfl,rfl,rfl,trivial⟩) (Gh.wkS (l':=[(5,.vl 0 eM 0 bW.length),(9,.iM cS []),(10,.i6 0)]) (.cons (.refl _) (.cons (.nil false) (.cons (.refl _) .nil))))) NZ ?_;refine gL (fun m tm σ=>∃lZ dG,G8 n bW m lZ dG=some r/\tm=fr 66 [(5,.vl 0 eM 0 bW.length),(9,.iM cS lZ),(10,.i6 dG)]/\σ=⟨iE bW eM,1⟩) (fun tm σ=>∃o8,Hk o8=some r/\tm=fr 66 [(9,.iM cS o8)]/\σ=⟨iE bW eM,1⟩) n ⟨[],0,J,rfl,rfl⟩ ?_ ?_;rintro _ _ ⟨o8,J,rfl,rfl⟩;unfold Hk at J;exact gx J;rintro(_|m2) _ _ ⟨lZ,dG,J,rfl,rfl⟩;cases J;unfold G8 at J;refine gF J ?_ ?_<;>intro nO J;refine go ?_;apply aL;obtain⟨qF,kX,J⟩:=aB J;obtain⟨jV,jT,J⟩:=aB J;refine go ?_;refine bG rfl (eJ rfl rfl (lG cS fN.h (bQ xX.h) (by decide) CU (vo rfl) kX)) ?_;refine bG rfl (qQ cS (fun x=>.str x) AI.h rfl (fun _=>rfl) rfl rfl kX) (aI rfl (pC (R6 n lZ qF jV jT) _) lQ ?_);refine go ?_;exact lC ⟨jV,(IntKind.i64.wrap (dG+1)),J,rfl,rfl⟩;refine go ?_;exact xC ⟨lZ,J,rfl,rfl⟩;rintro(_|m1) _ _ ⟨cV,bZ,fL,J,rfl,rfl⟩;cases J;unfold BW at J;refine gF J ?_ ?_<;>intro H3 J;refine go ?_;apply aL;obtain⟨oC,mV,J⟩:=aB J;obtain⟨K4,uA,J⟩:=aB J;obtain⟨qD,sO,J⟩:=aB J;refine go ?_;refine bG rfl (eJ rfl rfl (lG cS fN.h (bQ xX.h) (by decide) CU (vo rfl) mV)) ?_;refine bG rfl (qQ cS (fun x=>.str x) AI.h rfl (fun _=>rfl) rfl rfl mV) (aI rfl (pC (RG n p1 oC K4 uA) _) lP ?_);refine aP sO ?_;refine go ?_;refine gL (fun m tm σ=>∃sW qX P6,DP n cV (BW p1 n m1) qD m sW qX=some r/\tm=fr 66 [(0,.iM aX p1),(5,.vl 0 P6 0 qX.length),(6,.i6 cV),(7,.iM cS qD.Supers),(8,.i6 sW)]/\σ=⟨iE qX P6,1⟩) (fun tm σ=>∃qW CD,Hj cV (BW p1 n m1) qW=some r/\tm=fr 66 [(0,.iM aX p1),(5,.vl 0 CD 0 qW.length),(6,.i6 cV)]/\σ=⟨iE qW CD,1⟩) n ⟨0,bZ,fL,J,rfl,rfl⟩ ?_ ?_;rintro _ _ ⟨qW,CD,J,rfl,rfl⟩;unfold Hj at J;refine go ?_;exact lC ⟨_,qW,CD,J,rfl,rfl⟩;rintro(_|m3) _ _ ⟨sW,qX,P6,J,rfl,rfl⟩;cases J;unfold DP at J;refine gF J ?_ ?_<;>intro mT J;refine go ?_;apply aL;obtain⟨EU,Jg,J⟩:=aB J;obtain⟨F7,Tm,J⟩:=aB J;refine go ?_;refine aP Jg ?_;refine go ?_;refine aI rfl (vw (DJ n qX EU F7 Tm) (mF 0 1)) iH ?_;refine gn ?_;refine dU (fun tm σ=>∃MG Bt,XA sW (DP n cV (BW p1 n m1) qD m3) MG=some r/\tm=fr 66 [(0,.iM aX p1),(5,.vl 0 Bt 0 MG.length),(6,.i6 cV),(7,.iM cS qD.Supers),(8,.i6 sW)]/\σ=⟨iE MG Bt,1⟩) ?_ ?_;rintro _ _ ⟨MG,Bt,J,rfl,rfl⟩;unfold XA at J;refine go ?_;exact lC ⟨_,MG,Bt,J,rfl,rfl⟩;refine cF J ?_ ?_<;>intro A_ J;obtain⟨Kq,vi,J⟩:=aB J;obtain⟨Jf,J⟩:=bU J;refine go ?_;refine aP vi ?_;refine go ?_;refine bV ?_;refine bV ?_;refine go ?_;exact xC ⟨(qX++[Kq]),(P6+1),J,rfl,rfl⟩;refine go ?_;exact xC ⟨qX,P6,J,rfl,rfl⟩;refine go ?_;exact xC ⟨qX,P6,J,rfl,rfl⟩;refine go ?_;exact xC ⟨bZ,fL,J,rfl,rfl⟩
def XL(cV:Int)(bT:Int->(List (List UInt8))->Option ((List (List UInt8))))(oQ:List (List UInt8)):Option ((List (List UInt8))):=
 bT (IntKind.i64.wrap (cV+1)) oQ
def Ih(r3:(List (List UInt8)))(cV:Int)(bZ:List (List UInt8))(bT:Int->(List (List UInt8))->Option ((List (List UInt8))))(Aw:Bool):Option ((List (List UInt8))):=
 cond Aw (a8 (aC r3 cV) fun kZ=>
  aH ((bZ.length+1)*16<=140737488355328/\bZ.length+1<=140737488355328) (
  XL cV bT (bZ++[kZ]))) (XL cV bT bZ)
def LN(n:Nat)(r3:(List (List UInt8)))(cV:Int)(bZ:List (List UInt8))(bT:Int->(List (List UInt8))->Option ((List (List UInt8))))(fO:(List (List UInt8))):Nat->Bool->Int->Option ((List (List UInt8)))
 |0,_,_=>none|m2+1,A6,jK=>cond (decide (jK<(r3.length:Int))) (a8 (cond A6 (cond (jK==cV) (some true) (a8 (aC r3 jK) fun Ku=>a8 (vC n fO Ku) fun Lq=>some (!Lq))) (some false)) fun Jk=>(LN n r3 cV bZ bT fO m2) Jk (IntKind.i64.wrap (jK+1))) (Ih r3 cV bZ bT A6)
def Ii  (bW:List (List UInt8)):Option ((List (List UInt8))):=
 some bW
def xB(p1:List aT)(n:Nat)(r3:(List (List UInt8))):Nat->Int->(List (List UInt8))->Option ((List (List UInt8)))
 |0,_,_=>none|m1+1,cV,bZ=>
  cond (decide (cV<(r3.length:Int))) (a8 (aC r3 cV) fun fU=>
   a8 (WH n p1 fU) fun fO=>
   LN n r3 cV bZ (xB p1 n r3 m1) fO n true 0) (Ii bZ)
def RR(n:Nat)(p1:List aT)(p2:List (List UInt8)):Option ((List (List UInt8))):=
 a8 (Hb n p1 p2) fun r3=>
 xB p1 n r3 n 0 ([]:List (List UInt8))
theorem jy(n:Nat)(p1:List aT)(p2:List (List UInt8))(r:(List (List UInt8)))(J:RR n p1 p2=some r):cE prog 131 [.isl false (p1.map aX),.isl false (p2.map cS)] (.isl false (r.map cS)):=by
 unfold RR at J;refine dF 56 yR ?_;obtain⟨r3,h4,J⟩:=aB J;refine go ?_;refine aI rfl (pC (ni n p1 p2 r3 h4) _) HF ?_;refine gr ?_;refine gV 5 9 1 1 ?_;refine gL (fun m tm σ=>∃cV bZ fL,xB p1 n r3 m cV bZ=some r/\tm=fr 56 [(0,.iM aX p1),(5,.vl 0 fL 0 bZ.length),(6,.iM cS r3),(7,.i6 cV)]/\σ=⟨iE bZ fL,1⟩) (fun tm σ=>∃bW eM,Ii bW=some r/\tm=fr 56 [(5,.vl 0 eM 0 bW.length)]/\σ=⟨iE bW eM,1⟩) n ⟨0,([]:List (List UInt8)),0,J,rfl,rfl⟩ ?_ ?_;rintro _ _ ⟨bW,eM,J,rfl,rfl⟩;unfold Ii at J;refine go ?_;obtain rfl:=sI J;exact rT (us:=[.vl 0 eM 0 bW.length]) (u:=.iM cS bW) (dO rfl (dX)) (fR 0 1);rintro(_|m1) _ _ ⟨cV,bZ,fL,J,rfl,rfl⟩;cases J;unfold xB at J;refine gF J ?_ ?_<;>intro gS J;refine go ?_;apply aL;obtain⟨fU,fD,J⟩:=aB J;obtain⟨fO,g8,J⟩:=aB J;refine go ?_;refine aP fD ?_;refine go ?_;refine aI rfl (pC (ia n p1 fU fO g8) _) HE ?_;refine go ?_;refine gL (fun m tm σ=>∃A6 jK,LN n r3 cV bZ (xB p1 n r3 m1) fO m A6 jK=some r/\tm=fr 56 [(0,.iM aX p1),(5,.vl 0 fL 0 bZ.length),(6,.iM cS r3),(7,.i6 cV),(8,.iM cS fO),(9,.bool A6),(10,.i6 jK)]/\σ=⟨iE bZ fL,1⟩) (fun tm σ=>∃Aw,Ih r3 cV bZ (xB p1 n r3 m1) Aw=some r/\tm=fr 56 [(0,.iM aX p1),(5,.vl 0 fL 0 bZ.length),(6,.iM cS r3),(7,.i6 cV),(9,.bool Aw)]/\σ=⟨iE bZ fL,1⟩) n ⟨true,0,J,rfl,rfl⟩ ?_ ?_;rintro _ _ ⟨Aw,J,rfl,rfl⟩;unfold Ih at J;refine gr ?_;refine dU (fun tm σ=>∃oQ CF,XL cV (xB p1 n r3 m1) oQ=some r/\tm=fr 56 [(0,.iM aX p1),(5,.vl 0 CF 0 oQ.length),(6,.iM cS r3),(7,.i6 cV)]/\σ=⟨iE oQ CF,1⟩) ?_ ?_;rintro _ _ ⟨oQ,CF,J,rfl,rfl⟩;unfold XL at J;refine go ?_;exact lC ⟨_,oQ,CF,J,rfl,rfl⟩;refine cF J ?_ ?_<;>intro uA J;obtain⟨kZ,mU,J⟩:=aB J;obtain⟨sN,J⟩:=bU J;refine go ?_;refine aP mU ?_;refine go ?_;refine bV ?_;refine bV ?_;refine go ?_;exact xC ⟨(bZ++[kZ]),(fL+1),J,rfl,rfl⟩;refine go ?_;exact xC ⟨bZ,fL,J,rfl,rfl⟩;rintro(_|m2) _ _ ⟨A6,jK,J,rfl,rfl⟩;cases J;unfold LN at J;refine gF J ?_ ?_<;>intro C6 J;refine go ?_;apply aL;obtain⟨Jk,mT,J⟩:=aB J;refine gn ?_;refine dU (fun tm σ=>tm=fr 56 [(0,.iM aX p1),(5,.vl 0 fL 0 bZ.length),(6,.iM cS r3),(7,.i6 cV),(8,.iM cS fO),(9,.bool Jk),(10,.i6 jK)]/\σ=⟨iE bZ fL,1⟩) ?_ ?_;rintro _ _ ⟨rfl,rfl⟩;refine go ?_;exact lC ⟨Jk,(IntKind.i64.wrap (jK+1)),J,rfl,rfl⟩;refine go ?_;rcases gB mT with⟨iO,mT⟩|⟨iO,mT⟩;refine go ?_;rcases gB mT with⟨sM,mT⟩|⟨sM,mT⟩;exact gy mT;obtain⟨Ku,SI,mT⟩:=aB mT;obtain⟨Lq,rn,mT⟩:=aB mT;obtain rfl:=sI mT;refine go ?_;refine aP SI ?_;refine go ?_;refine aI rfl (pC (DJ n fO Ku Lq rn) _) iH ?_;refine go ?_;exact xC ⟨rfl,rfl⟩;obtain rfl:=sI mT;refine go ?_
 repeat refine RS.no (B1 rfl rfl rfl) rfl rfl ?_
 refine go ?_;exact xC ⟨rfl,rfl⟩;refine go ?_;exact xC ⟨A6,J,rfl,rfl⟩;refine go ?_;exact xC ⟨bZ,fL,J,rfl,rfl⟩
def WZ(eO:(List (List UInt8)))(gC:Int)(jL:(List UInt8)->Int->Option ((List UInt8)))(F4:List UInt8):Option ((List UInt8)):=
 a8 (aC eO gC) fun oC=>
 aH (F4.length+oC.length<=9223372036854775807) (
 jL (F4++oC) (IntKind.i64.wrap (gC+1)))
def Ga  (TV:List UInt8):Option ((List UInt8)):=
 some TV
def BQ(eO:(List (List UInt8))):Nat->(List UInt8)->Int->Option ((List UInt8))
 |0,_,_=>none|m2+1,nE,gC=>
  cond (decide (gC<(eO.length:Int))) (cond (decide (gC>0)) (aH (nE.length+([38]).length<=9223372036854775807) (
    WZ eO gC (BQ eO m2) (nE++[38]))) (WZ eO gC (BQ eO m2) nE)) (Ga nE)
def WY(dJ:Int)(bT:Int->(List (List UInt8))->Option ((List UInt8)))(qW:List (List UInt8)):Option ((List UInt8)):=
 bT (IntKind.i64.wrap (dJ+1)) qW
def Gb(p1:List aT)(n:Nat)(cM:List (List UInt8)):Option ((List UInt8)):=
 a8 (RR n p1 cM) fun eO=>
 BQ eO n [] 0
def DH(p1:List aT)(p2:List (List UInt8))(p3:List (List Int))(p4:List Int)(n:Nat):Nat->Int->(List (List UInt8))->Option ((List UInt8))
 |0,_,_=>none|m1+1,dJ,bW=>
  cond (decide (dJ<(p2.length:Int))) (a8 (aC p3 dJ) fun kC=>
   a8 (WI n kC p4) fun fH=>cond fH (a8 (aC p2 dJ) fun AF=>some AF) (a8 (QX n p4 dJ) fun K3=>cond K3 (a8 (aC p2 dJ) fun Kt=>
     aH ((bW.length+1)*16<=140737488355328/\bW.length+1<=140737488355328) (
     WY dJ (DH p1 p2 p3 p4 n m1) (bW++[Kt]))) (WY dJ (DH p1 p2 p3 p4 n m1) bW))) (Gb p1 n bW)
def W3(n:Nat)(p1:List aT)(p2:List (List UInt8))(p3:List (List Int))(p4:List Int):Option ((List UInt8)):=
 DH p1 p2 p3 p4 n n 0 ([]:List (List UInt8))
theorem du(n:Nat)(p1:List aT)(p2:List (List UInt8))(p3:List (List Int))(p4:List Int)(r:(List UInt8))(J:W3 n p1 p2 p3 p4=some r):cE prog 94 [.isl false (p1.map aX),.isl false (p2.map cS),.isl false (List.map (cL (cI .u64)) p3),.isl false (p4.map (cI .u64))] (.str r):=by
 unfold W3 at J;refine Au 59 ZL ?_;refine gr ?_;refine gr ?_;refine gr ?_;refine gV 9 9 1 1 ?_;refine gL (fun m tm σ=>∃dJ bW eM,DH p1 p2 p3 p4 n m dJ bW=some r/\tm=fr 59 [(0,.iM aX p1),(1,.iM cS p2),(2,.iM (cL (cI .u64)) p3),(3,.iM (cI .u64) p4),(9,.vl 0 eM 0 bW.length),(10,.i6 dJ)]/\σ=⟨iE bW eM,1⟩) (fun tm σ=>∃cM iS,Gb p1 n cM=some r/\tm=fr 59 [(0,.iM aX p1),(9,.vl 0 iS 0 cM.length)]/\σ=⟨iE cM iS,1⟩) n ⟨0,([]:List (List UInt8)),0,J,rfl,rfl⟩ ?_ ?_;rintro _ _ ⟨cM,iS,J,rfl,rfl⟩;unfold Gb at J;refine gn ?_;refine cR (tm':=fr 59 [(0,.iM aX p1),(9,.iM cS cM)]) (σ':=⟨[],1⟩) (Gh.trans (Gh.sub (l':=[(0,.iM aX p1),(9,.vl 0 iS 0 cM.length)]) ⟨rfl,rfl,trivial⟩) (IH 0 1)) NZ ?_;obtain⟨eO,cO,J⟩:=aB J;refine go ?_;refine aI rfl (pC (jy n p1 cM eO cO) _) yR ?_;refine go ?_;refine gL (fun m tm σ=>∃nE gC,BQ eO m nE gC=some r/\tm=fr 59 [(9,.iM cS eO),(11,.str nE),(12,.i6 gC)]/\σ=⟨[],1⟩) (fun tm σ=>∃TV,Ga TV=some r/\tm=fr 59 [(11,.str TV)]/\σ=⟨[],1⟩) n ⟨[],0,J,rfl,rfl⟩ ?_ ?_;rintro _ _ ⟨TV,J,rfl,rfl⟩;unfold Ga at J;exact gx J;rintro(_|m2) _ _ ⟨nE,gC,J,rfl,rfl⟩;cases J;unfold BQ at J;refine gF J ?_ ?_<;>intro yE J;refine go ?_;apply aL;refine gr ?_;refine dU (fun tm σ=>∃F4,WZ eO gC (BQ eO m2) F4=some r/\tm=fr 59 [(9,.iM cS eO),(11,.str F4),(12,.i6 gC)]/\σ=⟨[],1⟩) ?_ ?_;rintro _ _ ⟨F4,J,rfl,rfl⟩;unfold WZ at J;obtain⟨oC,mV,J⟩:=aB J;obtain⟨qA,J⟩:=bU J;refine go ?_;refine aP mV ?_;refine go ?_;refine bG (u:=.str (F4++oC)) rfl (v7 rfl rfl (Ut qA) rfl) ?_;refine go ?_;exact lC ⟨(F4++oC),(IntKind.i64.wrap (gC+1)),J,rfl,rfl⟩;refine cF J ?_ ?_<;>intro jT J;obtain⟨uA,J⟩:=bU J;refine go ?_;refine bG (u:=.str (nE++[38])) rfl (v7 rfl rfl (Ut uA) rfl) ?_;refine go ?_;exact xC ⟨(nE++[38]),J,rfl,rfl⟩;refine go ?_;exact xC ⟨nE,J,rfl,rfl⟩;refine go ?_;exact xC ⟨nE,J,rfl,rfl⟩;rintro(_|m1) _ _ ⟨dJ,bW,eM,J,rfl,rfl⟩;cases J;unfold DH at J;refine gF J ?_ ?_<;>intro kA J;refine go ?_;apply aL;obtain⟨kC,j8,J⟩:=aB J;obtain⟨fH,sN,J⟩:=aB J;refine go ?_;refine aP j8 ?_;refine go ?_;refine aI rfl (pC (ic n kC p4 fH sN) _) HM ?_;refine gF J ?_ ?_<;>intro C6 J;obtain⟨AF,sM,J⟩:=aB J;refine go ?_;refine aP sM ?_;exact gx J;obtain⟨K3,SI,J⟩:=aB J;refine go ?_;refine aI rfl (pC (xk n p4 dJ K3 SI) _) yS ?_;refine gn ?_;refine dU (fun tm σ=>∃qW CD,WY dJ (DH p1 p2 p3 p4 n m1) qW=some r/\tm=fr 59 [(0,.iM aX p1),(1,.iM cS p2),(2,.iM (cL (cI .u64)) p3),(3,.iM (cI .u64) p4),(9,.vl 0 CD 0 qW.length),(10,.i6 dJ)]/\σ=⟨iE qW CD,1⟩) ?_ ?_;rintro _ _ ⟨qW,CD,J,rfl,rfl⟩;unfold WY at J;refine go ?_;exact lC ⟨_,qW,CD,J,rfl,rfl⟩;refine cF J ?_ ?_<;>intro y8 J;obtain⟨Kt,vk,J⟩:=aB J;obtain⟨Jg,J⟩:=bU J;refine go ?_;refine aP vk ?_;refine go ?_;refine bV ?_;refine bV ?_;refine go ?_;exact xC ⟨(bW++[Kt]),(eM+1),J,rfl,rfl⟩;refine go ?_;exact xC ⟨bW,eM,J,rfl,rfl⟩;refine go ?_;exact xC ⟨bW,eM,J,rfl,rfl⟩
def X4(z6:Int)(bT:Int->(List Int)->Option ((List Int)))(cM:List Int):Option ((List Int)):=
 bT (IntKind.i64.wrap (z6+1)) cM
def Gi  (l9:List Int):Option ((List Int)):=
 some l9
def DK(p1:List Int)(n:Nat):Nat->Int->(List Int)->Option ((List Int))
 |0,_,_=>none|m1+1,z6,l7=>
  cond (decide (z6<(IntKind.i64.wrap (64*(p1.length:Int))))) (a8 (QX n p1 z6) fun eY=>cond eY (aH ((l7.length+1)*8<=140737488355328/\l7.length+1<=140737488355328) (
    X4 z6 (DK p1 n m1) (l7++[z6]))) (X4 z6 (DK p1 n m1) l7)) (Gi l7)
def Et(n:Nat)(p1:List Int):Option ((List Int)):=
 DK p1 n n 0 ([]:List Int)
theorem dy(n:Nat)(p1:List Int)(r:(List Int))(J:Et n p1=some r):cE prog 162 [.isl false (p1.map (cI .u64))] (.isl false (r.map (cI .i64))):=by
 unfold Et at J;refine gY 20 HD ?_;refine gr ?_;refine gr ?_;refine gr ?_;refine gV 3 3 1 1 ?_;refine gL (fun m tm σ=>∃z6 l7 t8,DK p1 n m z6 l7=some r/\tm=fr 20 [(0,.iM (cI .u64) p1),(3,.vl 0 t8 0 l7.length),(4,.i6 z6)]/\σ=⟨tN l7 t8,1⟩) (fun tm σ=>∃l9 dL,Gi l9=some r/\tm=fr 20 [(3,.vl 0 dL 0 l9.length)]/\σ=⟨tN l9 dL,1⟩) n ⟨0,([]:List Int),0,J,rfl,rfl⟩ ?_ ?_;rintro _ _ ⟨l9,dL,J,rfl,rfl⟩;unfold Gi at J;refine go ?_;obtain rfl:=sI J;exact rT (us:=[.vl 0 dL 0 l9.length]) (u:=.iM (cI .i64) l9) (dO rfl (dX)) (fR 0 1);rintro(_|m1) _ _ ⟨z6,l7,t8,J,rfl,rfl⟩;cases J;unfold DK at J;refine gF J ?_ ?_<;>intro iP J;refine go ?_;apply aL;obtain⟨eY,cX,J⟩:=aB J;refine go ?_;refine aI rfl (pC (xk n p1 z6 eY cX) _) yS ?_;refine gn ?_;refine dU (fun tm σ=>∃cM iS,X4 z6 (DK p1 n m1) cM=some r/\tm=fr 20 [(0,.iM (cI .u64) p1),(3,.vl 0 iS 0 cM.length),(4,.i6 z6)]/\σ=⟨tN cM iS,1⟩) ?_ ?_;rintro _ _ ⟨cM,iS,J,rfl,rfl⟩;unfold X4 at J;refine go ?_;exact lC ⟨_,cM,iS,J,rfl,rfl⟩;refine cF J ?_ ?_<;>intro fE J;obtain⟨fD,J⟩:=bU J;refine go ?_;refine bV ?_;refine bV ?_;refine go ?_;exact xC ⟨(l7++[z6]),(t8+1),J,rfl,rfl⟩;refine go ?_;exact xC ⟨l7,t8,J,rfl,rfl⟩;refine go ?_;exact xC ⟨l7,t8,J,rfl,rfl⟩
def R8(n:Nat)(p1:List Int):Option (Int):=
 a8 (Et n p1) fun r2=>some (r2.length:Int)
theorem jm(n:Nat)(p1:List Int)(r:Int)(J:R8 n p1=some r):cE prog 132 [.isl false (p1.map (cI .u64))] (.int .i64 r):=by
 unfold R8 at J;refine gY 6 yQ ?_;obtain⟨r2,h3,J⟩:=aB J;refine go ?_;refine aI rfl (pC (dy n p1 r2 h3) _) HD ?_;exact gx J
def WQ(n:Nat)(p1:c7)(p2:c7):Option (Bool):=
 a8 (R8 n p1.Code) fun r3=>
 a8 (R8 n p2.Code) fun r5=>
 a8 (cond (decide (r3>r5)) (some true) (cond (r3==r5) (some (fS p1.Name p2.Name)) (some false))) fun b9=>some b9
theorem io(n:Nat)(p1:c7)(p2:c7)(r:Bool)(J:WQ n p1 p2=some r):cE prog 95 [.agg (dD p1),.agg (dD p2)] (.bool r):=by
 unfold WQ at J;refine dF 28 ZK ?_;obtain⟨r3,h4,J⟩:=aB J;refine go ?_;refine aI rfl (pC (jm n p1.Code r3 h4) _) yQ ?_;obtain⟨r5,h6,J⟩:=aB J;refine go ?_;refine aI rfl (pC (jm n p2.Code r5 h6) _) yQ ?_;obtain⟨b9,fA,J⟩:=aB J;refine gn ?_;refine dU (fun tm σ=>tm=fr 28 [(4,.bool b9)]/\σ=⟨[(1,.row (dD p2) 143),(0,.row (dD p1) 143)],2⟩) ?_ ?_;rintro _ _ ⟨rfl,rfl⟩;exact gx J;refine go ?_;rcases gB fA with⟨h7,fA⟩|⟨h7,fA⟩;obtain rfl:=sI fA;refine go ?_
 repeat refine RS.no (B1 rfl rfl rfl) rfl rfl ?_
 refine go ?_;exact xC ⟨rfl,rfl⟩;refine go ?_;rcases gB fA with⟨h8,fA⟩|⟨h8,fA⟩;obtain rfl:=sI fA;refine go ?_;refine RS.w (u:=.bool (fS p1.Name p2.Name)) rfl (v7 rfl rfl rfl rfl) ?_;refine go ?_;exact xC ⟨rfl,rfl⟩;exact gy fA
def X7(eX:Int)(c9:List c7)(jL:Int->(List c7)->Option ((List c7)×Int))(fH:(List UInt8))(gK:List Int)(z50:Int):Option ((List c7)×Int):=
 aH ((0:Int)<=z50/\z50<=((c9.length:Nat):Int)) (
 aH (0+z50.toNat<=c9.length) (
 aH (((c9.drop 0).take z50.toNat).length*40<=140737488355328/\((c9.drop 0).take z50.toNat).length<=140737488355328) (
 aH ((((c9.drop 0).take z50.toNat).length+1)*40<=140737488355328/\((c9.drop 0).take z50.toNat).length+1<=140737488355328) (
 aH ((0:Int)<=z50/\z50<=((c9.length:Nat):Int)) (
 aH ((0+z50.toNat)+(c9.length-z50.toNat)<=c9.length) (
 aH (((((c9.drop 0).take z50.toNat)++[(c7.mk fH gK)]).length+((c9.drop (0+z50.toNat)).take (c9.length-z50.toNat)).length)*40<=140737488355328/\(((c9.drop 0).take z50.toNat)++[(c7.mk fH gK)]).length+((c9.drop (0+z50.toNat)).take (c9.length-z50.toNat)).length<=140737488355328) (
 jL (IntKind.i64.wrap (eX+1)) ((((c9.drop 0).take z50.toNat)++[(c7.mk fH gK)])++((c9.drop (0+z50.toNat)).take (c9.length-z50.toNat))))))))))
def RY(n:Nat)(eX:Int)(c9:List c7)(jL:Int->(List c7)->Option ((List c7)×Int))(fH:(List UInt8))(gK:List Int):Nat->Int->Option ((List c7)×Int)
 |0,_=>none|m3+1,AD=>a8 (cond (decide (AD>0)) (a8 (aC c9 (IntKind.i64.wrap (AD-1))) fun uL=>a8 (WQ n (c7.mk fH gK) uL) fun Lo=>some Lo) (some false)) fun Tz=>cond Tz ((RY n eX c9 jL fH gK m3) (IntKind.i64.wrap (AD-1))) (X7 eX c9 jL fH gK AD)
def Gw  (mS:List c7):Option ((List c7)×Int):=
 some (mS,0)
def DM(p1:List aT)(n:Nat)(r5:(List (List UInt8)))(cM:List (List Int))(eO:(List (List Int))):Nat->Int->(List c7)->Option ((List c7)×Int)
 |0,_,_=>none|m2+1,eX,c9=>
  cond (decide (eX<(eO.length:Int))) (a8 (aC eO eX) fun kC=>
   a8 (W3 n p1 r5 cM kC) fun fH=>
   a8 (aC eO eX) fun gK=>
   RY n eX c9 (DM p1 n r5 cM eO m2) fH gK n (c9.length:Int)) (Gw c9)
def Gx(p1:List aT)(n:Nat)(r5:(List (List UInt8)))(cM:List (List Int)):Option ((List c7)×Int):=
 a8 (WO n cM) fun eO=>cond (decide ((eO.length:Int)>256)) (some ([],7)) (DM p1 n r5 cM eO n 0 ([]:List c7))
def LD(p1:List aT)(n:Nat)(r5:(List (List UInt8))):Nat->Int->(List (List Int))->Option ((List c7)×Int)
 |0,_,_=>none|m1+1,dJ,bW=>
  cond (decide (dJ<(r5.length:Int))) (a8 (aC r5 dJ) fun Kl=>
   a8 (W4 n p1 r5 Kl) fun By=>
   aH ((bW.length+1)*24<=140737488355328/\bW.length+1<=140737488355328) ((LD p1 n r5 m1) (IntKind.i64.wrap (dJ+1)) (bW++[By]))) (Gx p1 n r5 bW)
def DD(n:Nat)(p1:List aT):Option ((List c7)×Int):=
 a8 (WF n p1) fun r2=>cond (r2 != 0) (some ([],r2)) (a8 (WE n p1) fun r5=>LD p1 n r5 n 0 ([]:List (List Int)))
theorem Ge(n:Nat)(p1:List aT)(r:(List c7)×Int)(J:DD n p1=some r):cE prog 58 [.isl false (p1.map aX)] (.tup [.isl false (r.1.map dD),.int .i64 r.2]):=by
 unfold DD at J;refine gY 92 yG ?_;obtain⟨r2,h3,J⟩:=aB J;refine go ?_;refine aI rfl (pC (fx n p1 r2 h3) _) ZO ?_;refine gF J ?_ ?_<;>intro h4 J;refine go ?_;obtain rfl:=sI J;exact rT (us:=[.nils,.i6 r2]) (u:=.tup [.isl false [],.i6 r2]) (dO rfl (dO rfl (dX))) wR;obtain⟨r5,h6,J⟩:=aB J;refine go ?_;refine aI rfl (pC (jl n p1 r5 h6) _) NV ?_;refine gr ?_;refine gr ?_;refine gV 6 141 1 1 ?_;refine gL (fun m tm σ=>∃dJ bW eM,LD p1 n r5 m dJ bW=some r/\tm=fr 92 [(0,.iM aX p1),(5,.iM cS r5),(6,.vl 0 eM 0 bW.length),(7,.i6 dJ)]/\σ=⟨[(0,.bv (cL (cI .u64)) bW 141 1 eM)],1⟩) (fun tm σ=>∃cM iS,Gx p1 n r5 cM=some r/\tm=fr 92 [(0,.iM aX p1),(5,.iM cS r5),(6,.vl 0 iS 0 cM.length)]/\σ=⟨[(0,.bv (cL (cI .u64)) cM 141 1 iS)],1⟩) n ⟨0,([]:List (List Int)),0,J,rfl,rfl⟩ ?_ ?_;rintro _ _ ⟨cM,iS,J,rfl,rfl⟩;unfold Gx at J;refine gn ?_;refine cR (tm':=fr 92 [(0,.iM aX p1),(5,.iM cS r5),(6,.iM (cL (cI .u64)) cM)]) (σ':=⟨[],1⟩) (Gh.trans (Gh.sub (l':=[(0,.iM aX p1),(5,.iM cS r5),(6,.vl 0 iS 0 cM.length)]) ⟨rfl,rfl,rfl,trivial⟩) (IH 0 1)) NZ ?_;obtain⟨eO,cO,J⟩:=aB J;refine go ?_;refine aI rfl (pC (im n cM eO cO) _) ZM ?_;refine gF J ?_ ?_<;>intro g8 J;refine go ?_;obtain rfl:=sI J;exact rT (us:=[.nils,.i6 7]) (u:=.tup [.isl false [],.i6 7]) (dO rfl (dO rfl (dX))) wR;refine gr ?_;refine gr ?_;refine gV 9 143 2 2 ?_;refine gL (fun m tm σ=>∃eX c9 kK,DM p1 n r5 cM eO m eX c9=some r/\tm=fr 92 [(0,.iM aX p1),(5,.iM cS r5),(6,.iM (cL (cI .u64)) cM),(8,.iM (cL (cI .u64)) eO),(9,.vl 1 kK 0 c9.length),(10,.i6 eX)]/\σ=⟨[(1,.bv dD c9 143 2 kK)],2⟩) (fun tm σ=>∃mS AK,Gw mS=some r/\tm=fr 92 [(9,.vl 1 AK 0 mS.length)]/\σ=⟨[(1,.bv dD mS 143 2 AK)],2⟩) n ⟨0,([]:List c7),0,J,rfl,rfl⟩ ?_ ?_;rintro _ _ ⟨mS,AK,J,rfl,rfl⟩;unfold Gw at J;refine go ?_;obtain rfl:=sI J;exact rT (us:=[.vl 1 AK 0 mS.length,.i6 0]) (u:=.tup [.iM dD mS,.i6 0]) (dO rfl (dO rfl (dX))) (fR 1 2);rintro(_|m2) _ _ ⟨eX,c9,kK,J,rfl,rfl⟩;cases J;unfold DM at J;refine gF J ?_ ?_<;>intro kA J;refine go ?_;apply aL;obtain⟨kC,j8,J⟩:=aB J;obtain⟨fH,sN,J⟩:=aB J;obtain⟨gK,iO,J⟩:=aB J;refine go ?_;refine dE [(0,13),(1,13),(2,13),(3,13),(4,13),(5,13),(6,13),(8,13),(9,13),(10,13),(11,13),(12,13)] ?_;refine gd ?_;refine bY j8 ?_;refine gd ?_;refine gZ rfl (pC (du n p1 r5 cM kC fH sN)) ZL ?_;refine gd ?_;refine bY iO ?_;refine gd ?_;refine dT ?_;refine pI ?_;refine aZ ⟨by kernel_rfl,⟨lJ rfl,⟨lJ rfl,⟨lJ rfl,⟨lJ rfl,⟨lJ rfl,⟨eJ rfl rfl (PZ (cL (cI .u64)) lB.h (bQ k9.h) (PX (cI .u64)) j8 rfl),⟨UI dR.h rfl rfl rfl,⟨lJ rfl,⟨lJ rfl,⟨eJ rfl rfl (PZ (cL (cI .u64)) lB.h (bQ k9.h) (PX (cI .u64)) iO rfl),⟨UI dR.h rfl rfl rfl,⟨Vg Av.h rfl rfl rfl,trivial⟩⟩⟩⟩⟩⟩⟩⟩⟩⟩⟩⟩,?_⟩;refine go ?_;refine gL (fun m tm σ=>∃AD,RY n eX c9 (DM p1 n r5 cM eO m2) fH gK m AD=some r/\tm=fr 92 [(0,.iM aX p1),(5,.iM cS r5),(6,.iM (cL (cI .u64)) cM),(8,.iM (cL (cI .u64)) eO),(9,.vl 1 kK 0 c9.length),(10,.i6 eX),(11,.ptr 2 0 0),(12,.i6 AD)]/\σ=⟨VK (.str fH) gK c9 kK,3⟩) (fun tm σ=>∃z50,X7 eX c9 (DM p1 n r5 cM eO m2) fH gK z50=some r/\tm=fr 92 [(0,.iM aX p1),(5,.iM cS r5),(6,.iM (cL (cI .u64)) cM),(8,.iM (cL (cI .u64)) eO),(9,.vl 1 kK 0 c9.length),(10,.i6 eX),(11,.ptr 2 0 0),(12,.i6 z50)]/\σ=⟨VK (.str fH) gK c9 kK,3⟩) n ⟨(c9.length:Int),J,rfl,rfl⟩ ?_ ?_;rintro _ _ ⟨z50,J,rfl,rfl⟩;unfold X7 at J;obtain⟨o9,J⟩:=bU J;obtain⟨vj,J⟩:=bU J;obtain⟨rj,J⟩:=bU J;refine go ?_;refine bG (u:=.vl 1 kK 0 z50.toNat) rfl (BK rfl nW (CL rfl) nW (U3 dD lD.h (bQ lN.h) G3 (vo rfl) (Nat.le_of_eq (Nat.zero_add _)) (Ms o9.1 o9.2))) (bG (u:=.vl 3 0 0 (((c9.drop 0).take z50.toNat).length)) (σ':=⟨(3,.bv dD ((c9.drop 0).take z50.toNat) 143 2 0)::VK (.str fH) gK c9 kK,4⟩) rfl (m8 rfl rfl rfl rfl (Ob dD ((c9.drop 0).take z50.toNat) lD.h lD.h lN.h rfl (Cg dD G3 (vo rfl) vj) rj)) ?_);obtain⟨vi,J⟩:=bU J;refine go ?_;refine bV ?_;refine bV ?_;obtain⟨Jf,J⟩:=bU J;obtain⟨Je,J⟩:=bU J;obtain⟨vf,J⟩:=bU J;refine go ?_;refine bG (u:=.vl 1 kK (0+z50.toNat) (c9.length-z50.toNat)) rfl (BK rfl (CL rfl) nW nW (U3 dD lD.h (bQ lN.h) G3 (vo rfl) (Nat.le_of_eq (Nat.zero_add _)) (Mr Jf.1 Jf.2))) (bG (u:=.vl 3 2 0 (((((c9.drop 0).take z50.toNat)++[(c7.mk fH gK)])++((c9.drop (0+z50.toNat)).take (c9.length-z50.toNat))).length)) (σ':=⟨(4,.row [.str fH,.iM (cI .u64) gK] 143)::(3,.bv dD ((((c9.drop 0).take z50.toNat)++[(c7.mk fH gK)])++((c9.drop (0+z50.toNat)).take (c9.length-z50.toNat))) 143 2 2)::VK (.str fH) gK c9 kK,5⟩) rfl (m8 rfl rfl rfl rfl (tK dD ((c9.drop (0+z50.toNat)).take (c9.length-z50.toNat)) lD.h lD.h lN.h rfl G3 rfl (Cg dD G3 (vo rfl) Je) vf)) ?_);refine go ?_;exact⟨m2,_,_,zN _,⟨(IntKind.i64.wrap (eX+1)),((((c9.drop 0).take z50.toNat)++[(c7.mk fH gK)])++((c9.drop (0+z50.toNat)).take (c9.length-z50.toNat))),2,J,rfl,rfl⟩,NZ,Gh.trans (Gh.sub (l':=[(0,.iM aX p1),(5,.iM cS r5),(6,.iM (cL (cI .u64)) cM),(8,.iM (cL (cI .u64)) eO),(9,.vl 3 2 0 (((((c9.drop 0).take z50.toNat)++[(c7.mk fH gK)])++((c9.drop (0+z50.toNat)).take (c9.length-z50.toNat))).length)),(10,.i6 (IntKind.i64.wrap (eX+1)))]) ⟨rfl,rfl,rfl,rfl,rfl,rfl,trivial⟩) (Gh.trans (Gh.mv (l':=[(0,.iM aX p1),(5,.iM cS r5),(6,.iM (cL (cI .u64)) cM),(8,.iM (cL (cI .u64)) eO),(9,.vl 1 2 0 (((((c9.drop 0).take z50.toNat)++[(c7.mk fH gK)])++((c9.drop (0+z50.toNat)).take (c9.length-z50.toNat))).length)),(10,.i6 (IntKind.i64.wrap (eX+1)))]) (h':=[(4,.row [.str fH,.iM (cI .u64) gK] 143),(1,.bv dD ((((c9.drop 0).take z50.toNat)++[(c7.mk fH gK)])++((c9.drop (0+z50.toNat)).take (c9.length-z50.toNat))) 143 2 2),(2,.row [.str fH,.iM (cI .u64) gK] 143)]) 1 3 NZ rfl rfl (by simp only[rS,rU,dC,FO,pW,Nat.beq,zC,zD]) rfl (by simp only[Ay,rB,PT,dC,rU,FO,Ch,pW,Nat.beq,zC,zD,and_self])) (Gh.toC (n1:=2) ⟨rfl,rfl,rfl,rfl,rfl,rfl,trivial⟩ rfl NZ (by simp)))⟩;rintro(_|m3) _ _ ⟨AD,J,rfl,rfl⟩;cases J;unfold RY at J;obtain⟨Tz,pZ,J⟩:=aB J;refine gn ?_;refine dU (fun tm σ=>tm=fr 92 [(0,.iM aX p1),(5,.iM cS r5),(6,.iM (cL (cI .u64)) cM),(8,.iM (cL (cI .u64)) eO),(9,.vl 1 kK 0 c9.length),(10,.i6 eX),(11,.ptr 2 0 0),(12,.i6 AD),(73,.bool Tz)]/\σ=⟨VK (.str fH) gK c9 kK,3⟩) ?_ ?_;rintro _ _ ⟨rfl,rfl⟩;refine gF J ?_ ?_<;>intro y_ J;refine go ?_;apply aL;refine go ?_;exact lC ⟨_,J,rfl,rfl⟩;refine go ?_;exact xC ⟨AD,J,rfl,rfl⟩;refine dE [] ?_;refine gd ?_;rcases gB pZ with⟨Jd,pZ⟩|⟨Jd,pZ⟩;obtain⟨uL,ZF,pZ⟩:=aB pZ;obtain⟨Lo,Jc,pZ⟩:=aB pZ;obtain rfl:=sI pZ;refine gd ?_;refine RD.w rfl (eJ rfl rfl (lG dD lD.h (bQ lN.h) (by decide) G3 (vo rfl) ZF)) ?_;refine RD.w (u:=.agg (dD uL)) rfl (MF dD F3.h rfl (bQ lN.h) G3 rfl rfl ZF rfl) (gZ rfl (pC (io n (c7.mk fH gK) uL Lo Jc)) ZK ?_);refine gd ?_;refine aZ ⟨by kernel_rfl,trivial,?_⟩;refine go ?_;exact xC ⟨rfl,rfl⟩;obtain rfl:=sI pZ;refine gd ?_;refine aZ ⟨by kernel_rfl,trivial,?_⟩;refine go ?_;exact xC ⟨rfl,rfl⟩;refine go ?_;exact xC ⟨c9,kK,J,rfl,rfl⟩;rintro(_|m1) _ _ ⟨dJ,bW,eM,J,rfl,rfl⟩;cases J;unfold LD at J;refine gF J ?_ ?_<;>intro x_ J;refine go ?_;apply aL;obtain⟨Kl,ri,J⟩:=aB J;obtain⟨By,rh,J⟩:=aB J;obtain⟨w_,J⟩:=bU J;refine go ?_;refine aP ri ?_;refine go ?_;refine aI rfl (pC (dw n p1 r5 Kl By rh) _) ZN ?_;refine bV ?_;refine bV ?_;refine go ?_;exact lC ⟨_,(bW++[By]),(eM+1),J,rfl,rfl⟩;refine go ?_;exact xC ⟨bW,eM,J,rfl,rfl⟩
def L8(n:Nat)(p1:List UInt8):Option (Bool):=
 a8 (R9 n p1 true) fun r2=>some r2
theorem iy(n:Nat)(p1:List UInt8)(r:Bool)(J:L8 n p1=some r):cE prog 155 [.str p1] (.bool r):=by
 unfold L8 at J;refine gY 5 HI ?_;obtain⟨r2,h3,J⟩:=aB J;refine go ?_;refine aI rfl (pC (jn n p1 true r2 h3) _) yM ?_;exact gx J
def In(n:Nat)(r2:(List (List UInt8)))(x9:aT)(fM:Int)(jL:Int->Option (Int)): Option (Int):=
 a8 (aC x9.Feats fM) fun IT=>
 a8 (vC n r2 IT.Value) fun uP=>cond (!uP) (some 5) (jL (IntKind.i64.wrap (fM+1)))
def S8(n:Nat)(r2:(List (List UInt8)))(x9:aT)(fM:Int)(jL:Int->Option (Int)):Nat->Int->Option (Int)
 |0,_=>none|m3+1,jK=>cond (decide (jK<fM)) (a8 (aC x9.Feats jK) fun IS=>a8 (aC x9.Feats fM) fun AF=>cond (gE IS.Feat AF.Feat) (some 4) ((S8 n r2 x9 fM jL m3) (IntKind.i64.wrap (jK+1)))) (In n r2 x9 fM jL)
def Io(z7:Int)(bT:Int->Option (Int)): Option (Int):=
 bT (IntKind.i64.wrap (z7+1))
def C0(n:Nat)(r2:(List (List UInt8)))(z7:Int)(bT:Int->Option (Int))(x9:aT):Nat->Int->Option (Int)
 |0,_=>none|m2+1,fM=>cond (decide (fM<(x9.Feats.length:Int))) (a8 (aC x9.Feats fM) fun uN=>a8 (L8 n uN.Feat) fun Lt=>cond (!Lt) (some 1) (S8 n r2 x9 fM (C0 n r2 z7 bT x9 m2) n 0)) (Io z7 bT)
def Ip: Option (Int):=
 some 0
def tS(p1:List aT)(n:Nat)(r2:(List (List UInt8))):Nat->Int->Option (Int)
 |0,_=>none|m1+1,z7=>cond (decide (z7<(p1.length:Int))) (a8 (aC p1 z7) fun x9=>C0 n r2 z7 (tS p1 n r2 m1) x9 n 0) (Ip)
def XN(n:Nat)(p1:List aT):Option (Int):=
 a8 (WE n p1) fun r2=>
 tS p1 n r2 n 0
theorem nk(n:Nat)(p1:List aT)(r:Int)(J:XN n p1=some r):cE prog 115 [.isl false (p1.map aX)] (.int .i64 r):=by
 unfold XN at J;refine gY 58 HU ?_;obtain⟨r2,h3,J⟩:=aB J;refine go ?_;refine aI rfl (pC (jl n p1 r2 h3) _) NV ?_;refine go ?_;refine gL (fun m tm σ=>∃z7,tS p1 n r2 m z7=some r/\tm=fr 58 [(0,.iM aX p1),(3,.iM cS r2),(4,.i6 z7)]/\σ=⟨[],0⟩) (fun tm σ=>Ip=some r/\tm=fr 58 []/\σ=⟨[],0⟩) n ⟨0,J,rfl,rfl⟩ ?_ ?_;rintro _ _ ⟨J,rfl,rfl⟩;unfold Ip at J;exact gx J;rintro(_|m1) _ _ ⟨z7,J,rfl,rfl⟩;cases J;unfold tS at J;refine gF J ?_ ?_<;>intro h8 J;refine go ?_;apply aL;obtain⟨x9,fA,J⟩:=aB J;refine go ?_;refine aP fA ?_;refine go ?_;refine gL (fun m tm σ=>∃fM,C0 n r2 z7 (tS p1 n r2 m1) x9 m fM=some r/\tm=fr 58 [(0,.iM aX p1),(3,.iM cS r2),(4,.i6 z7),(5,.iM gG x9.Feats),(6,.i6 fM)]/\σ=⟨[],0⟩) (fun tm σ=>Io z7 (tS p1 n r2 m1)=some r/\tm=fr 58 [(0,.iM aX p1),(3,.iM cS r2),(4,.i6 z7)]/\σ=⟨[],0⟩) n ⟨0,J,rfl,rfl⟩ ?_ ?_;rintro _ _ ⟨J,rfl,rfl⟩;unfold Io at J;refine go ?_;exact lC ⟨_,J,rfl,rfl⟩;rintro(_|m2) _ _ ⟨fM,J,rfl,rfl⟩;cases J;unfold C0 at J;refine gF J ?_ ?_<;>intro fD J;refine go ?_;apply aL;obtain⟨uN,g8,J⟩:=aB J;obtain⟨Lt,nP,J⟩:=aB J;refine go ?_;refine aP g8 ?_;refine go ?_;refine aI rfl (pC (iy n uN.Feat Lt nP) _) HI ?_;refine gF J ?_ ?_<;>intro nO J;exact gx J;refine go ?_;refine gL (fun m tm σ=>∃jK,S8 n r2 x9 fM (C0 n r2 z7 (tS p1 n r2 m1) x9 m2) m jK=some r/\tm=fr 58 [(0,.iM aX p1),(3,.iM cS r2),(4,.i6 z7),(5,.iM gG x9.Feats),(6,.i6 fM),(7,.i6 jK)]/\σ=⟨[],0⟩) (fun tm σ=>In n r2 x9 fM (C0 n r2 z7 (tS p1 n r2 m1) x9 m2)=some r/\tm=fr 58 [(0,.iM aX p1),(3,.iM cS r2),(4,.i6 z7),(5,.iM gG x9.Feats),(6,.i6 fM)]/\σ=⟨[],0⟩) n ⟨0,J,rfl,rfl⟩ ?_ ?_;rintro _ _ ⟨J,rfl,rfl⟩;unfold In at J;obtain⟨IT,uA,J⟩:=aB J;obtain⟨uP,sO,J⟩:=aB J;refine go ?_;refine aP uA ?_;refine go ?_;refine aI rfl (pC (DJ n r2 IT.Value uP sO) _) iH ?_;refine gF J ?_ ?_<;>intro j8 J;exact gx J;refine go ?_;exact lC ⟨_,J,rfl,rfl⟩;rintro(_|m3) _ _ ⟨jK,J,rfl,rfl⟩;cases J;unfold S8 at J;refine gF J ?_ ?_<;>intro mU J;refine go ?_;apply aL;obtain⟨IS,C6,J⟩:=aB J;obtain⟨AF,sM,J⟩:=aB J;refine go ?_;refine dE [] ?_;refine gd ?_;refine bY C6 ?_;refine gd ?_;refine bY sM ?_;refine gd ?_;refine bB (u:=.bool (gE IS.Feat AF.Feat)) rfl (v7 rfl rfl rfl rfl) ?_;refine aZ ⟨by kernel_rfl,trivial,?_⟩;refine gF J ?_ ?_<;>intro y9 J;exact gx J;refine go ?_;exact lC ⟨_,J,rfl,rfl⟩;refine go ?_;exact xC ⟨J,rfl,rfl⟩;refine go ?_;exact xC ⟨J,rfl,rfl⟩;refine go ?_;exact xC ⟨J,rfl,rfl⟩
def Gr(z6:Int)(bT:(List (List UInt8))->Int->Option ((List (List UInt8))))(cM:List (List UInt8)):Option ((List (List UInt8))):=
 bT cM (IntKind.i64.wrap (z6+1))
def LA(p1:List aT)(n:Nat)(z6:Int)(bT:(List (List UInt8))->Int->Option ((List (List UInt8)))):Nat->(List (List UInt8))->Int->Option ((List (List UInt8)))
 |0,_,_=>none|m2+1,bW,nA=>
  a8 (aC p1 z6) fun fU=>cond (decide (nA<(fU.Feats.length:Int))) (a8 (aC p1 z6) fun CC=>
   a8 (aC CC.Feats nA) fun oD=>
   a8 (D9 n bW oD.Feat) fun oG=>(LA p1 n z6 bT m2) oG (IntKind.i64.wrap (nA+1))) (Gr z6 bT bW)
def Gs  (l7:List (List UInt8)):Option ((List (List UInt8))):=
 some l7
def BR(p1:List aT)(n:Nat):Nat->(List (List UInt8))->Int->Option ((List (List UInt8)))
 |0,_,_=>none|m1+1,l5,z6=>cond (decide (z6<(p1.length:Int))) (LA p1 n z6 (BR p1 n m1) n l5 0) (Gs l5)
def L0(n:Nat)(p1:List aT):Option ((List (List UInt8))):=
 BR p1 n n [] 0
theorem Qz(n:Nat)(p1:List aT)(r:(List (List UInt8)))(J:L0 n p1=some r):cE prog 87 [.isl false (p1.map aX)] (.isl false (r.map cS)):=by
 unfold L0 at J;refine gY 34 EB ?_;refine gr ?_;refine gr ?_;refine gr ?_;refine cR (tm':=fr 34 [(0,.iM aX p1),(3,.iM cS []),(4,.i6 0)]) (Gh.trans (Gh.sub (l':=[(0,.iM aX p1),(3,.nils),(4,.i6 0)]) ⟨rfl,rfl,rfl,trivial⟩) (Gh.wkS (l':=[(0,.iM aX p1),(3,.iM cS []),(4,.i6 0)]) (.cons (.refl _) (.cons (.nil false) (.cons (.refl _) .nil))))) NZ ?_;refine gL (fun m tm σ=>∃l5 z6,BR p1 n m l5 z6=some r/\tm=fr 34 [(0,.iM aX p1),(3,.iM cS l5),(4,.i6 z6)]/\σ=⟨[],0⟩) (fun tm σ=>∃l7,Gs l7=some r/\tm=fr 34 [(3,.iM cS l7)]/\σ=⟨[],0⟩) n ⟨[],0,J,rfl,rfl⟩ ?_ ?_;rintro _ _ ⟨l7,J,rfl,rfl⟩;unfold Gs at J;exact gx J;rintro(_|m1) _ _ ⟨l5,z6,J,rfl,rfl⟩;cases J;unfold BR at J;refine gF J ?_ ?_<;>intro h8 J;refine go ?_;apply aL;refine go ?_;refine gL (fun m tm σ=>∃bW nA,LA p1 n z6 (BR p1 n m1) m bW nA=some r/\tm=fr 34 [(0,.iM aX p1),(3,.iM cS bW),(4,.i6 z6),(5,.i6 nA)]/\σ=⟨[],0⟩) (fun tm σ=>∃cM,Gr z6 (BR p1 n m1) cM=some r/\tm=fr 34 [(0,.iM aX p1),(3,.iM cS cM),(4,.i6 z6)]/\σ=⟨[],0⟩) n ⟨l5,0,J,rfl,rfl⟩ ?_ ?_;rintro _ _ ⟨cM,J,rfl,rfl⟩;unfold Gr at J;refine go ?_;exact lC ⟨cM,(IntKind.i64.wrap (z6+1)),J,rfl,rfl⟩;rintro(_|m2) _ _ ⟨bW,nA,J,rfl,rfl⟩;cases J;unfold LA at J;obtain⟨fU,fD,J⟩:=aB J;refine go ?_;refine aP fD ?_;refine gF J ?_ ?_<;>intro cO J;refine go ?_;apply aL;obtain⟨CC,mC,J⟩:=aB J;obtain⟨oD,nO,J⟩:=aB J;obtain⟨oG,kX,J⟩:=aB J;refine go ?_;refine aP mC ?_;refine go ?_;refine aP nO ?_;refine go ?_;refine aI rfl (pC (R6 n bW oD.Feat oG kX) _) lQ ?_;refine go ?_;exact lC ⟨oG,(IntKind.i64.wrap (nA+1)),J,rfl,rfl⟩;refine go ?_;exact xC ⟨bW,J,rfl,rfl⟩;refine go ?_;exact xC ⟨l5,J,rfl,rfl⟩
def Gp: Option ((List UInt8)×Bool):=
 some ([],false)
def L9(p1:aT)(p2:List UInt8):Nat->Int->Option ((List UInt8)×Bool)
 |0,_=>none|m1+1,z8=>cond (decide (z8<(p1.Feats.length:Int))) (a8 (aC p1.Feats z8) fun iR=>cond (gE iR.Feat p2) (a8 (aC p1.Feats z8) fun EV=>some (EV.Value,true)) ((L9 p1 p2 m1) (IntKind.i64.wrap (z8+1)))) (Gp)
def WB(n:Nat)(p1:aT)(p2:List UInt8):Option ((List UInt8)×Bool):=
 L9 p1 p2 n 0
theorem ji(n:Nat)(p1:aT)(p2:List UInt8)(r:(List UInt8)×Bool)(J:WB n p1 p2=some r):cE prog 117 [.agg (aX p1),.str p2] (.tup [.str r.1,.bool r.2]):=by
 unfold WB at J;refine dF 28 yV ?_;refine go ?_;refine gL (fun m tm σ=>∃z8,L9 p1 p2 m z8=some r/\tm=fr 28 [(1,.str p2),(2,.ptr 0 0 0),(6,.i6 z8)]/\σ=⟨[(0,.row (aX p1) 153)],1⟩) (fun tm σ=>Gp=some r/\tm=fr 28 []/\σ=⟨[(0,.row (aX p1) 153)],1⟩) n ⟨0,J,rfl,rfl⟩ ?_ ?_;rintro _ _ ⟨J,rfl,rfl⟩;unfold Gp at J;refine go ?_;obtain rfl:=sI J;exact CH rfl rfl rfl rfl rfl;rintro(_|m1) _ _ ⟨z8,J,rfl,rfl⟩;cases J;unfold L9 at J;refine gF J ?_ ?_<;>intro h9 J;refine go ?_;apply aL;obtain⟨iR,iP,J⟩:=aB J;refine go ?_;refine aP iP ?_;refine go ?_;refine bG (u:=.bool (gE iR.Feat p2)) rfl (v7 rfl rfl rfl rfl) ?_;refine gF J ?_ ?_<;>intro eW J;obtain⟨EV,fE,J⟩:=aB J;refine go ?_;refine aP fE ?_;refine go ?_;obtain rfl:=sI J;exact CH rfl rfl rfl rfl rfl;refine go ?_;exact lC ⟨_,J,rfl,rfl⟩;refine go ?_;exact xC ⟨J,rfl,rfl⟩
def G6(n:Nat)(p1:List c7)(p2:Int)(p3:Int):Option (Bool):=
 a8 (aC p1 p3) fun x4=>
 a8 (aC p1 p2) fun x6=>
 a8 (L4 n x4.Code x6.Code) fun r8=>some r8
theorem Ig(n:Nat)(p1:List c7)(p2:Int)(p3:Int)(r:Bool)(J:G6 n p1 p2 p3=some r):cE prog 96 [.isl false (p1.map dD),.int .i64 p2,.int .i64 p3] (.bool r):=by
 unfold G6 at J;refine EI 18 yF ?_;obtain⟨x4,h5,J⟩:=aB J;obtain⟨x6,h7,J⟩:=aB J;obtain⟨r8,h9,J⟩:=aB J;refine go ?_;refine dE [] ?_;refine gd ?_;refine bY h5 ?_;refine gd ?_;refine bY h7 ?_;refine gd ?_;refine gZ rfl (pC (Rd n x4.Code x6.Code r8 h9)) sR ?_;refine gd ?_;refine aZ ⟨by kernel_rfl,trivial,?_⟩;exact gx J
def Hs: Option (Int):=
 some (-1)
def LK(p1:List c7)(p2:List UInt8):Nat->Int->Option (Int)
 |0,_=>none|m1+1,z6=>cond (decide (z6<(p1.length:Int))) (a8 (aC p1 z6) fun x8=>cond (gE x8.Name p2) (some z6) ((LK p1 p2 m1) (IntKind.i64.wrap (z6+1)))) (Hs)
def RC(n:Nat)(p1:List c7)(p2:List UInt8):Option (Int):=
 LK p1 p2 n 0
theorem Rc(n:Nat)(p1:List c7)(p2:List UInt8)(r:Int)(J:RC n p1 p2=some r):cE prog 98 [.isl false (p1.map dD),.str p2] (.int .i64 r):=by
 unfold RC at J;refine dF 20 EA ?_;refine go ?_;refine gL (fun m tm σ=>∃z6,LK p1 p2 m z6=some r/\tm=fr 20 [(0,.iM dD p1),(1,.str p2),(5,.i6 z6)]/\σ=⟨[],0⟩) (fun tm σ=>Hs=some r/\tm=fr 20 []/\σ=⟨[],0⟩) n ⟨0,J,rfl,rfl⟩ ?_ ?_;rintro _ _ ⟨J,rfl,rfl⟩;unfold Hs at J;exact gx J;rintro(_|m1) _ _ ⟨z6,J,rfl,rfl⟩;cases J;unfold LK at J;refine gF J ?_ ?_<;>intro h7 J;refine go ?_;apply aL;obtain⟨x8,h9,J⟩:=aB J;refine go ?_;refine aP h9 ?_;refine go ?_;refine bG (u:=.bool (gE x8.Name p2)) rfl (v7 rfl rfl rfl rfl) ?_;refine gF J ?_ ?_<;>intro fA J;exact gx J;refine go ?_;exact lC ⟨_,J,rfl,rfl⟩;refine go ?_;exact xC ⟨J,rfl,rfl⟩
def Il  (pF:Bool) (lL:List Int):Option ((List Int)×Bool):=
 some (lL,pF)
def GC(p1:List aT)(p2:List c7)(p3:Int)(p4:List UInt8)(n:Nat):Nat->Bool->(List Int)->Int->Option ((List Int)×Bool)
 |0,_,_,_=>none|m1+1,pG,cM,fM=>
  cond (decide (fM<(p1.length:Int))) (a8 (aC p1 fM) fun rN=>
   a8 (WB n rN p4) fun AQ=>
   a8 (cond (!AQ.2) (some true) (a8 (aC p1 fM) fun AG=>
    a8 (RC n p2 AG.Name) fun CJ=>
    a8 (G6 n p2 CJ p3) fun Ls=>some (!Ls))) fun Ud=>cond Ud ((GC p1 p2 p3 p4 n m1) pG cM (IntKind.i64.wrap (fM+1))) (a8 (RC n p2 AQ.1) fun Lr=>
    a8 (aC p2 Lr) fun IS=>
    a8 (KW n cM IS.Code) fun F9=>(GC p1 p2 p3 p4 n m1) true F9 (IntKind.i64.wrap (fM+1)))) (Il pG cM)
def S4(n:Nat)(p1:List aT)(p2:List c7)(p3:Int)(p4:List UInt8):Option ((List Int)×Bool):=
 a8 (aC p2 0) fun x5=>
 GC p1 p2 p3 p4 n n false x5.Code 0
theorem jz(n:Nat)(p1:List aT)(p2:List c7)(p3:Int)(p4:List UInt8)(r:(List Int)×Bool)(J:S4 n p1 p2 p3 p4=some r):cE prog 88 [.isl false (p1.map aX),.isl false (p2.map dD),.int .i64 p3,.str p4] (.tup [.isl false (r.1.map (cI .u64)),.bool r.2]):=by
 unfold S4 at J;refine Au 60 NW ?_;obtain⟨x5,h6,J⟩:=aB J;refine go ?_;refine aP h6 ?_;refine go ?_;refine gL (fun m tm σ=>∃pG cM fM,GC p1 p2 p3 p4 n m pG cM fM=some r/\tm=fr 60 [(0,.iM aX p1),(1,.iM dD p2),(2,.i6 p3),(3,.str p4),(10,.bool pG),(11,.iM (cI .u64) cM),(12,.i6 fM)]/\σ=⟨[],0⟩) (fun tm σ=>∃pF lL,Il pF lL=some r/\tm=fr 60 [(10,.bool pF),(11,.iM (cI .u64) lL)]/\σ=⟨[],0⟩) n ⟨false,x5.Code,0,J,rfl,rfl⟩ ?_ ?_;rintro _ _ ⟨pF,lL,J,rfl,rfl⟩;unfold Il at J;refine go ?_;obtain rfl:=sI J;exact CH rfl rfl rfl rfl rfl;rintro(_|m1) _ _ ⟨pG,cM,fM,J,rfl,rfl⟩;cases J;unfold GC at J;refine gF J ?_ ?_<;>intro g8 J;refine go ?_;apply aL;obtain⟨rN,nP,J⟩:=aB J;obtain⟨AQ,rF,J⟩:=aB J;refine go ?_;refine aP nP ?_;refine go ?_;refine aI rfl (pC (ji n rN p4 AQ rF) _) yV ?_;obtain⟨Ud,kA,J⟩:=aB J;refine gn ?_;refine dU (fun tm σ=>tm=fr 60 [(0,.iM aX p1),(1,.iM dD p2),(2,.i6 p3),(3,.str p4),(10,.bool pG),(11,.iM (cI .u64) cM),(12,.i6 fM),(13,.str AQ.1),(48,.bool Ud)]/\σ=⟨[],0⟩) ?_ ?_;rintro _ _ ⟨rfl,rfl⟩;refine gF J ?_ ?_<;>intro sO J;refine go ?_;exact lC ⟨pG,cM,(IntKind.i64.wrap (fM+1)),J,rfl,rfl⟩;obtain⟨Lr,mU,J⟩:=aB J;obtain⟨IS,C6,J⟩:=aB J;obtain⟨F9,sM,J⟩:=aB J;refine go ?_;refine aI rfl (pC (Rc n p2 AQ.1 Lr mU) _) EA ?_;refine aP C6 ?_;refine go ?_;refine aI rfl (pC (xl n cM IS.Code F9 sM) _) yU ?_;refine go ?_;exact lC ⟨true,F9,(IntKind.i64.wrap (fM+1)),J,rfl,rfl⟩;refine go ?_;rcases gB kA with⟨kX,kA⟩|⟨kX,kA⟩;exact gy kA;obtain⟨AG,jT,kA⟩:=aB kA;obtain⟨CJ,sP,kA⟩:=aB kA;obtain⟨Ls,qA,kA⟩:=aB kA;obtain rfl:=sI kA;refine go ?_;refine aP jT ?_;refine go ?_;refine aI rfl (pC (Rc n p2 AG.Name CJ sP) _) EA ?_;refine go ?_;refine aI rfl (pC (Ig n p2 CJ p3 Ls qA) _) yF ?_;refine go ?_;exact xC ⟨rfl,rfl⟩;refine go ?_;exact xC ⟨pG,cM,J,rfl,rfl⟩
def X5(z8:Int)(bT:(List (List UInt8))->Int->Option ((List UInt8)×Bool))(o8:List (List UInt8)):Option ((List UInt8)×Bool):=
 bT o8 (IntKind.i64.wrap (z8+1))
def Gq(p1:List aT)(n:Nat)(l9:List (List UInt8)):Option ((List UInt8)×Bool):=
 a8 (RR n p1 l9) fun oH=>cond ((oH.length:Int) != 1) (some ([],false)) (a8 (aC oH 0) fun EV=>some (EV,true))
def DL(p1:List aT)(p2:List UInt8)(n:Nat):Nat->(List (List UInt8))->Int->Option ((List UInt8)×Bool)
 |0,_,_=>none|m1+1,l7,z8=>
  cond (decide (z8<(p1.length:Int))) (a8 (aC p1 z8) fun fU=>
   a8 (WB n fU p2) fun fO=>cond fO.2 (a8 (aC p1 z8) fun lA=>
    a8 (D9 n l7 lA.Name) fun Cb=>
    X5 z8 (DL p1 p2 n m1) Cb) (X5 z8 (DL p1 p2 n m1) l7)) (Gq p1 n l7)
def WC(n:Nat)(p1:List aT)(p2:List UInt8):Option ((List UInt8)×Bool):=
 DL p1 p2 n n [] 0
theorem jj(n:Nat)(p1:List aT)(p2:List UInt8)(r:(List UInt8)×Bool)(J:WC n p1 p2=some r):cE prog 97 [.isl false (p1.map aX),.str p2] (.tup [.str r.1,.bool r.2]):=by
 unfold WC at J;refine dF 43 NU ?_;refine gr ?_;refine gr ?_;refine gr ?_;refine cR (tm':=fr 43 [(0,.iM aX p1),(1,.str p2),(6,.iM cS []),(7,.i6 0)]) (Gh.trans (Gh.sub (l':=[(0,.iM aX p1),(1,.str p2),(6,.nils),(7,.i6 0)]) ⟨rfl,rfl,rfl,rfl,trivial⟩) (Gh.wkS (l':=[(0,.iM aX p1),(1,.str p2),(6,.iM cS []),(7,.i6 0)]) (.cons (.refl _) (.cons (.refl _) (.cons (.nil false) (.cons (.refl _) .nil)))))) NZ ?_;refine gL (fun m tm σ=>∃l7 z8,DL p1 p2 n m l7 z8=some r/\tm=fr 43 [(0,.iM aX p1),(1,.str p2),(6,.iM cS l7),(7,.i6 z8)]/\σ=⟨[],0⟩) (fun tm σ=>∃l9,Gq p1 n l9=some r/\tm=fr 43 [(0,.iM aX p1),(6,.iM cS l9)]/\σ=⟨[],0⟩) n ⟨[],0,J,rfl,rfl⟩ ?_ ?_;rintro _ _ ⟨l9,J,rfl,rfl⟩;unfold Gq at J;obtain⟨oH,iP,J⟩:=aB J;refine go ?_;refine aI rfl (pC (jy n p1 l9 oH iP) _) yR ?_;refine gF J ?_ ?_<;>intro eW J;refine go ?_;obtain rfl:=sI J;exact CH rfl rfl rfl rfl rfl;obtain⟨EV,fE,J⟩:=aB J;refine go ?_;refine aP fE ?_;refine go ?_;obtain rfl:=sI J;exact CH rfl rfl rfl rfl rfl;rintro(_|m1) _ _ ⟨l7,z8,J,rfl,rfl⟩;cases J;unfold DL at J;refine gF J ?_ ?_<;>intro gS J;refine go ?_;apply aL;obtain⟨fU,fD,J⟩:=aB J;obtain⟨fO,g8,J⟩:=aB J;refine go ?_;refine aP fD ?_;refine go ?_;refine aI rfl (pC (ji n fU p2 fO g8) _) yV ?_;refine gr ?_;refine dU (fun tm σ=>∃o8,X5 z8 (DL p1 p2 n m1) o8=some r/\tm=fr 43 [(0,.iM aX p1),(1,.str p2),(6,.iM cS o8),(7,.i6 z8)]/\σ=⟨[],0⟩) ?_ ?_;rintro _ _ ⟨o8,J,rfl,rfl⟩;unfold X5 at J;refine go ?_;exact lC ⟨o8,(IntKind.i64.wrap (z8+1)),J,rfl,rfl⟩;refine cF J ?_ ?_<;>intro mC J;obtain⟨lA,rF,J⟩:=aB J;obtain⟨Cb,yE,J⟩:=aB J;refine go ?_;refine aP rF ?_;refine go ?_;refine aI rfl (pC (R6 n l7 lA.Name Cb yE) _) lQ ?_;refine go ?_;exact xC ⟨Cb,J,rfl,rfl⟩;refine go ?_;exact xC ⟨l7,J,rfl,rfl⟩;refine go ?_;exact xC ⟨l7,J,rfl,rfl⟩
def Gt(dG:Int)(jL:Int->Option (Int)): Option (Int):=
 jL (IntKind.i64.wrap (dG+1))
def LB(p1:List aT)(n:Nat)(r2:(List c7)×Int)(r5:(List (List UInt8)))(dG:Int)(jL:Int->Option (Int)):Nat->Int->Option (Int)
 |0,_=>none|m3+1,eX=>
  cond (decide (eX<(r5.length:Int))) (a8 (aC r5 eX) fun oB=>
   a8 (S4 n p1 r2.1 dG oB) fun Ca=>
   a8 (cond Ca.2 (some ((Ca.1.length:Int)==0)) (some false)) fun Ub=>cond Ub (some 11) ((LB p1 n r2 r5 dG jL m3) (IntKind.i64.wrap (eX+1)))) (Gt dG jL)
def Gu: Option (Int):=
 some 0
def BT(p1:List aT)(n:Nat)(r2:(List c7)×Int)(r5:(List (List UInt8))):Nat->Int->Option (Int)
 |0,_=>none|m2+1,dG=>cond (decide (dG<(r2.1.length:Int))) (LB p1 n r2 r5 dG (BT p1 n r2 r5 m2) n 0) (Gu)
def Gv(p1:List aT)(n:Nat)(r2:(List c7)×Int)(r5:(List (List UInt8))): Option (Int):=
 BT p1 n r2 r5 n 0
def LC(p1:List aT)(n:Nat)(r2:(List c7)×Int)(r5:(List (List UInt8))):Nat->Int->Option (Int)
 |0,_=>none|m1+1,dQ=>cond (decide (dQ<(r5.length:Int))) (a8 (aC r5 dQ) fun AF=>a8 (WC n p1 AF) fun K3=>cond (!K3.2) (some 10) ((LC p1 n r2 r5 m1) (IntKind.i64.wrap (dQ+1)))) (Gv p1 n r2 r5)
def G2(n:Nat)(p1:List aT):Option (Int):=
 a8 (DD n p1) fun r2=>cond (r2.2 != 0) (some r2.2) (a8 (L0 n p1) fun r5=>cond (decide ((r5.length:Int)>64)) (some 7) (a8 (XN n p1) fun r8=>cond (r8 != 0) (some r8) (LC p1 n r2 r5 n 0)))
theorem jk(n:Nat)(p1:List aT)(r:Int)(J:G2 n p1=some r):cE prog 86 [.isl false (p1.map aX)] (.int .i64 r):=by
 unfold G2 at J;refine gY 78 NX ?_;obtain⟨r2,h3,J⟩:=aB J;refine go ?_;refine aI rfl (pC (Ge n p1 r2 h3) _) yG ?_;refine gF J ?_ ?_<;>intro h4 J;exact gx J;obtain⟨r5,h6,J⟩:=aB J;refine go ?_;refine aI rfl (pC (Qz n p1 r5 h6) _) EB ?_;refine gF J ?_ ?_<;>intro h7 J;exact gx J;obtain⟨r8,h9,J⟩:=aB J;refine go ?_;refine aI rfl (pC (nk n p1 r8 h9) _) HU ?_;refine gF J ?_ ?_<;>intro fA J;exact gx J;refine go ?_;refine gL (fun m tm σ=>∃dQ,LC p1 n r2 r5 m dQ=some r/\tm=fr 78 [(0,.iM aX p1),(3,.iM dD r2.1),(5,.iM cS r5),(7,.i6 dQ)]/\σ=⟨[],0⟩) (fun tm σ=>Gv p1 n r2 r5=some r/\tm=fr 78 [(0,.iM aX p1),(3,.iM dD r2.1),(5,.iM cS r5)]/\σ=⟨[],0⟩) n ⟨0,J,rfl,rfl⟩ ?_ ?_;rintro _ _ ⟨J,rfl,rfl⟩;unfold Gv at J;refine go ?_;refine gL (fun m tm σ=>∃dG,BT p1 n r2 r5 m dG=some r/\tm=fr 78 [(0,.iM aX p1),(3,.iM dD r2.1),(5,.iM cS r5),(10,.i6 dG)]/\σ=⟨[],0⟩) (fun tm σ=>Gu=some r/\tm=fr 78 []/\σ=⟨[],0⟩) n ⟨0,J,rfl,rfl⟩ ?_ ?_;rintro _ _ ⟨J,rfl,rfl⟩;unfold Gu at J;exact gx J;rintro(_|m2) _ _ ⟨dG,J,rfl,rfl⟩;cases J;unfold BT at J;refine gF J ?_ ?_<;>intro nP J;refine go ?_;apply aL;refine go ?_;refine gL (fun m tm σ=>∃eX,LB p1 n r2 r5 dG (BT p1 n r2 r5 m2) m eX=some r/\tm=fr 78 [(0,.iM aX p1),(3,.iM dD r2.1),(5,.iM cS r5),(10,.i6 dG),(11,.i6 eX)]/\σ=⟨[],0⟩) (fun tm σ=>Gt dG (BT p1 n r2 r5 m2)=some r/\tm=fr 78 [(0,.iM aX p1),(3,.iM dD r2.1),(5,.iM cS r5),(10,.i6 dG)]/\σ=⟨[],0⟩) n ⟨0,J,rfl,rfl⟩ ?_ ?_;rintro _ _ ⟨J,rfl,rfl⟩;unfold Gt at J;refine go ?_;exact lC ⟨_,J,rfl,rfl⟩;rintro(_|m3) _ _ ⟨eX,J,rfl,rfl⟩;cases J;unfold LB at J;refine gF J ?_ ?_<;>intro sP J;refine go ?_;apply aL;obtain⟨oB,qA,J⟩:=aB J;obtain⟨Ca,kA,J⟩:=aB J;refine go ?_;refine aP qA ?_;refine go ?_;refine aI rfl (pC (jz n p1 r2.1 dG oB Ca kA) _) NW ?_;obtain⟨Ub,mU,J⟩:=aB J;refine gn ?_;refine dU (fun tm σ=>tm=fr 78 [(0,.iM aX p1),(3,.iM dD r2.1),(5,.iM cS r5),(10,.i6 dG),(11,.i6 eX),(77,.bool Ub)]/\σ=⟨[],0⟩) ?_ ?_;rintro _ _ ⟨rfl,rfl⟩;refine gF J ?_ ?_<;>intro sN J;exact gx J;refine go ?_;exact lC ⟨_,J,rfl,rfl⟩;refine go ?_;rcases gB mU with⟨sO,mU⟩|⟨sO,mU⟩;exact gy mU;exact gy mU;refine go ?_;exact xC ⟨J,rfl,rfl⟩;refine go ?_;exact xC ⟨J,rfl,rfl⟩;rintro(_|m1) _ _ ⟨dQ,J,rfl,rfl⟩;cases J;unfold LC at J;refine gF J ?_ ?_<;>intro C6 J;refine go ?_;apply aL;obtain⟨AF,sM,J⟩:=aB J;obtain⟨K3,SI,J⟩:=aB J;refine go ?_;refine aP sM ?_;refine go ?_;refine aI rfl (pC (jj n p1 AF K3 SI) _) NU ?_;refine gF J ?_ ?_<;>intro y8 J;exact gx J;refine go ?_;exact lC ⟨_,J,rfl,rfl⟩;refine go ?_;exact xC ⟨J,rfl,rfl⟩
def Gd: Option (Int):=
 some (-1)
def L6(p1:List c7)(n:Nat)(r3:(List Int)):Nat->Int->Option (Int)
 |0,_=>none|m1+1,z8=>cond (decide (z8<(p1.length:Int))) (a8 (aC p1 z8) fun iR=>a8 (G0 n iR.Code r3) fun eY=>cond eY (some z8) ((L6 p1 n r3 m1) (IntKind.i64.wrap (z8+1)))) (Gd)
def W5(n:Nat)(p1:List c7)(p2:List Int):Option (Int):=
 a8 (BP n p2) fun r3=>
 L6 p1 n r3 n 0
theorem dx(n:Nat)(p1:List c7)(p2:List Int)(r:Int)(J:W5 n p1 p2=some r):cE prog 89 [.isl false (p1.map dD),.isl false (p2.map (cI .u64))] (.int .i64 r):=by
 unfold W5 at J;refine dF 23 ZP ?_;obtain⟨r3,h4,J⟩:=aB J;refine go ?_;refine aI rfl (pC (Hm n p2 r3 h4) _) pA ?_;refine go ?_;refine gL (fun m tm σ=>∃z8,L6 p1 n r3 m z8=some r/\tm=fr 23 [(0,.iM dD p1),(5,.iM (cI .u64) r3),(6,.i6 z8)]/\σ=⟨[],0⟩) (fun tm σ=>Gd=some r/\tm=fr 23 []/\σ=⟨[],0⟩) n ⟨0,J,rfl,rfl⟩ ?_ ?_;rintro _ _ ⟨J,rfl,rfl⟩;unfold Gd at J;exact gx J;rintro(_|m1) _ _ ⟨z8,J,rfl,rfl⟩;cases J;unfold L6 at J;refine gF J ?_ ?_<;>intro h9 J;refine go ?_;apply aL;obtain⟨iR,iP,J⟩:=aB J;obtain⟨eY,cX,J⟩:=aB J;refine go ?_;refine aP iP ?_;refine go ?_;refine aI rfl (pC (jb n iR.Code r3 eY cX) _) yT ?_;refine gF J ?_ ?_<;>intro fE J;exact gx J;refine go ?_;exact lC ⟨_,J,rfl,rfl⟩;refine go ?_;exact xC ⟨J,rfl,rfl⟩
def XC(rJ:Int)(jL:Int->(List hZ)->Option ((List (List hZ))×Int))(MH:List hZ):Option ((List (List hZ))×Int):=
 jL (IntKind.i64.wrap (rJ+1)) MH
def Ht(dQ:Int)(dI:List (List hZ))(bT:Int->(List (List hZ))->Option ((List (List hZ))×Int))(DZ:List hZ):Option ((List (List hZ))×Int):=
 aH ((dI.length+1)*24<=140737488355328/\dI.length+1<=140737488355328) (
 bT (IntKind.i64.wrap (dQ+1)) (dI++[DZ]))
def DS(p1:List aT)(n:Nat)(r5:(List c7)×Int)(r7:(List (List UInt8)))(dQ:Int)(dI:List (List hZ))(bT:Int->(List (List hZ))->Option ((List (List hZ))×Int)):Nat->Int->(List hZ)->Option ((List (List hZ))×Int)
 |0,_,_=>none|m2+1,rJ,m9=>
  cond (decide (rJ<(r7.length:Int))) (a8 (aC r7 rJ) fun gK=>
   a8 (S4 n p1 r5.1 dQ gK) fun U2=>cond U2.2 (a8 (W5 n r5.1 U2.1) fun Bz=>
    aH ((m9.length+1)*16<=140737488355328/\m9.length+1<=140737488355328) (
    XC rJ (DS p1 n r5 r7 dQ dI bT m2) (m9++[(hZ.mk rJ Bz)]))) (XC rJ (DS p1 n r5 r7 dQ dI bT m2) m9)) (Ht dQ dI bT m9)
def Hu  (lL:List (List hZ)):Option ((List (List hZ))×Int):=
 some (lL,0)
def wZ(p1:List aT)(n:Nat)(r5:(List c7)×Int)(r7:(List (List UInt8))):Nat->Int->(List (List hZ))->Option ((List (List hZ))×Int)
 |0,_,_=>none|m1+1,dQ,dI=>cond (decide (dQ<(r5.1.length:Int))) (DS p1 n r5 r7 dQ dI (wZ p1 n r5 r7 m1) n 0 ([]:List hZ)) (Hu dI)
def RE(n:Nat)(p1:List aT):Option ((List (List hZ))×Int):=
 a8 (G2 n p1) fun r2=>cond (r2 != 0) (some ([],r2)) (a8 (DD n p1) fun r5=>
  a8 (L0 n p1) fun r7=>
  wZ p1 n r5 r7 n 0 ([]:List (List hZ)))
theorem il(n:Nat)(p1:List aT)(r:(List (List hZ))×Int)(J:RE n p1=some r):cE prog 57 [.isl false (p1.map aX)] (.tup [.isl false (r.1.map (cL lY)),.int .i64 r.2]):=by
 unfold RE at J;refine gY 63 Ab ?_;obtain⟨r2,h3,J⟩:=aB J;refine go ?_;refine aI rfl (pC (jk n p1 r2 h3) _) NX ?_;refine gF J ?_ ?_<;>intro h4 J;refine go ?_;obtain rfl:=sI J;exact rT (us:=[.nils,.i6 r2]) (u:=.tup [.isl false [],.i6 r2]) (dO rfl (dO rfl (dX))) wR;obtain⟨r5,h6,J⟩:=aB J;refine go ?_;refine aI rfl (pC (Ge n p1 r5 h6) _) yG ?_;obtain⟨r7,h8,J⟩:=aB J;refine go ?_;refine aI rfl (pC (Qz n p1 r7 h8) _) EB ?_;refine gr ?_;refine gr ?_;refine gV 8 145 1 1 ?_;refine gL (fun m tm σ=>∃dQ dI kD,wZ p1 n r5 r7 m dQ dI=some r/\tm=fr 63 [(0,.iM aX p1),(5,.iM dD r5.1),(7,.iM cS r7),(8,.vl 0 kD 0 dI.length),(9,.i6 dQ)]/\σ=⟨[(0,.bv (cL lY) dI 145 1 kD)],1⟩) (fun tm σ=>∃lL CG,Hu lL=some r/\tm=fr 63 [(8,.vl 0 CG 0 lL.length)]/\σ=⟨[(0,.bv (cL lY) lL 145 1 CG)],1⟩) n ⟨0,([]:List (List hZ)),0,J,rfl,rfl⟩ ?_ ?_;rintro _ _ ⟨lL,CG,J,rfl,rfl⟩;unfold Hu at J;refine go ?_;obtain rfl:=sI J;exact rT (us:=[.vl 0 CG 0 lL.length,.i6 0]) (u:=.tup [.iM (cL lY) lL,.i6 0]) (dO rfl (dO rfl (dX))) (fR 0 1);rintro(_|m1) _ _ ⟨dQ,dI,kD,J,rfl,rfl⟩;cases J;unfold wZ at J;refine gF J ?_ ?_<;>intro mC J;refine go ?_;apply aL;refine gr ?_;refine gr ?_;refine gV 10 186 2 2 ?_;refine gL (fun m tm σ=>∃rJ m9 w5,DS p1 n r5 r7 dQ dI (wZ p1 n r5 r7 m1) m rJ m9=some r/\tm=fr 63 [(0,.iM aX p1),(5,.iM dD r5.1),(7,.iM cS r7),(8,.vl 0 kD 0 dI.length),(9,.i6 dQ),(10,.vl 1 w5 0 m9.length),(11,.i6 rJ)]/\σ=⟨[(1,.bv lY m9 186 2 w5),(0,.bv (cL lY) dI 145 1 kD)],2⟩) (fun tm σ=>∃DZ Bw,Ht dQ dI (wZ p1 n r5 r7 m1) DZ=some r/\tm=fr 63 [(0,.iM aX p1),(5,.iM dD r5.1),(7,.iM cS r7),(8,.vl 0 kD 0 dI.length),(9,.i6 dQ),(10,.vl 1 Bw 0 DZ.length)]/\σ=⟨[(1,.bv lY DZ 186 2 Bw),(0,.bv (cL lY) dI 145 1 kD)],2⟩) n ⟨0,([]:List hZ),0,J,rfl,rfl⟩ ?_ ?_;rintro _ _ ⟨DZ,Bw,J,rfl,rfl⟩;unfold Ht at J;refine gn ?_;refine cR (tm':=fr 63 [(0,.iM aX p1),(5,.iM dD r5.1),(7,.iM cS r7),(8,.vl 0 kD 0 dI.length),(9,.i6 dQ),(10,.iM lY DZ)]) (σ':=⟨[(0,.bv (cL lY) dI 145 1 kD)],2⟩) (Gh.trans (Gh.sub (l':=[(0,.iM aX p1),(5,.iM dD r5.1),(7,.iM cS r7),(8,.vl 0 kD 0 dI.length),(9,.i6 dQ),(10,.vl 1 Bw 0 DZ.length)]) ⟨rfl,rfl,rfl,rfl,rfl,rfl,trivial⟩) (IH 1 2)) NZ ?_;obtain⟨mU,J⟩:=bU J;refine go ?_;refine bV ?_;refine bV ?_;refine go ?_;exact lC ⟨_,(dI++[DZ]),(kD+1),J,rfl,rfl⟩;rintro(_|m2) _ _ ⟨rJ,m9,w5,J,rfl,rfl⟩;cases J;unfold DS at J;refine gF J ?_ ?_<;>intro sN J;refine go ?_;apply aL;obtain⟨gK,iO,J⟩:=aB J;obtain⟨U2,y9,J⟩:=aB J;refine go ?_;refine aP iO ?_;refine go ?_;refine aI rfl (pC (jz n p1 r5.1 dQ gK U2 y9) _) NW ?_;refine gr ?_;refine dU (fun tm σ=>∃MH P5,XC rJ (DS p1 n r5 r7 dQ dI (wZ p1 n r5 r7 m1) m2) MH=some r/\tm=fr 63 [(0,.iM aX p1),(5,.iM dD r5.1),(7,.iM cS r7),(8,.vl 0 kD 0 dI.length),(9,.i6 dQ),(10,.vl 1 P5 0 MH.length),(11,.i6 rJ)]/\σ=⟨[(1,.bv lY MH 186 2 P5),(0,.bv (cL lY) dI 145 1 kD)],2⟩) ?_ ?_;rintro _ _ ⟨MH,P5,J,rfl,rfl⟩;unfold XC at J;refine go ?_;exact lC ⟨_,MH,P5,J,rfl,rfl⟩;refine cF J ?_ ?_<;>intro SI J;obtain⟨Bz,mT,J⟩:=aB J;obtain⟨vk,J⟩:=bU J;refine go ?_;refine aI rfl (pC (dx n r5.1 U2.1 Bz mT) _) ZP ?_;refine go ?_;refine bV ?_;refine bV ?_;refine go ?_;exact xC ⟨(m9++[(hZ.mk rJ Bz)]),(w5+1),J,rfl,rfl⟩;refine go ?_;exact xC ⟨m9,w5,J,rfl,rfl⟩;refine go ?_;exact xC ⟨m9,w5,J,rfl,rfl⟩;refine go ?_;exact xC ⟨dI,kD,J,rfl,rfl⟩
def XG(z8:Int)(bT:Int->(List Int)->Option ((List Int)))(m9:List Int):Option ((List Int)):=
 bT (IntKind.i64.wrap (z8+1)) m9
def Hv(z8:Int)(l9:List Int)(bT:Int->(List Int)->Option ((List Int)))(Ax:Bool):Option ((List Int)):=
 cond Ax (aH ((l9.length+1)*8<=140737488355328/\l9.length+1<=140737488355328) (
  XG z8 bT (l9++[z8]))) (XG z8 bT l9)
def GA(p1:List c7)(p2:Int)(n:Nat)(z8:Int)(l9:List Int)(bT:Int->(List Int)->Option ((List Int))):Nat->Bool->Int->Option ((List Int))
 |0,_,_=>none|m2+1,OU,rK=>cond (decide (rK<(p1.length:Int))) (a8 (cond OU (cond (rK==p2) (some true) (cond (rK==z8) (some true) (a8 (G6 n p1 z8 rK) fun F9=>cond (!F9) (some true) (a8 (G6 n p1 rK p2) fun AP=>some (!AP))))) (some false)) fun I9=>(GA p1 p2 n z8 l9 bT m2) I9 (IntKind.i64.wrap (rK+1))) (Hv z8 l9 bT OU)
def Hw  (bZ:List Int):Option ((List Int)):=
 some bZ
def tR(p1:List c7)(p2:Int)(n:Nat):Nat->Int->(List Int)->Option ((List Int))
 |0,_,_=>none|m1+1,z8,l9=>cond (decide (z8<(p1.length:Int))) (a8 (cond (z8==p2) (some true) (a8 (G6 n p1 z8 p2) fun nF=>some (!nF))) fun pF=>cond pF ((tR p1 p2 n m1) (IntKind.i64.wrap (z8+1)) l9) (GA p1 p2 n z8 l9 (tR p1 p2 n m1) n true 0)) (Hw l9)
def Fp(n:Nat)(p1:List c7)(p2:Int):Option ((List Int)):=
 tR p1 p2 n n 0 ([]:List Int)
theorem ip(n:Nat)(p1:List c7)(p2:Int)(r:(List Int))(J:Fp n p1 p2=some r):cE prog 59 [.isl false (p1.map dD),.int .i64 p2] (.isl false (r.map (cI .i64))):=by
 unfold Fp at J;refine dF 62 Aa ?_;refine gr ?_;refine gr ?_;refine gr ?_;refine gV 5 3 1 1 ?_;refine gL (fun m tm σ=>∃z8 l9 dL,tR p1 p2 n m z8 l9=some r/\tm=fr 62 [(0,.iM dD p1),(1,.i6 p2),(5,.vl 0 dL 0 l9.length),(6,.i6 z8)]/\σ=⟨tN l9 dL,1⟩) (fun tm σ=>∃bZ fL,Hw bZ=some r/\tm=fr 62 [(5,.vl 0 fL 0 bZ.length)]/\σ=⟨tN bZ fL,1⟩) n ⟨0,([]:List Int),0,J,rfl,rfl⟩ ?_ ?_;rintro _ _ ⟨bZ,fL,J,rfl,rfl⟩;unfold Hw at J;refine go ?_;obtain rfl:=sI J;exact rT (us:=[.vl 0 fL 0 bZ.length]) (u:=.iM (cI .i64) bZ) (dO rfl (dX)) (fR 0 1);rintro(_|m1) _ _ ⟨z8,l9,dL,J,rfl,rfl⟩;cases J;unfold tR at J;refine gF J ?_ ?_<;>intro cX J;refine go ?_;apply aL;obtain⟨pF,cO,J⟩:=aB J;refine gn ?_;refine dU (fun tm σ=>tm=fr 62 [(0,.iM dD p1),(1,.i6 p2),(5,.vl 0 dL 0 l9.length),(6,.i6 z8),(24,.bool pF)]/\σ=⟨tN l9 dL,1⟩) ?_ ?_;rintro _ _ ⟨rfl,rfl⟩;refine gF J ?_ ?_<;>intro g8 J;refine go ?_;exact lC ⟨_,l9,dL,J,rfl,rfl⟩;refine go ?_;refine gL (fun m tm σ=>∃OU rK,GA p1 p2 n z8 l9 (tR p1 p2 n m1) m OU rK=some r/\tm=fr 62 [(0,.iM dD p1),(1,.i6 p2),(5,.vl 0 dL 0 l9.length),(6,.i6 z8),(7,.bool OU),(8,.i6 rK)]/\σ=⟨tN l9 dL,1⟩) (fun tm σ=>∃Ax,Hv z8 l9 (tR p1 p2 n m1) Ax=some r/\tm=fr 62 [(0,.iM dD p1),(1,.i6 p2),(5,.vl 0 dL 0 l9.length),(6,.i6 z8),(7,.bool Ax)]/\σ=⟨tN l9 dL,1⟩) n ⟨true,0,J,rfl,rfl⟩ ?_ ?_;rintro _ _ ⟨Ax,J,rfl,rfl⟩;unfold Hv at J;refine gr ?_;refine dU (fun tm σ=>∃m9 w5,XG z8 (tR p1 p2 n m1) m9=some r/\tm=fr 62 [(0,.iM dD p1),(1,.i6 p2),(5,.vl 0 w5 0 m9.length),(6,.i6 z8)]/\σ=⟨tN m9 w5,1⟩) ?_ ?_;rintro _ _ ⟨m9,w5,J,rfl,rfl⟩;unfold XG at J;refine go ?_;exact lC ⟨_,m9,w5,J,rfl,rfl⟩;refine cF J ?_ ?_<;>intro qA J;obtain⟨sO,J⟩:=bU J;refine go ?_;refine bV ?_;refine bV ?_;refine go ?_;exact xC ⟨(l9++[z8]),(dL+1),J,rfl,rfl⟩;refine go ?_;exact xC ⟨l9,dL,J,rfl,rfl⟩;rintro(_|m2) _ _ ⟨OU,rK,J,rfl,rfl⟩;cases J;unfold GA at J;refine gF J ?_ ?_<;>intro j8 J;refine go ?_;apply aL;obtain⟨I9,iL,J⟩:=aB J;refine gn ?_;refine dU (fun tm σ=>tm=fr 62 [(0,.iM dD p1),(1,.i6 p2),(5,.vl 0 dL 0 l9.length),(6,.i6 z8),(7,.bool I9),(8,.i6 rK)]/\σ=⟨tN l9 dL,1⟩) ?_ ?_;rintro _ _ ⟨rfl,rfl⟩;refine go ?_;exact lC ⟨I9,(IntKind.i64.wrap (rK+1)),J,rfl,rfl⟩;refine go ?_;rcases gB iL with⟨mU,iL⟩|⟨mU,iL⟩;refine go ?_;rcases gB iL with⟨sN,iL⟩|⟨sN,iL⟩;exact gy iL;refine go ?_;rcases gB iL with⟨C6,iL⟩|⟨C6,iL⟩;exact gy iL;obtain⟨F9,sM,iL⟩:=aB iL;refine go ?_;refine aI rfl (pC (Ig n p1 z8 rK F9 sM) _) yF ?_;refine go ?_;rcases gB iL with⟨y9,iL⟩|⟨y9,iL⟩;exact gy iL;obtain⟨AP,y8,iL⟩:=aB iL;obtain rfl:=sI iL;refine go ?_;refine aI rfl (pC (Ig n p1 rK p2 AP y8) _) yF ?_;refine go ?_;exact xC ⟨rfl,rfl⟩;obtain rfl:=sI iL;refine go ?_
 repeat refine RS.no (B1 rfl rfl rfl) rfl rfl ?_
 refine go ?_
 repeat refine RS.no (B1 rfl rfl rfl) rfl rfl ?_
 refine go ?_
 repeat refine RS.no (B1 rfl rfl rfl) rfl rfl ?_
 refine go ?_;exact xC ⟨rfl,rfl⟩;refine go ?_;exact xC ⟨OU,J,rfl,rfl⟩;refine go ?_;rcases gB cO with⟨fE,cO⟩|⟨fE,cO⟩;exact gy cO;obtain⟨nF,rG,cO⟩:=aB cO;obtain rfl:=sI cO;refine go ?_;refine aI rfl (pC (Ig n p1 z8 p2 nF rG) _) yF ?_;refine go ?_;exact xC ⟨rfl,rfl⟩;refine go ?_;exact xC ⟨l9,dL,J,rfl,rfl⟩
def Ij  (lL:List nK):Option ((List nK)×Int):=
 some (lL,0)
def LO(p1:List aT)(n:Nat)(r5:(List c7)×Int)(r7:(List (List UInt8))):Nat->Int->(List nK)->Option ((List nK)×Int)
 |0,_,_=>none|m1+1,dQ,dI=>
  cond (decide (dQ<(r7.length:Int))) (a8 (aC r7 dQ) fun oD=>
   a8 (WC n p1 oD) fun oG=>
   a8 (aC r7 dQ) fun AG=>
   a8 (RC n r5.1 oG.1) fun CJ=>
   aH ((dI.length+1)*24<=140737488355328/\dI.length+1<=140737488355328) ((LO p1 n r5 r7 m1) (IntKind.i64.wrap (dQ+1)) (dI++[(nK.mk AG CJ)]))) (Ij dI)
def X6(n:Nat)(p1:List aT):Option ((List nK)×Int):=
 a8 (G2 n p1) fun r2=>cond (r2 != 0) (some ([],r2)) (a8 (DD n p1) fun r5=>
  a8 (L0 n p1) fun r7=>
  LO p1 n r5 r7 n 0 ([]:List nK))
theorem nh(n:Nat)(p1:List aT)(r:(List nK)×Int)(J:X6 n p1=some r):cE prog 60 [.isl false (p1.map aX)] (.tup [.isl false (r.1.map kS),.int .i64 r.2]):=by
 unfold X6 at J;refine gY 51 ZZ ?_;obtain⟨r2,h3,J⟩:=aB J;refine go ?_;refine aI rfl (pC (jk n p1 r2 h3) _) NX ?_;refine gF J ?_ ?_<;>intro h4 J;refine go ?_;obtain rfl:=sI J;exact rT (us:=[.nils,.i6 r2]) (u:=.tup [.isl false [],.i6 r2]) (dO rfl (dO rfl (dX))) wR;obtain⟨r5,h6,J⟩:=aB J;refine go ?_;refine aI rfl (pC (Ge n p1 r5 h6) _) yG ?_;obtain⟨r7,h8,J⟩:=aB J;refine go ?_;refine aI rfl (pC (Qz n p1 r7 h8) _) EB ?_;refine gr ?_;refine gr ?_;refine gV 8 197 2 1 ?_;refine gL (fun m tm σ=>∃dQ dI kD,LO p1 n r5 r7 m dQ dI=some r/\tm=fr 51 [(0,.iM aX p1),(5,.iM dD r5.1),(7,.iM cS r7),(8,.vl 0 kD 0 dI.length),(9,.i6 dQ)]/\σ=⟨[(0,.bv kS dI 197 2 kD)],1⟩) (fun tm σ=>∃lL CG,Ij lL=some r/\tm=fr 51 [(8,.vl 0 CG 0 lL.length)]/\σ=⟨[(0,.bv kS lL 197 2 CG)],1⟩) n ⟨0,([]:List nK),0,J,rfl,rfl⟩ ?_ ?_;rintro _ _ ⟨lL,CG,J,rfl,rfl⟩;unfold Ij at J;refine go ?_;obtain rfl:=sI J;exact rT (us:=[.vl 0 CG 0 lL.length,.i6 0]) (u:=.tup [.iM kS lL,.i6 0]) (dO rfl (dO rfl (dX))) (fR 0 2);rintro(_|m1) _ _ ⟨dQ,dI,kD,J,rfl,rfl⟩;cases J;unfold LO at J;refine gF J ?_ ?_<;>intro mC J;refine go ?_;apply aL;obtain⟨oD,nO,J⟩:=aB J;obtain⟨oG,kX,J⟩:=aB J;refine go ?_;refine aP nO ?_;refine go ?_;refine aI rfl (pC (jj n p1 oD oG kX) _) NU ?_;obtain⟨AG,jT,J⟩:=aB J;obtain⟨CJ,sP,J⟩:=aB J;obtain⟨mV,J⟩:=bU J;refine go ?_;refine dE [(0,9)] ?_;refine gd ?_;refine bY jT ?_;refine gd ?_;refine gZ rfl (pC (Rc n r5.1 oG.1 CJ sP)) EA ?_;refine gd ?_;refine dT ?_;refine dT ?_;refine gd ?_;refine aZ ⟨by kernel_rfl,⟨lJ rfl,trivial⟩,?_⟩;refine go ?_;exact lC ⟨_,(dI++[(nK.mk AG CJ)]),(kD+1),J,rfl,rfl⟩;refine go ?_;exact xC ⟨dI,kD,J,rfl,rfl⟩
def If(p1:List aT)(n:Nat)(dI:List jH):Option (dY×Int):=
 a8 (X6 n p1) fun fO=>some ((dY.mk dI fO.1),0)
def LM(p1:List aT)(n:Nat)(r2:(List (List hZ))×Int)(r5:(List c7)×Int):Nat->Int->(List jH)->Option (dY×Int)
 |0,_,_=>none|m1+1,vQ,eK=>
  cond (decide (vQ<(r5.1.length:Int))) (a8 (aC r5.1 vQ) fun oD=>
   a8 (aC r5.1 vQ) fun qF=>
   a8 (Fp n r5.1 vQ) fun jV=>
   a8 (aC r2.1 vQ) fun uM=>
   aH ((eK.length+1)*88<=140737488355328/\eK.length+1<=140737488355328) ((LM p1 n r2 r5 m1) (IntKind.i64.wrap (vQ+1)) (eK++[(jH.mk oD.Name qF.Code jV uM)]))) (If p1 n eK)
def DG(n:Nat)(p1:List aT):Option (dY×Int):=
 a8 (RE n p1) fun r2=>cond (r2.2 != 0) (some ((dY.mk [] []),r2.2)) (a8 (DD n p1) fun r5=>LM p1 n r2 r5 n 0 ([]:List jH))
theorem Rg(n:Nat)(p1:List aT)(r:dY×Int)(J:DG n p1=some r):cE prog 32 [.isl false (p1.map aX)] (.tup [.agg (iY r.1),.int .i64 r.2]):=by
 unfold DG at J;refine gY 63 EE ?_;obtain⟨r2,h3,J⟩:=aB J;refine go ?_;refine aI rfl (pC (il n p1 r2 h3) _) Ab ?_;refine gF J ?_ ?_<;>intro h4 J;refine go ?_;obtain rfl:=sI J;exact rT (us:=[.agg [.nils,.nils],.i6 r2.2]) (u:=.tup [.agg [.isl false [],.isl false []],.i6 r2.2]) (qL (pP nD.h rfl (bQ u6.h) rfl rfl rfl) (dO rfl (dX))) wR;obtain⟨r5,h6,J⟩:=aB J;refine go ?_;refine aI rfl (pC (Ge n p1 r5 h6) _) yG ?_;refine gr ?_;refine gr ?_;refine cR (tm':=fr 63 [(0,.iM aX p1),(2,.ptr 0 0 0),(4,.iM (cL lY) r2.1),(6,.iM dD r5.1),(8,.ptr 1 0 0),(9,.i6 0)]) (σ':=⟨[(2,.bv iK ([]:List jH) 147 4 0),(1,.row [.vl 2 0 0 (([]:List jH).length),.nils] 27),(0,.row [.nils,.nils] 27)],3⟩) (Gh.trans (vP 1 0 147 4 (by decide) NZ rfl rfl) (C8 ⟨rfl,rfl,rfl,rfl,rfl,rfl,trivial⟩ rfl)) NZ ?_;refine gL (fun m tm σ=>∃vQ eK AN,LM p1 n r2 r5 m vQ eK=some r/\tm=fr 63 [(0,.iM aX p1),(2,.ptr 0 0 0),(4,.iM (cL lY) r2.1),(6,.iM dD r5.1),(8,.ptr 1 0 0),(9,.i6 vQ)]/\σ=⟨[(2,.bv iK eK 147 4 AN),(1,.row [.vl 2 AN 0 eK.length,.nils] 27),(0,.row [.nils,.nils] 27)],3⟩) (fun tm σ=>∃dI kD,If p1 n dI=some r/\tm=fr 63 [(0,.iM aX p1),(2,.ptr 0 0 0),(8,.ptr 1 0 0)]/\σ=⟨[(2,.bv iK dI 147 4 kD),(1,.row [.vl 2 kD 0 dI.length,.nils] 27),(0,.row [.nils,.nils] 27)],3⟩) n ⟨0,([]:List jH),0,J,rfl,rfl⟩ ?_ ?_;rintro _ _ ⟨dI,kD,J,rfl,rfl⟩;unfold If at J;obtain⟨fO,g8,J⟩:=aB J;refine go ?_;refine aI rfl (pC (nh n p1 fO g8) _) ZZ ?_;refine go ?_;obtain rfl:=sI J;exact rT (us:=[.agg [.vl 2 kD 0 dI.length,.iM kS fO.1],.i6 0]) (u:=.tup [.agg [.iM iK dI,.iM kS fO.1],.i6 0]) (qL (pP nD.h rfl (bQ u6.h) rfl rfl rfl) (dO rfl (dX))) (fR 2 4);rintro(_|m1) _ _ ⟨vQ,eK,AN,J,rfl,rfl⟩;cases J;unfold LM at J;refine gF J ?_ ?_<;>intro mC J;refine go ?_;apply aL;obtain⟨oD,nO,J⟩:=aB J;obtain⟨qF,kX,J⟩:=aB J;obtain⟨jV,jT,J⟩:=aB J;obtain⟨uM,sP,J⟩:=aB J;obtain⟨mV,J⟩:=bU J;refine go ?_;refine dE [(0,20),(1,20)] ?_;refine gd ?_;refine bY nO ?_;refine gd ?_;refine bY kX ?_;refine gd ?_;refine gZ rfl (pC (ip n r5.1 vQ jV jT)) Aa ?_;refine gd ?_;refine bY sP ?_;refine gd ?_;refine dT ?_;refine dT ?_;refine gd ?_;refine pI ?_;refine aZ ⟨by kernel_rfl,⟨qN nD.h rfl (bQ N8.h) rfl rfl rfl,⟨CV vV.h rfl rfl rfl rfl,trivial⟩⟩,?_⟩;refine go ?_;exact lC ⟨_,(eK++[(jH.mk oD.Name qF.Code jV uM)]),(AN+1),J,rfl,rfl⟩;refine go ?_;exact xC ⟨eK,AN,J,rfl,rfl⟩
def Fj(n:Nat): Option (dY):=
 a8 (DG n ([(aT.mk ([116,111,112]) [] ([(jI.mk ([70]) ([116,111,112])),(jI.mk ([71]) ([116,111,112]))])),(aT.mk ([120]) ([[116,111,112]]) []),(aT.mk ([121]) ([[116,111,112]]) [])])) fun r1=>some (dY.mk r1.1.Types r1.1.Feats)
theorem ii(n:Nat)(r:dY)(J:Fj n  = some r):cE prog 34 [] (.agg (iY r)):=by
 unfold Fj at J;refine Tw 17 Ah ?_;obtain⟨r1,h2,J⟩:=aB J;refine go ?_;refine bG (u:=.sl 1 0 2 2) (σ':=⟨qc,2⟩) rfl (wN vX.h GS.h rfl rfl rfl rfl rfl rfl rfl) ?_;refine go ?_;refine bV ?_;refine go ?_;refine bV ?_;refine go ?_;refine bG (u:=.sl 4 0 3 3) (σ':=⟨(4,.row [.str ([116,111,112]),.nils,.sl 1 0 2 2,.str ([120]),.sl 2 0 1 1,.nils,.str ([121]),.sl 3 0 1 1,.nils] 153)::(3,.row [.str ([116,111,112])] 9)::(2,.row [.str ([116,111,112])] 9)::qc,5⟩) rfl (wN TD.h oS.h rfl rfl rfl rfl rfl rfl rfl) (RS.fc rfl (Gh.trans (mF 1 2) (Gh.trans (mF 2 1) (Gh.trans (mF 3 1) (Gh.trans (Gh.rowC 4) (mF 4 3))))) (pC (Rg n ([(aT.mk ([116,111,112]) [] ([(jI.mk ([70]) ([116,111,112])),(jI.mk ([71]) ([116,111,112]))])),(aT.mk ([120]) ([[116,111,112]]) []),(aT.mk ([121]) ([[116,111,112]]) [])]) r1 h2) _) EE ?_);refine go ?_;obtain rfl:=sI J;exact rT (qL (pP nD.h rfl (bQ u6.h) rfl rfl rfl) (dX)) (vN _ rfl)
def Qy(p1:List UInt8)(p2:List UInt8)(cM:List jI):Option (aT):=
 some (aT.mk p1 ([p2]) cM)
def Fz(p1:List UInt8)(p2:List UInt8)(p3:List (List UInt8)):Nat->Int->(List jI)->Option (aT)
 |0,_,_=>none|m1+1,dJ,bW=>
  cond (decide ((IntKind.i64.wrap (dJ+1))<(p3.length:Int))) (a8 (aC p3 dJ) fun uN=>
   a8 (aC p3 (IntKind.i64.wrap (dJ+1))) fun rN=>
   aH ((bW.length+1)*32<=140737488355328/\bW.length+1<=140737488355328) ((Fz p1 p2 p3 m1) (IntKind.i64.wrap (dJ+2)) (bW++[(jI.mk uN rN)]))) (Qy p1 p2 bW)
def Qx(p1:List UInt8)(oQ:List jI):Option (aT):=
 some (aT.mk p1 [] oQ)
def Fy(p1:List UInt8)(p3:List (List UInt8)):Nat->Int->(List jI)->Option (aT)
 |0,_,_=>none|m2+1,jK,mS=>
  cond (decide ((IntKind.i64.wrap (jK+1))<(p3.length:Int))) (a8 (aC p3 jK) fun Kw=>
   a8 (aC p3 (IntKind.i64.wrap (jK+1))) fun gK=>
   aH ((mS.length+1)*32<=140737488355328/\mS.length+1<=140737488355328) ((Fy p1 p3 m2) (IntKind.i64.wrap (jK+2)) (mS++[(jI.mk Kw gK)]))) (Qx p1 mS)
def qT(n:Nat)(p1:List UInt8)(p2:List UInt8)(p3:List (List UInt8)):Option (aT):=
 cond (!gE p2 []) (Fz p1 p2 p3 n 0 ([]:List jI)) (Fy p1 p3 n 0 ([]:List jI))
theorem tQ(n:Nat)(p1:List UInt8)(p2:List UInt8)(p3:List (List UInt8))(r:aT)(J:qT n p1 p2 p3=some r):cE prog 61 [.str p1,.str p2,.isl false (p3.map cS)] (.agg (aX r)):=by
 unfold qT at J;refine EI 39 j9 ?_;refine go ?_;refine bG (u:=.bool (!gE p2 [])) rfl (v7 rfl rfl rfl rfl) ?_;refine gF J ?_ ?_<;>intro h4 J;refine go ?_;refine bV ?_;refine gr ?_;refine cR (tm':=fr 39 [(2,.iM cS p3),(6,.ptr 0 0 0),(7,.ptr 1 0 0),(8,.i6 0)]) (σ':=⟨(3,.bv gG ([]:List jI) 156 2 0)::(2,.row [.str p2] 9)::(1,.row [.str p1,.sl 2 0 1 1,.vl 3 0 0 (([]:List jI).length)] 153)::QQ,4⟩) (Gh.trans (vP 1 2 156 2 (by decide) NZ rfl rfl) (C8 ⟨rfl,rfl,rfl,rfl,trivial⟩ rfl)) NZ ?_;refine gL (fun m tm σ=>∃dJ bW eM,Fz p1 p2 p3 m dJ bW=some r/\tm=fr 39 [(2,.iM cS p3),(6,.ptr 0 0 0),(7,.ptr 1 0 0),(8,.i6 dJ)]/\σ=⟨(3,.bv gG bW 156 2 eM)::(2,.row [.str p2] 9)::(1,.row [.str p1,.sl 2 0 1 1,.vl 3 eM 0 bW.length] 153)::QQ,4⟩) (fun tm σ=>∃cM iS,Qy p1 p2 cM=some r/\tm=fr 39 [(6,.ptr 0 0 0),(7,.ptr 1 0 0)]/\σ=⟨(3,.bv gG cM 156 2 iS)::(2,.row [.str p2] 9)::(1,.row [.str p1,.sl 2 0 1 1,.vl 3 iS 0 cM.length] 153)::QQ,4⟩) n ⟨0,([]:List jI),0,J,rfl,rfl⟩ ?_ ?_;rintro _ _ ⟨cM,iS,J,rfl,rfl⟩;unfold Qy at J;refine go ?_;obtain rfl:=sI J;exact⟨.inr rfl,[.agg [.str p1,.sl 2 0 1 1,.vl 3 iS 0 cM.length]],qL (pP oF.h rfl (bQ oS.h) rfl rfl rfl) (dX),.agg [.str p1,.iM cS ([p2]),.iM gG cM],⟨[],0⟩,zF _,Gh.trans (mF 2 1) (Gh.trans (mF 3 2) (vN (.agg [.str p1,.iM cS ([p2]),.iM gG cM]) rfl)),rfl,BU.h⟩;rintro(_|m1) _ _ ⟨dJ,bW,eM,J,rfl,rfl⟩;cases J;unfold Fz at J;refine gF J ?_ ?_<;>intro fD J;refine go ?_;apply aL;obtain⟨uN,g8,J⟩:=aB J;obtain⟨rN,nP,J⟩:=aB J;obtain⟨nO,J⟩:=bU J;refine go ?_;refine dE [(0,12),(1,12)] ?_;refine gd ?_;refine bY g8 ?_;refine gd ?_;refine bY nP ?_;refine gd ?_;refine dT ?_;refine dT ?_;refine gd ?_;refine pI ?_;refine aZ ⟨by kernel_rfl,⟨qN oF.h rfl (bQ GT.h) rfl rfl rfl,⟨CV vX.h rfl rfl rfl rfl,trivial⟩⟩,?_⟩;refine go ?_;exact lC ⟨_,(bW++[(jI.mk uN rN)]),(eM+1),J,rfl,rfl⟩;refine go ?_;exact xC ⟨bW,eM,J,rfl,rfl⟩;refine gr ?_;refine cR (tm':=fr 39 [(2,.iM cS p3),(6,.ptr 0 0 0),(7,.ptr 1 0 0),(8,.i6 0)]) (σ':=⟨(2,.bv gG ([]:List jI) 156 2 0)::(1,.row [.str p1,.nils,.vl 2 0 0 (([]:List jI).length)] 153)::QQ,3⟩) (Gh.trans (vP 1 2 156 2 (by decide) NZ rfl rfl) (C8 ⟨rfl,rfl,rfl,rfl,trivial⟩ rfl)) NZ ?_;refine gL (fun m tm σ=>∃jK mS AK,Fy p1 p3 m jK mS=some r/\tm=fr 39 [(2,.iM cS p3),(6,.ptr 0 0 0),(7,.ptr 1 0 0),(8,.i6 jK)]/\σ=⟨(2,.bv gG mS 156 2 AK)::(1,.row [.str p1,.nils,.vl 2 AK 0 mS.length] 153)::QQ,3⟩) (fun tm σ=>∃oQ CF,Qx p1 oQ=some r/\tm=fr 39 [(6,.ptr 0 0 0),(7,.ptr 1 0 0)]/\σ=⟨(2,.bv gG oQ 156 2 CF)::(1,.row [.str p1,.nils,.vl 2 CF 0 oQ.length] 153)::QQ,3⟩) n ⟨0,([]:List jI),0,J,rfl,rfl⟩ ?_ ?_;rintro _ _ ⟨oQ,CF,J,rfl,rfl⟩;unfold Qx at J;refine go ?_;obtain rfl:=sI J;exact⟨.inr rfl,[.agg [.str p1,.nils,.vl 2 CF 0 oQ.length]],qL (pP oF.h rfl (bQ oS.h) rfl rfl rfl) (dX),.agg [.str p1,.isl false [],.iM gG oQ],⟨[],0⟩,zF _,Gh.trans (mF 2 2) (Gh.trans (Gh.wk (.cons (.agg (.cons (.refl _) (.cons (.nil false) (.cons (.refl _) .nil)))) .nil)) (vN (.agg [.str p1,.isl false [],.iM gG oQ]) rfl)),rfl,BU.h⟩;rintro(_|m2) _ _ ⟨jK,mS,AK,J,rfl,rfl⟩;cases J;unfold Fy at J;refine gF J ?_ ?_<;>intro j8 J;refine go ?_;apply aL;obtain⟨Kw,sN,J⟩:=aB J;obtain⟨gK,iO,J⟩:=aB J;obtain⟨sM,J⟩:=bU J;refine go ?_;refine dE [(0,12),(1,12)] ?_;refine gd ?_;refine bY sN ?_;refine gd ?_;refine bY iO ?_;refine gd ?_;refine dT ?_;refine dT ?_;refine gd ?_;refine pI ?_;refine aZ ⟨by kernel_rfl,⟨qN oF.h rfl (bQ GT.h) rfl rfl rfl,⟨CV vX.h rfl rfl rfl rfl,trivial⟩⟩,?_⟩;refine go ?_;exact lC ⟨_,(mS++[(jI.mk Kw gK)]),(AK+1),J,rfl,rfl⟩;refine go ?_;exact xC ⟨mS,AK,J,rfl,rfl⟩
def WX(n:Nat): Option ((List aT)):=
 a8 (qT n ([116,111,112]) [] []) fun r1=>
 a8 (qT n ([108,105,115,116]) ([116,111,112]) []) fun r3=>
 a8 (qT n ([99,111,110,115]) ([108,105,115,116]) ([[70,73,82,83,84],[116,111,112],[82,69,83,84],[108,105,115,116]])) fun r5=>
 a8 (qT n ([110,117,108,108]) ([108,105,115,116]) []) fun r7=>
 a8 (qT n ([100,108,105,115,116]) ([116,111,112]) ([[76,73,83,84],[108,105,115,116],[76,65,83,84],[108,105,115,116]])) fun r9=>
 a8 (qT n ([105,110,100,101,120]) ([116,111,112]) []) fun m6=>
 a8 (qT n ([104,97,110,100,108,101]) ([105,110,100,101,120]) []) fun i8=>
 a8 (qT n ([101,118,101,110,116]) ([105,110,100,101,120]) []) fun nF=>
 a8 (qT n ([101,110,116,105,116,121]) ([105,110,100,101,120]) []) fun eO=>
 a8 (qT n ([114,101,108]) ([116,111,112]) ([[76,65,66,69,76],[104,97,110,100,108,101]])) fun uQ=>
 a8 (qT n ([113,101,113]) ([116,111,112]) ([[72,73,71,72],[104,97,110,100,108,101],[76,79,87],[104,97,110,100,108,101]])) fun w9=>
 a8 (qT n ([115,101,109]) ([116,111,112]) ([[84,79,80],[104,97,110,100,108,101],[73,78,68,69,88],[105,110,100,101,120],[82,69,76,83],[100,108,105,115,116],[67,79,78,83],[100,108,105,115,116]])) fun oG=>
 a8 (qT n ([115,105,103,110]) ([116,111,112]) ([[83,69,77],[115,101,109],[65,82,71,83],[108,105,115,116]])) fun jV=>some ([r1,r3,r5,r7,r9,m6,i8,nF,eO,uQ,w9,oG,jV])
theorem iw(n:Nat)(r:(List aT))(J:WX n  = some r):cE prog 33 [] (.isl false (r.map aX)):=by
 unfold WX at J;refine Tw 21 Ai ?_;obtain⟨r1,h2,J⟩:=aB J;obtain⟨r3,h4,J⟩:=aB J;obtain⟨r5,h6,J⟩:=aB J;obtain⟨r7,h8,J⟩:=aB J;obtain⟨r9,fA,J⟩:=aB J;obtain⟨m6,eW,J⟩:=aB J;obtain⟨i8,fE,J⟩:=aB J;obtain⟨nF,rG,J⟩:=aB J;obtain⟨eO,cO,J⟩:=aB J;obtain⟨uQ,mC,J⟩:=aB J;obtain⟨w9,nO,J⟩:=aB J;obtain⟨oG,kX,J⟩:=aB J;obtain⟨jV,jT,J⟩:=aB J;refine go ?_;refine aI rfl (vO (args':=[.str ([116,111,112]),.str [],.isl false []]) (.cons (.refl _) (.cons (.refl _) (.cons (.nil false) .nil))) (pC (tQ n ([116,111,112]) [] [] r1 h2)) _) j9 (aI rfl (vO (args':=[.str ([108,105,115,116]),.str ([116,111,112]),.isl false []]) (.cons (.refl _) (.cons (.refl _) (.cons (.nil false) .nil))) (pC (tQ n ([108,105,115,116]) ([116,111,112]) [] r3 h4)) _) j9 ?_);refine bV ?_;refine RS.fc rfl (mF 0 1) (pC (tQ n ([99,111,110,115]) ([108,105,115,116]) ([[70,73,82,83,84],[116,111,112],[82,69,83,84],[108,105,115,116]]) r5 h6) _) j9 (aI rfl (vO (args':=[.str ([110,117,108,108]),.str ([108,105,115,116]),.isl false []]) (.cons (.refl _) (.cons (.refl _) (.cons (.nil false) .nil))) (pC (tQ n ([110,117,108,108]) ([108,105,115,116]) [] r7 h8)) _) j9 ?_);refine bV ?_;refine RS.fc rfl (mF 1 1) (pC (tQ n ([100,108,105,115,116]) ([116,111,112]) ([[76,73,83,84],[108,105,115,116],[76,65,83,84],[108,105,115,116]]) r9 fA) _) j9 (aI rfl (vO (args':=[.str ([105,110,100,101,120]),.str ([116,111,112]),.isl false []]) (.cons (.refl _) (.cons (.refl _) (.cons (.nil false) .nil))) (pC (tQ n ([105,110,100,101,120]) ([116,111,112]) [] m6 eW)) _) j9 (aI rfl (vO (args':=[.str ([104,97,110,100,108,101]),.str ([105,110,100,101,120]),.isl false []]) (.cons (.refl _) (.cons (.refl _) (.cons (.nil false) .nil))) (pC (tQ n ([104,97,110,100,108,101]) ([105,110,100,101,120]) [] i8 fE)) _) j9 (aI rfl (vO (args':=[.str ([101,118,101,110,116]),.str ([105,110,100,101,120]),.isl false []]) (.cons (.refl _) (.cons (.refl _) (.cons (.nil false) .nil))) (pC (tQ n ([101,118,101,110,116]) ([105,110,100,101,120]) [] nF rG)) _) j9 (aI rfl (vO (args':=[.str ([101,110,116,105,116,121]),.str ([105,110,100,101,120]),.isl false []]) (.cons (.refl _) (.cons (.refl _) (.cons (.nil false) .nil))) (pC (tQ n ([101,110,116,105,116,121]) ([105,110,100,101,120]) [] eO cO)) _) j9 ?_))));refine bV ?_;refine RS.fc rfl (mF 2 1) (pC (tQ n ([114,101,108]) ([116,111,112]) ([[76,65,66,69,76],[104,97,110,100,108,101]]) uQ mC) _) j9 ?_;refine bV ?_;refine RS.fc rfl (mF 3 1) (pC (tQ n ([113,101,113]) ([116,111,112]) ([[72,73,71,72],[104,97,110,100,108,101],[76,79,87],[104,97,110,100,108,101]]) w9 nO) _) j9 (bG (u:=.sl 4 0 8 8) (σ':=⟨[(4,.row [.str ([84,79,80]),.str ([104,97,110,100,108,101]),.str ([73,78,68,69,88]),.str ([105,110,100,101,120]),.str ([82,69,76,83]),.str ([100,108,105,115,116]),.str ([67,79,78,83]),.str ([100,108,105,115,116])] 9)],5⟩) rfl (wN fN.h xX.h rfl rfl rfl rfl rfl rfl rfl) (RS.fc rfl (mF 4 1) (pC (tQ n ([115,101,109]) ([116,111,112]) ([[84,79,80],[104,97,110,100,108,101],[73,78,68,69,88],[105,110,100,101,120],[82,69,76,83],[100,108,105,115,116],[67,79,78,83],[100,108,105,115,116]]) oG kX) _) j9 ?_));refine bV ?_;refine RS.fc rfl (mF 5 1) (pC (tQ n ([115,105,103,110]) ([116,111,112]) ([[83,69,77],[115,101,109],[65,82,71,83],[108,105,115,116]]) jV jT) _) j9 (bG (u:=.sl 6 0 13 13) (σ':=⟨[(6,.row [.str r1.Name,.iM cS r1.Supers,.iM gG r1.Feats,.str r3.Name,.iM cS r3.Supers,.iM gG r3.Feats,.str r5.Name,.iM cS r5.Supers,.iM gG r5.Feats,.str r7.Name,.iM cS r7.Supers,.iM gG r7.Feats,.str r9.Name,.iM cS r9.Supers,.iM gG r9.Feats,.str m6.Name,.iM cS m6.Supers,.iM gG m6.Feats,.str i8.Name,.iM cS i8.Supers,.iM gG i8.Feats,.str nF.Name,.iM cS nF.Supers,.iM gG nF.Feats,.str eO.Name,.iM cS eO.Supers,.iM gG eO.Feats,.str uQ.Name,.iM cS uQ.Supers,.iM gG uQ.Feats,.str w9.Name,.iM cS w9.Supers,.iM gG w9.Feats,.str oG.Name,.iM cS oG.Supers,.iM gG oG.Feats,.str jV.Name,.iM cS jV.Supers,.iM gG jV.Feats] 153)],7⟩) rfl (wN TD.h oS.h rfl rfl rfl rfl rfl rfl rfl) ?_);refine go ?_;obtain rfl:=sI J;exact rT (us:=[.sl 6 0 13 13]) (u:=.iM aX ([r1,r3,r5,r7,r9,m6,i8,nF,eO,uQ,w9,oG,jV])) (dO rfl (dX)) (fR 6 3)
def Ic(z6:Int)(bT:Int->(List Int)->Option ((List Int)))(c9:List Int):Option ((List Int)):=
 bT (IntKind.i64.wrap (z6+1)) c9
def S5(z6:Int)(bT:Int->(List Int)->Option ((List Int)))(lU:bS):Nat->Int->(List Int)->Option ((List Int))
 |0,_,_=>none|m2+1,z25,tZ=>
  cond (decide (z25<(lU.Arcs.length:Int))) (a8 (aC lU.Arcs z25) fun qE=>
   a8 (aC lU.Arcs z25) fun kC=>
   aH ((tZ.length+2)*8<=140737488355328/\tZ.length+2<=140737488355328) ((S5 z6 bT lU m2) (IntKind.i64.wrap (z25+1)) (tZ++[qE.Feat,kC.To]))) (Ic z6 bT tZ)
def Ie  (l9:List Int):Option ((List Int)):=
 some l9
def DT(p1:GFS)(n:Nat):Nat->Int->(List Int)->Option ((List Int))
 |0,_,_=>none|m1+1,z6,l7=>
  cond (decide (z6<(p1.Nodes.length:Int))) (a8 (aC p1.Nodes z6) fun lU=>
   a8 (aC p1.Nodes z6) fun nR=>
   aH ((l7.length+2)*8<=140737488355328/\l7.length+2<=140737488355328) (
   S5 z6 (DT p1 n m1) lU n 0 (l7++[nR.Typex,(lU.Arcs.length:Int)]))) (Ie l7)
def RM(n:Nat)(p1:GFS):Option ((List Int)):=
 DT p1 n n 0 ([(p1.Nodes.length:Int)])
theorem jx(n:Nat)(p1:GFS)(r:(List Int))(J:RM n p1=some r):cE prog 64 [.agg [.isl false (p1.Nodes.map bM)]] (.isl false (r.map (cI .i64))):=by
 unfold RM at J;refine gY 55 NY ?_;refine go ?_;refine RS.step (u:=.vl 1 0 0 ([(p1.Nodes.length:Int)].length)) (σ':=⟨[(1,.bv (cI .i64) ([(p1.Nodes.length:Int)]) 3 1 0),(0,.row [.iM bM p1.Nodes] 39)],2⟩) rfl (dM.bslv (cs:=(List.map (cI .i64) [(p1.Nodes.length:Int)]).flatten) tb_ok rfl eC.h mB.h rfl rfl rfl rfl rfl rfl rfl rfl) rfl rfl ?_;refine go ?_;refine gL (fun m tm σ=>∃z6 l7 t8,DT p1 n m z6 l7=some r/\tm=fr 55 [(1,.ptr 0 0 0),(3,.vl 1 t8 0 l7.length),(4,.i6 z6)]/\σ=⟨QR l7 t8 p1.Nodes,2⟩) (fun tm σ=>∃l9 dL,Ie l9=some r/\tm=fr 55 [(3,.vl 1 dL 0 l9.length)]/\σ=⟨QR l9 dL p1.Nodes,2⟩) n ⟨0,[(p1.Nodes.length:Int)],0,J,rfl,rfl⟩ ?_ ?_;rintro _ _ ⟨l9,dL,J,rfl,rfl⟩;unfold Ie at J;refine go ?_;obtain rfl:=sI J;exact rT (us:=[.vl 1 dL 0 l9.length]) (u:=.iM (cI .i64) l9) (dO rfl (dX)) (fR 1 1);rintro(_|m1) _ _ ⟨z6,l7,t8,J,rfl,rfl⟩;cases J;unfold DT at J;refine gF J ?_ ?_<;>intro iP J;refine go ?_;apply aL;obtain⟨lU,cX,J⟩:=aB J;refine go ?_;refine aP cX ?_;obtain⟨nR,gS,J⟩:=aB J;obtain⟨rG,J⟩:=bU J;refine go ?_;refine aP gS ?_;refine go ?_;refine bV ?_;refine bG (u:=.vl 1 (t8+1) 0 ((l7++[nR.Typex,(lU.Arcs.length:Int)]).length)) (σ':=⟨(2,.row [.i6 nR.Typex,.i6 (lU.Arcs.length:Int)] 3)::QR (l7++[nR.Typex,(lU.Arcs.length:Int)]) (t8+1) p1.Nodes,3⟩) rfl (m8 rfl rfl rfl rfl (tK (cI .i64) ([nR.Typex,(lU.Arcs.length:Int)]) eC.h eC.h mB.h rfl (nY .i64) rfl (vA (cI .i64) [nR.Typex,(lU.Arcs.length:Int)] rfl rfl rfl rfl) rG)) ?_;refine go ?_;refine gL (fun m tm σ=>∃z25 tZ JT,S5 z6 (DT p1 n m1) lU m z25 tZ=some r/\tm=fr 55 [(1,.ptr 0 0 0),(3,.vl 1 JT 0 tZ.length),(4,.i6 z6),(5,.iM c6 lU.Arcs),(6,.i6 z25)]/\σ=⟨(2,.row [.i6 nR.Typex,.i6 (lU.Arcs.length:Int)] 3)::QR tZ JT p1.Nodes,3⟩) (fun tm σ=>∃c9 kK,Ic z6 (DT p1 n m1) c9=some r/\tm=fr 55 [(1,.ptr 0 0 0),(3,.vl 1 kK 0 c9.length),(4,.i6 z6)]/\σ=⟨(2,.row [.i6 nR.Typex,.i6 (lU.Arcs.length:Int)] 3)::QR c9 kK p1.Nodes,3⟩) n ⟨0,(l7++[nR.Typex,(lU.Arcs.length:Int)]),(t8+1),J,rfl,rfl⟩ ?_ ?_;rintro _ _ ⟨c9,kK,J,rfl,rfl⟩;unfold Ic at J;refine go ?_;exact lC ⟨_,c9,kK,J,rfl,rfl⟩;rintro(_|m2) _ _ ⟨z25,tZ,JT,J,rfl,rfl⟩;cases J;unfold S5 at J;refine gF J ?_ ?_<;>intro qA J;refine go ?_;apply aL;obtain⟨qE,kA,J⟩:=aB J;obtain⟨kC,j8,J⟩:=aB J;obtain⟨mU,J⟩:=bU J;refine go ?_;refine dE [(0,11)] ?_;refine gd ?_;refine bY kA ?_;refine gd ?_;refine bY j8 ?_;refine gd ?_;refine dT ?_;refine RD.act (u:=.vl 1 (JT+1) 0 ((tZ++[qE.Feat,kC.To]).length)) (σ':=⟨(3,.row [.i6 qE.Feat,.i6 kC.To] 3)::(2,.row [.i6 nR.Typex,.i6 (lU.Arcs.length:Int)] 3)::QR (tZ++[qE.Feat,kC.To]) (JT+1) p1.Nodes,4⟩) rfl (m8 rfl rfl rfl rfl (tK (cI .i64) ([qE.Feat,kC.To]) eC.h eC.h mB.h rfl (nY .i64) rfl (vA (cI .i64) [qE.Feat,kC.To] rfl rfl rfl rfl) mU)) rfl rfl ?_;refine gd ?_;refine aZ ⟨by kernel_rfl,⟨lJ rfl,trivial⟩,?_⟩;refine go ?_;exact lC ⟨_,(tZ++[qE.Feat,kC.To]),(JT+1),J,rfl,rfl⟩;refine go ?_;exact xC ⟨tZ,JT,J,rfl,rfl⟩;refine go ?_;exact xC ⟨l7,t8,J,rfl,rfl⟩
def XK: Option (Int):=
 some 0
def S6(r3:(List Int))(r5:(List Int)):Nat->Int->Option (Int)
 |0,_=>none|m1+1,dJ=>a8 (cond (decide (dJ<(r3.length:Int))) (some (decide (dJ<(r5.length:Int)))) (some false)) fun pG=>cond pG (a8 (aC r3 dJ) fun AH=>a8 (aC r5 dJ) fun CC=>cond (decide (AH<CC)) (some (-1)) (a8 (aC r3 dJ) fun lA=>a8 (aC r5 dJ) fun SO=>cond (decide (lA>SO)) (some 1) ((S6 r3 r5 m1) (IntKind.i64.wrap (dJ+1))))) (XK)
def WW(n:Nat)(p1:GFS)(p2:GFS):Option (Int):=
 a8 (RM n p1) fun r3=>
 a8 (RM n p2) fun r5=>
 S6 r3 r5 n 0
theorem iv(n:Nat)(p1:GFS)(p2:GFS)(r:Int)(J:WW n p1 p2=some r):cE prog 44 [.agg [.isl false (p1.Nodes.map bM)],.agg [.isl false (p2.Nodes.map bM)]] (.int .i64 r):=by
 unfold WW at J;refine dF 42 Ae ?_;obtain⟨r3,h4,J⟩:=aB J;refine go ?_;refine aI rfl (pC (jx n p1 r3 h4) _) NY ?_;obtain⟨r5,h6,J⟩:=aB J;refine go ?_;refine aI rfl (pC (jx n p2 r5 h6) _) NY ?_;refine go ?_;refine gL (fun m tm σ=>∃dJ,S6 r3 r5 m dJ=some r/\tm=fr 42 [(5,.iM (cI .i64) r3),(6,.iM (cI .i64) r5),(7,.i6 dJ)]/\σ=⟨[(1,.row [.iM bM p2.Nodes] 39),(0,.row [.iM bM p1.Nodes] 39)],2⟩) (fun tm σ=>XK=some r/\tm=fr 42 []/\σ=⟨[(1,.row [.iM bM p2.Nodes] 39),(0,.row [.iM bM p1.Nodes] 39)],2⟩) n ⟨0,J,rfl,rfl⟩ ?_ ?_;rintro _ _ ⟨J,rfl,rfl⟩;unfold XK at J;exact gx J;rintro(_|m1) _ _ ⟨dJ,J,rfl,rfl⟩;cases J;unfold S6 at J;obtain⟨pG,gS,J⟩:=aB J;refine gn ?_;refine dU (fun tm σ=>tm=fr 42 [(5,.iM (cI .i64) r3),(6,.iM (cI .i64) r5),(7,.i6 dJ),(21,.bool pG)]/\σ=⟨[(1,.row [.iM bM p2.Nodes] 39),(0,.row [.iM bM p1.Nodes] 39)],2⟩) ?_ ?_;rintro _ _ ⟨rfl,rfl⟩;refine gF J ?_ ?_<;>intro rG J;refine go ?_;apply aL;obtain⟨AH,cO,J⟩:=aB J;obtain⟨CC,mC,J⟩:=aB J;refine go ?_;refine dE [] ?_;refine gd ?_;refine bY cO ?_;refine gd ?_;refine bY mC ?_;refine gd ?_;refine aZ ⟨by kernel_rfl,trivial,?_⟩;refine gF J ?_ ?_<;>intro nP J;exact gx J;obtain⟨lA,rF,J⟩:=aB J;obtain⟨SO,yE,J⟩:=aB J;refine go ?_;refine dE [] ?_;refine gd ?_;refine bY rF ?_;refine gd ?_;refine bY yE ?_;refine gd ?_;refine aZ ⟨by kernel_rfl,trivial,?_⟩;refine gF J ?_ ?_<;>intro jT J;exact gx J;refine go ?_;exact lC ⟨_,J,rfl,rfl⟩;refine go ?_;exact xC ⟨J,rfl,rfl⟩;refine go ?_;rcases gB gS with⟨cX,gS⟩|⟨cX,gS⟩;exact gy gS;exact gy gS
def G1(n:Nat)(p1:GFS)(p2:GFS):Option (Bool):=
 a8 (WW n p1 p2) fun r3=>some (r3==0)
theorem Qw(n:Nat)(p1:GFS)(p2:GFS)(r:Bool)(J:G1 n p1 p2=some r):cE prog 20 [.agg [.isl false (p1.Nodes.map bM)],.agg [.isl false (p2.Nodes.map bM)]] (.bool r):=by
 unfold G1 at J;refine dF 9 EF ?_;obtain⟨r3,h4,J⟩:=aB J;refine go ?_;refine aI rfl (pC (iv n p1 p2 r3 h4) _) Ae ?_;exact gx J
def QN(n:Nat)(p1:List bS):Option (GFS):=
 some (GFS.mk p1)
theorem Ew(n:Nat)(p1:List bS)(r:GFS)(J:QN n p1=some r):cE prog 35 [.isl false (p1.map bM)] (.agg [.isl false (r.Nodes.map bM)]):=by
 unfold QN at J;refine gY 5 yH ?_;refine go ?_;obtain rfl:=sI J;exact rT (qL (pP nB.h rfl (bQ oR.h) rfl rfl rfl) (dX)) (vN _ rfl)
def Rb(p1:Int)(iF:List bE):Option (bS):=
 some (bS.mk p1 iF)
def Gj(p1:Int)(p2:List Int):Nat->Int->(List bE)->Option (bS)
 |0,_,_=>none|m1+1,z9,gX=>
  cond (decide ((IntKind.i64.wrap (z9+1))<(p2.length:Int))) (a8 (aC p2 z9) fun Ky=>
   a8 (aC p2 (IntKind.i64.wrap (z9+1))) fun AH=>
   aH ((gX.length+1)*16<=140737488355328/\gX.length+1<=140737488355328) ((Gj p1 p2 m1) (IntKind.i64.wrap (z9+2)) (gX++[(bE.mk Ky AH)]))) (Rb p1 gX)
def BM(n:Nat)(p1:Int)(p2:List Int):Option (bS):=
 Gj p1 p2 n 0 ([]:List bE)
theorem G4(n:Nat)(p1:Int)(p2:List Int)(r:bS)(J:BM n p1 p2=some r):cE prog 36 [.int .i64 p1,.isl false (p2.map (cI .i64))] (.agg (bM r)):=by
 unfold BM at J;refine dF 32 nQ ?_;refine gr ?_;refine gr ?_;refine gr ?_;refine cR (tm':=fr 32 [(1,.iM (cI .i64) p2),(4,.ptr 0 0 0),(5,.ptr 1 0 0),(6,.i6 0)]) (σ':=⟨[(2,.bv c6 ([]:List bE) 105 2 0),(1,.row [.i6 p1,.vl 2 0 0 (([]:List bE).length)] 79),(0,.row [.i6 0,.nils] 79)],3⟩) (Gh.trans (vP 1 1 105 2 (by decide) NZ rfl rfl) (C8 ⟨rfl,rfl,rfl,rfl,trivial⟩ rfl)) NZ ?_;refine gL (fun m tm σ=>∃z9 gX w6,Gj p1 p2 m z9 gX=some r/\tm=fr 32 [(1,.iM (cI .i64) p2),(4,.ptr 0 0 0),(5,.ptr 1 0 0),(6,.i6 z9)]/\σ=⟨[(2,.bv c6 gX 105 2 w6),(1,.row [.i6 p1,.vl 2 w6 0 gX.length] 79),(0,.row [.i6 0,.nils] 79)],3⟩) (fun tm σ=>∃iF jE,Rb p1 iF=some r/\tm=fr 32 [(4,.ptr 0 0 0),(5,.ptr 1 0 0)]/\σ=⟨[(2,.bv c6 iF 105 2 jE),(1,.row [.i6 p1,.vl 2 jE 0 iF.length] 79),(0,.row [.i6 0,.nils] 79)],3⟩) n ⟨0,([]:List bE),0,J,rfl,rfl⟩ ?_ ?_;rintro _ _ ⟨iF,jE,J,rfl,rfl⟩;unfold Rb at J;refine go ?_;obtain rfl:=sI J;exact rT (us:=[.agg [.i6 p1,.vl 2 jE 0 iF.length]]) (u:=.agg [.i6 p1,.iM c6 iF]) (qL (pP vT.h rfl (bQ mA.h) rfl rfl rfl) (dX)) (fR 2 2);rintro(_|m1) _ _ ⟨z9,gX,w6,J,rfl,rfl⟩;cases J;unfold Gj at J;refine gF J ?_ ?_<;>intro fE J;refine go ?_;apply aL;obtain⟨Ky,rG,J⟩:=aB J;obtain⟨AH,cO,J⟩:=aB J;obtain⟨g8,J⟩:=bU J;refine go ?_;refine dE [(0,12),(1,12)] ?_;refine gd ?_;refine bY rG ?_;refine gd ?_;refine bY cO ?_;refine gd ?_;refine dT ?_;refine dT ?_;refine gd ?_;refine pI ?_;refine aZ ⟨by kernel_rfl,⟨qN vT.h rfl (bQ N7.h) rfl rfl rfl,⟨CV iJ.h rfl rfl rfl rfl,trivial⟩⟩,?_⟩;refine go ?_;exact lC ⟨_,(gX++[(bE.mk Ky AH)]),(w6+1),J,rfl,rfl⟩;refine go ?_;exact xC ⟨gX,w6,J,rfl,rfl⟩
end Go.Proofs
