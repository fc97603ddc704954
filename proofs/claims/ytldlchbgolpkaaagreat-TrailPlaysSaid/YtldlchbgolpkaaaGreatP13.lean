import Derived.Test.YtldlchbgolpkaaaGreatP12
set_option linter.all false
namespace Go.Proofs
open Go Go.Rx Go.Vx Tryz
instance:TbP prog Tryz.tb:=⟨tb_ok⟩
set_option maxRecDepth 20000
set_option maxHeartbeats 4000000
set_option synthInstance.maxSize 4000
set_option synthInstance.maxHeartbeats 200000
structure jK where
 Feat:Int
 Value:Int
def pI(x:jK):List U:=[.int .i64 x.Feat,.int .i64 x.Value]
instance{a0:Int}{a1:Int}:DeC pI [.int .i64 a0,.int .i64 a1] (jK.mk a0 a1):=⟨rfl⟩
theorem qmq(n:Nat)(x:jK):aG n (pI x):=by
 simp only[pI,aG,aU,true_and,and_true]
theorem quc(x:jK):(pI x).length=2:=rfl
instance:eO pI 2:=⟨quc⟩
instance:BF pI:=⟨qmq⟩
structure dI where
 Name:List UInt8
 Code:List Int
 Supers:List Int
 Feats:List jK
def eM(x:dI):List U:=[.str x.Name,.isl false (x.Code.map (cI .u64)),.isl false (x.Supers.map (cI .i64)),.isl false (x.Feats.map pI)]
instance{a0:List UInt8}{a1:List Int}{a2:List Int}{a3:List jK}:DeC eM [.str a0,.isl false (a1.map (cI .u64)),.isl false (a2.map (cI .i64)),.isl false (a3.map pI)] (dI.mk a0 a1 a2 a3):=⟨rfl⟩
theorem Nw(n:Nat)(x:dI):aG n (eM x):=by
 simp only[eM,aG,aU,true_and,and_true];exact⟨pJ _ (fun q=>UK _ .u64 q) _,pJ _ (fun q=>UK _ .i64 q) _,pJ _ (fun q=>qmq _ q) _⟩
theorem Yo(x:dI):(eM x).length=4:=rfl
instance:eO eM 4:=⟨Yo⟩
instance:BF eM:=⟨Nw⟩
instance(n:Nat)(x:dI):dQ n (eM x):=⟨Nw n x⟩
structure eE where
 Name:List UInt8
 Intro:Int
def fG(x:eE):List U:=[.str x.Name,.int .i64 x.Intro]
instance{a0:List UInt8}{a1:Int}:DeC fG [.str a0,.int .i64 a1] (eE.mk a0 a1):=⟨rfl⟩
theorem Zm(n:Nat)(x:eE):aG n (fG x):=by
 simp only[fG,aG,aU,true_and,and_true]
theorem qrz(x:eE):(fG x).length=2:=rfl
instance:eO fG 2:=⟨qrz⟩
instance:BF fG:=⟨Zm⟩
structure cA where
 Types:List dI
 Feats:List eE
def fB(x:cA):List U:=[.isl false (x.Types.map eM),.isl false (x.Feats.map fG)]
theorem qhb(n:Nat)(x:cA):aG n (fB x):=by
 simp only[fB,aG,aU,true_and,and_true];exact⟨pJ _ (fun q=>Nw _ q) _,pJ _ (fun q=>Zm _ q) _⟩
theorem qop(x:cA):(fB x).length=2:=rfl
instance:eO fB 2:=⟨qop⟩
instance(n:Nat)(x:cA):dQ n (fB x):=⟨qhb n x⟩
theorem qj8(K:Nat)(b:B)(sz:Nat)(x:cA):hJ K b sz (fB x)=fB x:=oN _ _ _ (qhb K x)
structure lY where
 Feat:List UInt8
 Value:List UInt8
def iY(x:lY):List U:=[.str x.Feat,.str x.Value]
instance{a0:List UInt8}{a1:List UInt8}:DeC iY [.str a0,.str a1] (lY.mk a0 a1):=⟨rfl⟩
theorem qj1(n:Nat)(x:lY):aG n (iY x):=by
 simp only[iY,aG,aU,true_and,and_true]
theorem qpw(x:lY):(iY x).length=2:=rfl
instance:eO iY 2:=⟨qpw⟩
instance:BF iY:=⟨qj1⟩
structure bA where
 Name:List UInt8
 Supers:List (List UInt8)
 Feats:List lY
def bF(x:bA):List U:=[.str x.Name,.isl false (x.Supers.map cS),.isl false (x.Feats.map iY)]
theorem qj2(n:Nat)(x:bA):aG n (bF x):=by
 simp only[bF,aG,aU,true_and,and_true];exact⟨pJ _ (fun q=>yd _ q) _,pJ _ (fun q=>qj1 _ q) _⟩
theorem qpx(x:bA):(bF x).length=3:=rfl
instance:eO bF 3:=⟨qpx⟩
instance:BF bF:=⟨qj2⟩
instance(n:Nat)(x:bA):dQ n (bF x):=⟨qj2 n x⟩
structure cR where
 Name:List UInt8
 Code:List Int
instance:Inhabited cR:=⟨.mk default default⟩
def eS(x:cR):List U:=[.str x.Name,.isl false (x.Code.map (cI .u64))]
instance{a0:List UInt8}{a1:List Int}:DeC eS [.str a0,.isl false (a1.map (cI .u64))] (cR.mk a0 a1):=⟨rfl⟩
theorem qo0(n:Nat)(x:cR):aG n (eS x):=by
 simp only[eS,aG,aU,true_and,and_true];exact pJ _ (fun q=>UK _ .u64 q) _
theorem KG(x:cR):(eS x).length=2:=rfl
instance:eO eS 2:=⟨KG⟩
instance:BF eS:=⟨qo0⟩
instance(n:Nat)(x:cR):dQ n (eS x):=⟨qo0 n x⟩
structure aF where
 Feat:Int
 To:Int
def aN(x:aF):List U:=[.int .i64 x.Feat,.int .i64 x.To]
instance{a0:Int}{a1:Int}:DeC aN [.int .i64 a0,.int .i64 a1] (aF.mk a0 a1):=⟨rfl⟩
theorem VC(n:Nat)(x:aF):aG n (aN x):=by
 simp only[aN,aG,aU,true_and,and_true]
theorem o3(x:aF):(aN x).length=2:=rfl
instance:eO aN 2:=⟨o3⟩
instance:BF aN:=⟨VC⟩
instance(n:Nat)(x:aF):dQ n (aN x):=⟨VC n x⟩
structure aI where
 Typex:Int
 Arcs:List aF
def aT(x:aI):List U:=[.int .i64 x.Typex,.isl false (x.Arcs.map aN)]
instance{a0:Int}{a1:List aF}:DeC aT [.int .i64 a0,.isl false (a1.map aN)] (aI.mk a0 a1):=⟨rfl⟩
instance{a0:Int}:DeC aT [.int .i64 a0,.isl false []] (aI.mk a0 []):=⟨rfl⟩
theorem H9(n:Nat)(x:aI):aG n (aT x):=by
 simp only[aT,aG,aU,true_and,and_true];exact pJ _ (fun q=>VC _ q) _
theorem KC(x:aI):(aT x).length=2:=rfl
instance:eO aT 2:=⟨KC⟩
instance:BF aT:=⟨H9⟩
instance(n:Nat)(x:aI):dQ n (aT x):=⟨H9 n x⟩
structure aW where
 Nodes:List aI
def DX(x:aW):List U:=[.isl false (x.Nodes.map aT)]
theorem z62(n:Nat)(x:aW):aG n (DX x):=by
 simp only[DX,aG,aU,true_and,and_true];exact pJ _ (fun q=>H9 _ q) _
theorem z6x(x:aW):(DX x).length=1:=rfl
instance:eO DX 1:=⟨z6x⟩
instance:BF DX:=⟨z62⟩
instance:sL Tryz.tb 27 [.nils,.nils] [(0,1),(1,1)]:=⟨tJ mA.h pW.h rfl (by kernel_rfl)⟩
instance:sL Tryz.tb 40 [.nils] [(0,1)]:=⟨tJ hZ.h lK.h rfl (by kernel_rfl)⟩
instance:sL Tryz.tb 78 [.int .i64 0,.nils] [(0,1),(1,1)]:=⟨tJ qW.h jP.h rfl (by kernel_rfl)⟩
instance:sL Tryz.tb 98 [.int .i64 0,.int .i64 0] [(0,1),(1,1)]:=⟨tJ sN.h iE.h rfl (by kernel_rfl)⟩
instance Jl:sL Tryz.tb 128 [.str [],.nils] [(0,1),(1,1)]:=⟨tJ J7.h oO.h rfl (by kernel_rfl)⟩
instance:sL Tryz.tb 132 [.str [],.nils,.nils,.nils] [(0,1),(1,1),(2,1),(3,1)]:=⟨tJ B0.h CO.h rfl (by kernel_rfl)⟩
instance:sL Tryz.tb 138 [.str [],.nils,.nils] [(0,1),(1,1),(2,1)]:=⟨tJ sO.h tG.h rfl (by kernel_rfl)⟩
instance:sL Tryz.tb 141 [.str [],.str []] [(0,1),(1,1)]:=⟨tJ YT.h LE.h rfl (by kernel_rfl)⟩
instance:sL Tryz.tb 176 [.int .i64 0,.int .i64 0] [(0,1),(1,1)]:=⟨tJ YS.h Gd.h rfl (by kernel_rfl)⟩
instance:sL Tryz.tb 187 [.str [],.int .i64 0] [(0,1),(1,1)]:=⟨tJ YR.h Gc.h rfl (by kernel_rfl)⟩
abbrev JY(a)(b:Nat):=([(1,.bv (cL (cI .u64)) a 126 1 b),(0,.row [] 126)]:List (Nat×B))
abbrev k7(a)(b:Nat):=([(0,.bv cS a 9 1 b)]:List (Nat×B))
abbrev V2(a)(b:Nat)(c):=([(1,.bv (cI .i64) a 3 1 b),(0,.row [.iM aT c] 40)]:List (Nat×B))
abbrev xG(a)(b:Nat):=([(0,.bv (cI .i64) a 3 1 b)]:List (Nat×B))
abbrev V1:=([(0,.row [.str [],.nils,.nils] 138)]:List (Nat×B))
abbrev Ag(a:U)(b)(c)(d:Nat):=([(2,.row [a,.iM (cI .u64) b] 128),(1,.bv eS c 128 2 d)]:List (Nat×B))
abbrev bh:=([(1,.row [.str ([70]),.str ([116,111,112]),.str ([71]),.str ([116,111,112])] 141),(0,.row [.nils,.nils] 27)]:List (Nat×B))
def Qc: Option (Int):=
 some 0
def Q4(p1:List bA):Nat->Int->Option (Int)
 |0,_=>none|m1+1,z5=>cond (decide (z5<(p1.length:Int))) (a7 (a7 (a8 p1 z5) fun x7=>cond (decide ((x7.Supers.length:Int)>256)) (some true) (a7 (a8 p1 z5) fun x10=>some (decide ((x10.Feats.length:Int)>256)))) fun DK=>cond DK (some 7) ((Q4 p1 m1) (IntKind.i64.wrap (z5+1)))) (Qc)
def By(n:Nat)(p1:List bA):Option (Int):=
 cond (decide ((p1.length:Int)>256)) (some 7) (Q4 p1 n 0)
theorem qsk(n:Nat)(p1:List bA)(r:Int)(J:By n p1=some r):cB prog 122 [.isl false (p1.map bF)] (.int .i64 r):=by
 unfold By at J;refine iA 29 MG ?_;refine gF J ?_ ?_<;>intro h2 J;exact gx J;refine go ?_;refine gL (fun m tm σ=>∃z5,Q4 p1 m z5=some r/\tm=fr 29 [(0,.iM bF p1),(3,.i6 z5)]/\σ=⟨[],0⟩) (fun tm σ=>Qc=some r/\tm=fr 29 []/\σ=⟨[],0⟩) n ⟨0,J,rfl,rfl⟩ ?_ ?_;rintro _ _ ⟨J,rfl,rfl⟩;unfold Qc at J;exact gx J;rintro(_|m1) _ _ ⟨z5,J,rfl,rfl⟩;cases J;unfold Q4 at J;refine gF J ?_ ?_<;>intro h6 J;refine go ?_;apply aP;obtain⟨DK,cM,J⟩:=a9 J;refine gn ?_;refine cW (fun tm σ=>tm=fr 29 [(0,.iM bF p1),(3,.i6 z5),(28,.bool DK)]/\σ=⟨[],0⟩) ?_ ?_;rintro _ _ ⟨rfl,rfl⟩;refine gF J ?_ ?_<;>intro fD J;exact gx J;refine go ?_;exact lC ⟨_,J,rfl,rfl⟩;obtain⟨x7,h8,cM⟩:=a9 cM;refine go ?_;refine aS h8 ?_;refine go ?_;rcases gB cM with⟨h9,cM⟩|⟨h9,cM⟩;exact gy cM;obtain⟨x10,fM,cM⟩:=a9 cM;obtain rfl:=sI cM;refine go ?_;refine aS fM ?_;refine go ?_;exact xC ⟨rfl,rfl⟩;refine go ?_;exact xC ⟨J,rfl,rfl⟩
def PQ(n:Nat)(p1:Int):Option (Bool):=
 a7 (cond (decide (p1>=48)) (some (decide (p1<=57))) (some false)) fun b3=>some b3
theorem ql3(n:Nat)(p1:Int)(r:Bool)(J:PQ n p1=some r):cB prog 171 [.int .u8 p1] (.bool r):=by
 unfold PQ at J;refine iA 9 D2 ?_;obtain⟨b3,h4,J⟩:=a9 J;refine gr ?_;refine cW (fun tm σ=>tm=fr 9 [(2,.bool b3)]/\σ=⟨[],0⟩) ?_ ?_;rintro _ _ ⟨rfl,rfl⟩;exact gx J;refine go ?_;rcases gB h4 with⟨h2,h4⟩|⟨h2,h4⟩;exact gy h4;exact gy h4
def Od(n:Nat)(p1:Int):Option (Bool):=
 a7 (cond (decide (p1>=65)) (some (decide (p1<=90))) (some false)) fun b3=>some b3
theorem qsc(n:Nat)(p1:Int)(r:Bool)(J:Od n p1=some r):cB prog 174 [.int .u8 p1] (.bool r):=by
 unfold Od at J;refine iA 9 LV ?_;obtain⟨b3,h4,J⟩:=a9 J;refine gr ?_;refine cW (fun tm σ=>tm=fr 9 [(2,.bool b3)]/\σ=⟨[],0⟩) ?_ ?_;rintro _ _ ⟨rfl,rfl⟩;exact gx J;refine go ?_;rcases gB h4 with⟨h2,h4⟩|⟨h2,h4⟩;exact gy h4;exact gy h4
def Ce(n:Nat)(p1:Int):Option (Bool):=
 a7 (cond (decide (p1>=97)) (some (decide (p1<=122))) (some false)) fun b3=>some b3
theorem ql4(n:Nat)(p1:Int)(r:Bool)(J:Ce n p1=some r):cB prog 175 [.int .u8 p1] (.bool r):=by
 unfold Ce at J;refine iA 9 D1 ?_;obtain⟨b3,h4,J⟩:=a9 J;refine gr ?_;refine cW (fun tm σ=>tm=fr 9 [(2,.bool b3)]/\σ=⟨[],0⟩) ?_ ?_;rintro _ _ ⟨rfl,rfl⟩;exact gx J;refine go ?_;rcases gB h4 with⟨h2,h4⟩|⟨h2,h4⟩;exact gy h4;exact gy h4
def Bn(n:Nat)(p1:Int)(p2:Bool):Option (Bool):=
 a7 (a7 (PQ n p1) fun r3=>cond r3 (some true) (cond (p1==45) (some true) (cond p2 (a7 (Od n p1) fun r8=>cond r8 (some true) (cond (!p2) (a7 (Ce n p1) fun dH=>some dH) (some false))) (cond (!p2) (a7 (Ce n p1) fun oG=>some oG) (some false))))) fun qA=>some qA
theorem qus(n:Nat)(p1:Int)(p2:Bool)(r:Bool)(J:Bn n p1 p2=some r):cB prog 172 [.int .u8 p1,.bool p2] (.bool r):=by
 unfold Bn at J;refine eW 26 LW ?_;obtain⟨qA,cJ,J⟩:=a9 J;refine gr ?_;refine cW (fun tm σ=>tm=fr 26 [(4,.bool qA)]/\σ=⟨[],0⟩) ?_ ?_;rintro _ _ ⟨rfl,rfl⟩;exact gx J;obtain⟨r3,h4,cJ⟩:=a9 cJ;refine go ?_;refine aK rfl (pC (ql3 n p1 r3 h4) _) D2 ?_;refine go ?_;rcases gB cJ with⟨h5,cJ⟩|⟨h5,cJ⟩;obtain rfl:=sI cJ;refine go ?_
 repeat refine RS.no (B9 rfl rfl rfl) rfl rfl ?_
 refine go ?_
 repeat refine RS.no (B9 rfl rfl rfl) rfl rfl ?_
 refine go ?_;exact xC ⟨rfl,rfl⟩;refine go ?_;rcases gB cJ with⟨h6,cJ⟩|⟨h6,cJ⟩;obtain rfl:=sI cJ;refine go ?_
 repeat refine RS.no (B9 rfl rfl rfl) rfl rfl ?_
 refine go ?_
 repeat refine RS.no (B9 rfl rfl rfl) rfl rfl ?_
 refine go ?_;exact xC ⟨rfl,rfl⟩;refine go ?_;rcases gB cJ with⟨h7,cJ⟩|⟨h7,cJ⟩;obtain⟨r8,h9,cJ⟩:=a9 cJ;refine go ?_;refine aK rfl (pC (qsc n p1 r8 h9) _) LV ?_;refine go ?_;rcases gB cJ with⟨eK,cJ⟩|⟨eK,cJ⟩;obtain rfl:=sI cJ;refine go ?_
 repeat refine RS.no (B9 rfl rfl rfl) rfl rfl ?_
 refine go ?_;exact xC ⟨rfl,rfl⟩;refine go ?_;rcases gB cJ with⟨fM,cJ⟩|⟨fM,cJ⟩;obtain⟨dH,cM,cJ⟩:=a9 cJ;obtain rfl:=sI cJ;refine go ?_;refine aK rfl (pC (ql4 n p1 dH cM) _) D1 ?_;refine go ?_;exact xC ⟨rfl,rfl⟩;exact gy cJ;refine go ?_;rcases gB cJ with⟨fD,cJ⟩|⟨fD,cJ⟩;obtain⟨oG,lA,cJ⟩:=a9 cJ;obtain rfl:=sI cJ;refine go ?_;refine aK rfl (pC (ql4 n p1 oG lA) _) D1 ?_;refine go ?_;exact xC ⟨rfl,rfl⟩;exact gy cJ
def Qq: Option (Bool):=
 some true
def Q8(p1:List UInt8)(p2:Bool)(n:Nat):Nat->Int->Option (Bool)
 |0,_=>none|m1+1,cX=>cond (decide (cX<(p1.length:Int))) (a7 (OL p1 cX) fun k9=>a7 (Bn n k9 p2) fun nV=>cond (!nV) (some false) ((Q8 p1 p2 n m1) (IntKind.i64.wrap (cX+1)))) (Qq)
def VL(n:Nat)(p1:List UInt8)(p2:Bool):Option (Bool):=
 a7 (cond (decide ((p1.length:Int)<1)) (some true) (cond (decide ((p1.length:Int)>32)) (some true) (a7 (OL p1 0) fun x5=>a7 (PQ n x5) fun r7=>cond r7 (some true) (a7 (OL p1 0) fun x10=>some (x10==45))))) fun DK=>cond DK (some false) (Q8 p1 p2 n n 0)
theorem ql5(n:Nat)(p1:List UInt8)(p2:Bool)(r:Bool)(J:VL n p1 p2=some r):cB prog 165 [.str p1,.bool p2] (.bool r):=by
 unfold VL at J;refine eW 36 D3 ?_;obtain⟨DK,cM,J⟩:=a9 J;refine gr ?_;refine cW (fun tm σ=>tm=fr 36 [(0,.str p1),(1,.bool p2),(23,.bool DK)]/\σ=⟨[],0⟩) ?_ ?_;rintro _ _ ⟨rfl,rfl⟩;refine gF J ?_ ?_<;>intro fD J;exact gx J;refine go ?_;refine gL (fun m tm σ=>∃cX,Q8 p1 p2 n m cX=some r/\tm=fr 36 [(0,.str p1),(1,.bool p2),(5,.i6 cX)]/\σ=⟨[],0⟩) (fun tm σ=>Qq=some r/\tm=fr 36 []/\σ=⟨[],0⟩) n ⟨0,J,rfl,rfl⟩ ?_ ?_;rintro _ _ ⟨J,rfl,rfl⟩;unfold Qq at J;exact gx J;rintro(_|m1) _ _ ⟨cX,J,rfl,rfl⟩;cases J;unfold Q8 at J;refine go ?_;refine aJ (u:=.i6 (p1.length:Int)) rfl (JS rfl rfl rfl (by simp only[lenU,E9.h])) ?_;refine gF J ?_ ?_<;>intro gD J;refine go ?_;apply aP;obtain⟨k9,jE,J⟩:=a9 J;obtain⟨nV,kZ,J⟩:=a9 J;refine go ?_;refine aJ (u:=.int .u8 k9) rfl (Vw E9.h rfl rfl jE) ?_;refine go ?_;refine aK rfl (pC (qus n k9 p2 nV kZ) _) LW ?_;refine gF J ?_ ?_<;>intro mJ J;exact gx J;refine go ?_;exact lC ⟨_,J,rfl,rfl⟩;refine go ?_;exact xC ⟨J,rfl,rfl⟩;refine go ?_;refine aJ (u:=.i6 (p1.length:Int)) rfl (JS rfl rfl rfl (by simp only[lenU,E9.h])) ?_;refine go ?_;rcases gB cM with⟨h3,cM⟩|⟨h3,cM⟩;exact gy cM;refine go ?_;refine RS.w (u:=.i6 (p1.length:Int)) rfl (JS rfl rfl rfl (by simp only[lenU,E9.h])) ?_;refine go ?_;rcases gB cM with⟨h4,cM⟩|⟨h4,cM⟩;exact gy cM;obtain⟨x5,h6,cM⟩:=a9 cM;obtain⟨r7,h8,cM⟩:=a9 cM;refine go ?_;refine RS.w (u:=.int .u8 x5) rfl (Vw E9.h rfl rfl h6) (aK rfl (pC (ql3 n x5 r7 h8) _) D2 ?_);refine go ?_;rcases gB cM with⟨h9,cM⟩|⟨h9,cM⟩;exact gy cM;obtain⟨x10,fM,cM⟩:=a9 cM;obtain rfl:=sI cM;refine go ?_;refine RS.w (u:=.int .u8 x10) rfl (Vw E9.h rfl rfl fM) ?_;refine go ?_;exact xC ⟨rfl,rfl⟩
def Bo(n:Nat)(p1:List UInt8):Option (Bool):=
 a7 (VL n p1 false) fun r2=>some r2
theorem qur(n:Nat)(p1:List UInt8)(r:Bool)(J:Bo n p1=some r):cB prog 147 [.str p1] (.bool r):=by
 unfold Bo at J;refine iA 5 M3 ?_;obtain⟨r2,h3,J⟩:=a9 J;refine go ?_;refine aK rfl (pC (ql5 n p1 false r2 h3) _) D3 ?_;exact gx J
def Ph: Option (Int):=
 some (-1)
def PV(p1:List bA)(p2:List UInt8):Nat->Int->Option (Int)
 |0,_=>none|m1+1,z6=>cond (decide (z6<(p1.length:Int))) (a7 (a8 p1 z6) fun x8=>cond (iX x8.Name p2) (some z6) ((PV p1 p2 m1) (IntKind.i64.wrap (z6+1)))) (Ph)
def BY(n:Nat)(p1:List bA)(p2:List UInt8):Option (Int):=
 PV p1 p2 n 0
theorem VS(n:Nat)(p1:List bA)(p2:List UInt8)(r:Int)(J:BY n p1 p2=some r):cB prog 148 [.isl false (p1.map bF),.str p2] (.int .i64 r):=by
 unfold BY at J;refine eW 20 oR ?_;refine go ?_;refine gL (fun m tm σ=>∃z6,PV p1 p2 m z6=some r/\tm=fr 20 [(0,.iM bF p1),(1,.str p2),(5,.i6 z6)]/\σ=⟨[],0⟩) (fun tm σ=>Ph=some r/\tm=fr 20 []/\σ=⟨[],0⟩) n ⟨0,J,rfl,rfl⟩ ?_ ?_;rintro _ _ ⟨J,rfl,rfl⟩;unfold Ph at J;exact gx J;rintro(_|m1) _ _ ⟨z6,J,rfl,rfl⟩;cases J;unfold PV at J;refine gF J ?_ ?_<;>intro h7 J;refine go ?_;apply aP;obtain⟨x8,h9,J⟩:=a9 J;refine go ?_;refine aS h9 ?_;refine go ?_;refine aJ (u:=.bool (iX x8.Name p2)) rfl (z0 rfl rfl rfl rfl) ?_;refine gF J ?_ ?_<;>intro eK J;exact gx J;refine go ?_;exact lC ⟨_,J,rfl,rfl⟩;refine go ?_;exact xC ⟨J,rfl,rfl⟩
def Qe: Option (Int):=
 some 0
def Q6(p1:List bA)(n:Nat):Nat->Int->Option (Int)
 |0,_=>none|m1+1,z4=>cond (decide (z4<(p1.length:Int))) (a7 (a8 p1 z4) fun x6=>a7 (Bo n x6.Name) fun r8=>cond (!r8) (some 1) (a7 (a8 p1 z4) fun fH=>a7 (BY n p1 fH.Name) fun dC=>cond (decide (dC<z4)) (some 4) ((Q6 p1 n m1) (IntKind.i64.wrap (z4+1))))) (Qe)
def Ob(n:Nat)(p1:List bA):Option (Int):=
 Q6 p1 n n 0
theorem qsi(n:Nat)(p1:List bA)(r:Int)(J:Ob n p1=some r):cB prog 123 [.isl false (p1.map bF)] (.int .i64 r):=by
 unfold Ob at J;refine iA 26 MF ?_;refine go ?_;refine gL (fun m tm σ=>∃z4,Q6 p1 n m z4=some r/\tm=fr 26 [(0,.iM bF p1),(3,.i6 z4)]/\σ=⟨[],0⟩) (fun tm σ=>Qe=some r/\tm=fr 26 []/\σ=⟨[],0⟩) n ⟨0,J,rfl,rfl⟩ ?_ ?_;rintro _ _ ⟨J,rfl,rfl⟩;unfold Qe at J;exact gx J;rintro(_|m1) _ _ ⟨z4,J,rfl,rfl⟩;cases J;unfold Q6 at J;refine gF J ?_ ?_<;>intro h5 J;refine go ?_;apply aP;obtain⟨x6,h7,J⟩:=a9 J;obtain⟨r8,h9,J⟩:=a9 J;refine go ?_;refine aS h7 ?_;refine go ?_;refine aK rfl (pC (qur n x6.Name r8 h9) _) M3 ?_;refine gF J ?_ ?_<;>intro eK J;exact gx J;obtain⟨fH,dJ,J⟩:=a9 J;obtain⟨dC,fD,J⟩:=a9 J;refine go ?_;refine aS dJ ?_;refine go ?_;refine aK rfl (pC (VS n p1 fH.Name dC fD) _) oR ?_;refine gF J ?_ ?_<;>intro dN J;exact gx J;refine go ?_;exact lC ⟨_,J,rfl,rfl⟩;refine go ?_;exact xC ⟨J,rfl,rfl⟩
def Ql: Option (Bool):=
 some false
def WC(p1:List (List UInt8))(p2:List UInt8):Nat->Int->Option (Bool)
 |0,_=>none|m1+1,z6=>cond (decide (z6<(p1.length:Int))) (a7 (a8 p1 z6) fun x8=>cond (iX x8 p2) (some true) ((WC p1 p2 m1) (IntKind.i64.wrap (z6+1)))) (Ql)
def A7(n:Nat)(p1:List (List UInt8))(p2:List UInt8):Option (Bool):=
 WC p1 p2 n 0
theorem HJ(n:Nat)(p1:List (List UInt8))(p2:List UInt8)(r:Bool)(J:A7 n p1 p2=some r):cB prog 127 [.isl false (p1.map cS),.str p2] (.bool r):=by
 unfold A7 at J;refine eW 18 k8 ?_;refine go ?_;refine gL (fun m tm σ=>∃z6,WC p1 p2 m z6=some r/\tm=fr 18 [(0,.iM cS p1),(1,.str p2),(5,.i6 z6)]/\σ=⟨[],0⟩) (fun tm σ=>Ql=some r/\tm=fr 18 []/\σ=⟨[],0⟩) n ⟨0,J,rfl,rfl⟩ ?_ ?_;rintro _ _ ⟨J,rfl,rfl⟩;unfold Ql at J;exact gx J;rintro(_|m1) _ _ ⟨z6,J,rfl,rfl⟩;cases J;unfold WC at J;refine gF J ?_ ?_<;>intro h7 J;refine go ?_;apply aP;obtain⟨x8,h9,J⟩:=a9 J;refine go ?_;refine aS h9 ?_;refine go ?_;refine aJ (u:=.bool (iX x8 p2)) rfl (z0 rfl rfl rfl rfl) ?_;refine gF J ?_ ?_<;>intro eK J;exact gx J;refine go ?_;exact lC ⟨_,J,rfl,rfl⟩;refine go ?_;exact xC ⟨J,rfl,rfl⟩
def Rb(z4:Int)(bU:Int->Option (Int)): Option (Int):=
 bU (IntKind.i64.wrap (z4+1))
def QC(p1:List bA)(n:Nat)(z4:Int)(bU:Int->Option (Int))(x6:bA):Nat->Int->Option (Int)
 |0,_=>none|m2+1,d9=>
  cond (decide (d9<(x6.Supers.length:Int))) (a7 (a8 x6.Supers d9) fun iN=>
   a7 (BY n p1 iN) fun jH=>cond (decide (jH<0)) (some 5) (a7 (oH x6.Supers 0 d9) fun dD=>
    a7 (a8 x6.Supers d9) fun uK=>
    a7 (A7 n dD uK) fun mN=>cond mN (some 4) ((QC p1 n z4 bU x6 m2) (IntKind.i64.wrap (d9+1))))) (Rb z4 bU)
def Rc: Option (Int):=
 some 0
def F8(p1:List bA)(n:Nat):Nat->Int->Option (Int)
 |0,_=>none|m1+1,z4=>cond (decide (z4<(p1.length:Int))) (a7 (a8 p1 z4) fun x6=>QC p1 n z4 (F8 p1 n m1) x6 n 0) (Rc)
def On(n:Nat)(p1:List bA):Option (Int):=
 F8 p1 n n 0
theorem qq1(n:Nat)(p1:List bA)(r:Int)(J:On n p1=some r):cB prog 124 [.isl false (p1.map bF)] (.int .i64 r):=by
 unfold On at J;refine iA 38 MD ?_;refine go ?_;refine gL (fun m tm σ=>∃z4,F8 p1 n m z4=some r/\tm=fr 38 [(0,.iM bF p1),(3,.i6 z4)]/\σ=⟨[],0⟩) (fun tm σ=>Rc=some r/\tm=fr 38 []/\σ=⟨[],0⟩) n ⟨0,J,rfl,rfl⟩ ?_ ?_;rintro _ _ ⟨J,rfl,rfl⟩;unfold Rc at J;exact gx J;rintro(_|m1) _ _ ⟨z4,J,rfl,rfl⟩;cases J;unfold F8 at J;refine gF J ?_ ?_<;>intro h5 J;refine go ?_;apply aP;obtain⟨x6,h7,J⟩:=a9 J;refine go ?_;refine aS h7 ?_;refine go ?_;refine gL (fun m tm σ=>∃d9,QC p1 n z4 (F8 p1 n m1) x6 m d9=some r/\tm=fr 38 [(0,.iM bF p1),(3,.i6 z4),(4,.iM cS x6.Supers),(5,.i6 d9)]/\σ=⟨[],0⟩) (fun tm σ=>Rb z4 (F8 p1 n m1)=some r/\tm=fr 38 [(0,.iM bF p1),(3,.i6 z4)]/\σ=⟨[],0⟩) n ⟨0,J,rfl,rfl⟩ ?_ ?_;rintro _ _ ⟨J,rfl,rfl⟩;unfold Rb at J;refine go ?_;exact lC ⟨_,J,rfl,rfl⟩;rintro(_|m2) _ _ ⟨d9,J,rfl,rfl⟩;cases J;unfold QC at J;refine gF J ?_ ?_<;>intro cM J;refine go ?_;apply aP;obtain⟨iN,dN,J⟩:=a9 J;obtain⟨jH,eJ,J⟩:=a9 J;refine go ?_;refine aS dN ?_;refine go ?_;refine aK rfl (pC (VS n p1 iN jH eJ) _) oR ?_;refine gF J ?_ ?_<;>intro cJ J;exact gx J;obtain⟨dD,oQ,J⟩:=a9 J;obtain⟨jE,nL⟩:=UI cS .i64 oQ;obtain⟨uK,mJ,J⟩:=a9 J;obtain⟨mN,kY,J⟩:=a9 J;refine go ?_;refine dE [] ?_;refine gd ?_;refine aM (u:=.iM cS dD) rfl (u9 rfl jS (tS rfl) jS (OR cS iF.h (aR CN.h) GK jE nL)) ?_;refine gd ?_;refine bS mJ ?_;refine gd ?_;refine eN rfl (pC (HJ n dD uK mN kY)) k8 ?_;refine aZ ⟨by kernel_rfl,trivial,?_⟩;refine gF J ?_ ?_<;>intro qS J;exact gx J;refine go ?_;exact lC ⟨_,J,rfl,rfl⟩;refine go ?_;exact xC ⟨J,rfl,rfl⟩;refine go ?_;exact xC ⟨J,rfl,rfl⟩
def Qd: Option (Bool):=
 some true
def Q5(p1:bA)(p2:List (List UInt8))(n:Nat):Nat->Int->Option (Bool)
 |0,_=>none|m1+1,z8=>cond (decide (z8<(p1.Supers.length:Int))) (a7 (a8 p1.Supers z8) fun x10=>a7 (A7 n p2 x10) fun dH=>cond (!dH) (some false) ((Q5 p1 p2 n m1) (IntKind.i64.wrap (z8+1)))) (Qd)
def Oa(n:Nat)(p1:bA)(p2:List (List UInt8)):Option (Bool):=
 Q5 p1 p2 n n 0
theorem qsj(n:Nat)(p1:bA)(p2:List (List UInt8))(r:Bool)(J:Oa n p1 p2=some r):cB prog 149 [.agg (bF p1),.isl false (p2.map cS)] (.bool r):=by
 unfold Oa at J;refine eW 21 M2 ?_;refine go ?_;refine gL (fun m tm σ=>∃z8,Q5 p1 p2 n m z8=some r/\tm=fr 21 [(1,.iM cS p2),(2,.ptr 0 0 0),(5,.i6 z8)]/\σ=⟨[(0,.row (bF p1) 138)],1⟩) (fun tm σ=>Qd=some r/\tm=fr 21 []/\σ=⟨[(0,.row (bF p1) 138)],1⟩) n ⟨0,J,rfl,rfl⟩ ?_ ?_;rintro _ _ ⟨J,rfl,rfl⟩;unfold Qd at J;exact gx J;rintro(_|m1) _ _ ⟨z8,J,rfl,rfl⟩;cases J;unfold Q5 at J;refine gF J ?_ ?_<;>intro h9 J;refine go ?_;apply aP;obtain⟨x10,fM,J⟩:=a9 J;obtain⟨dH,cM,J⟩:=a9 J;refine go ?_;refine aS fM ?_;refine go ?_;refine aK rfl (pC (HJ n p2 x10 dH cM) _) k8 ?_;refine gF J ?_ ?_<;>intro fD J;exact gx J;refine go ?_;exact lC ⟨_,J,rfl,rfl⟩;refine go ?_;exact xC ⟨J,rfl,rfl⟩
def Ea(bU:Bool->(List (List UInt8))->Option ((List (List UInt8))))(AG:Bool)(l24:List (List UInt8)):Option ((List (List UInt8))):=
 bU AG l24
def Dz(cZ:Int)(gE:Bool->(List UInt8)->Int->Option ((List (List UInt8))))(TW:List UInt8):Option ((List (List UInt8))):=
 gE true TW (IntKind.i64.wrap (cZ+1))
def Rd(l7:List (List UInt8))(bU:Bool->(List (List UInt8))->Option ((List (List UInt8))))(AG:Bool)(qZ:List UInt8):Option ((List (List UInt8))):=
 cond AG (aB ((l7.length+1)*16<=140737488355328/\l7.length+1<=140737488355328) (
  Ea bU AG (l7++[qZ]))) (Ea bU AG l7)
def F9(p1:List bA)(n:Nat)(l7:List (List UInt8))(bU:Bool->(List (List UInt8))->Option ((List (List UInt8)))):Nat->Bool->(List UInt8)->Int->Option ((List (List UInt8)))
 |0,_,_,_=>none|m2+1,wE,vO,cZ=>cond (decide (cZ<(p1.length:Int))) (a7 (a7 (a8 p1 cZ) fun sM=>a7 (A7 n l7 sM.Name) fun eH=>cond eH (some true) (a7 (a8 p1 cZ) fun n9=>a7 (Oa n n9 l7) fun fV=>some (!fV))) fun TE=>cond TE ((F9 p1 n l7 bU m2) wE vO (IntKind.i64.wrap (cZ+1))) (a7 (cond (!wE) (some true) (a7 (a8 p1 cZ) fun pP=>some (iI pP.Name vO))) fun wD=>cond wD (a7 (a8 p1 cZ) fun x47=>Dz cZ (F9 p1 n l7 bU m2) x47.Name) (Dz cZ (F9 p1 n l7 bU m2) vO))) (Rd l7 bU wE vO)
def Re  (l9:List (List UInt8)):Option ((List (List UInt8))):=
 some l9
def C2(p1:List bA)(n:Nat):Nat->Bool->(List (List UInt8))->Option ((List (List UInt8)))
 |0,_,_=>none|m1+1,b6,l7=>cond b6 (F9 p1 n l7 (C2 p1 n m1) n false [] 0) (Re l7)
def Oo(n:Nat)(p1:List bA):Option ((List (List UInt8))):=
 C2 p1 n n true ([]:List (List UInt8))
theorem qq0(n:Nat)(p1:List bA)(r:(List (List UInt8)))(J:Oo n p1=some r):cB prog 125 [.isl false (p1.map bF)] (.isl false (r.map cS)):=by
 unfold Oo at J;refine iA 52 MC ?_;refine gr ?_;refine gr ?_;refine gr ?_;refine gV 3 9 1 1 ?_;refine gL (fun m tm σ=>∃b6 l7 t8,C2 p1 n m b6 l7=some r/\tm=fr 52 [(0,.iM bF p1),(3,.vl 0 t8 0 l7.length),(4,.bool b6)]/\σ=⟨k7 l7 t8,1⟩) (fun tm σ=>∃l9 bV,Re l9=some r/\tm=fr 52 [(3,.vl 0 bV 0 l9.length)]/\σ=⟨k7 l9 bV,1⟩) n ⟨true,([]:List (List UInt8)),0,J,rfl,rfl⟩ ?_ ?_;rintro _ _ ⟨l9,bV,J,rfl,rfl⟩;unfold Re at J;refine go ?_;obtain rfl:=sI J;exact rT (us:=[.vl 0 bV 0 l9.length]) (u:=.iM cS l9) (d6 rfl (cO)) (fR 0 1);rintro(_|m1) _ _ ⟨b6,l7,t8,J,rfl,rfl⟩;cases J;unfold C2 at J;refine gF J ?_ ?_<;>intro fM J;refine go ?_;apply aP;refine go ?_;refine gL (fun m tm σ=>∃wE vO cZ,F9 p1 n l7 (C2 p1 n m1) m wE vO cZ=some r/\tm=fr 52 [(0,.iM bF p1),(3,.vl 0 t8 0 l7.length),(4,.bool wE),(5,.str vO),(6,.i6 cZ)]/\σ=⟨k7 l7 t8,1⟩) (fun tm σ=>∃AG qZ,Rd l7 (C2 p1 n m1) AG qZ=some r/\tm=fr 52 [(0,.iM bF p1),(3,.vl 0 t8 0 l7.length),(4,.bool AG),(5,.str qZ)]/\σ=⟨k7 l7 t8,1⟩) n ⟨false,[],0,J,rfl,rfl⟩ ?_ ?_;rintro _ _ ⟨AG,qZ,J,rfl,rfl⟩;unfold Rd at J;refine gr ?_;refine cW (fun tm σ=>∃l24 lE,Ea (C2 p1 n m1) AG l24=some r/\tm=fr 52 [(0,.iM bF p1),(3,.vl 0 lE 0 l24.length),(4,.bool AG)]/\σ=⟨k7 l24 lE,1⟩) ?_ ?_;rintro _ _ ⟨l24,lE,J,rfl,rfl⟩;unfold Ea at J;refine go ?_;exact lC ⟨AG,l24,lE,J,rfl,rfl⟩;refine cF J ?_ ?_<;>intro kZ J;obtain⟨kY,J⟩:=cC J;refine go ?_;refine bI ?_;refine bI ?_;refine go ?_;exact xC ⟨(l7++[qZ]),(t8+1),J,rfl,rfl⟩;refine go ?_;exact xC ⟨l7,t8,J,rfl,rfl⟩;rintro(_|m2) _ _ ⟨wE,vO,cZ,J,rfl,rfl⟩;cases J;unfold F9 at J;refine gF J ?_ ?_<;>intro qS J;refine go ?_;apply aP;obtain⟨TE,iK,J⟩:=a9 J;refine gn ?_;refine cW (fun tm σ=>tm=fr 52 [(0,.iM bF p1),(3,.vl 0 t8 0 l7.length),(4,.bool wE),(5,.str vO),(6,.i6 cZ),(29,.bool TE)]/\σ=⟨k7 l7 t8,1⟩) ?_ ?_;rintro _ _ ⟨rfl,rfl⟩;refine gF J ?_ ?_<;>intro pX J;refine go ?_;exact lC ⟨wE,vO,(IntKind.i64.wrap (cZ+1)),J,rfl,rfl⟩;obtain⟨wD,gC,J⟩:=a9 J;refine gn ?_;refine cW (fun tm σ=>tm=fr 52 [(0,.iM bF p1),(3,.vl 0 t8 0 l7.length),(5,.str vO),(6,.i6 cZ),(40,.bool wD)]/\σ=⟨k7 l7 t8,1⟩) ?_ ?_;rintro _ _ ⟨rfl,rfl⟩;refine gn ?_;refine cW (fun tm σ=>∃TW,Dz cZ (F9 p1 n l7 (C2 p1 n m1) m2) TW=some r/\tm=fr 52 [(0,.iM bF p1),(3,.vl 0 t8 0 l7.length),(5,.str TW),(6,.i6 cZ)]/\σ=⟨k7 l7 t8,1⟩) ?_ ?_;rintro _ _ ⟨TW,J,rfl,rfl⟩;unfold Dz at J;refine go ?_;exact lC ⟨true,TW,(IntKind.i64.wrap (cZ+1)),J,rfl,rfl⟩;refine cF J ?_ ?_<;>intro mY J;obtain⟨x47,CV,J⟩:=a9 J;refine go ?_;refine aS CV ?_;refine go ?_;exact xC ⟨x47.Name,J,rfl,rfl⟩;refine go ?_;exact xC ⟨vO,J,rfl,rfl⟩;refine go ?_;rcases gB gC with⟨pK,gC⟩|⟨pK,gC⟩;exact gy gC;obtain⟨pP,nK,gC⟩:=a9 gC;obtain rfl:=sI gC;refine go ?_;refine aS nK ?_;refine go ?_;refine RS.w (u:=.bool (iI pP.Name vO)) rfl (z0 rfl rfl rfl rfl) ?_;refine go ?_;exact xC ⟨rfl,rfl⟩;obtain⟨sM,m6,iK⟩:=a9 iK;obtain⟨eH,pY,iK⟩:=a9 iK;refine go ?_;refine aS m6 ?_;refine go ?_;refine aK rfl (vw (HJ n l7 sM.Name eH pY) (jF 0 1)) k8 ?_;refine go ?_;rcases gB iK with⟨kX,iK⟩|⟨kX,iK⟩;exact gy iK;obtain⟨n9,kW,iK⟩:=a9 iK;obtain⟨fV,rL,iK⟩:=a9 iK;obtain rfl:=sI iK;refine go ?_;refine aS kW ?_;refine go ?_;refine aK rfl (vw (qsj n n9 l7 fV rL) (jF 0 1)) M2 ?_;refine go ?_;exact xC ⟨rfl,rfl⟩;refine go ?_;exact xC ⟨wE,vO,J,rfl,rfl⟩;refine go ?_;exact xC ⟨l7,t8,J,rfl,rfl⟩
def Dp(eY:Int)(bU:Int->Int->Option (Int))(oV:Int):Option (Int):=
 bU oV (IntKind.i64.wrap (eY+1))
def Qh(p1:List bA)(n:Nat)(fW:Int):Option (Int):=
 cond (fW != 1) (some 1) (a7 (Oo n p1) fun dX=>cond (decide ((dX.length:Int)<(p1.length:Int))) (some 6) (some 0))
def HP(p1:List bA)(n:Nat):Nat->Int->Int->Option (Int)
 |0,_,_=>none|m1+1,gN,eY=>cond (decide (eY<(p1.length:Int))) (a7 (a8 p1 eY) fun iB=>cond ((iB.Supers.length:Int)==0) (Dp eY (HP p1 n m1) (IntKind.i64.wrap (gN+1))) (Dp eY (HP p1 n m1) gN)) (Qh p1 n gN)
def Ca(n:Nat)(p1:List bA):Option (Int):=
 a7 (By n p1) fun r2=>cond (r2 != 0) (some r2) (a7 (Ob n p1) fun r5=>cond (r5 != 0) (some r5) (a7 (On n p1) fun r8=>cond (r8 != 0) (some r8) (HP p1 n n 0 0)))
theorem qsh(n:Nat)(p1:List bA)(r:Int)(J:Ca n p1=some r):cB prog 93 [.isl false (p1.map bF)] (.int .i64 r):=by
 unfold Ca at J;refine iA 46 Hq ?_;obtain⟨r2,h3,J⟩:=a9 J;refine go ?_;refine aK rfl (pC (qsk n p1 r2 h3) _) MG ?_;refine gF J ?_ ?_<;>intro h4 J;exact gx J;obtain⟨r5,h6,J⟩:=a9 J;refine go ?_;refine aK rfl (pC (qsi n p1 r5 h6) _) MF ?_;refine gF J ?_ ?_<;>intro h7 J;exact gx J;obtain⟨r8,h9,J⟩:=a9 J;refine go ?_;refine aK rfl (pC (qq1 n p1 r8 h9) _) MD ?_;refine gF J ?_ ?_<;>intro eK J;exact gx J;refine go ?_;refine gL (fun m tm σ=>∃gN eY,HP p1 n m gN eY=some r/\tm=fr 46 [(0,.iM bF p1),(6,.i6 gN),(7,.i6 eY)]/\σ=⟨[],0⟩) (fun tm σ=>∃fW,Qh p1 n fW=some r/\tm=fr 46 [(0,.iM bF p1),(6,.i6 fW)]/\σ=⟨[],0⟩) n ⟨0,0,J,rfl,rfl⟩ ?_ ?_;rintro _ _ ⟨fW,J,rfl,rfl⟩;unfold Qh at J;refine gF J ?_ ?_<;>intro eJ J;exact gx J;obtain⟨dX,gD,J⟩:=a9 J;refine go ?_;refine aK rfl (pC (qq0 n p1 dX gD) _) MC ?_;refine gF J ?_ ?_<;>intro oQ J;exact gx J;exact gx J;rintro(_|m1) _ _ ⟨gN,eY,J,rfl,rfl⟩;cases J;unfold HP at J;refine gF J ?_ ?_<;>intro jE J;refine go ?_;apply aP;obtain⟨iB,kZ,J⟩:=a9 J;refine go ?_;refine aS kZ ?_;refine gn ?_;refine cW (fun tm σ=>∃oV,Dp eY (HP p1 n m1) oV=some r/\tm=fr 46 [(0,.iM bF p1),(6,.i6 oV),(7,.i6 eY)]/\σ=⟨[],0⟩) ?_ ?_;rintro _ _ ⟨oV,J,rfl,rfl⟩;unfold Dp at J;refine go ?_;exact lC ⟨oV,(IntKind.i64.wrap (eY+1)),J,rfl,rfl⟩;refine cF J ?_ ?_<;>intro mJ J;refine go ?_;exact xC ⟨(IntKind.i64.wrap (gN+1)),J,rfl,rfl⟩;refine go ?_;exact xC ⟨gN,J,rfl,rfl⟩;refine go ?_;exact xC ⟨gN,J,rfl,rfl⟩
def Cp(p1:List (List UInt8))(p2:List UInt8)(z7:Int):Option ((List (List UInt8))):=
 a7 (cond (decide (z7<(p1.length:Int))) (a7 (a8 p1 z7) fun x9=>some (iX x9 p2)) (some false)) fun DL=>cond DL (some p1) (a7 (oH p1 0 z7) fun eV=>
  aB (eV.length*16<=140737488355328/\eV.length<=140737488355328) (
  aB ((eV.length+1)*16<=140737488355328/\eV.length+1<=140737488355328) (
  a7 (oH p1 z7 (p1.length:Int)) fun dB=>
  aB (((eV++[p2]).length+dB.length)*16<=140737488355328/\(eV++[p2]).length+dB.length<=140737488355328) (some ((eV++[p2])++dB)))))
def VT(p1:List (List UInt8))(p2:List UInt8):Nat->Int->Option ((List (List UInt8)))
 |0,_=>none|m1+1,z6=>a7 (cond (decide (z6<(p1.length:Int))) (a7 (a8 p1 z6) fun AV=>some (iI AV p2)) (some false)) fun DJ=>cond DJ ((VT p1 p2 m1) (IntKind.i64.wrap (z6+1))) (Cp p1 p2 z6)
def H4(n:Nat)(p1:List (List UInt8))(p2:List UInt8):Option ((List (List UInt8))):=
 VT p1 p2 n 0
theorem VI(n:Nat)(p1:List (List UInt8))(p2:List UInt8)(r:(List (List UInt8)))(J:H4 n p1 p2=some r):cB prog 117 [.isl false (p1.map cS),.str p2] (.isl false (r.map cS)):=by
 unfold H4 at J;refine eW 48 oS ?_;refine go ?_;refine gL (fun m tm σ=>∃z6,VT p1 p2 m z6=some r/\tm=fr 48 [(0,.iM cS p1),(1,.str p2),(5,.nils),(6,.i6 z6)]/\σ=⟨[],0⟩) (fun tm σ=>∃z7,Cp p1 p2 z7=some r/\tm=fr 48 [(0,.iM cS p1),(1,.str p2),(5,.nils),(6,.i6 z7)]/\σ=⟨[],0⟩) n ⟨0,J,rfl,rfl⟩ ?_ ?_;rintro _ _ ⟨z7,J,rfl,rfl⟩;unfold Cp at J;obtain⟨DL,dJ,J⟩:=a9 J;refine gn ?_;refine cW (fun tm σ=>tm=fr 48 [(0,.iM cS p1),(1,.str p2),(5,.nils),(6,.i6 z7),(32,.bool DL)]/\σ=⟨[],0⟩) ?_ ?_;rintro _ _ ⟨rfl,rfl⟩;refine gF J ?_ ?_<;>intro cM J;exact gx J;obtain⟨eV,dN,J⟩:=a9 J;obtain⟨lA,eJ⟩:=UI cS .i64 dN;obtain⟨cJ,J⟩:=cC J;refine go ?_;refine aJ (u:=.iM cS eV) rfl (u9 rfl jS (tS rfl) jS (OR cS iF.h (aR CN.h) GK lA eJ)) (aJ (u:=.vl 0 0 0 eV.length) (σ':=⟨[(0,.bv cS eV 9 1 0)],1⟩) rfl (pV rfl rfl rfl rfl (Wg cS eV iF.h iF.h CN.h rfl (zR cS GK) cJ)) ?_);obtain⟨gD,J⟩:=cC J;refine go ?_;refine bI ?_;refine bI ?_;obtain⟨dB,jE,J⟩:=a9 J;obtain⟨nL,kZ⟩:=ST cS .i64 jE;obtain⟨mJ,J⟩:=cC J;refine go ?_;refine aJ (u:=.iM cS dB) rfl (u9 rfl (tS rfl) jS jS (OR cS iF.h (aR CN.h) GK nL kZ)) ?_;refine bI ?_;refine go ?_;obtain rfl:=sI J;exact rT (us:=[.vl 0 2 0 (((eV++[p2])++dB).length)]) (u:=.iM cS ((eV++[p2])++dB)) (d6 rfl (cO)) (fR 0 1);refine go ?_;rcases gB dJ with⟨h8,dJ⟩|⟨h8,dJ⟩;obtain⟨x9,eK,dJ⟩:=a9 dJ;obtain rfl:=sI dJ;refine go ?_;refine aS eK ?_;refine go ?_;refine RS.w (u:=.bool (iX x9 p2)) rfl (z0 rfl rfl rfl rfl) ?_;refine go ?_;exact xC ⟨rfl,rfl⟩;exact gy dJ;rintro(_|m1) _ _ ⟨z6,J,rfl,rfl⟩;cases J;unfold VT at J;obtain⟨DJ,m6,J⟩:=a9 J;refine gn ?_;refine cW (fun tm σ=>tm=fr 48 [(0,.iM cS p1),(1,.str p2),(5,.nils),(6,.i6 z6),(18,.bool DJ)]/\σ=⟨[],0⟩) ?_ ?_;rintro _ _ ⟨rfl,rfl⟩;refine gF J ?_ ?_<;>intro pL J;refine go ?_;apply aP;refine go ?_;exact lC ⟨_,J,rfl,rfl⟩;refine go ?_;exact xC ⟨z6,J,rfl,rfl⟩;refine go ?_;rcases gB m6 with⟨mZ,m6⟩|⟨mZ,m6⟩;obtain⟨AV,qS,m6⟩:=a9 m6;obtain rfl:=sI m6;refine go ?_;refine aS qS ?_;refine go ?_;refine RS.w (u:=.bool (iI AV p2)) rfl (z0 rfl rfl rfl rfl) ?_;refine go ?_;exact xC ⟨rfl,rfl⟩;exact gy m6
def Qg  (l7:List (List UInt8)):Option ((List (List UInt8))):=
 some l7
def Q7(p1:List bA)(n:Nat):Nat->(List (List UInt8))->Int->Option ((List (List UInt8)))
 |0,_,_=>none|m1+1,l5,z6=>cond (decide (z6<(p1.length:Int))) (a7 (a8 p1 z6) fun x9=>a7 (H4 n l5 x9.Name) fun nF=>(Q7 p1 n m1) nF (IntKind.i64.wrap (z6+1))) (Qg l5)
def Bz(n:Nat)(p1:List bA):Option ((List (List UInt8))):=
 Q7 p1 n n [] 0
theorem ql8(n:Nat)(p1:List bA)(r:(List (List UInt8)))(J:Bz n p1=some r):cB prog 94 [.isl false (p1.map bF)] (.isl false (r.map cS)):=by
 unfold Bz at J;refine iA 19 S7 ?_;refine gr ?_;refine gr ?_;refine gr ?_;refine bX (tm':=fr 19 [(0,.iM bF p1),(3,.iM cS []),(4,.i6 0)]) (Gh.trans (Gh.sub (l':=[(0,.iM bF p1),(3,.nils),(4,.i6 0)]) ⟨rfl,rfl,rfl,trivial⟩) (Gh.wkS (l':=[(0,.iM bF p1),(3,.iM cS []),(4,.i6 0)]) (.cons (.refl _) (.cons (.nil false) (.cons (.refl _) .nil))))) NZ ?_;refine gL (fun m tm σ=>∃l5 z6,Q7 p1 n m l5 z6=some r/\tm=fr 19 [(0,.iM bF p1),(3,.iM cS l5),(4,.i6 z6)]/\σ=⟨[],0⟩) (fun tm σ=>∃l7,Qg l7=some r/\tm=fr 19 [(3,.iM cS l7)]/\σ=⟨[],0⟩) n ⟨[],0,J,rfl,rfl⟩ ?_ ?_;rintro _ _ ⟨l7,J,rfl,rfl⟩;unfold Qg at J;exact gx J;rintro(_|m1) _ _ ⟨l5,z6,J,rfl,rfl⟩;cases J;unfold Q7 at J;refine gF J ?_ ?_<;>intro h8 J;refine go ?_;apply aP;obtain⟨x9,eK,J⟩:=a9 J;obtain⟨nF,dJ,J⟩:=a9 J;refine go ?_;refine aS eK ?_;refine go ?_;refine aK rfl (pC (VI n l5 x9.Name nF dJ) _) oS ?_;refine go ?_;exact lC ⟨nF,(IntKind.i64.wrap (z6+1)),J,rfl,rfl⟩;refine go ?_;exact xC ⟨l5,J,rfl,rfl⟩
def Qj  (iR:List (List UInt8)):Option ((List (List UInt8))):=
 some iR
def KM(n:Nat)(bN:List (List UInt8)):Nat->(List (List UInt8))->Int->Option ((List (List UInt8)))
 |0,_,_=>none|m2+1,dD,cZ=>cond (decide (cZ<(bN.length:Int))) (a7 (a8 bN cZ) fun uK=>a7 (H4 n dD uK) fun mN=>(KM n bN m2) mN (IntKind.i64.wrap (cZ+1))) (Qj dD)
def Dq(nQ:Int)(OI:Int->(List (List UInt8))->Option ((List (List UInt8))))(lZ:List (List UInt8)):Option ((List (List UInt8))):=
 OI (IntKind.i64.wrap (nQ+1)) lZ
def Qi(cP:Int)(bU:Int->(List (List UInt8))->Option ((List (List UInt8))))(kT:List (List UInt8)):Option ((List (List UInt8))):=
 bU (IntKind.i64.wrap (cP+1)) kT
def HQ(p1:List bA)(n:Nat)(cP:Int)(bU:Int->(List (List UInt8))->Option ((List (List UInt8)))):Nat->Int->(List (List UInt8))->Option ((List (List UInt8)))
 |0,_,_=>none|m3+1,nQ,iJ=>
  cond (decide (nQ<(p1.length:Int))) (a7 (a7 (a8 p1 nQ) fun x39=>
   a7 (a8 iJ cP) fun pP=>
   a7 (A7 n x39.Supers pP) fun Vi=>cond Vi (a7 (a8 p1 nQ) fun J0=>
    a7 (A7 n iJ J0.Name) fun JK=>some (!JK)) (some false)) fun xx=>cond xx (a7 (a8 p1 nQ) fun IY=>
    aB ((iJ.length+1)*16<=140737488355328/\iJ.length+1<=140737488355328) (
    Dq nQ (HQ p1 n cP bU m3) (iJ++[IY.Name]))) (Dq nQ (HQ p1 n cP bU m3) iJ)) (Qi cP bU iJ)
def Qk(n:Nat)(bN:List (List UInt8)):Option ((List (List UInt8))):=
 KM n bN n [] 0
def F5(p1:List bA)(n:Nat):Nat->Int->(List (List UInt8))->Option ((List (List UInt8)))
 |0,_,_=>none|m1+1,cP,cH=>cond (decide (cP<(cH.length:Int))) (HQ p1 n cP (F5 p1 n m1) n 0 cH) (Qk n cH)
def Cb(n:Nat)(p1:List bA)(p2:List UInt8):Option ((List (List UInt8))):=
 a7 (BY n p1 p2) fun r3=>cond (decide (r3<0)) (some []) (F5 p1 n n 0 ([p2]))
theorem qsg(n:Nat)(p1:List bA)(p2:List UInt8)(r:(List (List UInt8)))(J:Cb n p1 p2=some r):cB prog 126 [.isl false (p1.map bF),.str p2] (.isl false (r.map cS)):=by
 unfold Cb at J;refine eW 69 MB ?_;obtain⟨r3,h4,J⟩:=a9 J;refine go ?_;refine aK rfl (pC (VS n p1 p2 r3 h4) _) oR ?_;refine gF J ?_ ?_<;>intro h5 J;refine go ?_;obtain rfl:=sI J;exact rT (us:=[.nils]) (u:=.isl false []) (d6 rfl (cO)) wR;refine go ?_;refine RS.step (u:=.vl 0 0 0 ([p2].length)) (σ':=⟨[(0,.bv cS ([p2]) 9 1 0)],1⟩) rfl (BJ.bslv (cs:=(List.map cS [p2]).flatten) tb_ok rfl iF.h CN.h rfl rfl rfl rfl rfl rfl rfl rfl) rfl rfl ?_;refine go ?_;refine gL (fun m tm σ=>∃cP cH eP,F5 p1 n m cP cH=some r/\tm=fr 69 [(0,.iM bF p1),(5,.vl 0 eP 0 cH.length),(6,.i6 cP)]/\σ=⟨k7 cH eP,1⟩) (fun tm σ=>∃bN eL,Qk n bN=some r/\tm=fr 69 [(5,.vl 0 eL 0 bN.length)]/\σ=⟨k7 bN eL,1⟩) n ⟨0,[p2],0,J,rfl,rfl⟩ ?_ ?_;rintro _ _ ⟨bN,eL,J,rfl,rfl⟩;unfold Qk at J;refine gr ?_;refine gr ?_;refine bX (tm':=fr 69 [(5,.vl 0 eL 0 bN.length),(8,.iM cS []),(9,.i6 0)]) (Gh.trans (Gh.sub (l':=[(5,.vl 0 eL 0 bN.length),(8,.nils),(9,.i6 0)]) ⟨rfl,rfl,rfl,trivial⟩) (Gh.wkS (l':=[(5,.vl 0 eL 0 bN.length),(8,.iM cS []),(9,.i6 0)]) (.cons (.refl _) (.cons (.nil false) (.cons (.refl _) .nil))))) NZ ?_;refine gL (fun m tm σ=>∃dD cZ,KM n bN m dD cZ=some r/\tm=fr 69 [(5,.vl 0 eL 0 bN.length),(8,.iM cS dD),(9,.i6 cZ)]/\σ=⟨k7 bN eL,1⟩) (fun tm σ=>∃iR,Qj iR=some r/\tm=fr 69 [(8,.iM cS iR)]/\σ=⟨k7 bN eL,1⟩) n ⟨[],0,J,rfl,rfl⟩ ?_ ?_;rintro _ _ ⟨iR,J,rfl,rfl⟩;unfold Qj at J;exact gx J;rintro(_|m2) _ _ ⟨dD,cZ,J,rfl,rfl⟩;cases J;unfold KM at J;refine gF J ?_ ?_<;>intro nL J;refine go ?_;apply aP;obtain⟨uK,mJ,J⟩:=a9 J;obtain⟨mN,kY,J⟩:=a9 J;refine go ?_;refine aJ rfl (d7 rfl rfl (fJ cS iF.h (aR CN.h) (by decide) GK (vo rfl) mJ)) ?_;refine aJ rfl (u7 cS (fun x=>.str x) E9.h rfl (fun _=>rfl) rfl rfl mJ) (aK rfl (pC (VI n dD uK mN kY) _) oS ?_);refine go ?_;exact lC ⟨mN,(IntKind.i64.wrap (cZ+1)),J,rfl,rfl⟩;refine go ?_;exact xC ⟨dD,J,rfl,rfl⟩;rintro(_|m1) _ _ ⟨cP,cH,eP,J,rfl,rfl⟩;cases J;unfold F5 at J;refine gF J ?_ ?_<;>intro qS J;refine go ?_;apply aP;refine go ?_;refine gL (fun m tm σ=>∃nQ iJ pS,HQ p1 n cP (F5 p1 n m1) m nQ iJ=some r/\tm=fr 69 [(0,.iM bF p1),(5,.vl 0 pS 0 iJ.length),(6,.i6 cP),(7,.i6 nQ)]/\σ=⟨k7 iJ pS,1⟩) (fun tm σ=>∃kT vJ,Qi cP (F5 p1 n m1) kT=some r/\tm=fr 69 [(0,.iM bF p1),(5,.vl 0 vJ 0 kT.length),(6,.i6 cP)]/\σ=⟨k7 kT vJ,1⟩) n ⟨0,cH,eP,J,rfl,rfl⟩ ?_ ?_;rintro _ _ ⟨kT,vJ,J,rfl,rfl⟩;unfold Qi at J;refine go ?_;exact lC ⟨_,kT,vJ,J,rfl,rfl⟩;rintro(_|m3) _ _ ⟨nQ,iJ,pS,J,rfl,rfl⟩;cases J;unfold HQ at J;refine gF J ?_ ?_<;>intro iK J;refine go ?_;apply aP;obtain⟨xx,sH,J⟩:=a9 J;refine gn ?_;refine cW (fun tm σ=>tm=fr 69 [(0,.iM bF p1),(5,.vl 0 pS 0 iJ.length),(6,.i6 cP),(7,.i6 nQ),(47,.bool xx)]/\σ=⟨k7 iJ pS,1⟩) ?_ ?_;rintro _ _ ⟨rfl,rfl⟩;refine gn ?_;refine cW (fun tm σ=>∃lZ Kr,Dq nQ (HQ p1 n cP (F5 p1 n m1) m3) lZ=some r/\tm=fr 69 [(0,.iM bF p1),(5,.vl 0 Kr 0 lZ.length),(6,.i6 cP),(7,.i6 nQ)]/\σ=⟨k7 lZ Kr,1⟩) ?_ ?_;rintro _ _ ⟨lZ,Kr,J,rfl,rfl⟩;unfold Dq at J;refine go ?_;exact lC ⟨_,lZ,Kr,J,rfl,rfl⟩;refine cF J ?_ ?_<;>intro xY J;obtain⟨IY,CU,J⟩:=a9 J;obtain⟨RZ,J⟩:=cC J;refine go ?_;refine aS CU ?_;refine go ?_;refine bI ?_;refine bI ?_;refine go ?_;exact xC ⟨(iJ++[IY.Name]),(pS+1),J,rfl,rfl⟩;refine go ?_;exact xC ⟨iJ,pS,J,rfl,rfl⟩;obtain⟨x39,pK,sH⟩:=a9 sH;obtain⟨pP,nK,sH⟩:=a9 sH;obtain⟨Vi,gC,sH⟩:=a9 sH;refine dE [] ?_;refine gd ?_;refine bS pK ?_;refine gd ?_;refine aM rfl (d7 rfl rfl (fJ cS iF.h (aR CN.h) (by decide) GK (vo rfl) nK)) ?_;refine aM rfl (u7 cS (fun x=>.str x) E9.h rfl (fun _=>rfl) rfl rfl nK) (eN rfl (pC (HJ n x39.Supers pP Vi gC)) k8 ?_);refine gd ?_;rcases gB sH with⟨mY,sH⟩|⟨mY,sH⟩;obtain⟨J0,XF,sH⟩:=a9 sH;obtain⟨JK,wo,sH⟩:=a9 sH;obtain rfl:=sI sH;refine gd ?_;refine bS XF ?_;refine gd ?_;refine RD.call (u:=.bool JK) (args:=[.vl 0 pS 0 iJ.length,.str J0.Name]) (uN rfl rfl rfl mY) (fT rfl rfl k8 hb127 rfl rfl) (vw (HJ n iJ J0.Name JK wo) (jF 0 1)) rfl rfl ?_;refine gd ?_;refine aZ ⟨by kernel_rfl,trivial,?_⟩;refine go ?_;exact xC ⟨rfl,rfl⟩;obtain rfl:=sI sH;refine gd ?_;refine aZ ⟨by kernel_rfl,trivial,?_⟩;refine go ?_;exact xC ⟨rfl,rfl⟩;refine go ?_;exact xC ⟨iJ,pS,J,rfl,rfl⟩;refine go ?_;exact xC ⟨cH,eP,J,rfl,rfl⟩
def Eb(p1:List Int)(z5:Int):Option ((List Int)):=
 a7 (oH p1 0 z5) fun l6=>
 aB (l6.length*8<=140737488355328/\l6.length<=140737488355328) (some l6)
def KQ(p1:List Int):Nat->Int->Option ((List Int))
 |0,_=>none|m1+1,z4=>a7 (cond (decide (z4>0)) (a7 (a8 p1 (IntKind.i64.wrap (z4-1))) fun fP=>some (fP==0)) (some false)) fun qB=>cond qB ((KQ p1 m1) (IntKind.i64.wrap (z4-1))) (Eb p1 z4)
def EV(n:Nat)(p1:List Int):Option ((List Int)):=
 KQ p1 n (p1.length:Int)
theorem Qp(n:Nat)(p1:List Int)(r:(List Int))(J:EV n p1=some r):cB prog 120 [.isl false (p1.map (cI .u64))] (.isl false (r.map (cI .u64))):=by
 unfold EV at J;refine iA 23 tI ?_;refine go ?_;refine gL (fun m tm σ=>∃z4,KQ p1 m z4=some r/\tm=fr 23 [(0,.iM (cI .u64) p1),(3,.i6 z4)]/\σ=⟨[],0⟩) (fun tm σ=>∃z5,Eb p1 z5=some r/\tm=fr 23 [(0,.iM (cI .u64) p1),(3,.i6 z5)]/\σ=⟨[],0⟩) n ⟨(p1.length:Int),J,rfl,rfl⟩ ?_ ?_;rintro _ _ ⟨z5,J,rfl,rfl⟩;unfold Eb at J;obtain⟨l6,h7,J⟩:=a9 J;obtain⟨h8,h9⟩:=UI (cI .u64) .i64 h7;obtain⟨eK,J⟩:=cC J;refine go ?_;refine aJ (u:=.sl 0 0 0 0) (σ':=⟨[(0,.row [] 191)],1⟩) rfl (pF eZ.h j7.h rfl rfl rfl rfl rfl rfl rfl) ?_;refine go ?_;refine aJ (u:=.iM (cI .u64) l6) rfl (u9 rfl jS (tS rfl) jS (OR (cI .u64) eZ.h (aR j7.h) (jD .u64) h8 h9)) (aJ (u:=.vl 1 0 0 l6.length) (σ':=⟨[(1,.bv (cI .u64) l6 191 1 0),(0,.row [] 191)],2⟩) rfl (pV rfl rfl rfl rfl (EO (cI .u64) l6 eZ.h eZ.h j7.h rfl rfl rfl (zR (cI .u64) (jD .u64)) eK)) ?_);refine go ?_;obtain rfl:=sI J;exact rT (us:=[.vl 1 0 0 l6.length]) (u:=.iM (cI .u64) l6) (d6 rfl (cO)) (fR 1 1);rintro(_|m1) _ _ ⟨z4,J,rfl,rfl⟩;cases J;unfold KQ at J;obtain⟨qB,dN,J⟩:=a9 J;refine gn ?_;refine cW (fun tm σ=>tm=fr 23 [(0,.iM (cI .u64) p1),(3,.i6 z4),(15,.bool qB)]/\σ=⟨[],0⟩) ?_ ?_;rintro _ _ ⟨rfl,rfl⟩;refine gF J ?_ ?_<;>intro lA J;refine go ?_;apply aP;refine go ?_;exact lC ⟨_,J,rfl,rfl⟩;refine go ?_;exact xC ⟨z4,J,rfl,rfl⟩;refine go ?_;rcases gB dN with⟨fM,dN⟩|⟨fM,dN⟩;obtain⟨fP,cM,dN⟩:=a9 dN;obtain rfl:=sI dN;refine go ?_;refine aS cM ?_;refine go ?_;exact xC ⟨rfl,rfl⟩;exact gy dN
def Oc(n:Nat)(l8:List Int):Option ((List Int)×Int):=
 aB ((64:Int).toNat=l8.length) (
 a7 (EV n l8) fun dO=>some (dO,0))
def PP(p1:List Int)(n:Nat):Nat->Int->(List Int)->Option ((List Int)×Int)
 |0,_,_=>none|m1+1,z6,l7=>
  cond (decide (z6<(p1.length:Int))) (a7 (a7 (a8 p1 z6) fun J1=>cond (decide (J1<0)) (some true) (a7 (a8 p1 z6) fun iL=>some (decide (iL>4095)))) fun wE=>cond wE (some ([],2)) (a7 (a8 p1 z6) fun pR=>
    a7 (a8 p1 z6) fun lQ=>
    a7 (jR l7 0 ((64:Int).toNat) (IntKind.i64.wrap (lQ.tdiv 64))) fun nS=>
    a7 (a8 p1 z6) fun gH=>
    aB (¬ (IntKind.u64.wrap (gH.tmod 64))<0) (
    a7 (jR l7 0 ((64:Int).toNat) (IntKind.i64.wrap (pR.tdiv 64))) fun n9=>(PP p1 n m1) (IntKind.i64.wrap (z6+1)) (l7.set (IntKind.i64.wrap (pR.tdiv 64)).toNat (X7 .u64 nS (IntKind.u64.wrap (1*(2^(min (IntKind.u64.wrap (gH.tmod 64)).toNat IntKind.u64.bits))))))))) (Oc n l7)
def Ab(n:Nat)(p1:List Int):Option ((List Int)×Int):=
 aB (0<=(64:Int)/\8*(64:Int).toNat<=281474976710656/\(64:Int)<=281474976710656) (
 PP p1 n n 0 (List.replicate (64:Int).toNat 0))
theorem qzy(n:Nat)(p1:List Int)(r:(List Int)×Int)(J:Ab n p1=some r):cB prog 128 [.isl false (p1.map (cI .i64))] (.tup [.isl false (r.1.map (cI .u64)),.int .i64 r.2]):=by
 unfold Ab at J;refine iA 50 MA ?_;obtain⟨h2,J⟩:=cC J;refine go ?_;refine aJ (u:=.sl 0 0 ((64:Int).toNat) ((64:Int).toNat)) (σ':=⟨[(0,.row (List.map (cI .u64) (List.replicate (64:Int).toNat 0)).flatten 191)],1⟩) rfl (Ld (cI .u64) 0 rfl rfl eZ.h j7.h rfl rfl rfl rfl h2) ?_;refine go ?_;refine gL (fun m tm σ=>∃z6 l7,PP p1 n m z6 l7=some r/\tm=fr 50 [(0,.iM (cI .i64) p1),(4,.sl 0 0 ((64:Int).toNat) ((64:Int).toNat)),(5,.i6 z6)]/\σ=⟨[(0,.row (l7.map (cI .u64)).flatten 191)],1⟩) (fun tm σ=>∃l8,Oc n l8=some r/\tm=fr 50 [(4,.sl 0 0 ((64:Int).toNat) ((64:Int).toNat))]/\σ=⟨[(0,.row (l8.map (cI .u64)).flatten 191)],1⟩) n ⟨0,(List.replicate (64:Int).toNat 0),J,rfl,rfl⟩ ?_ ?_;rintro _ _ ⟨l8,J,rfl,rfl⟩;unfold Oc at J;obtain⟨h9,J⟩:=cC J;refine gn ?_;refine bX (tm':=fr 50 [(4,.iM (cI .u64) l8)]) (σ':=⟨[],1⟩) (Gh.trans (Gh.sub (l':=[(4,.sl 0 0 ((64:Int).toNat) ((64:Int).toNat))]) ⟨rfl,trivial⟩) (Gh.fzS (l':=[(4,.iM (cI .u64) l8)]) (h':=[]) 0 (.row (l8.map (cI .u64)).flatten 191) 1 rfl (by simp) (by simp only[fzS,mB,tC,qO,zE,EL,EH,BR,GS,GT,GU,EK,EI,GM,BO,EG,EF,x3,U5 (jD .u64) h9]) (by simp only[nM,sK,ug,Nat.beq,zC,zD,mB,tC,qO,zE,EL,EH,BR,GS,GT,GU,EK,EI,GM,BO,EG,EF,x3,U5 (jD .u64) h9]))) NZ ?_;obtain⟨dO,fM,J⟩:=a9 J;refine go ?_;refine aK rfl (pC (Qp n l8 dO fM) _) tI ?_;refine go ?_;obtain rfl:=sI J;exact sQ rfl rfl rfl rfl rfl;rintro(_|m1) _ _ ⟨z6,l7,J,rfl,rfl⟩;cases J;unfold PP at J;refine gF J ?_ ?_<;>intro dJ J;refine go ?_;apply aP;obtain⟨wE,gD,J⟩:=a9 J;refine gn ?_;refine cW (fun tm σ=>tm=fr 50 [(0,.iM (cI .i64) p1),(4,.sl 0 0 ((64:Int).toNat) ((64:Int).toNat)),(5,.i6 z6),(24,.bool wE)]/\σ=⟨[(0,.row (l7.map (cI .u64)).flatten 191)],1⟩) ?_ ?_;rintro _ _ ⟨rfl,rfl⟩;refine gF J ?_ ?_<;>intro oQ J;refine go ?_;obtain rfl:=sI J;exact rT (us:=[.nils,.i6 2]) (u:=.tup [.isl false [],.i6 2]) (d6 rfl (d6 rfl (cO))) wR;obtain⟨pR,nL,J⟩:=a9 J;obtain⟨lQ,mZ,J⟩:=a9 J;obtain⟨nS,o6,J⟩:=a9 J;obtain⟨gH,pL,J⟩:=a9 J;obtain⟨kX,J⟩:=cC J;obtain⟨n9,kW,J⟩:=a9 J;refine go ?_;refine dE [] ?_;refine gd ?_;refine bS nL ?_;refine gd ?_;refine aM rfl (qL rfl rfl (Lk _ (by decide)) rfl) ?_;refine gd ?_;refine bS mZ ?_;refine gd ?_;refine aM rfl (qL rfl rfl (Lk _ (by decide)) rfl) ?_;refine aM rfl (d7 rfl rfl (xA eZ.h (aR j7.h) rfl o6)) (aM (u:=.int .u64 nS) rfl (OX (cI .u64) (fun x=>.int .u64 x) YQ.h rfl (fun _=>rfl) rfl rfl o6) ?_);refine gd ?_;refine bS pL ?_;refine gd ?_;refine aM rfl (qL rfl rfl (kx _ (by decide)) rfl) ?_;refine aM (u:=.int .u64 (IntKind.u64.wrap (gH.tmod 64))) rfl (Lx rfl rfl (by simp only[convX,j9.h,vI.h]<;>rfl) rfl) ?_;refine aM rfl (qL rfl rfl (R4 _ kX) rfl) (aM rfl (qL rfl rfl (Fh _ _ _) rfl) (aM rfl (d7 rfl rfl (xA eZ.h (aR j7.h) rfl kW)) (RD.actn (u:=.junk) (σ':=⟨[(0,.row (List.map (cI .u64) (l7.set (IntKind.i64.wrap (pR.tdiv 64)).toNat (X7 .u64 nS (IntKind.u64.wrap (1*(2^(min (IntKind.u64.wrap (gH.tmod 64)).toNat IntKind.u64.bits))))))).flatten 191)],1⟩) rfl (TR (cI .u64) (aR j7.h) (jD .u64) rfl rfl rfl rfl rfl rfl kW rfl) rfl ?_)));refine aZ ⟨by kernel_rfl,trivial,?_⟩;refine go ?_;exact lC ⟨_,(l7.set (IntKind.i64.wrap (pR.tdiv 64)).toNat (X7 .u64 nS (IntKind.u64.wrap (1*(2^(min (IntKind.u64.wrap (gH.tmod 64)).toNat IntKind.u64.bits)))))),J,rfl,rfl⟩;obtain⟨J1,fD,gD⟩:=a9 gD;refine go ?_;refine aS fD ?_;refine go ?_;rcases gB gD with⟨dN,gD⟩|⟨dN,gD⟩;exact gy gD;obtain⟨iL,eJ,gD⟩:=a9 gD;obtain rfl:=sI gD;refine go ?_;refine aS eJ ?_;refine go ?_;exact xC ⟨rfl,rfl⟩;refine go ?_;exact xC ⟨l7,J,rfl,rfl⟩
def Db(hX:Int)(bU:Int->(List Int)->Option ((List Int)))(l24:List Int):Option ((List Int)):=
 bU (IntKind.i64.wrap (hX+1)) l24
def Pe(n:Nat)(eV:List Int):Option ((List Int)):=
 a7 (Ab n eV) fun jH=>some jH.1
def HI(p2:List (List UInt8))(n:Nat)(r4:(List (List UInt8))):Nat->Int->(List Int)->Option ((List Int))
 |0,_,_=>none|m1+1,hX,fC=>
  cond (decide (hX<(p2.length:Int))) (a7 (a8 p2 hX) fun FY=>
   a7 (A7 n r4 FY) fun B8=>cond B8 (aB ((fC.length+1)*8<=140737488355328/\fC.length+1<=140737488355328) (
    Db hX (HI p2 n r4 m1) (fC++[hX]))) (Db hX (HI p2 n r4 m1) fC)) (Pe n fC)
def Bl(n:Nat)(p1:List bA)(p2:List (List UInt8))(p3:List UInt8):Option ((List Int)):=
 a7 (Cb n p1 p3) fun r4=>
 HI p2 n r4 n 0 ([]:List Int)
theorem quv(n:Nat)(p1:List bA)(p2:List (List UInt8))(p3:List UInt8)(r:(List Int))(J:Bl n p1 p2 p3=some r):cB prog 95 [.isl false (p1.map bF),.isl false (p2.map cS),.str p3] (.isl false (r.map (cI .u64))):=by
 unfold Bl at J;refine wC 37 Ho ?_;obtain⟨r4,h5,J⟩:=a9 J;refine go ?_;refine aK rfl (pC (qsg n p1 p3 r4 h5) _) MB ?_;refine gr ?_;refine gr ?_;refine gV 8 3 1 1 ?_;refine gL (fun m tm σ=>∃hX fC jG,HI p2 n r4 m hX fC=some r/\tm=fr 37 [(1,.iM cS p2),(7,.iM cS r4),(8,.vl 0 jG 0 fC.length),(9,.i6 hX)]/\σ=⟨xG fC jG,1⟩) (fun tm σ=>∃eV B4,Pe n eV=some r/\tm=fr 37 [(8,.vl 0 B4 0 eV.length)]/\σ=⟨xG eV B4,1⟩) n ⟨0,([]:List Int),0,J,rfl,rfl⟩ ?_ ?_;rintro _ _ ⟨eV,B4,J,rfl,rfl⟩;unfold Pe at J;refine gn ?_;refine bX (tm':=fr 37 [(8,.iM (cI .i64) eV)]) (σ':=⟨[],1⟩) (Gh.trans (Gh.sub (l':=[(8,.vl 0 B4 0 eV.length)]) ⟨rfl,trivial⟩) (AJ 0 1)) NZ ?_;obtain⟨jH,eJ,J⟩:=a9 J;refine go ?_;refine aK rfl (pC (qzy n eV jH eJ) _) MA ?_;exact gx J;rintro(_|m1) _ _ ⟨hX,fC,jG,J,rfl,rfl⟩;cases J;unfold HI at J;refine gF J ?_ ?_<;>intro cJ J;refine go ?_;apply aP;obtain⟨FY,oQ,J⟩:=a9 J;obtain⟨B8,nL,J⟩:=a9 J;refine go ?_;refine aS oQ ?_;refine go ?_;refine aK rfl (pC (HJ n r4 FY B8 nL) _) k8 ?_;refine gn ?_;refine cW (fun tm σ=>∃l24 lE,Db hX (HI p2 n r4 m1) l24=some r/\tm=fr 37 [(1,.iM cS p2),(7,.iM cS r4),(8,.vl 0 lE 0 l24.length),(9,.i6 hX)]/\σ=⟨xG l24 lE,1⟩) ?_ ?_;rintro _ _ ⟨l24,lE,J,rfl,rfl⟩;unfold Db at J;refine go ?_;exact lC ⟨_,l24,lE,J,rfl,rfl⟩;refine cF J ?_ ?_<;>intro kZ J;obtain⟨kY,J⟩:=cC J;refine go ?_;refine bI ?_;refine bI ?_;refine go ?_;exact xC ⟨(fC++[hX]),(jG+1),J,rfl,rfl⟩;refine go ?_;exact xC ⟨fC,jG,J,rfl,rfl⟩;refine go ?_;exact xC ⟨fC,jG,J,rfl,rfl⟩
def KB(n:Nat)(p1:List Int)(p2:Int):Option (Int):=
 cond (decide (p2<(p1.length:Int))) (a7 (a8 p1 p2) fun x4=>some x4) (some 0)
theorem qn3(n:Nat)(p1:List Int)(p2:Int)(r:Int)(J:KB n p1 p2=some r):cB prog 146 [.isl false (p1.map (cI .u64)),.int .i64 p2] (.int .u64 r):=by
 unfold KB at J;refine eW 13 D4 ?_;refine gF J ?_ ?_<;>intro h3 J;obtain⟨x4,h5,J⟩:=a9 J;refine go ?_;refine aS h5 ?_;exact gx J;exact gx J
def HB(n:Nat)(cH:List Int):Option ((List Int)):=
 a7 (EV n cH) fun dC=>some dC
def VU(p1:List Int)(p2:List Int)(n:Nat):Nat->Int->(List Int)->Option ((List Int))
 |0,_,_=>none|m1+1,z8,l9=>
  cond (decide (z8<(p1.length:Int))) (a7 (a8 p1 z8) fun iL=>
   a7 (KB n p2 z8) fun dX=>
   aB ((l9.length+1)*8<=140737488355328/\l9.length+1<=140737488355328) ((VU p1 p2 n m1) (IntKind.i64.wrap (z8+1)) (l9++[(yN .u64 iL dX)]))) (HB n l9)
def BX(n:Nat)(p1:List Int)(p2:List Int):Option ((List Int)):=
 VU p1 p2 n n 0 ([]:List Int)
theorem Yw(n:Nat)(p1:List Int)(p2:List Int)(r:(List Int))(J:BX n p1 p2=some r):cB prog 119 [.isl false (p1.map (cI .u64)),.isl false (p2.map (cI .u64))] (.isl false (r.map (cI .u64))):=by
 unfold BX at J;refine eW 26 w9 ?_;refine gr ?_;refine gr ?_;refine gr ?_;refine gV 5 191 1 1 ?_;refine gL (fun m tm σ=>∃z8 l9 bV,VU p1 p2 n m z8 l9=some r/\tm=fr 26 [(0,.iM (cI .u64) p1),(1,.iM (cI .u64) p2),(5,.vl 0 bV 0 l9.length),(6,.i6 z8)]/\σ=⟨[(0,.bv (cI .u64) l9 191 1 bV)],1⟩) (fun tm σ=>∃cH eP,HB n cH=some r/\tm=fr 26 [(5,.vl 0 eP 0 cH.length)]/\σ=⟨[(0,.bv (cI .u64) cH 191 1 eP)],1⟩) n ⟨0,([]:List Int),0,J,rfl,rfl⟩ ?_ ?_;rintro _ _ ⟨cH,eP,J,rfl,rfl⟩;unfold HB at J;refine gn ?_;refine bX (tm':=fr 26 [(5,.iM (cI .u64) cH)]) (σ':=⟨[],1⟩) (Gh.trans (Gh.sub (l':=[(5,.vl 0 eP 0 cH.length)]) ⟨rfl,trivial⟩) (AJ 0 1)) NZ ?_;obtain⟨dC,fD,J⟩:=a9 J;refine go ?_;refine aK rfl (pC (Qp n cH dC fD) _) tI ?_;exact gx J;rintro(_|m1) _ _ ⟨z8,l9,bV,J,rfl,rfl⟩;cases J;unfold VU at J;refine gF J ?_ ?_<;>intro dN J;refine go ?_;apply aP;obtain⟨iL,eJ,J⟩:=a9 J;obtain⟨dX,gD,J⟩:=a9 J;obtain⟨oQ,J⟩:=cC J;refine go ?_;refine dE [(0,9)] ?_;refine gd ?_;refine bS eJ ?_;refine gd ?_;refine eN rfl (pC (qn3 n p2 z8 dX gD)) D4 (aM rfl (qL rfl rfl (Uj _ _ _) rfl) ?_);refine dA ?_;refine dA ?_;refine gd ?_;refine aZ ⟨by kernel_rfl,⟨g8 rfl,trivial⟩,?_⟩;refine go ?_;exact lC ⟨_,(l9++[(yN .u64 iL dX)]),(bV+1),J,rfl,rfl⟩;refine go ?_;exact xC ⟨l9,bV,J,rfl,rfl⟩
def Zk: Option (Bool):=
 some true
def Pi(p1:List Int)(p2:List Int):Nat->Int->Option (Bool)
 |0,_=>none|m1+1,z7=>cond (decide (z7<(p1.length:Int))) (a7 (a8 p1 z7) fun x9=>a7 (a8 p2 z7) fun fH=>cond (x9 != fH) (some false) ((Pi p1 p2 m1) (IntKind.i64.wrap (z7+1)))) (Zk)
def H7(n:Nat)(p1:List Int)(p2:List Int):Option (Bool):=
 cond ((p1.length:Int) != (p2.length:Int)) (some false) (Pi p1 p2 n 0)
theorem Ze(n:Nat)(p1:List Int)(p2:List Int)(r:Bool)(J:H7 n p1 p2=some r):cB prog 121 [.isl false (p1.map (cI .u64)),.isl false (p2.map (cI .u64))] (.bool r):=by
 unfold H7 at J;refine eW 26 w8 ?_;refine gF J ?_ ?_<;>intro h3 J;exact gx J;refine go ?_;refine gL (fun m tm σ=>∃z7,Pi p1 p2 m z7=some r/\tm=fr 26 [(0,.iM (cI .u64) p1),(1,.iM (cI .u64) p2),(5,.i6 z7)]/\σ=⟨[],0⟩) (fun tm σ=>Zk=some r/\tm=fr 26 []/\σ=⟨[],0⟩) n ⟨0,J,rfl,rfl⟩ ?_ ?_;rintro _ _ ⟨J,rfl,rfl⟩;unfold Zk at J;exact gx J;rintro(_|m1) _ _ ⟨z7,J,rfl,rfl⟩;cases J;unfold Pi at J;refine gF J ?_ ?_<;>intro h8 J;refine go ?_;apply aP;obtain⟨x9,eK,J⟩:=a9 J;obtain⟨fH,dJ,J⟩:=a9 J;refine go ?_;refine dE [] ?_;refine gd ?_;refine bS eK ?_;refine gd ?_;refine bS dJ ?_;refine gd ?_;refine aZ ⟨by kernel_rfl,trivial,?_⟩;refine gF J ?_ ?_<;>intro cM J;exact gx J;refine go ?_;exact lC ⟨_,J,rfl,rfl⟩;refine go ?_;exact xC ⟨J,rfl,rfl⟩
def Nz: Option (Bool):=
 some false
def PO(p1:List (List Int))(p2:List Int)(n:Nat):Nat->Int->Option (Bool)
 |0,_=>none|m1+1,z6=>cond (decide (z6<(p1.length:Int))) (a7 (a8 p1 z6) fun x8=>a7 (H7 n x8 p2) fun dO=>cond dO (some true) ((PO p1 p2 n m1) (IntKind.i64.wrap (z6+1)))) (Nz)
def Mm(n:Nat)(p1:List (List Int))(p2:List Int):Option (Bool):=
 PO p1 p2 n n 0
theorem qzz(n:Nat)(p1:List (List Int))(p2:List Int)(r:Bool)(J:Mm n p1 p2=some r):cB prog 129 [.isl false (List.map (cL (cI .u64)) p1),.isl false (p2.map (cI .u64))] (.bool r):=by
 unfold Mm at J;refine eW 18 M9 ?_;refine go ?_;refine gL (fun m tm σ=>∃z6,PO p1 p2 n m z6=some r/\tm=fr 18 [(0,.iM (cL (cI .u64)) p1),(1,.iM (cI .u64) p2),(5,.i6 z6)]/\σ=⟨[],0⟩) (fun tm σ=>Nz=some r/\tm=fr 18 []/\σ=⟨[],0⟩) n ⟨0,J,rfl,rfl⟩ ?_ ?_;rintro _ _ ⟨J,rfl,rfl⟩;unfold Nz at J;exact gx J;rintro(_|m1) _ _ ⟨z6,J,rfl,rfl⟩;cases J;unfold PO at J;refine gF J ?_ ?_<;>intro h7 J;refine go ?_;apply aP;obtain⟨x8,h9,J⟩:=a9 J;obtain⟨dO,fM,J⟩:=a9 J;refine go ?_;refine aS h9 ?_;refine go ?_;refine aK rfl (pC (Ze n x8 p2 dO fM) _) w8 ?_;refine gF J ?_ ?_<;>intro dJ J;exact gx J;refine go ?_;exact lC ⟨_,J,rfl,rfl⟩;refine go ?_;exact xC ⟨J,rfl,rfl⟩
def Dx(o8:Int)(gE:Int->(List (List Int))->Option ((List (List Int))))(sE:List (List Int)):Option ((List (List Int))):=
 gE (IntKind.i64.wrap (o8+1)) sE
def Dv(z6:Int)(bU:Int->(List (List Int))->Option ((List (List Int))))(nI:List (List Int)):Option ((List (List Int))):=
 bU (IntKind.i64.wrap (z6+1)) nI
def KO(n:Nat)(z6:Int)(bU:Int->(List (List Int))->Option ((List (List Int)))):Nat->Int->(List (List Int))->Option ((List (List Int)))
 |0,_,_=>none|m2+1,o8,dB=>
  a7 (cond (decide (o8<z6)) (some (decide ((dB.length:Int)<=256))) (some false)) fun jd=>cond jd (a7 (a8 dB z6) fun sM=>
   a7 (a8 dB o8) fun NA=>
   a7 (BX n sM NA) fun lF=>
   a7 (cond (decide ((lF.length:Int)>0)) (a7 (Mm n dB lF) fun fV=>some (!fV)) (some false)) fun TE=>cond TE (aB ((dB.length+1)*24<=140737488355328/\dB.length+1<=140737488355328) (
    Dx o8 (KO n z6 bU m2) (dB++[lF]))) (Dx o8 (KO n z6 bU m2) dB)) (Dv z6 bU dB)
def Dw  (l9:List (List Int)):Option ((List (List Int))):=
 some l9
def F7(n:Nat):Nat->Int->(List (List Int))->Option ((List (List Int)))
 |0,_,_=>none|m1+1,z6,l7=>a7 (cond (decide (z6<(l7.length:Int))) (some (decide ((l7.length:Int)<=256))) (some false)) fun DK=>cond DK (KO n z6 (F7 n m1) n 0 l7) (Dw l7)
def Cn(n:Nat)(p1:List (List Int)):Option ((List (List Int))):=
 aB (p1.length*24<=140737488355328/\p1.length<=140737488355328) (
 F7 n n 0 p1)
theorem qq4(n:Nat)(p1:List (List Int))(r:(List (List Int)))(J:Cn n p1=some r):cB prog 96 [.isl false (List.map (cL (cI .u64)) p1)] (.isl false (List.map (cL (cI .u64)) r)):=by
 unfold Cn at J;refine iA 54 Hn ?_;obtain⟨h2,J⟩:=cC J;refine go ?_;refine aJ (u:=.sl 0 0 0 0) (σ':=⟨[(0,.row [] 126)],1⟩) rfl (pF oB.h mV.h rfl rfl rfl rfl rfl rfl rfl) ?_;refine go ?_;refine aJ (u:=.vl 1 0 0 p1.length) (σ':=⟨[(1,.bv (cL (cI .u64)) p1 126 1 0),(0,.row [] 126)],2⟩) rfl (pV rfl rfl rfl rfl (EO (cL (cI .u64)) p1 oB.h oB.h mV.h rfl rfl rfl (zR (cL (cI .u64)) (JT (cI .u64))) h2)) ?_;refine go ?_;refine gL (fun m tm σ=>∃z6 l7 t8,F7 n m z6 l7=some r/\tm=fr 54 [(3,.vl 1 t8 0 l7.length),(4,.i6 z6)]/\σ=⟨JY l7 t8,2⟩) (fun tm σ=>∃l9 bV,Dw l9=some r/\tm=fr 54 [(3,.vl 1 bV 0 l9.length)]/\σ=⟨JY l9 bV,2⟩) n ⟨0,p1,0,J,rfl,rfl⟩ ?_ ?_;rintro _ _ ⟨l9,bV,J,rfl,rfl⟩;unfold Dw at J;refine go ?_;obtain rfl:=sI J;exact rT (us:=[.vl 1 bV 0 l9.length]) (u:=.iM (cL (cI .u64)) l9) (d6 rfl (cO)) (fR 1 1);rintro(_|m1) _ _ ⟨z6,l7,t8,J,rfl,rfl⟩;cases J;unfold F7 at J;obtain⟨DK,cM,J⟩:=a9 J;refine gn ?_;refine cW (fun tm σ=>tm=fr 54 [(3,.vl 1 t8 0 l7.length),(4,.i6 z6),(18,.bool DK)]/\σ=⟨JY l7 t8,2⟩) ?_ ?_;rintro _ _ ⟨rfl,rfl⟩;refine gF J ?_ ?_<;>intro fD J;refine go ?_;apply aP;refine go ?_;refine gL (fun m tm σ=>∃o8 dB EC,KO n z6 (F7 n m1) m o8 dB=some r/\tm=fr 54 [(3,.vl 1 EC 0 dB.length),(4,.i6 z6),(5,.i6 o8)]/\σ=⟨JY dB EC,2⟩) (fun tm σ=>∃nI Kx,Dv z6 (F7 n m1) nI=some r/\tm=fr 54 [(3,.vl 1 Kx 0 nI.length),(4,.i6 z6)]/\σ=⟨JY nI Kx,2⟩) n ⟨0,l7,t8,J,rfl,rfl⟩ ?_ ?_;rintro _ _ ⟨nI,Kx,J,rfl,rfl⟩;unfold Dv at J;refine go ?_;exact lC ⟨_,nI,Kx,J,rfl,rfl⟩;rintro(_|m2) _ _ ⟨o8,dB,EC,J,rfl,rfl⟩;cases J;unfold KO at J;obtain⟨jd,kY,J⟩:=a9 J;refine gn ?_;refine cW (fun tm σ=>tm=fr 54 [(3,.vl 1 EC 0 dB.length),(4,.i6 z6),(5,.i6 o8),(28,.bool jd)]/\σ=⟨JY dB EC,2⟩) ?_ ?_;rintro _ _ ⟨rfl,rfl⟩;refine gF J ?_ ?_<;>intro qS J;refine go ?_;apply aP;obtain⟨sM,m6,J⟩:=a9 J;obtain⟨NA,pY,J⟩:=a9 J;obtain⟨lF,o5,J⟩:=a9 J;refine go ?_;refine dE [] ?_;refine gd ?_;refine aM rfl (d7 rfl rfl (fJ (cL (cI .u64)) oB.h (aR mV.h) (by decide) (JT (cI .u64)) (vo rfl) m6)) ?_;refine aM rfl (u7 (cL (cI .u64)) (fun x=>.iM (cI .u64) x) eZ.h rfl (fun _=>rfl) rfl rfl m6) ?_;refine gd ?_;refine aM rfl (d7 rfl rfl (fJ (cL (cI .u64)) oB.h (aR mV.h) (by decide) (JT (cI .u64)) (vo rfl) pY)) ?_;refine aM rfl (u7 (cL (cI .u64)) (fun x=>.iM (cI .u64) x) eZ.h rfl (fun _=>rfl) rfl rfl pY) (eN rfl (pC (Yw n sM NA lF o5)) w9 ?_);refine gd ?_;refine aZ ⟨by kernel_rfl,trivial,?_⟩;obtain⟨TE,iK,J⟩:=a9 J;refine gn ?_;refine cW (fun tm σ=>tm=fr 54 [(3,.vl 1 EC 0 dB.length),(4,.i6 z6),(5,.i6 o8),(6,.iM (cI .u64) lF),(48,.bool TE)]/\σ=⟨JY dB EC,2⟩) ?_ ?_;rintro _ _ ⟨rfl,rfl⟩;refine gn ?_;refine cW (fun tm σ=>∃sE Kv,Dx o8 (KO n z6 (F7 n m1) m2) sE=some r/\tm=fr 54 [(3,.vl 1 Kv 0 sE.length),(4,.i6 z6),(5,.i6 o8)]/\σ=⟨JY sE Kv,2⟩) ?_ ?_;rintro _ _ ⟨sE,Kv,J,rfl,rfl⟩;unfold Dx at J;refine go ?_;exact lC ⟨_,sE,Kv,J,rfl,rfl⟩;refine cF J ?_ ?_<;>intro pX J;obtain⟨nK,J⟩:=cC J;refine go ?_;refine bI ?_;refine bI ?_;refine go ?_;exact xC ⟨(dB++[lF]),(EC+1),J,rfl,rfl⟩;refine go ?_;exact xC ⟨dB,EC,J,rfl,rfl⟩;refine go ?_;rcases gB iK with⟨kW,iK⟩|⟨kW,iK⟩;obtain⟨fV,rL,iK⟩:=a9 iK;obtain rfl:=sI iK;refine go ?_;refine aK rfl (vw (qzz n dB lF fV rL) (jF 1 1)) M9 ?_;refine go ?_;exact xC ⟨rfl,rfl⟩;exact gy iK;refine go ?_;exact xC ⟨dB,EC,J,rfl,rfl⟩;refine go ?_;rcases gB kY with⟨mJ,kY⟩|⟨mJ,kY⟩;exact gy kY;exact gy kY;refine go ?_;exact xC ⟨l7,t8,J,rfl,rfl⟩;refine go ?_;rcases gB cM with⟨fM,cM⟩|⟨fM,cM⟩;exact gy cM;exact gy cM
def WD(n:Nat)(cH:List Int):Option ((List Int)):=
 a7 (EV n cH) fun dC=>some dC
def Ds(p1:List Int)(p2:List Int)(n:Nat):Nat->Int->(List Int)->Option ((List Int))
 |0,_,_=>none|m1+1,z8,l9=>
  cond (decide (z8<(p1.length:Int))) (a7 (a8 p1 z8) fun iL=>
   a7 (KB n p2 z8) fun dX=>
   aB ((l9.length+1)*8<=140737488355328/\l9.length+1<=140737488355328) ((Ds p1 p2 n m1) (IntKind.i64.wrap (z8+1)) (l9++[(JX .u64 iL dX)]))) (WD n l9)
def VJ(n:Nat)(p1:List Int)(p2:List Int):Option ((List Int)):=
 Ds p1 p2 n n 0 ([]:List Int)
theorem qse(n:Nat)(p1:List Int)(p2:List Int)(r:(List Int))(J:VJ n p1 p2=some r):cB prog 153 [.isl false (p1.map (cI .u64)),.isl false (p2.map (cI .u64))] (.isl false (r.map (cI .u64))):=by
 unfold VJ at J;refine eW 26 LX ?_;refine gr ?_;refine gr ?_;refine gr ?_;refine gV 5 191 1 1 ?_;refine gL (fun m tm σ=>∃z8 l9 bV,Ds p1 p2 n m z8 l9=some r/\tm=fr 26 [(0,.iM (cI .u64) p1),(1,.iM (cI .u64) p2),(5,.vl 0 bV 0 l9.length),(6,.i6 z8)]/\σ=⟨[(0,.bv (cI .u64) l9 191 1 bV)],1⟩) (fun tm σ=>∃cH eP,WD n cH=some r/\tm=fr 26 [(5,.vl 0 eP 0 cH.length)]/\σ=⟨[(0,.bv (cI .u64) cH 191 1 eP)],1⟩) n ⟨0,([]:List Int),0,J,rfl,rfl⟩ ?_ ?_;rintro _ _ ⟨cH,eP,J,rfl,rfl⟩;unfold WD at J;refine gn ?_;refine bX (tm':=fr 26 [(5,.iM (cI .u64) cH)]) (σ':=⟨[],1⟩) (Gh.trans (Gh.sub (l':=[(5,.vl 0 eP 0 cH.length)]) ⟨rfl,trivial⟩) (AJ 0 1)) NZ ?_;obtain⟨dC,fD,J⟩:=a9 J;refine go ?_;refine aK rfl (pC (Qp n cH dC fD) _) tI ?_;exact gx J;rintro(_|m1) _ _ ⟨z8,l9,bV,J,rfl,rfl⟩;cases J;unfold Ds at J;refine gF J ?_ ?_<;>intro dN J;refine go ?_;apply aP;obtain⟨iL,eJ,J⟩:=a9 J;obtain⟨dX,gD,J⟩:=a9 J;obtain⟨oQ,J⟩:=cC J;refine go ?_;refine dE [(0,9)] ?_;refine gd ?_;refine bS eJ ?_;refine gd ?_;refine eN rfl (pC (qn3 n p2 z8 dX gD)) D4 (aM rfl (qL rfl rfl (te _ _ _) rfl) ?_);refine dA ?_;refine dA ?_;refine gd ?_;refine aZ ⟨by kernel_rfl,⟨g8 rfl,trivial⟩,?_⟩;refine go ?_;exact lC ⟨_,(l9++[(JX .u64 iL dX)]),(bV+1),J,rfl,rfl⟩;refine go ?_;exact xC ⟨l9,bV,J,rfl,rfl⟩
def PR(n:Nat)(p1:List Int)(p2:List Int):Option (Bool):=
 a7 (VJ n p1 p2) fun r3=>some ((r3.length:Int)==0)
theorem Zo(n:Nat)(p1:List Int)(p2:List Int)(r:Bool)(J:PR n p1 p2=some r):cB prog 134 [.isl false (p1.map (cI .u64)),.isl false (p2.map (cI .u64))] (.bool r):=by
 unfold PR at J;refine eW 10 w7 ?_;obtain⟨r3,h4,J⟩:=a9 J;refine go ?_;refine aK rfl (pC (qse n p1 p2 r3 h4) _) LX ?_;exact gx J
def Cd(n:Nat)(p1:List Int)(p2:List Int):Option (Bool):=
 a7 (a7 (PR n p1 p2) fun r3=>cond r3 (a7 (PR n p2 p1) fun r6=>some r6) (some false)) fun b8=>some b8
theorem qsd(n:Nat)(p1:List Int)(p2:List Int)(r:Bool)(J:Cd n p1 p2=some r):cB prog 130 [.isl false (p1.map (cI .u64)),.isl false (p2.map (cI .u64))] (.bool r):=by
 unfold Cd at J;refine eW 13 M8 ?_;obtain⟨b8,h9,J⟩:=a9 J;refine gr ?_;refine cW (fun tm σ=>tm=fr 13 [(4,.bool b8)]/\σ=⟨[],0⟩) ?_ ?_;rintro _ _ ⟨rfl,rfl⟩;exact gx J;obtain⟨r3,h4,h9⟩:=a9 h9;refine go ?_;refine aK rfl (pC (Zo n p1 p2 r3 h4) _) w7 ?_;refine go ?_;rcases gB h9 with⟨h5,h9⟩|⟨h5,h9⟩;obtain⟨r6,h7,h9⟩:=a9 h9;obtain rfl:=sI h9;refine go ?_;refine aK rfl (pC (Zo n p2 p1 r6 h7) _) w7 ?_;refine go ?_;exact xC ⟨rfl,rfl⟩;exact gy h9
def V7(n:Nat)(p1:List Int)(p2:Int):Option (Bool):=
 a7 (cond (decide (p2<0)) (some true) (some (decide ((IntKind.i64.wrap (p2.tdiv 64))>=(p1.length:Int))))) fun b5=>cond b5 (some false) (a7 (a8 p1 (IntKind.i64.wrap (p2.tdiv 64))) fun x9=>aB (¬ (IntKind.u64.wrap (p2.tmod 64))<0) (some ((yN .u64 (x9.fdiv (2^(min (IntKind.u64.wrap (p2.tmod 64)).toNat IntKind.u64.bits))) 1)==1)))
theorem qp6(n:Nat)(p1:List Int)(p2:Int)(r:Bool)(J:V7 n p1 p2=some r):cB prog 131 [.isl false (p1.map (cI .u64)),.int .i64 p2] (.bool r):=by
 unfold V7 at J;refine eW 25 D9 ?_;obtain⟨b5,h6,J⟩:=a9 J;refine gr ?_;refine cW (fun tm σ=>tm=fr 25 [(0,.iM (cI .u64) p1),(1,.i6 p2),(13,.bool b5)]/\σ=⟨[],0⟩) ?_ ?_;rintro _ _ ⟨rfl,rfl⟩;refine gF J ?_ ?_<;>intro h7 J;exact gx J;obtain⟨x9,eK,J⟩:=a9 J;obtain⟨dJ,J⟩:=cC J;refine go ?_;refine aJ rfl (qL rfl rfl (Lk _ (by decide)) rfl) ?_;refine aS eK ?_;refine go ?_;refine aJ rfl (qL rfl rfl (kx _ (by decide)) rfl) ?_;refine aJ (u:=.int .u64 (IntKind.u64.wrap (p2.tmod 64))) rfl (Lx rfl rfl (by simp only[convX,j9.h,vI.h]<;>rfl) rfl) ?_;refine aJ rfl (qL rfl rfl (kw _ dJ) rfl) (aJ rfl (qL rfl rfl (Uj _ _ _) rfl) ?_);exact gx J;refine go ?_;rcases gB h6 with⟨h3,h6⟩|⟨h3,h6⟩;exact gy h6;obtain rfl:=sI h6;refine go ?_;refine RS.w rfl (qL rfl rfl (Lk _ (by decide)) rfl) ?_;refine go ?_;exact xC ⟨rfl,rfl⟩
def Ej(z8:Int)(bU:(List (List UInt8))->Int->Option ((List (List UInt8))))(eT:List (List UInt8)):Option ((List (List UInt8))):=
 bU eT (IntKind.i64.wrap (z8+1))
def Rq  (l9:List (List UInt8)):Option ((List (List UInt8))):=
 some l9
def HW(p1:List bA)(p2:List (List UInt8))(n:Nat):Nat->(List (List UInt8))->Int->Option ((List (List UInt8)))
 |0,_,_=>none|m1+1,l7,z8=>
  cond (decide (z8<(p2.length:Int))) (a7 (a8 p2 z8) fun fH=>
   a7 (BY n p1 fH) fun dC=>cond (decide (dC>=0)) (a7 (a8 p2 z8) fun nT=>
    a7 (H4 n l7 nT) fun yV=>
    Ej z8 (HW p1 p2 n m1) yV) (Ej z8 (HW p1 p2 n m1) l7)) (Rq l7)
def Qf(n:Nat)(p1:List bA)(p2:List (List UInt8)):Option ((List (List UInt8))):=
 HW p1 p2 n n [] 0
theorem qnd(n:Nat)(p1:List bA)(p2:List (List UInt8))(r:(List (List UInt8)))(J:Qf n p1 p2=some r):cB prog 150 [.isl false (p1.map bF),.isl false (p2.map cS)] (.isl false (r.map cS)):=by
 unfold Qf at J;refine eW 27 M1 ?_;refine gr ?_;refine gr ?_;refine gr ?_;refine bX (tm':=fr 27 [(0,.iM bF p1),(1,.iM cS p2),(5,.iM cS []),(6,.i6 0)]) (Gh.trans (Gh.sub (l':=[(0,.iM bF p1),(1,.iM cS p2),(5,.nils),(6,.i6 0)]) ⟨rfl,rfl,rfl,rfl,trivial⟩) (Gh.wkS (l':=[(0,.iM bF p1),(1,.iM cS p2),(5,.iM cS []),(6,.i6 0)]) (.cons (.refl _) (.cons (.refl _) (.cons (.nil false) (.cons (.refl _) .nil)))))) NZ ?_;refine gL (fun m tm σ=>∃l7 z8,HW p1 p2 n m l7 z8=some r/\tm=fr 27 [(0,.iM bF p1),(1,.iM cS p2),(5,.iM cS l7),(6,.i6 z8)]/\σ=⟨[],0⟩) (fun tm σ=>∃l9,Rq l9=some r/\tm=fr 27 [(5,.iM cS l9)]/\σ=⟨[],0⟩) n ⟨[],0,J,rfl,rfl⟩ ?_ ?_;rintro _ _ ⟨l9,J,rfl,rfl⟩;unfold Rq at J;exact gx J;rintro(_|m1) _ _ ⟨l7,z8,J,rfl,rfl⟩;cases J;unfold HW at J;refine gF J ?_ ?_<;>intro eK J;refine go ?_;apply aP;obtain⟨fH,dJ,J⟩:=a9 J;obtain⟨dC,fD,J⟩:=a9 J;refine go ?_;refine aS dJ ?_;refine go ?_;refine aK rfl (pC (VS n p1 fH dC fD) _) oR ?_;refine gn ?_;refine cW (fun tm σ=>∃eT,Ej z8 (HW p1 p2 n m1) eT=some r/\tm=fr 27 [(0,.iM bF p1),(1,.iM cS p2),(5,.iM cS eT),(6,.i6 z8)]/\σ=⟨[],0⟩) ?_ ?_;rintro _ _ ⟨eT,J,rfl,rfl⟩;unfold Ej at J;refine go ?_;exact lC ⟨eT,(IntKind.i64.wrap (z8+1)),J,rfl,rfl⟩;refine cF J ?_ ?_<;>intro dN J;obtain⟨nT,cJ,J⟩:=a9 J;obtain⟨yV,oQ,J⟩:=a9 J;refine go ?_;refine aS cJ ?_;refine go ?_;refine aK rfl (pC (VI n l7 nT yV oQ) _) oS ?_;refine go ?_;exact xC ⟨yV,J,rfl,rfl⟩;refine go ?_;exact xC ⟨l7,J,rfl,rfl⟩;refine go ?_;exact xC ⟨l7,J,rfl,rfl⟩
def Qn  (iR:List (List UInt8)):Option ((List (List UInt8))):=
 some iR
def KN(n:Nat)(bN:List (List UInt8)):Nat->(List (List UInt8))->Int->Option ((List (List UInt8)))
 |0,_,_=>none|m2+1,dD,cZ=>cond (decide (cZ<(bN.length:Int))) (a7 (a8 bN cZ) fun uK=>a7 (H4 n dD uK) fun mN=>(KN n bN m2) mN (IntKind.i64.wrap (cZ+1))) (Qn dD)
def Dr(pO:Int)(OI:Int->(List (List UInt8))->Option ((List (List UInt8))))(A9:List (List UInt8)):Option ((List (List UInt8))):=
 OI (IntKind.i64.wrap (pO+1)) A9
def Qm(cP:Int)(bU:Int->(List (List UInt8))->Option ((List (List UInt8))))(jN:List (List UInt8)):Option ((List (List UInt8))):=
 bU (IntKind.i64.wrap (cP+1)) jN
def HR(n:Nat)(cP:Int)(bU:Int->(List (List UInt8))->Option ((List (List UInt8))))(pQ:bA):Nat->Int->(List (List UInt8))->Option ((List (List UInt8)))
 |0,_,_=>none|m3+1,pO,iD=>
  cond (decide (pO<(pQ.Supers.length:Int))) (a7 (a8 pQ.Supers pO) fun J0=>
   a7 (A7 n iD J0) fun JK=>cond (!JK) (a7 (a8 pQ.Supers pO) fun IZ=>
    aB ((iD.length+1)*16<=140737488355328/\iD.length+1<=140737488355328) (
    Dr pO (HR n cP bU pQ m3) (iD++[IZ]))) (Dr pO (HR n cP bU pQ m3) iD)) (Qm cP bU iD)
def Qo(n:Nat)(bN:List (List UInt8)):Option ((List (List UInt8))):=
 KN n bN n [] 0
def F6(p1:List bA)(n:Nat):Nat->Int->(List (List UInt8))->Option ((List (List UInt8)))
 |0,_,_=>none|m1+1,cP,cH=>
  cond (decide (cP<(cH.length:Int))) (a7 (a8 cH cP) fun sM=>
   a7 (BY n p1 sM) fun eH=>
   a7 (a8 p1 eH) fun pQ=>
   HR n cP (F6 p1 n m1) pQ n 0 cH) (Qo n cH)
def Cc(n:Nat)(p1:List bA)(p2:List UInt8):Option ((List (List UInt8))):=
 a7 (BY n p1 p2) fun r3=>cond (decide (r3<0)) (some []) (F6 p1 n n 0 ([p2]))
theorem qsf(n:Nat)(p1:List bA)(p2:List UInt8)(r:(List (List UInt8)))(J:Cc n p1 p2=some r):cB prog 151 [.isl false (p1.map bF),.str p2] (.isl false (r.map cS)):=by
 unfold Cc at J;refine eW 66 LZ ?_;obtain⟨r3,h4,J⟩:=a9 J;refine go ?_;refine aK rfl (pC (VS n p1 p2 r3 h4) _) oR ?_;refine gF J ?_ ?_<;>intro h5 J;refine go ?_;obtain rfl:=sI J;exact rT (us:=[.nils]) (u:=.isl false []) (d6 rfl (cO)) wR;refine go ?_;refine RS.step (u:=.vl 0 0 0 ([p2].length)) (σ':=⟨[(0,.bv cS ([p2]) 9 1 0)],1⟩) rfl (BJ.bslv (cs:=(List.map cS [p2]).flatten) tb_ok rfl iF.h CN.h rfl rfl rfl rfl rfl rfl rfl rfl) rfl rfl ?_;refine go ?_;refine gL (fun m tm σ=>∃cP cH eP,F6 p1 n m cP cH=some r/\tm=fr 66 [(0,.iM bF p1),(5,.vl 0 eP 0 cH.length),(6,.i6 cP)]/\σ=⟨k7 cH eP,1⟩) (fun tm σ=>∃bN eL,Qo n bN=some r/\tm=fr 66 [(5,.vl 0 eL 0 bN.length)]/\σ=⟨k7 bN eL,1⟩) n ⟨0,[p2],0,J,rfl,rfl⟩ ?_ ?_;rintro _ _ ⟨bN,eL,J,rfl,rfl⟩;unfold Qo at J;refine gr ?_;refine gr ?_;refine bX (tm':=fr 66 [(5,.vl 0 eL 0 bN.length),(9,.iM cS []),(10,.i6 0)]) (Gh.trans (Gh.sub (l':=[(5,.vl 0 eL 0 bN.length),(9,.nils),(10,.i6 0)]) ⟨rfl,rfl,rfl,trivial⟩) (Gh.wkS (l':=[(5,.vl 0 eL 0 bN.length),(9,.iM cS []),(10,.i6 0)]) (.cons (.refl _) (.cons (.nil false) (.cons (.refl _) .nil))))) NZ ?_;refine gL (fun m tm σ=>∃dD cZ,KN n bN m dD cZ=some r/\tm=fr 66 [(5,.vl 0 eL 0 bN.length),(9,.iM cS dD),(10,.i6 cZ)]/\σ=⟨k7 bN eL,1⟩) (fun tm σ=>∃iR,Qn iR=some r/\tm=fr 66 [(9,.iM cS iR)]/\σ=⟨k7 bN eL,1⟩) n ⟨[],0,J,rfl,rfl⟩ ?_ ?_;rintro _ _ ⟨iR,J,rfl,rfl⟩;unfold Qn at J;exact gx J;rintro(_|m2) _ _ ⟨dD,cZ,J,rfl,rfl⟩;cases J;unfold KN at J;refine gF J ?_ ?_<;>intro nL J;refine go ?_;apply aP;obtain⟨uK,mJ,J⟩:=a9 J;obtain⟨mN,kY,J⟩:=a9 J;refine go ?_;refine aJ rfl (d7 rfl rfl (fJ cS iF.h (aR CN.h) (by decide) GK (vo rfl) mJ)) ?_;refine aJ rfl (u7 cS (fun x=>.str x) E9.h rfl (fun _=>rfl) rfl rfl mJ) (aK rfl (pC (VI n dD uK mN kY) _) oS ?_);refine go ?_;exact lC ⟨mN,(IntKind.i64.wrap (cZ+1)),J,rfl,rfl⟩;refine go ?_;exact xC ⟨dD,J,rfl,rfl⟩;rintro(_|m1) _ _ ⟨cP,cH,eP,J,rfl,rfl⟩;cases J;unfold F6 at J;refine gF J ?_ ?_<;>intro qS J;refine go ?_;apply aP;obtain⟨sM,m6,J⟩:=a9 J;obtain⟨eH,pY,J⟩:=a9 J;obtain⟨pQ,o5,J⟩:=a9 J;refine go ?_;refine aJ rfl (d7 rfl rfl (fJ cS iF.h (aR CN.h) (by decide) GK (vo rfl) m6)) ?_;refine aJ rfl (u7 cS (fun x=>.str x) E9.h rfl (fun _=>rfl) rfl rfl m6) (aK rfl (pC (VS n p1 sM eH pY) _) oR ?_);refine aS o5 ?_;refine go ?_;refine gL (fun m tm σ=>∃pO iD wM,HR n cP (F6 p1 n m1) pQ m pO iD=some r/\tm=fr 66 [(0,.iM bF p1),(5,.vl 0 wM 0 iD.length),(6,.i6 cP),(7,.iM cS pQ.Supers),(8,.i6 pO)]/\σ=⟨k7 iD wM,1⟩) (fun tm σ=>∃jN G1,Qm cP (F6 p1 n m1) jN=some r/\tm=fr 66 [(0,.iM bF p1),(5,.vl 0 G1 0 jN.length),(6,.i6 cP)]/\σ=⟨k7 jN G1,1⟩) n ⟨0,cH,eP,J,rfl,rfl⟩ ?_ ?_;rintro _ _ ⟨jN,G1,J,rfl,rfl⟩;unfold Qm at J;refine go ?_;exact lC ⟨_,jN,G1,J,rfl,rfl⟩;rintro(_|m3) _ _ ⟨pO,iD,wM,J,rfl,rfl⟩;cases J;unfold HR at J;refine gF J ?_ ?_<;>intro mY J;refine go ?_;apply aP;obtain⟨J0,XF,J⟩:=a9 J;obtain⟨JK,wo,J⟩:=a9 J;refine go ?_;refine aS XF ?_;refine go ?_;refine aK rfl (vw (HJ n iD J0 JK wo) (jF 0 1)) k8 ?_;refine gn ?_;refine cW (fun tm σ=>∃A9 Ks,Dr pO (HR n cP (F6 p1 n m1) pQ m3) A9=some r/\tm=fr 66 [(0,.iM bF p1),(5,.vl 0 Ks 0 A9.length),(6,.i6 cP),(7,.iM cS pQ.Supers),(8,.i6 pO)]/\σ=⟨k7 A9 Ks,1⟩) ?_ ?_;rintro _ _ ⟨A9,Ks,J,rfl,rfl⟩;unfold Dr at J;refine go ?_;exact lC ⟨_,A9,Ks,J,rfl,rfl⟩;refine cF J ?_ ?_<;>intro LN J;obtain⟨IZ,Gy,J⟩:=a9 J;obtain⟨XE,J⟩:=cC J;refine go ?_;refine aS Gy ?_;refine go ?_;refine bI ?_;refine bI ?_;refine go ?_;exact xC ⟨(iD++[IZ]),(wM+1),J,rfl,rfl⟩;refine go ?_;exact xC ⟨iD,wM,J,rfl,rfl⟩;refine go ?_;exact xC ⟨iD,wM,J,rfl,rfl⟩;refine go ?_;exact xC ⟨cH,eP,J,rfl,rfl⟩
def Ef(cP:Int)(bU:Int->(List (List UInt8))->Option ((List (List UInt8))))(hH:List (List UInt8)):Option ((List (List UInt8))):=
 bU (IntKind.i64.wrap (cP+1)) hH
def Rj(r3:(List (List UInt8)))(cP:Int)(cH:List (List UInt8))(bU:Int->(List (List UInt8))->Option ((List (List UInt8))))(Jm:Bool):Option ((List (List UInt8))):=
 cond Jm (a7 (a8 r3 cP) fun lP=>
  aB ((cH.length+1)*16<=140737488355328/\cH.length+1<=140737488355328) (
  Ef cP bU (cH++[lP]))) (Ef cP bU cH)
def QE(n:Nat)(r3:(List (List UInt8)))(cP:Int)(cH:List (List UInt8))(bU:Int->(List (List UInt8))->Option ((List (List UInt8))))(dX:(List (List UInt8))):Nat->Bool->Int->Option ((List (List UInt8)))
 |0,_,_=>none|m2+1,DJ,m9=>cond (decide (m9<(r3.length:Int))) (a7 (cond DJ (cond (m9==cP) (some true) (a7 (a8 r3 m9) fun qU=>a7 (A7 n dX qU) fun Vj=>some (!Vj))) (some false)) fun Tg=>(QE n r3 cP cH bU dX m2) Tg (IntKind.i64.wrap (m9+1))) (Rj r3 cP cH bU DJ)
def Rk  (bN:List (List UInt8)):Option ((List (List UInt8))):=
 some bN
def C3(p1:List bA)(n:Nat)(r3:(List (List UInt8))):Nat->Int->(List (List UInt8))->Option ((List (List UInt8)))
 |0,_,_=>none|m1+1,cP,cH=>
  cond (decide (cP<(r3.length:Int))) (a7 (a8 r3 cP) fun iL=>
   a7 (Cc n p1 iL) fun dX=>
   QE n r3 cP cH (C3 p1 n r3 m1) dX n true 0) (Rk cH)
def W4(n:Nat)(p1:List bA)(p2:List (List UInt8)):Option ((List (List UInt8))):=
 a7 (Qf n p1 p2) fun r3=>
 C3 p1 n r3 n 0 ([]:List (List UInt8))
theorem qht(n:Nat)(p1:List bA)(p2:List (List UInt8))(r:(List (List UInt8)))(J:W4 n p1 p2=some r):cB prog 132 [.isl false (p1.map bF),.isl false (p2.map cS)] (.isl false (r.map cS)):=by
 unfold W4 at J;refine eW 56 D8 ?_;obtain⟨r3,h4,J⟩:=a9 J;refine go ?_;refine aK rfl (pC (qnd n p1 p2 r3 h4) _) M1 ?_;refine gr ?_;refine gV 5 9 1 1 ?_;refine gL (fun m tm σ=>∃cP cH eP,C3 p1 n r3 m cP cH=some r/\tm=fr 56 [(0,.iM bF p1),(5,.vl 0 eP 0 cH.length),(6,.iM cS r3),(7,.i6 cP)]/\σ=⟨k7 cH eP,1⟩) (fun tm σ=>∃bN eL,Rk bN=some r/\tm=fr 56 [(5,.vl 0 eL 0 bN.length)]/\σ=⟨k7 bN eL,1⟩) n ⟨0,([]:List (List UInt8)),0,J,rfl,rfl⟩ ?_ ?_;rintro _ _ ⟨bN,eL,J,rfl,rfl⟩;unfold Rk at J;refine go ?_;obtain rfl:=sI J;exact rT (us:=[.vl 0 eL 0 bN.length]) (u:=.iM cS bN) (d6 rfl (cO)) (fR 0 1);rintro(_|m1) _ _ ⟨cP,cH,eP,J,rfl,rfl⟩;cases J;unfold C3 at J;refine gF J ?_ ?_<;>intro dN J;refine go ?_;apply aP;obtain⟨iL,eJ,J⟩:=a9 J;obtain⟨dX,gD,J⟩:=a9 J;refine go ?_;refine aS eJ ?_;refine go ?_;refine aK rfl (pC (qsf n p1 iL dX gD) _) LZ ?_;refine go ?_;refine gL (fun m tm σ=>∃DJ m9,QE n r3 cP cH (C3 p1 n r3 m1) dX m DJ m9=some r/\tm=fr 56 [(0,.iM bF p1),(5,.vl 0 eP 0 cH.length),(6,.iM cS r3),(7,.i6 cP),(8,.iM cS dX),(9,.bool DJ),(10,.i6 m9)]/\σ=⟨k7 cH eP,1⟩) (fun tm σ=>∃Jm,Rj r3 cP cH (C3 p1 n r3 m1) Jm=some r/\tm=fr 56 [(0,.iM bF p1),(5,.vl 0 eP 0 cH.length),(6,.iM cS r3),(7,.i6 cP),(9,.bool Jm)]/\σ=⟨k7 cH eP,1⟩) n ⟨true,0,J,rfl,rfl⟩ ?_ ?_;rintro _ _ ⟨Jm,J,rfl,rfl⟩;unfold Rj at J;refine gr ?_;refine cW (fun tm σ=>∃hH kD,Ef cP (C3 p1 n r3 m1) hH=some r/\tm=fr 56 [(0,.iM bF p1),(5,.vl 0 kD 0 hH.length),(6,.iM cS r3),(7,.i6 cP)]/\σ=⟨k7 hH kD,1⟩) ?_ ?_;rintro _ _ ⟨hH,kD,J,rfl,rfl⟩;unfold Ef at J;refine go ?_;exact lC ⟨_,hH,kD,J,rfl,rfl⟩;refine cF J ?_ ?_<;>intro pY J;obtain⟨lP,mI,J⟩:=a9 J;obtain⟨rL,J⟩:=cC J;refine go ?_;refine aS mI ?_;refine go ?_;refine bI ?_;refine bI ?_;refine go ?_;exact xC ⟨(cH++[lP]),(eP+1),J,rfl,rfl⟩;refine go ?_;exact xC ⟨cH,eP,J,rfl,rfl⟩;rintro(_|m2) _ _ ⟨DJ,m9,J,rfl,rfl⟩;cases J;unfold QE at J;refine gF J ?_ ?_<;>intro AE J;refine go ?_;apply aP;obtain⟨Tg,mY,J⟩:=a9 J;refine gn ?_;refine cW (fun tm σ=>tm=fr 56 [(0,.iM bF p1),(5,.vl 0 eP 0 cH.length),(6,.iM cS r3),(7,.i6 cP),(8,.iM cS dX),(9,.bool Tg),(10,.i6 m9)]/\σ=⟨k7 cH eP,1⟩) ?_ ?_;rintro _ _ ⟨rfl,rfl⟩;refine go ?_;exact lC ⟨Tg,(IntKind.i64.wrap (m9+1)),J,rfl,rfl⟩;refine go ?_;rcases gB mY with⟨iK,mY⟩|⟨iK,mY⟩;refine go ?_;rcases gB mY with⟨pX,mY⟩|⟨pX,mY⟩;exact gy mY;obtain⟨qU,CW,mY⟩:=a9 mY;obtain⟨Vj,xZ,mY⟩:=a9 mY;obtain rfl:=sI mY;refine go ?_;refine aS CW ?_;refine go ?_;refine aK rfl (pC (HJ n dX qU Vj xZ) _) k8 ?_;refine go ?_;exact xC ⟨rfl,rfl⟩;obtain rfl:=sI mY;refine go ?_
 repeat refine RS.no (B9 rfl rfl rfl) rfl rfl ?_
 refine go ?_;exact xC ⟨rfl,rfl⟩;refine go ?_;exact xC ⟨DJ,J,rfl,rfl⟩;refine go ?_;exact xC ⟨cH,eP,J,rfl,rfl⟩
def Da(gR:(List (List UInt8)))(cV:Int)(gE:(List UInt8)->Int->Option ((List UInt8)))(JG:List UInt8):Option ((List UInt8)):=
 a7 (a8 gR cV) fun sM=>
 aB (JG.length+sM.length<=9223372036854775807) (
 gE (JG++sM) (IntKind.i64.wrap (cV+1)))
def Pc  (Z4:List UInt8):Option ((List UInt8)):=
 some Z4
def EW(gR:(List (List UInt8))):Nat->(List UInt8)->Int->Option ((List UInt8))
 |0,_,_=>none|m2+1,qZ,cV=>
  cond (decide (cV<(gR.length:Int))) (cond (decide (cV>0)) (aB (qZ.length+([38]).length<=9223372036854775807) (
    Da gR cV (EW gR m2) (qZ++[38]))) (Da gR cV (EW gR m2) qZ)) (Pc qZ)
def Cz(d9:Int)(bU:Int->(List (List UInt8))->Option ((List UInt8)))(jN:List (List UInt8)):Option ((List UInt8)):=
 bU (IntKind.i64.wrap (d9+1)) jN
def Pd(p1:List bA)(n:Nat)(bY:List (List UInt8)):Option ((List UInt8)):=
 a7 (W4 n p1 bY) fun gR=>
 EW gR n [] 0
def HH(p1:List bA)(p2:List (List UInt8))(p3:List (List Int))(p4:List Int)(n:Nat):Nat->Int->(List (List UInt8))->Option ((List UInt8))
 |0,_,_=>none|m1+1,d9,bN=>
  cond (decide (d9<(p2.length:Int))) (a7 (a8 p3 d9) fun n9=>
   a7 (Cd n n9 p4) fun fV=>cond fV (a7 (a8 p2 d9) fun E7=>some E7) (a7 (V7 n p4 d9) fun B7=>cond B7 (a7 (a8 p2 d9) fun N9=>
     aB ((bN.length+1)*16<=140737488355328/\bN.length+1<=140737488355328) (
     Cz d9 (HH p1 p2 p3 p4 n m1) (bN++[N9]))) (Cz d9 (HH p1 p2 p3 p4 n m1) bN))) (Pd p1 n bN)
def Bk(n:Nat)(p1:List bA)(p2:List (List UInt8))(p3:List (List Int))(p4:List Int):Option ((List UInt8)):=
 HH p1 p2 p3 p4 n n 0 ([]:List (List UInt8))
theorem quw(n:Nat)(p1:List bA)(p2:List (List UInt8))(p3:List (List Int))(p4:List Int)(r:(List UInt8))(J:Bk n p1 p2 p3 p4=some r):cB prog 97 [.isl false (p1.map bF),.isl false (p2.map cS),.isl false (List.map (cL (cI .u64)) p3),.isl false (p4.map (cI .u64))] (.str r):=by
 unfold Bk at J;refine xn 59 Hm ?_;refine gr ?_;refine gr ?_;refine gr ?_;refine gV 9 9 1 1 ?_;refine gL (fun m tm σ=>∃d9 bN eL,HH p1 p2 p3 p4 n m d9 bN=some r/\tm=fr 59 [(0,.iM bF p1),(1,.iM cS p2),(2,.iM (cL (cI .u64)) p3),(3,.iM (cI .u64) p4),(9,.vl 0 eL 0 bN.length),(10,.i6 d9)]/\σ=⟨k7 bN eL,1⟩) (fun tm σ=>∃bY dV,Pd p1 n bY=some r/\tm=fr 59 [(0,.iM bF p1),(9,.vl 0 dV 0 bY.length)]/\σ=⟨k7 bY dV,1⟩) n ⟨0,([]:List (List UInt8)),0,J,rfl,rfl⟩ ?_ ?_;rintro _ _ ⟨bY,dV,J,rfl,rfl⟩;unfold Pd at J;refine gn ?_;refine bX (tm':=fr 59 [(0,.iM bF p1),(9,.iM cS bY)]) (σ':=⟨[],1⟩) (Gh.trans (Gh.sub (l':=[(0,.iM bF p1),(9,.vl 0 dV 0 bY.length)]) ⟨rfl,rfl,trivial⟩) (AJ 0 1)) NZ ?_;obtain⟨gR,cJ,J⟩:=a9 J;refine go ?_;refine aK rfl (pC (qht n p1 bY gR cJ) _) D8 ?_;refine go ?_;refine gL (fun m tm σ=>∃qZ cV,EW gR m qZ cV=some r/\tm=fr 59 [(9,.iM cS gR),(11,.str qZ),(12,.i6 cV)]/\σ=⟨[],1⟩) (fun tm σ=>∃Z4,Pc Z4=some r/\tm=fr 59 [(11,.str Z4)]/\σ=⟨[],1⟩) n ⟨[],0,J,rfl,rfl⟩ ?_ ?_;rintro _ _ ⟨Z4,J,rfl,rfl⟩;unfold Pc at J;exact gx J;rintro(_|m2) _ _ ⟨qZ,cV,J,rfl,rfl⟩;cases J;unfold EW at J;refine gF J ?_ ?_<;>intro mZ J;refine go ?_;apply aP;refine gr ?_;refine cW (fun tm σ=>∃JG,Da gR cV (EW gR m2) JG=some r/\tm=fr 59 [(9,.iM cS gR),(11,.str JG),(12,.i6 cV)]/\σ=⟨[],1⟩) ?_ ?_;rintro _ _ ⟨JG,J,rfl,rfl⟩;unfold Da at J;obtain⟨sM,m6,J⟩:=a9 J;obtain⟨pL,J⟩:=cC J;refine go ?_;refine aS m6 ?_;refine go ?_;refine aJ (u:=.str (JG++sM)) rfl (z0 rfl rfl (jo pL) rfl) ?_;refine go ?_;exact lC ⟨(JG++sM),(IntKind.i64.wrap (cV+1)),J,rfl,rfl⟩;refine cF J ?_ ?_<;>intro kY J;obtain⟨pY,J⟩:=cC J;refine go ?_;refine aJ (u:=.str (qZ++[38])) rfl (z0 rfl rfl (jo pY) rfl) ?_;refine go ?_;exact xC ⟨(qZ++[38]),J,rfl,rfl⟩;refine go ?_;exact xC ⟨qZ,J,rfl,rfl⟩;refine go ?_;exact xC ⟨qZ,J,rfl,rfl⟩;rintro(_|m1) _ _ ⟨d9,bN,eL,J,rfl,rfl⟩;cases J;unfold HH at J;refine gF J ?_ ?_<;>intro kX J;refine go ?_;apply aP;obtain⟨n9,kW,J⟩:=a9 J;obtain⟨fV,rL,J⟩:=a9 J;refine go ?_;refine aS kW ?_;refine go ?_;refine aK rfl (pC (qsd n n9 p4 fV rL) _) M8 ?_;refine gF J ?_ ?_<;>intro AE J;obtain⟨E7,pX,J⟩:=a9 J;refine go ?_;refine aS pX ?_;exact gx J;obtain⟨B7,CW,J⟩:=a9 J;refine go ?_;refine aK rfl (pC (qp6 n p4 d9 B7 CW) _) D9 ?_;refine gn ?_;refine cW (fun tm σ=>∃jN G1,Cz d9 (HH p1 p2 p3 p4 n m1) jN=some r/\tm=fr 59 [(0,.iM bF p1),(1,.iM cS p2),(2,.iM (cL (cI .u64)) p3),(3,.iM (cI .u64) p4),(9,.vl 0 G1 0 jN.length),(10,.i6 d9)]/\σ=⟨k7 jN G1,1⟩) ?_ ?_;rintro _ _ ⟨jN,G1,J,rfl,rfl⟩;unfold Cz at J;refine go ?_;exact lC ⟨_,jN,G1,J,rfl,rfl⟩;refine cF J ?_ ?_<;>intro nK J;obtain⟨N9,XG,J⟩:=a9 J;obtain⟨XF,J⟩:=cC J;refine go ?_;refine aS XG ?_;refine go ?_;refine bI ?_;refine bI ?_;refine go ?_;exact xC ⟨(bN++[N9]),(eL+1),J,rfl,rfl⟩;refine go ?_;exact xC ⟨bN,eL,J,rfl,rfl⟩;refine go ?_;exact xC ⟨bN,eL,J,rfl,rfl⟩
def Dc(z6:Int)(bU:Int->(List Int)->Option ((List Int)))(bY:List Int):Option ((List Int)):=
 bU (IntKind.i64.wrap (z6+1)) bY
def Pj  (l9:List Int):Option ((List Int)):=
 some l9
def HK(p1:List Int)(n:Nat):Nat->Int->(List Int)->Option ((List Int))
 |0,_,_=>none|m1+1,z6,l7=>
  cond (decide (z6<(IntKind.i64.wrap (64*(p1.length:Int))))) (a7 (V7 n p1 z6) fun dH=>cond dH (aB ((l7.length+1)*8<=140737488355328/\l7.length+1<=140737488355328) (
    Dc z6 (HK p1 n m1) (l7++[z6]))) (Dc z6 (HK p1 n m1) l7)) (Pj l7)
def Nk(n:Nat)(p1:List Int):Option ((List Int)):=
 HK p1 n n 0 ([]:List Int)
theorem qut(n:Nat)(p1:List Int)(r:(List Int))(J:Nk n p1=some r):cB prog 152 [.isl false (p1.map (cI .u64))] (.isl false (r.map (cI .i64))):=by
 unfold Nk at J;refine iA 20 LY ?_;refine gr ?_;refine gr ?_;refine gr ?_;refine gV 3 3 1 1 ?_;refine gL (fun m tm σ=>∃z6 l7 t8,HK p1 n m z6 l7=some r/\tm=fr 20 [(0,.iM (cI .u64) p1),(3,.vl 0 t8 0 l7.length),(4,.i6 z6)]/\σ=⟨xG l7 t8,1⟩) (fun tm σ=>∃l9 bV,Pj l9=some r/\tm=fr 20 [(3,.vl 0 bV 0 l9.length)]/\σ=⟨xG l9 bV,1⟩) n ⟨0,([]:List Int),0,J,rfl,rfl⟩ ?_ ?_;rintro _ _ ⟨l9,bV,J,rfl,rfl⟩;unfold Pj at J;refine go ?_;obtain rfl:=sI J;exact rT (us:=[.vl 0 bV 0 l9.length]) (u:=.iM (cI .i64) l9) (d6 rfl (cO)) (fR 0 1);rintro(_|m1) _ _ ⟨z6,l7,t8,J,rfl,rfl⟩;cases J;unfold HK at J;refine gF J ?_ ?_<;>intro fM J;refine go ?_;apply aP;obtain⟨dH,cM,J⟩:=a9 J;refine go ?_;refine aK rfl (pC (qp6 n p1 z6 dH cM) _) D9 ?_;refine gn ?_;refine cW (fun tm σ=>∃bY dV,Dc z6 (HK p1 n m1) bY=some r/\tm=fr 20 [(0,.iM (cI .u64) p1),(3,.vl 0 dV 0 bY.length),(4,.i6 z6)]/\σ=⟨xG bY dV,1⟩) ?_ ?_;rintro _ _ ⟨bY,dV,J,rfl,rfl⟩;unfold Dc at J;refine go ?_;exact lC ⟨_,bY,dV,J,rfl,rfl⟩;refine cF J ?_ ?_<;>intro fD J;obtain⟨eJ,J⟩:=cC J;refine go ?_;refine bI ?_;refine bI ?_;refine go ?_;exact xC ⟨(l7++[z6]),(t8+1),J,rfl,rfl⟩;refine go ?_;exact xC ⟨l7,t8,J,rfl,rfl⟩;refine go ?_;exact xC ⟨l7,t8,J,rfl,rfl⟩
def VK(n:Nat)(p1:List Int):Option (Int):=
 a7 (Nk n p1) fun r2=>some (r2.length:Int)
theorem ql6(n:Nat)(p1:List Int)(r:Int)(J:VK n p1=some r):cB prog 133 [.isl false (p1.map (cI .u64))] (.int .i64 r):=by
 unfold VK at J;refine iA 6 D7 ?_;obtain⟨r2,h3,J⟩:=a9 J;refine go ?_;refine aK rfl (pC (qut n p1 r2 h3) _) LY ?_;exact gx J
def Co(n:Nat)(p1:cR)(p2:cR):Option (Bool):=
 a7 (VK n p1.Code) fun r3=>
 a7 (VK n p2.Code) fun r5=>
 a7 (cond (decide (r3>r5)) (some true) (cond (r3==r5) (some (iI p1.Name p2.Name)) (some false))) fun b9=>some b9
theorem qq3(n:Nat)(p1:cR)(p2:cR)(r:Bool)(J:Co n p1 p2=some r):cB prog 98 [.agg (eS p1),.agg (eS p2)] (.bool r):=by
 unfold Co at J;refine eW 28 Hl ?_;obtain⟨r3,h4,J⟩:=a9 J;refine go ?_;refine aK rfl (pC (ql6 n p1.Code r3 h4) _) D7 ?_;obtain⟨r5,h6,J⟩:=a9 J;refine go ?_;refine aK rfl (pC (ql6 n p2.Code r5 h6) _) D7 ?_;obtain⟨b9,eK,J⟩:=a9 J;refine gn ?_;refine cW (fun tm σ=>tm=fr 28 [(4,.bool b9)]/\σ=⟨[(1,.row (eS p2) 128),(0,.row (eS p1) 128)],2⟩) ?_ ?_;rintro _ _ ⟨rfl,rfl⟩;exact gx J;refine go ?_;rcases gB eK with⟨h7,eK⟩|⟨h7,eK⟩;obtain rfl:=sI eK;refine go ?_
 repeat refine RS.no (B9 rfl rfl rfl) rfl rfl ?_
 refine go ?_;exact xC ⟨rfl,rfl⟩;refine go ?_;rcases gB eK with⟨h8,eK⟩|⟨h8,eK⟩;obtain rfl:=sI eK;refine go ?_;refine RS.w (u:=.bool (iI p1.Name p2.Name)) rfl (z0 rfl rfl rfl rfl) ?_;refine go ?_;exact xC ⟨rfl,rfl⟩;exact gy eK
def Do(cU:Int)(bQ:List cR)(gE:Int->(List cR)->Option ((List cR)×Int))(fV:(List UInt8))(gO:List Int)(fN:Int):Option ((List cR)×Int):=
 aB ((0:Int)<=fN/\fN<=((bQ.length:Nat):Int)) (
 aB (0+fN.toNat<=bQ.length) (
 aB (((bQ.drop 0).take fN.toNat).length*40<=140737488355328/\((bQ.drop 0).take fN.toNat).length<=140737488355328) (
 aB ((((bQ.drop 0).take fN.toNat).length+1)*40<=140737488355328/\((bQ.drop 0).take fN.toNat).length+1<=140737488355328) (
 aB ((0:Int)<=fN/\fN<=((bQ.length:Nat):Int)) (
 aB ((0+fN.toNat)+(bQ.length-fN.toNat)<=bQ.length) (
 aB (((((bQ.drop 0).take fN.toNat)++[(cR.mk fV gO)]).length+((bQ.drop (0+fN.toNat)).take (bQ.length-fN.toNat)).length)*40<=140737488355328/\(((bQ.drop 0).take fN.toNat)++[(cR.mk fV gO)]).length+((bQ.drop (0+fN.toNat)).take (bQ.length-fN.toNat)).length<=140737488355328) (
 gE (IntKind.i64.wrap (cU+1)) ((((bQ.drop 0).take fN.toNat)++[(cR.mk fV gO)])++((bQ.drop (0+fN.toNat)).take (bQ.length-fN.toNat))))))))))
def WB(n:Nat)(cU:Int)(bQ:List cR)(gE:Int->(List cR)->Option ((List cR)×Int))(fV:(List UInt8))(gO:List Int):Nat->Int->Option ((List cR)×Int)
 |0,_=>none|m3+1,E4=>a7 (cond (decide (E4>0)) (a7 (a8 bQ (IntKind.i64.wrap (E4-1))) fun rO=>a7 (Co n (cR.mk fV gO) rO) fun eC=>some eC) (some false)) fun xw=>cond xw ((WB n cU bQ gE fV gO m3) (IntKind.i64.wrap (E4-1))) (Do cU bQ gE fV gO E4)
def Qa  (dP:List cR):Option ((List cR)×Int):=
 some (dP,0)
def HO(p1:List bA)(n:Nat)(r5:(List (List UInt8)))(bY:List (List Int))(gR:(List (List Int))):Nat->Int->(List cR)->Option ((List cR)×Int)
 |0,_,_=>none|m2+1,cU,bQ=>
  cond (decide (cU<(gR.length:Int))) (a7 (a8 gR cU) fun n9=>
   a7 (Bk n p1 r5 bY n9) fun fV=>
   a7 (a8 gR cU) fun gO=>
   WB n cU bQ (HO p1 n r5 bY gR m2) fV gO n (bQ.length:Int)) (Qa bQ)
def Qb(p1:List bA)(n:Nat)(r5:(List (List UInt8)))(bY:List (List Int)):Option ((List cR)×Int):=
 a7 (Cn n bY) fun gR=>cond (decide ((gR.length:Int)>256)) (some ([],7)) (HO p1 n r5 bY gR n 0 ([]:List cR))
def Q3(p1:List bA)(n:Nat)(r5:(List (List UInt8))):Nat->Int->(List (List Int))->Option ((List cR)×Int)
 |0,_,_=>none|m1+1,d9,bN=>
  cond (decide (d9<(r5.length:Int))) (a7 (a8 r5 d9) fun Uu=>
   a7 (Bl n p1 r5 Uu) fun Kz=>
   aB ((bN.length+1)*24<=140737488355328/\bN.length+1<=140737488355328) ((Q3 p1 n r5 m1) (IntKind.i64.wrap (d9+1)) (bN++[Kz]))) (Qb p1 n r5 bN)
def HA(n:Nat)(p1:List bA):Option ((List cR)×Int):=
 a7 (Ca n p1) fun r2=>cond (r2 != 0) (some ([],r2)) (a7 (Bz n p1) fun r5=>Q3 p1 n r5 n 0 ([]:List (List Int)))
theorem Pg(n:Nat)(p1:List bA)(r:(List cR)×Int)(J:HA n p1=some r):cB prog 60 [.isl false (p1.map bF)] (.tup [.isl false (r.1.map eS),.int .i64 r.2]):=by
 unfold HA at J;refine iA 92 CY ?_;obtain⟨r2,h3,J⟩:=a9 J;refine go ?_;refine aK rfl (pC (qsh n p1 r2 h3) _) Hq ?_;refine gF J ?_ ?_<;>intro h4 J;refine go ?_;obtain rfl:=sI J;exact rT (us:=[.nils,.i6 r2]) (u:=.tup [.isl false [],.i6 r2]) (d6 rfl (d6 rfl (cO))) wR;obtain⟨r5,h6,J⟩:=a9 J;refine go ?_;refine aK rfl (pC (ql8 n p1 r5 h6) _) S7 ?_;refine gr ?_;refine gr ?_;refine gV 6 126 1 1 ?_;refine gL (fun m tm σ=>∃d9 bN eL,Q3 p1 n r5 m d9 bN=some r/\tm=fr 92 [(0,.iM bF p1),(5,.iM cS r5),(6,.vl 0 eL 0 bN.length),(7,.i6 d9)]/\σ=⟨[(0,.bv (cL (cI .u64)) bN 126 1 eL)],1⟩) (fun tm σ=>∃bY dV,Qb p1 n r5 bY=some r/\tm=fr 92 [(0,.iM bF p1),(5,.iM cS r5),(6,.vl 0 dV 0 bY.length)]/\σ=⟨[(0,.bv (cL (cI .u64)) bY 126 1 dV)],1⟩) n ⟨0,([]:List (List Int)),0,J,rfl,rfl⟩ ?_ ?_;rintro _ _ ⟨bY,dV,J,rfl,rfl⟩;unfold Qb at J;refine gn ?_;refine bX (tm':=fr 92 [(0,.iM bF p1),(5,.iM cS r5),(6,.iM (cL (cI .u64)) bY)]) (σ':=⟨[],1⟩) (Gh.trans (Gh.sub (l':=[(0,.iM bF p1),(5,.iM cS r5),(6,.vl 0 dV 0 bY.length)]) ⟨rfl,rfl,rfl,trivial⟩) (AJ 0 1)) NZ ?_;obtain⟨gR,cJ,J⟩:=a9 J;refine go ?_;refine aK rfl (pC (qq4 n bY gR cJ) _) Hn ?_;refine gF J ?_ ?_<;>intro gD J;refine go ?_;obtain rfl:=sI J;exact rT (us:=[.nils,.i6 7]) (u:=.tup [.isl false [],.i6 7]) (d6 rfl (d6 rfl (cO))) wR;refine gr ?_;refine gr ?_;refine gV 9 128 2 2 ?_;refine gL (fun m tm σ=>∃cU bQ gY,HO p1 n r5 bY gR m cU bQ=some r/\tm=fr 92 [(0,.iM bF p1),(5,.iM cS r5),(6,.iM (cL (cI .u64)) bY),(8,.iM (cL (cI .u64)) gR),(9,.vl 1 gY 0 bQ.length),(10,.i6 cU)]/\σ=⟨[(1,.bv eS bQ 128 2 gY)],2⟩) (fun tm σ=>∃dP EB,Qa dP=some r/\tm=fr 92 [(9,.vl 1 EB 0 dP.length)]/\σ=⟨[(1,.bv eS dP 128 2 EB)],2⟩) n ⟨0,([]:List cR),0,J,rfl,rfl⟩ ?_ ?_;rintro _ _ ⟨dP,EB,J,rfl,rfl⟩;unfold Qa at J;refine go ?_;obtain rfl:=sI J;exact rT (us:=[.vl 1 EB 0 dP.length,.i6 0]) (u:=.tup [.iM eS dP,.i6 0]) (d6 rfl (d6 rfl (cO))) (fR 1 2);rintro(_|m2) _ _ ⟨cU,bQ,gY,J,rfl,rfl⟩;cases J;unfold HO at J;refine gF J ?_ ?_<;>intro kX J;refine go ?_;apply aP;obtain⟨n9,kW,J⟩:=a9 J;obtain⟨fV,rL,J⟩:=a9 J;obtain⟨gO,iK,J⟩:=a9 J;refine go ?_;refine dE [(0,13),(1,13),(2,13),(3,13),(4,13),(5,13),(6,13),(8,13),(9,13),(10,13),(11,13),(12,13)] ?_;refine gd ?_;refine bS kW ?_;refine gd ?_;refine eN rfl (pC (quw n p1 r5 bY n9 fV rL)) Hm ?_;refine gd ?_;refine bS iK ?_;refine gd ?_;refine dA ?_;refine n8 ?_;refine aZ ⟨by kernel_rfl,⟨g8 rfl,⟨g8 rfl,⟨g8 rfl,⟨g8 rfl,⟨g8 rfl,⟨d7 rfl rfl (UD (cL (cI .u64)) oB.h (aR mV.h) (JT (cI .u64)) kW rfl),⟨ZE eZ.h rfl rfl rfl,⟨g8 rfl,⟨g8 rfl,⟨d7 rfl rfl (UD (cL (cI .u64)) oB.h (aR mV.h) (JT (cI .u64)) iK rfl),⟨ZE eZ.h rfl rfl rfl,⟨Le Jl.h rfl rfl rfl,trivial⟩⟩⟩⟩⟩⟩⟩⟩⟩⟩⟩⟩,?_⟩;refine go ?_;refine gL (fun m tm σ=>∃E4,WB n cU bQ (HO p1 n r5 bY gR m2) fV gO m E4=some r/\tm=fr 92 [(0,.iM bF p1),(5,.iM cS r5),(6,.iM (cL (cI .u64)) bY),(8,.iM (cL (cI .u64)) gR),(9,.vl 1 gY 0 bQ.length),(10,.i6 cU),(11,.ptr 2 0 0),(12,.i6 E4)]/\σ=⟨Ag (.str fV) gO bQ gY,3⟩) (fun tm σ=>∃fN,Do cU bQ (HO p1 n r5 bY gR m2) fV gO fN=some r/\tm=fr 92 [(0,.iM bF p1),(5,.iM cS r5),(6,.iM (cL (cI .u64)) bY),(8,.iM (cL (cI .u64)) gR),(9,.vl 1 gY 0 bQ.length),(10,.i6 cU),(11,.ptr 2 0 0),(12,.i6 fN)]/\σ=⟨Ag (.str fV) gO bQ gY,3⟩) n ⟨(bQ.length:Int),J,rfl,rfl⟩ ?_ ?_;rintro _ _ ⟨fN,J,rfl,rfl⟩;unfold Do at J;obtain⟨sH,J⟩:=cC J;obtain⟨xY,J⟩:=cC J;obtain⟨Te,J⟩:=cC J;refine go ?_;refine aJ (u:=.vl 1 gY 0 fN.toNat) rfl (u9 rfl jS (tS rfl) jS (GD eS oC.h (aR oO.h) KG (vo rfl) (Nat.le_of_eq (Nat.zero_add _)) (P1 sH.1 sH.2))) (aJ (u:=.vl 3 0 0 (((bQ.drop 0).take fN.toNat).length)) (σ':=⟨(3,.bv eS ((bQ.drop 0).take fN.toNat) 128 2 0)::Ag (.str fV) gO bQ gY,4⟩) rfl (pV rfl rfl rfl rfl (Wg eS ((bQ.drop 0).take fN.toNat) oC.h oC.h oO.h rfl (Lb eS KG (vo rfl) xY) Te)) ?_);obtain⟨Gy,J⟩:=cC J;refine go ?_;refine bI ?_;refine bI ?_;obtain⟨XE,J⟩:=cC J;obtain⟨CU,J⟩:=cC J;obtain⟨RZ,J⟩:=cC J;refine go ?_;refine aJ (u:=.vl 1 gY (0+fN.toNat) (bQ.length-fN.toNat)) rfl (u9 rfl (tS rfl) jS jS (GD eS oC.h (aR oO.h) KG (vo rfl) (Nat.le_of_eq (Nat.zero_add _)) (Lq XE.1 XE.2))) (aJ (u:=.vl 3 2 0 (((((bQ.drop 0).take fN.toNat)++[(cR.mk fV gO)])++((bQ.drop (0+fN.toNat)).take (bQ.length-fN.toNat))).length)) (σ':=⟨(4,.row [.str fV,.iM (cI .u64) gO] 128)::(3,.bv eS ((((bQ.drop 0).take fN.toNat)++[(cR.mk fV gO)])++((bQ.drop (0+fN.toNat)).take (bQ.length-fN.toNat))) 128 2 2)::Ag (.str fV) gO bQ gY,5⟩) rfl (pV rfl rfl rfl rfl (JU eS ((bQ.drop (0+fN.toNat)).take (bQ.length-fN.toNat)) oC.h oC.h oO.h rfl KG rfl (Lb eS KG (vo rfl) CU) RZ)) ?_);refine go ?_;exact⟨m2,_,_,zN _,⟨(IntKind.i64.wrap (cU+1)),((((bQ.drop 0).take fN.toNat)++[(cR.mk fV gO)])++((bQ.drop (0+fN.toNat)).take (bQ.length-fN.toNat))),2,J,rfl,rfl⟩,NZ,Gh.trans (Gh.sub (l':=[(0,.iM bF p1),(5,.iM cS r5),(6,.iM (cL (cI .u64)) bY),(8,.iM (cL (cI .u64)) gR),(9,.vl 3 2 0 (((((bQ.drop 0).take fN.toNat)++[(cR.mk fV gO)])++((bQ.drop (0+fN.toNat)).take (bQ.length-fN.toNat))).length)),(10,.i6 (IntKind.i64.wrap (cU+1)))]) ⟨rfl,rfl,rfl,rfl,rfl,rfl,trivial⟩) (Gh.trans (Gh.mv (l':=[(0,.iM bF p1),(5,.iM cS r5),(6,.iM (cL (cI .u64)) bY),(8,.iM (cL (cI .u64)) gR),(9,.vl 1 2 0 (((((bQ.drop 0).take fN.toNat)++[(cR.mk fV gO)])++((bQ.drop (0+fN.toNat)).take (bQ.length-fN.toNat))).length)),(10,.i6 (IntKind.i64.wrap (cU+1)))]) (h':=[(4,.row [.str fV,.iM (cI .u64) gO] 128),(1,.bv eS ((((bQ.drop 0).take fN.toNat)++[(cR.mk fV gO)])++((bQ.drop (0+fN.toNat)).take (bQ.length-fN.toNat))) 128 2 2),(2,.row [.str fV,.iM (cI .u64) gO] 128)]) 1 3 NZ rfl rfl (by simp only[rS,rU,gJ,JW,uB,Nat.beq,zC,zD]) rfl (by simp only[Jo,rB,UA,gJ,rU,JW,Lc,uB,Nat.beq,zC,zD,and_self])) (Gh.toC (n1:=2) ⟨rfl,rfl,rfl,rfl,rfl,rfl,trivial⟩ rfl NZ (by simp)))⟩;rintro(_|m3) _ _ ⟨E4,J,rfl,rfl⟩;cases J;unfold WB at J;obtain⟨xw,mX,J⟩:=a9 J;refine gn ?_;refine cW (fun tm σ=>tm=fr 92 [(0,.iM bF p1),(5,.iM cS r5),(6,.iM (cL (cI .u64)) bY),(8,.iM (cL (cI .u64)) gR),(9,.vl 1 gY 0 bQ.length),(10,.i6 cU),(11,.ptr 2 0 0),(12,.i6 E4),(73,.bool xw)]/\σ=⟨Ag (.str fV) gO bQ gY,3⟩) ?_ ?_;rintro _ _ ⟨rfl,rfl⟩;refine gF J ?_ ?_<;>intro Gw J;refine go ?_;apply aP;refine go ?_;exact lC ⟨_,J,rfl,rfl⟩;refine go ?_;exact xC ⟨E4,J,rfl,rfl⟩;refine dE [] ?_;refine gd ?_;rcases gB mX with⟨FN,mX⟩|⟨FN,mX⟩;obtain⟨rO,I9,mX⟩:=a9 mX;obtain⟨eC,xX,mX⟩:=a9 mX;obtain rfl:=sI mX;refine gd ?_;refine RD.w rfl (d7 rfl rfl (fJ eS oC.h (aR oO.h) (by decide) KG (vo rfl) I9)) ?_;refine RD.w (u:=.agg (eS rO)) rfl (OW eS J7.h rfl (aR oO.h) KG rfl rfl I9 rfl) (eN rfl (pC (qq3 n (cR.mk fV gO) rO eC xX)) Hl ?_);refine gd ?_;refine aZ ⟨by kernel_rfl,trivial,?_⟩;refine go ?_;exact xC ⟨rfl,rfl⟩;obtain rfl:=sI mX;refine gd ?_;refine aZ ⟨by kernel_rfl,trivial,?_⟩;refine go ?_;exact xC ⟨rfl,rfl⟩;refine go ?_;exact xC ⟨bQ,gY,J,rfl,rfl⟩;rintro(_|m1) _ _ ⟨d9,bN,eL,J,rfl,rfl⟩;cases J;unfold Q3 at J;refine gF J ?_ ?_<;>intro Td J;refine go ?_;apply aP;obtain⟨Uu,Gv,J⟩:=a9 J;obtain⟨Kz,h70,J⟩:=a9 J;obtain⟨Ta,J⟩:=cC J;refine go ?_;refine aS Gv ?_;refine go ?_;refine aK rfl (pC (quv n p1 r5 Uu Kz h70) _) Ho ?_;refine bI ?_;refine bI ?_;refine go ?_;exact lC ⟨_,(bN++[Kz]),(eL+1),J,rfl,rfl⟩;refine go ?_;exact xC ⟨bN,eL,J,rfl,rfl⟩
def Ps: Option ((List UInt8)×Bool):=
 some ([],false)
def PZ(p1:bA)(p2:List UInt8):Nat->Int->Option ((List UInt8)×Bool)
 |0,_=>none|m1+1,z8=>cond (decide (z8<(p1.Feats.length:Int))) (a7 (a8 p1.Feats z8) fun x10=>cond (iX x10.Feat p2) (a7 (a8 p1.Feats z8) fun J1=>some (J1.Value,true)) ((PZ p1 p2 m1) (IntKind.i64.wrap (z8+1)))) (Ps)
def Bw(n:Nat)(p1:bA)(p2:List UInt8):Option ((List UInt8)×Bool):=
 PZ p1 p2 n 0
theorem qlb(n:Nat)(p1:bA)(p2:List UInt8)(r:(List UInt8)×Bool)(J:Bw n p1 p2=some r):cB prog 118 [.agg (bF p1),.str p2] (.tup [.str r.1,.bool r.2]):=by
 unfold Bw at J;refine eW 28 DA ?_;refine go ?_;refine gL (fun m tm σ=>∃z8,PZ p1 p2 m z8=some r/\tm=fr 28 [(1,.str p2),(2,.ptr 0 0 0),(6,.i6 z8)]/\σ=⟨[(0,.row (bF p1) 138)],1⟩) (fun tm σ=>Ps=some r/\tm=fr 28 []/\σ=⟨[(0,.row (bF p1) 138)],1⟩) n ⟨0,J,rfl,rfl⟩ ?_ ?_;rintro _ _ ⟨J,rfl,rfl⟩;unfold Ps at J;refine go ?_;obtain rfl:=sI J;exact sQ rfl rfl rfl rfl rfl;rintro(_|m1) _ _ ⟨z8,J,rfl,rfl⟩;cases J;unfold PZ at J;refine gF J ?_ ?_<;>intro h9 J;refine go ?_;apply aP;obtain⟨x10,fM,J⟩:=a9 J;refine go ?_;refine aS fM ?_;refine go ?_;refine aJ (u:=.bool (iX x10.Feat p2)) rfl (z0 rfl rfl rfl rfl) ?_;refine gF J ?_ ?_<;>intro dJ J;obtain⟨J1,fD,J⟩:=a9 J;refine go ?_;refine aS fD ?_;refine go ?_;obtain rfl:=sI J;exact sQ rfl rfl rfl rfl rfl;refine go ?_;exact lC ⟨_,J,rfl,rfl⟩;refine go ?_;exact xC ⟨J,rfl,rfl⟩
def Dm(z8:Int)(bU:(List (List UInt8))->Int->Option ((List UInt8)×Bool))(iR:List (List UInt8)):Option ((List UInt8)×Bool):=
 bU iR (IntKind.i64.wrap (z8+1))
def Pu(p1:List bA)(n:Nat)(l9:List (List UInt8)):Option ((List UInt8)×Bool):=
 a7 (W4 n p1 l9) fun dO=>cond ((dO.length:Int) != 1) (some ([],false)) (a7 (a8 dO 0) fun J1=>some (J1,true))
def HN(p1:List bA)(p2:List UInt8)(n:Nat):Nat->(List (List UInt8))->Int->Option ((List UInt8)×Bool)
 |0,_,_=>none|m1+1,l7,z8=>
  cond (decide (z8<(p1.length:Int))) (a7 (a8 p1 z8) fun iL=>
   a7 (Bw n iL p2) fun dX=>cond dX.2 (a7 (a8 p1 z8) fun iB=>
    a7 (H4 n l7 iB.Name) fun mO=>
    Dm z8 (HN p1 p2 n m1) mO) (Dm z8 (HN p1 p2 n m1) l7)) (Pu p1 n l7)
def Bx(n:Nat)(p1:List bA)(p2:List UInt8):Option ((List UInt8)×Bool):=
 HN p1 p2 n n [] 0
theorem qla(n:Nat)(p1:List bA)(p2:List UInt8)(r:(List UInt8)×Bool)(J:Bx n p1 p2=some r):cB prog 100 [.isl false (p1.map bF),.str p2] (.tup [.str r.1,.bool r.2]):=by
 unfold Bx at J;refine eW 43 DD ?_;refine gr ?_;refine gr ?_;refine gr ?_;refine bX (tm':=fr 43 [(0,.iM bF p1),(1,.str p2),(6,.iM cS []),(7,.i6 0)]) (Gh.trans (Gh.sub (l':=[(0,.iM bF p1),(1,.str p2),(6,.nils),(7,.i6 0)]) ⟨rfl,rfl,rfl,rfl,trivial⟩) (Gh.wkS (l':=[(0,.iM bF p1),(1,.str p2),(6,.iM cS []),(7,.i6 0)]) (.cons (.refl _) (.cons (.refl _) (.cons (.nil false) (.cons (.refl _) .nil)))))) NZ ?_;refine gL (fun m tm σ=>∃l7 z8,HN p1 p2 n m l7 z8=some r/\tm=fr 43 [(0,.iM bF p1),(1,.str p2),(6,.iM cS l7),(7,.i6 z8)]/\σ=⟨[],0⟩) (fun tm σ=>∃l9,Pu p1 n l9=some r/\tm=fr 43 [(0,.iM bF p1),(6,.iM cS l9)]/\σ=⟨[],0⟩) n ⟨[],0,J,rfl,rfl⟩ ?_ ?_;rintro _ _ ⟨l9,J,rfl,rfl⟩;unfold Pu at J;obtain⟨dO,fM,J⟩:=a9 J;refine go ?_;refine aK rfl (pC (qht n p1 l9 dO fM) _) D8 ?_;refine gF J ?_ ?_<;>intro dJ J;refine go ?_;obtain rfl:=sI J;exact sQ rfl rfl rfl rfl rfl;obtain⟨J1,fD,J⟩:=a9 J;refine go ?_;refine aS fD ?_;refine go ?_;obtain rfl:=sI J;exact sQ rfl rfl rfl rfl rfl;rintro(_|m1) _ _ ⟨l7,z8,J,rfl,rfl⟩;cases J;unfold HN at J;refine gF J ?_ ?_<;>intro dN J;refine go ?_;apply aP;obtain⟨iL,eJ,J⟩:=a9 J;obtain⟨dX,gD,J⟩:=a9 J;refine go ?_;refine aS eJ ?_;refine go ?_;refine aK rfl (pC (qlb n iL p2 dX gD) _) DA ?_;refine gr ?_;refine cW (fun tm σ=>∃iR,Dm z8 (HN p1 p2 n m1) iR=some r/\tm=fr 43 [(0,.iM bF p1),(1,.str p2),(6,.iM cS iR),(7,.i6 z8)]/\σ=⟨[],0⟩) ?_ ?_;rintro _ _ ⟨iR,J,rfl,rfl⟩;unfold Dm at J;refine go ?_;exact lC ⟨iR,(IntKind.i64.wrap (z8+1)),J,rfl,rfl⟩;refine cF J ?_ ?_<;>intro oQ J;obtain⟨iB,kZ,J⟩:=a9 J;obtain⟨mO,mZ,J⟩:=a9 J;refine go ?_;refine aS kZ ?_;refine go ?_;refine aK rfl (pC (VI n l7 iB.Name mO mZ) _) oS ?_;refine go ?_;exact xC ⟨mO,J,rfl,rfl⟩;refine go ?_;exact xC ⟨l7,J,rfl,rfl⟩;refine go ?_;exact xC ⟨l7,J,rfl,rfl⟩
def PW(n:Nat)(p1:List UInt8):Option (Bool):=
 a7 (VL n p1 true) fun r2=>some r2
theorem qp5(n:Nat)(p1:List UInt8)(r:Bool)(J:PW n p1=some r):cB prog 145 [.str p1] (.bool r):=by
 unfold PW at J;refine iA 5 M4 ?_;obtain⟨r2,h3,J⟩:=a9 J;refine go ?_;refine aK rfl (pC (ql5 n p1 true r2 h3) _) D3 ?_;exact gx J
def Sd(n:Nat)(r2:(List (List UInt8)))(x9:bA)(fW:Int)(gE:Int->Option (Int)): Option (Int):=
 a7 (a8 x9.Feats fW) fun NA=>
 a7 (A7 n r2 NA.Value) fun lF=>cond (!lF) (some 5) (gE (IntKind.i64.wrap (fW+1)))
def X2(n:Nat)(r2:(List (List UInt8)))(x9:bA)(fW:Int)(gE:Int->Option (Int)):Nat->Int->Option (Int)
 |0,_=>none|m3+1,m9=>cond (decide (m9<fW)) (a7 (a8 x9.Feats m9) fun AU=>a7 (a8 x9.Feats fW) fun E7=>cond (iX AU.Feat E7.Feat) (some 4) ((X2 n r2 x9 fW gE m3) (IntKind.i64.wrap (m9+1)))) (Sd n r2 x9 fW gE)
def Se(z7:Int)(bU:Int->Option (Int)): Option (Int):=
 bU (IntKind.i64.wrap (z7+1))
def FD(n:Nat)(r2:(List (List UInt8)))(z7:Int)(bU:Int->Option (Int))(x9:bA):Nat->Int->Option (Int)
 |0,_=>none|m2+1,fW=>cond (decide (fW<(x9.Feats.length:Int))) (a7 (a8 x9.Feats fW) fun yR=>a7 (PW n yR.Feat) fun mP=>cond (!mP) (some 1) (X2 n r2 x9 fW (FD n r2 z7 bU x9 m2) n 0)) (Se z7 bU)
def Sf: Option (Int):=
 some 0
def xM(p1:List bA)(n:Nat)(r2:(List (List UInt8))):Nat->Int->Option (Int)
 |0,_=>none|m1+1,z7=>cond (decide (z7<(p1.length:Int))) (a7 (a8 p1 z7) fun x9=>FD n r2 z7 (xM p1 n r2 m1) x9 n 0) (Sf)
def Ek(n:Nat)(p1:List bA):Option (Int):=
 a7 (Bz n p1) fun r2=>
 xM p1 n r2 n 0
theorem qix(n:Nat)(p1:List bA)(r:Int)(J:Ek n p1=some r):cB prog 116 [.isl false (p1.map bF)] (.int .i64 r):=by
 unfold Ek at J;refine iA 58 MH ?_;obtain⟨r2,h3,J⟩:=a9 J;refine go ?_;refine aK rfl (pC (ql8 n p1 r2 h3) _) S7 ?_;refine go ?_;refine gL (fun m tm σ=>∃z7,xM p1 n r2 m z7=some r/\tm=fr 58 [(0,.iM bF p1),(3,.iM cS r2),(4,.i6 z7)]/\σ=⟨[],0⟩) (fun tm σ=>Sf=some r/\tm=fr 58 []/\σ=⟨[],0⟩) n ⟨0,J,rfl,rfl⟩ ?_ ?_;rintro _ _ ⟨J,rfl,rfl⟩;unfold Sf at J;exact gx J;rintro(_|m1) _ _ ⟨z7,J,rfl,rfl⟩;cases J;unfold xM at J;refine gF J ?_ ?_<;>intro h8 J;refine go ?_;apply aP;obtain⟨x9,eK,J⟩:=a9 J;refine go ?_;refine aS eK ?_;refine go ?_;refine gL (fun m tm σ=>∃fW,FD n r2 z7 (xM p1 n r2 m1) x9 m fW=some r/\tm=fr 58 [(0,.iM bF p1),(3,.iM cS r2),(4,.i6 z7),(5,.iM iY x9.Feats),(6,.i6 fW)]/\σ=⟨[],0⟩) (fun tm σ=>Se z7 (xM p1 n r2 m1)=some r/\tm=fr 58 [(0,.iM bF p1),(3,.iM cS r2),(4,.i6 z7)]/\σ=⟨[],0⟩) n ⟨0,J,rfl,rfl⟩ ?_ ?_;rintro _ _ ⟨J,rfl,rfl⟩;unfold Se at J;refine go ?_;exact lC ⟨_,J,rfl,rfl⟩;rintro(_|m2) _ _ ⟨fW,J,rfl,rfl⟩;cases J;unfold FD at J;refine gF J ?_ ?_<;>intro eJ J;refine go ?_;apply aP;obtain⟨yR,gD,J⟩:=a9 J;obtain⟨mP,jE,J⟩:=a9 J;refine go ?_;refine aS gD ?_;refine go ?_;refine aK rfl (pC (qp5 n yR.Feat mP jE) _) M4 ?_;refine gF J ?_ ?_<;>intro nL J;exact gx J;refine go ?_;refine gL (fun m tm σ=>∃m9,X2 n r2 x9 fW (FD n r2 z7 (xM p1 n r2 m1) x9 m2) m m9=some r/\tm=fr 58 [(0,.iM bF p1),(3,.iM cS r2),(4,.i6 z7),(5,.iM iY x9.Feats),(6,.i6 fW),(7,.i6 m9)]/\σ=⟨[],0⟩) (fun tm σ=>Sd n r2 x9 fW (FD n r2 z7 (xM p1 n r2 m1) x9 m2)=some r/\tm=fr 58 [(0,.iM bF p1),(3,.iM cS r2),(4,.i6 z7),(5,.iM iY x9.Feats),(6,.i6 fW)]/\σ=⟨[],0⟩) n ⟨0,J,rfl,rfl⟩ ?_ ?_;rintro _ _ ⟨J,rfl,rfl⟩;unfold Sd at J;obtain⟨NA,pY,J⟩:=a9 J;obtain⟨lF,o5,J⟩:=a9 J;refine go ?_;refine aS pY ?_;refine go ?_;refine aK rfl (pC (HJ n r2 NA.Value lF o5) _) k8 ?_;refine gF J ?_ ?_<;>intro kW J;exact gx J;refine go ?_;exact lC ⟨_,J,rfl,rfl⟩;rintro(_|m3) _ _ ⟨m9,J,rfl,rfl⟩;cases J;unfold X2 at J;refine gF J ?_ ?_<;>intro mI J;refine go ?_;apply aP;obtain⟨AU,AE,J⟩:=a9 J;obtain⟨E7,pX,J⟩:=a9 J;refine go ?_;refine dE [] ?_;refine gd ?_;refine bS AE ?_;refine gd ?_;refine bS pX ?_;refine gd ?_;refine aM (u:=.bool (iX AU.Feat E7.Feat)) rfl (z0 rfl rfl rfl rfl) ?_;refine aZ ⟨by kernel_rfl,trivial,?_⟩;refine gF J ?_ ?_<;>intro pK J;exact gx J;refine go ?_;exact lC ⟨_,J,rfl,rfl⟩;refine go ?_;exact xC ⟨J,rfl,rfl⟩;refine go ?_;exact xC ⟨J,rfl,rfl⟩;refine go ?_;exact xC ⟨J,rfl,rfl⟩
def Pv(z6:Int)(bU:(List (List UInt8))->Int->Option ((List (List UInt8))))(bY:List (List UInt8)):Option ((List (List UInt8))):=
 bU bY (IntKind.i64.wrap (z6+1))
def Q0(p1:List bA)(n:Nat)(z6:Int)(bU:(List (List UInt8))->Int->Option ((List (List UInt8)))):Nat->(List (List UInt8))->Int->Option ((List (List UInt8)))
 |0,_,_=>none|m2+1,bN,gN=>
  a7 (a8 p1 z6) fun iL=>cond (decide (gN<(iL.Feats.length:Int))) (a7 (a8 p1 z6) fun FY=>
   a7 (a8 FY.Feats gN) fun pR=>
   a7 (H4 n bN pR.Feat) fun sS=>(Q0 p1 n z6 bU m2) sS (IntKind.i64.wrap (gN+1))) (Pv z6 bU bN)
def Pw  (l7:List (List UInt8)):Option ((List (List UInt8))):=
 some l7
def EY(p1:List bA)(n:Nat):Nat->(List (List UInt8))->Int->Option ((List (List UInt8)))
 |0,_,_=>none|m1+1,l5,z6=>cond (decide (z6<(p1.length:Int))) (Q0 p1 n z6 (EY p1 n m1) n l5 0) (Pw l5)
def PN(n:Nat)(p1:List bA):Option ((List (List UInt8))):=
 EY p1 n n [] 0
theorem Zj(n:Nat)(p1:List bA)(r:(List (List UInt8)))(J:PN n p1=some r):cB prog 90 [.isl false (p1.map bF)] (.isl false (r.map cS)):=by
 unfold PN at J;refine iA 34 IA ?_;refine gr ?_;refine gr ?_;refine gr ?_;refine bX (tm':=fr 34 [(0,.iM bF p1),(3,.iM cS []),(4,.i6 0)]) (Gh.trans (Gh.sub (l':=[(0,.iM bF p1),(3,.nils),(4,.i6 0)]) ⟨rfl,rfl,rfl,trivial⟩) (Gh.wkS (l':=[(0,.iM bF p1),(3,.iM cS []),(4,.i6 0)]) (.cons (.refl _) (.cons (.nil false) (.cons (.refl _) .nil))))) NZ ?_;refine gL (fun m tm σ=>∃l5 z6,EY p1 n m l5 z6=some r/\tm=fr 34 [(0,.iM bF p1),(3,.iM cS l5),(4,.i6 z6)]/\σ=⟨[],0⟩) (fun tm σ=>∃l7,Pw l7=some r/\tm=fr 34 [(3,.iM cS l7)]/\σ=⟨[],0⟩) n ⟨[],0,J,rfl,rfl⟩ ?_ ?_;rintro _ _ ⟨l7,J,rfl,rfl⟩;unfold Pw at J;exact gx J;rintro(_|m1) _ _ ⟨l5,z6,J,rfl,rfl⟩;cases J;unfold EY at J;refine gF J ?_ ?_<;>intro h8 J;refine go ?_;apply aP;refine go ?_;refine gL (fun m tm σ=>∃bN gN,Q0 p1 n z6 (EY p1 n m1) m bN gN=some r/\tm=fr 34 [(0,.iM bF p1),(3,.iM cS bN),(4,.i6 z6),(5,.i6 gN)]/\σ=⟨[],0⟩) (fun tm σ=>∃bY,Pv z6 (EY p1 n m1) bY=some r/\tm=fr 34 [(0,.iM bF p1),(3,.iM cS bY),(4,.i6 z6)]/\σ=⟨[],0⟩) n ⟨l5,0,J,rfl,rfl⟩ ?_ ?_;rintro _ _ ⟨bY,J,rfl,rfl⟩;unfold Pv at J;refine go ?_;exact lC ⟨bY,(IntKind.i64.wrap (z6+1)),J,rfl,rfl⟩;rintro(_|m2) _ _ ⟨bN,gN,J,rfl,rfl⟩;cases J;unfold Q0 at J;obtain⟨iL,eJ,J⟩:=a9 J;refine go ?_;refine aS eJ ?_;refine gF J ?_ ?_<;>intro cJ J;refine go ?_;apply aP;obtain⟨FY,oQ,J⟩:=a9 J;obtain⟨pR,nL,J⟩:=a9 J;obtain⟨sS,mJ,J⟩:=a9 J;refine go ?_;refine aS oQ ?_;refine go ?_;refine aS nL ?_;refine go ?_;refine aK rfl (pC (VI n bN pR.Feat sS mJ) _) oS ?_;refine go ?_;exact lC ⟨sS,(IntKind.i64.wrap (gN+1)),J,rfl,rfl⟩;refine go ?_;exact xC ⟨bN,J,rfl,rfl⟩;refine go ?_;exact xC ⟨l5,J,rfl,rfl⟩
def Qw: Option (Int):=
 some (-1)
def QB(p1:List cR)(p2:List UInt8):Nat->Int->Option (Int)
 |0,_=>none|m1+1,z6=>cond (decide (z6<(p1.length:Int))) (a7 (a8 p1 z6) fun x8=>cond (iX x8.Name p2) (some z6) ((QB p1 p2 m1) (IntKind.i64.wrap (z6+1)))) (Qw)
def VQ(n:Nat)(p1:List cR)(p2:List UInt8):Option (Int):=
 QB p1 p2 n 0
theorem Zn(n:Nat)(p1:List cR)(p2:List UInt8)(r:Int)(J:VQ n p1 p2=some r):cB prog 101 [.isl false (p1.map eS),.str p2] (.int .i64 r):=by
 unfold VQ at J;refine eW 20 wB ?_;refine go ?_;refine gL (fun m tm σ=>∃z6,QB p1 p2 m z6=some r/\tm=fr 20 [(0,.iM eS p1),(1,.str p2),(5,.i6 z6)]/\σ=⟨[],0⟩) (fun tm σ=>Qw=some r/\tm=fr 20 []/\σ=⟨[],0⟩) n ⟨0,J,rfl,rfl⟩ ?_ ?_;rintro _ _ ⟨J,rfl,rfl⟩;unfold Qw at J;exact gx J;rintro(_|m1) _ _ ⟨z6,J,rfl,rfl⟩;cases J;unfold QB at J;refine gF J ?_ ?_<;>intro h7 J;refine go ?_;apply aP;obtain⟨x8,h9,J⟩:=a9 J;refine go ?_;refine aS h9 ?_;refine go ?_;refine aJ (u:=.bool (iX x8.Name p2)) rfl (z0 rfl rfl rfl rfl) ?_;refine gF J ?_ ?_<;>intro eK J;exact gx J;refine go ?_;exact lC ⟨_,J,rfl,rfl⟩;refine go ?_;exact xC ⟨J,rfl,rfl⟩
def KL(n:Nat)(p1:List cR)(p2:Int)(p3:Int):Option (Bool):=
 a7 (a8 p1 p3) fun x4=>
 a7 (a8 p1 p2) fun x6=>
 a7 (PR n x4.Code x6.Code) fun r8=>some r8
theorem Ri(n:Nat)(p1:List cR)(p2:Int)(p3:Int)(r:Bool)(J:KL n p1 p2 p3=some r):cB prog 99 [.isl false (p1.map eS),.int .i64 p2,.int .i64 p3] (.bool r):=by
 unfold KL at J;refine wC 18 CX ?_;obtain⟨x4,h5,J⟩:=a9 J;obtain⟨x6,h7,J⟩:=a9 J;obtain⟨r8,h9,J⟩:=a9 J;refine go ?_;refine dE [] ?_;refine gd ?_;refine bS h5 ?_;refine gd ?_;refine bS h7 ?_;refine gd ?_;refine eN rfl (pC (Zo n x4.Code x6.Code r8 h9)) w7 ?_;refine gd ?_;refine aZ ⟨by kernel_rfl,trivial,?_⟩;exact gx J
def Rt  (qA:Bool) (kK:List Int):Option ((List Int)×Bool):=
 some (kK,qA)
def KT(p1:List bA)(p2:List cR)(p3:Int)(p4:List UInt8)(n:Nat):Nat->Bool->(List Int)->Int->Option ((List Int)×Bool)
 |0,_,_,_=>none|m1+1,qB,bY,fW=>
  cond (decide (fW<(p1.length:Int))) (a7 (a8 p1 fW) fun k9=>
   a7 (Bw n k9 p4) fun nV=>
   a7 (cond (!nV.2) (some true) (a7 (a8 p1 fW) fun wJ=>
    a7 (VQ n p2 wJ.Name) fun GA=>
    a7 (KL n p2 GA p3) fun Vk=>some (!Vk))) fun jb=>cond jb ((KT p1 p2 p3 p4 n m1) qB bY (IntKind.i64.wrap (fW+1))) (a7 (VQ n p2 nV.1) fun vR=>
    a7 (a8 p2 vR) fun AU=>
    a7 (BX n bY AU.Code) fun oF=>(KT p1 p2 p3 p4 n m1) true oF (IntKind.i64.wrap (fW+1)))) (Rt qB bY)
def WJ(n:Nat)(p1:List bA)(p2:List cR)(p3:Int)(p4:List UInt8):Option ((List Int)×Bool):=
 a7 (a8 p2 0) fun x5=>
 KT p1 p2 p3 p4 n n false x5.Code 0
theorem qfm(n:Nat)(p1:List bA)(p2:List cR)(p3:Int)(p4:List UInt8)(r:(List Int)×Bool)(J:WJ n p1 p2 p3 p4=some r):cB prog 91 [.isl false (p1.map bF),.isl false (p2.map eS),.int .i64 p3,.str p4] (.tup [.isl false (r.1.map (cI .u64)),.bool r.2]):=by
 unfold WJ at J;refine xn 60 S8 ?_;obtain⟨x5,h6,J⟩:=a9 J;refine go ?_;refine aS h6 ?_;refine go ?_;refine gL (fun m tm σ=>∃qB bY fW,KT p1 p2 p3 p4 n m qB bY fW=some r/\tm=fr 60 [(0,.iM bF p1),(1,.iM eS p2),(2,.i6 p3),(3,.str p4),(10,.bool qB),(11,.iM (cI .u64) bY),(12,.i6 fW)]/\σ=⟨[],0⟩) (fun tm σ=>∃qA kK,Rt qA kK=some r/\tm=fr 60 [(10,.bool qA),(11,.iM (cI .u64) kK)]/\σ=⟨[],0⟩) n ⟨false,x5.Code,0,J,rfl,rfl⟩ ?_ ?_;rintro _ _ ⟨qA,kK,J,rfl,rfl⟩;unfold Rt at J;refine go ?_;obtain rfl:=sI J;exact sQ rfl rfl rfl rfl rfl;rintro(_|m1) _ _ ⟨qB,bY,fW,J,rfl,rfl⟩;cases J;unfold KT at J;refine gF J ?_ ?_<;>intro gD J;refine go ?_;apply aP;obtain⟨k9,jE,J⟩:=a9 J;obtain⟨nV,kZ,J⟩:=a9 J;refine go ?_;refine aS jE ?_;refine go ?_;refine aK rfl (pC (qlb n k9 p4 nV kZ) _) DA ?_;obtain⟨jb,kX,J⟩:=a9 J;refine gn ?_;refine cW (fun tm σ=>tm=fr 60 [(0,.iM bF p1),(1,.iM eS p2),(2,.i6 p3),(3,.str p4),(10,.bool qB),(11,.iM (cI .u64) bY),(12,.i6 fW),(13,.str nV.1),(48,.bool jb)]/\σ=⟨[],0⟩) ?_ ?_;rintro _ _ ⟨rfl,rfl⟩;refine gF J ?_ ?_<;>intro o5 J;refine go ?_;exact lC ⟨qB,bY,(IntKind.i64.wrap (fW+1)),J,rfl,rfl⟩;obtain⟨vR,mI,J⟩:=a9 J;obtain⟨AU,AE,J⟩:=a9 J;obtain⟨oF,pX,J⟩:=a9 J;refine go ?_;refine aK rfl (pC (Zn n p2 nV.1 vR mI) _) wB ?_;refine aS AE ?_;refine go ?_;refine aK rfl (pC (Yw n bY AU.Code oF pX) _) w9 ?_;refine go ?_;exact lC ⟨true,oF,(IntKind.i64.wrap (fW+1)),J,rfl,rfl⟩;refine go ?_;rcases gB kX with⟨mJ,kX⟩|⟨mJ,kX⟩;exact gy kX;obtain⟨wJ,kY,kX⟩:=a9 kX;obtain⟨GA,o6,kX⟩:=a9 kX;obtain⟨Vk,pL,kX⟩:=a9 kX;obtain rfl:=sI kX;refine go ?_;refine aS kY ?_;refine go ?_;refine aK rfl (pC (Zn n p2 wJ.Name GA o6) _) wB ?_;refine go ?_;refine aK rfl (pC (Ri n p2 GA p3 Vk pL) _) CX ?_;refine go ?_;exact xC ⟨rfl,rfl⟩;refine go ?_;exact xC ⟨qB,bY,J,rfl,rfl⟩
def Px(cZ:Int)(gE:Int->Option (Int)): Option (Int):=
 gE (IntKind.i64.wrap (cZ+1))
def Q1(p1:List bA)(n:Nat)(r2:(List cR)×Int)(r5:(List (List UInt8)))(cZ:Int)(gE:Int->Option (Int)):Nat->Int->Option (Int)
 |0,_=>none|m3+1,cU=>
  cond (decide (cU<(r5.length:Int))) (a7 (a8 r5 cU) fun gH=>
   a7 (WJ n p1 r2.1 cZ gH) fun JL=>
   a7 (cond JL.2 (some ((JL.1.length:Int)==0)) (some false)) fun xz=>cond xz (some 11) ((Q1 p1 n r2 r5 cZ gE m3) (IntKind.i64.wrap (cU+1)))) (Px cZ gE)
def Py: Option (Int):=
 some 0
def EZ(p1:List bA)(n:Nat)(r2:(List cR)×Int)(r5:(List (List UInt8))):Nat->Int->Option (Int)
 |0,_=>none|m2+1,cZ=>cond (decide (cZ<(r2.1.length:Int))) (Q1 p1 n r2 r5 cZ (EZ p1 n r2 r5 m2) n 0) (Py)
def Pz(p1:List bA)(n:Nat)(r2:(List cR)×Int)(r5:(List (List UInt8))): Option (Int):=
 EZ p1 n r2 r5 n 0
def Q2(p1:List bA)(n:Nat)(r2:(List cR)×Int)(r5:(List (List UInt8))):Nat->Int->Option (Int)
 |0,_=>none|m1+1,eY=>cond (decide (eY<(r5.length:Int))) (a7 (a8 r5 eY) fun E7=>a7 (Bx n p1 E7) fun B7=>cond (!B7.2) (some 10) ((Q2 p1 n r2 r5 m1) (IntKind.i64.wrap (eY+1)))) (Pz p1 n r2 r5)
def KF(n:Nat)(p1:List bA):Option (Int):=
 a7 (HA n p1) fun r2=>cond (r2.2 != 0) (some r2.2) (a7 (PN n p1) fun r5=>cond (decide ((r5.length:Int)>64)) (some 7) (a7 (Ek n p1) fun r8=>cond (r8 != 0) (some r8) (Q2 p1 n r2 r5 n 0)))
theorem ql9(n:Nat)(p1:List bA)(r:Int)(J:KF n p1=some r):cB prog 89 [.isl false (p1.map bF)] (.int .i64 r):=by
 unfold KF at J;refine iA 78 S9 ?_;obtain⟨r2,h3,J⟩:=a9 J;refine go ?_;refine aK rfl (pC (Pg n p1 r2 h3) _) CY ?_;refine gF J ?_ ?_<;>intro h4 J;exact gx J;obtain⟨r5,h6,J⟩:=a9 J;refine go ?_;refine aK rfl (pC (Zj n p1 r5 h6) _) IA ?_;refine gF J ?_ ?_<;>intro h7 J;exact gx J;obtain⟨r8,h9,J⟩:=a9 J;refine go ?_;refine aK rfl (pC (qix n p1 r8 h9) _) MH ?_;refine gF J ?_ ?_<;>intro eK J;exact gx J;refine go ?_;refine gL (fun m tm σ=>∃eY,Q2 p1 n r2 r5 m eY=some r/\tm=fr 78 [(0,.iM bF p1),(3,.iM eS r2.1),(5,.iM cS r5),(7,.i6 eY)]/\σ=⟨[],0⟩) (fun tm σ=>Pz p1 n r2 r5=some r/\tm=fr 78 [(0,.iM bF p1),(3,.iM eS r2.1),(5,.iM cS r5)]/\σ=⟨[],0⟩) n ⟨0,J,rfl,rfl⟩ ?_ ?_;rintro _ _ ⟨J,rfl,rfl⟩;unfold Pz at J;refine go ?_;refine gL (fun m tm σ=>∃cZ,EZ p1 n r2 r5 m cZ=some r/\tm=fr 78 [(0,.iM bF p1),(3,.iM eS r2.1),(5,.iM cS r5),(10,.i6 cZ)]/\σ=⟨[],0⟩) (fun tm σ=>Py=some r/\tm=fr 78 []/\σ=⟨[],0⟩) n ⟨0,J,rfl,rfl⟩ ?_ ?_;rintro _ _ ⟨J,rfl,rfl⟩;unfold Py at J;exact gx J;rintro(_|m2) _ _ ⟨cZ,J,rfl,rfl⟩;cases J;unfold EZ at J;refine gF J ?_ ?_<;>intro jE J;refine go ?_;apply aP;refine go ?_;refine gL (fun m tm σ=>∃cU,Q1 p1 n r2 r5 cZ (EZ p1 n r2 r5 m2) m cU=some r/\tm=fr 78 [(0,.iM bF p1),(3,.iM eS r2.1),(5,.iM cS r5),(10,.i6 cZ),(11,.i6 cU)]/\σ=⟨[],0⟩) (fun tm σ=>Px cZ (EZ p1 n r2 r5 m2)=some r/\tm=fr 78 [(0,.iM bF p1),(3,.iM eS r2.1),(5,.iM cS r5),(10,.i6 cZ)]/\σ=⟨[],0⟩) n ⟨0,J,rfl,rfl⟩ ?_ ?_;rintro _ _ ⟨J,rfl,rfl⟩;unfold Px at J;refine go ?_;exact lC ⟨_,J,rfl,rfl⟩;rintro(_|m3) _ _ ⟨cU,J,rfl,rfl⟩;cases J;unfold Q1 at J;refine gF J ?_ ?_<;>intro o6 J;refine go ?_;apply aP;obtain⟨gH,pL,J⟩:=a9 J;obtain⟨JL,kX,J⟩:=a9 J;refine go ?_;refine aS pL ?_;refine go ?_;refine aK rfl (pC (qfm n p1 r2.1 cZ gH JL kX) _) S8 ?_;obtain⟨xz,mI,J⟩:=a9 J;refine gn ?_;refine cW (fun tm σ=>tm=fr 78 [(0,.iM bF p1),(3,.iM eS r2.1),(5,.iM cS r5),(10,.i6 cZ),(11,.i6 cU),(77,.bool xz)]/\σ=⟨[],0⟩) ?_ ?_;rintro _ _ ⟨rfl,rfl⟩;refine gF J ?_ ?_<;>intro rL J;exact gx J;refine go ?_;exact lC ⟨_,J,rfl,rfl⟩;refine go ?_;rcases gB mI with⟨o5,mI⟩|⟨o5,mI⟩;exact gy mI;exact gy mI;refine go ?_;exact xC ⟨J,rfl,rfl⟩;refine go ?_;exact xC ⟨J,rfl,rfl⟩;rintro(_|m1) _ _ ⟨eY,J,rfl,rfl⟩;cases J;unfold Q2 at J;refine gF J ?_ ?_<;>intro AE J;refine go ?_;apply aP;obtain⟨E7,pX,J⟩:=a9 J;obtain⟨B7,CW,J⟩:=a9 J;refine go ?_;refine aS pX ?_;refine go ?_;refine aK rfl (pC (qla n p1 E7 B7 CW) _) DD ?_;refine gF J ?_ ?_<;>intro nK J;exact gx J;refine go ?_;exact lC ⟨_,J,rfl,rfl⟩;refine go ?_;exact xC ⟨J,rfl,rfl⟩
def Pf: Option (Int):=
 some (-1)
def PU(p1:List cR)(n:Nat)(r3:(List Int)):Nat->Int->Option (Int)
 |0,_=>none|m1+1,z8=>cond (decide (z8<(p1.length:Int))) (a7 (a8 p1 z8) fun x10=>a7 (H7 n x10.Code r3) fun dH=>cond dH (some z8) ((PU p1 n r3 m1) (IntKind.i64.wrap (z8+1)))) (Pf)
def Bm(n:Nat)(p1:List cR)(p2:List Int):Option (Int):=
 a7 (EV n p2) fun r3=>
 PU p1 n r3 n 0
theorem quu(n:Nat)(p1:List cR)(p2:List Int)(r:Int)(J:Bm n p1 p2=some r):cB prog 92 [.isl false (p1.map eS),.isl false (p2.map (cI .u64))] (.int .i64 r):=by
 unfold Bm at J;refine eW 23 Hr ?_;obtain⟨r3,h4,J⟩:=a9 J;refine go ?_;refine aK rfl (pC (Qp n p2 r3 h4) _) tI ?_;refine go ?_;refine gL (fun m tm σ=>∃z8,PU p1 n r3 m z8=some r/\tm=fr 23 [(0,.iM eS p1),(5,.iM (cI .u64) r3),(6,.i6 z8)]/\σ=⟨[],0⟩) (fun tm σ=>Pf=some r/\tm=fr 23 []/\σ=⟨[],0⟩) n ⟨0,J,rfl,rfl⟩ ?_ ?_;rintro _ _ ⟨J,rfl,rfl⟩;unfold Pf at J;exact gx J;rintro(_|m1) _ _ ⟨z8,J,rfl,rfl⟩;cases J;unfold PU at J;refine gF J ?_ ?_<;>intro h9 J;refine go ?_;apply aP;obtain⟨x10,fM,J⟩:=a9 J;obtain⟨dH,cM,J⟩:=a9 J;refine go ?_;refine aS fM ?_;refine go ?_;refine aK rfl (pC (Ze n x10.Code r3 dH cM) _) w8 ?_;refine gF J ?_ ?_<;>intro fD J;exact gx J;refine go ?_;exact lC ⟨_,J,rfl,rfl⟩;refine go ?_;exact xC ⟨J,rfl,rfl⟩
def Du(m8:Int)(gE:Int->(List jK)->Option ((List (List jK))×Int))(jO:List jK):Option ((List (List jK))×Int):=
 gE (IntKind.i64.wrap (m8+1)) jO
def Qx(eY:Int)(eT:List (List jK))(bU:Int->(List (List jK))->Option ((List (List jK))×Int))(I1:List jK):Option ((List (List jK))×Int):=
 aB ((eT.length+1)*24<=140737488355328/\eT.length+1<=140737488355328) (
 bU (IntKind.i64.wrap (eY+1)) (eT++[I1]))
def HU(p1:List bA)(n:Nat)(r5:(List cR)×Int)(r7:(List (List UInt8)))(eY:Int)(eT:List (List jK))(bU:Int->(List (List jK))->Option ((List (List jK))×Int)):Nat->Int->(List jK)->Option ((List (List jK))×Int)
 |0,_,_=>none|m2+1,m8,eF=>
  cond (decide (m8<(r7.length:Int))) (a7 (a8 r7 m8) fun gO=>
   a7 (WJ n p1 r5.1 eY gO) fun Z8=>cond Z8.2 (a7 (Bm n r5.1 Z8.1) fun f0=>
    aB ((eF.length+1)*16<=140737488355328/\eF.length+1<=140737488355328) (
    Du m8 (HU p1 n r5 r7 eY eT bU m2) (eF++[(jK.mk m8 f0)]))) (Du m8 (HU p1 n r5 r7 eY eT bU m2) eF)) (Qx eY eT bU eF)
def Qy  (kK:List (List jK)):Option ((List (List jK))×Int):=
 some (kK,0)
def C1(p1:List bA)(n:Nat)(r5:(List cR)×Int)(r7:(List (List UInt8))):Nat->Int->(List (List jK))->Option ((List (List jK))×Int)
 |0,_,_=>none|m1+1,eY,eT=>cond (decide (eY<(r5.1.length:Int))) (HU p1 n r5 r7 eY eT (C1 p1 n r5 r7 m1) n 0 ([]:List jK)) (Qy eT)
def VR(n:Nat)(p1:List bA):Option ((List (List jK))×Int):=
 a7 (KF n p1) fun r2=>cond (r2 != 0) (some ([],r2)) (a7 (HA n p1) fun r5=>
  a7 (PN n p1) fun r7=>
  C1 p1 n r5 r7 n 0 ([]:List (List jK)))
theorem qq5(n:Nat)(p1:List bA)(r:(List (List jK))×Int)(J:VR n p1=some r):cB prog 59 [.isl false (p1.map bF)] (.tup [.isl false (r.1.map (cL pI)),.int .i64 r.2]):=by
 unfold VR at J;refine iA 63 Ig ?_;obtain⟨r2,h3,J⟩:=a9 J;refine go ?_;refine aK rfl (pC (ql9 n p1 r2 h3) _) S9 ?_;refine gF J ?_ ?_<;>intro h4 J;refine go ?_;obtain rfl:=sI J;exact rT (us:=[.nils,.i6 r2]) (u:=.tup [.isl false [],.i6 r2]) (d6 rfl (d6 rfl (cO))) wR;obtain⟨r5,h6,J⟩:=a9 J;refine go ?_;refine aK rfl (pC (Pg n p1 r5 h6) _) CY ?_;obtain⟨r7,h8,J⟩:=a9 J;refine go ?_;refine aK rfl (pC (Zj n p1 r7 h8) _) IA ?_;refine gr ?_;refine gr ?_;refine gV 8 130 1 1 ?_;refine gL (fun m tm σ=>∃eY eT nC,C1 p1 n r5 r7 m eY eT=some r/\tm=fr 63 [(0,.iM bF p1),(5,.iM eS r5.1),(7,.iM cS r7),(8,.vl 0 nC 0 eT.length),(9,.i6 eY)]/\σ=⟨[(0,.bv (cL pI) eT 130 1 nC)],1⟩) (fun tm σ=>∃kK vM,Qy kK=some r/\tm=fr 63 [(8,.vl 0 vM 0 kK.length)]/\σ=⟨[(0,.bv (cL pI) kK 130 1 vM)],1⟩) n ⟨0,([]:List (List jK)),0,J,rfl,rfl⟩ ?_ ?_;rintro _ _ ⟨kK,vM,J,rfl,rfl⟩;unfold Qy at J;refine go ?_;obtain rfl:=sI J;exact rT (us:=[.vl 0 vM 0 kK.length,.i6 0]) (u:=.tup [.iM (cL pI) kK,.i6 0]) (d6 rfl (d6 rfl (cO))) (fR 0 1);rintro(_|m1) _ _ ⟨eY,eT,nC,J,rfl,rfl⟩;cases J;unfold C1 at J;refine gF J ?_ ?_<;>intro oQ J;refine go ?_;apply aP;refine gr ?_;refine gr ?_;refine gV 10 176 2 2 ?_;refine gL (fun m tm σ=>∃m8 eF vK,HU p1 n r5 r7 eY eT (C1 p1 n r5 r7 m1) m m8 eF=some r/\tm=fr 63 [(0,.iM bF p1),(5,.iM eS r5.1),(7,.iM cS r7),(8,.vl 0 nC 0 eT.length),(9,.i6 eY),(10,.vl 1 vK 0 eF.length),(11,.i6 m8)]/\σ=⟨[(1,.bv pI eF 176 2 vK),(0,.bv (cL pI) eT 130 1 nC)],2⟩) (fun tm σ=>∃I1 Kw,Qx eY eT (C1 p1 n r5 r7 m1) I1=some r/\tm=fr 63 [(0,.iM bF p1),(5,.iM eS r5.1),(7,.iM cS r7),(8,.vl 0 nC 0 eT.length),(9,.i6 eY),(10,.vl 1 Kw 0 I1.length)]/\σ=⟨[(1,.bv pI I1 176 2 Kw),(0,.bv (cL pI) eT 130 1 nC)],2⟩) n ⟨0,([]:List jK),0,J,rfl,rfl⟩ ?_ ?_;rintro _ _ ⟨I1,Kw,J,rfl,rfl⟩;unfold Qx at J;refine gn ?_;refine bX (tm':=fr 63 [(0,.iM bF p1),(5,.iM eS r5.1),(7,.iM cS r7),(8,.vl 0 nC 0 eT.length),(9,.i6 eY),(10,.iM pI I1)]) (σ':=⟨[(0,.bv (cL pI) eT 130 1 nC)],2⟩) (Gh.trans (Gh.sub (l':=[(0,.iM bF p1),(5,.iM eS r5.1),(7,.iM cS r7),(8,.vl 0 nC 0 eT.length),(9,.i6 eY),(10,.vl 1 Kw 0 I1.length)]) ⟨rfl,rfl,rfl,rfl,rfl,rfl,trivial⟩) (AJ 1 2)) NZ ?_;obtain⟨mI,J⟩:=cC J;refine go ?_;refine bI ?_;refine bI ?_;refine go ?_;exact lC ⟨_,(eT++[I1]),(nC+1),J,rfl,rfl⟩;rintro(_|m2) _ _ ⟨m8,eF,vK,J,rfl,rfl⟩;cases J;unfold HU at J;refine gF J ?_ ?_<;>intro rL J;refine go ?_;apply aP;obtain⟨gO,iK,J⟩:=a9 J;obtain⟨Z8,pK,J⟩:=a9 J;refine go ?_;refine aS iK ?_;refine go ?_;refine aK rfl (pC (qfm n p1 r5.1 eY gO Z8 pK) _) S8 ?_;refine gr ?_;refine cW (fun tm σ=>∃jO OC,Du m8 (HU p1 n r5 r7 eY eT (C1 p1 n r5 r7 m1) m2) jO=some r/\tm=fr 63 [(0,.iM bF p1),(5,.iM eS r5.1),(7,.iM cS r7),(8,.vl 0 nC 0 eT.length),(9,.i6 eY),(10,.vl 1 OC 0 jO.length),(11,.i6 m8)]/\σ=⟨[(1,.bv pI jO 176 2 OC),(0,.bv (cL pI) eT 130 1 nC)],2⟩) ?_ ?_;rintro _ _ ⟨jO,OC,J,rfl,rfl⟩;unfold Du at J;refine go ?_;exact lC ⟨_,jO,OC,J,rfl,rfl⟩;refine cF J ?_ ?_<;>intro CW J;obtain⟨f0,mY,J⟩:=a9 J;obtain⟨XG,J⟩:=cC J;refine go ?_;refine aK rfl (pC (quu n r5.1 Z8.1 f0 mY) _) Hr ?_;refine go ?_;refine bI ?_;refine bI ?_;refine go ?_;exact xC ⟨(eF++[(jK.mk m8 f0)]),(vK+1),J,rfl,rfl⟩;refine go ?_;exact xC ⟨eF,vK,J,rfl,rfl⟩;refine go ?_;exact xC ⟨eF,vK,J,rfl,rfl⟩;refine go ?_;exact xC ⟨eT,nC,J,rfl,rfl⟩
def Dy(z8:Int)(bU:Int->(List Int)->Option ((List Int)))(eF:List Int):Option ((List Int)):=
 bU (IntKind.i64.wrap (z8+1)) eF
def Qz(z8:Int)(l9:List Int)(bU:Int->(List Int)->Option ((List Int)))(Jn:Bool):Option ((List Int)):=
 cond Jn (aB ((l9.length+1)*8<=140737488355328/\l9.length+1<=140737488355328) (
  Dy z8 bU (l9++[z8]))) (Dy z8 bU l9)
def KP(p1:List cR)(p2:Int)(n:Nat)(z8:Int)(l9:List Int)(bU:Int->(List Int)->Option ((List Int))):Nat->Bool->Int->Option ((List Int))
 |0,_,_=>none|m2+1,TF,vG=>cond (decide (vG<(p1.length:Int))) (a7 (cond TF (cond (vG==p2) (some true) (cond (vG==z8) (some true) (a7 (KL n p1 z8 vG) fun oF=>cond (!oF) (some true) (a7 (KL n p1 vG p2) fun oX=>some (!oX))))) (some false)) fun wD=>(KP p1 p2 n z8 l9 bU m2) wD (IntKind.i64.wrap (vG+1))) (Qz z8 l9 bU TF)
def Ra  (cH:List Int):Option ((List Int)):=
 some cH
def xL(p1:List cR)(p2:Int)(n:Nat):Nat->Int->(List Int)->Option ((List Int))
 |0,_,_=>none|m1+1,z8,l9=>cond (decide (z8<(p1.length:Int))) (a7 (cond (z8==p2) (some true) (a7 (KL n p1 z8 p2) fun oG=>some (!oG))) fun qA=>cond qA ((xL p1 p2 n m1) (IntKind.i64.wrap (z8+1)) l9) (KP p1 p2 n z8 l9 (xL p1 p2 n m1) n true 0)) (Ra l9)
def Om(n:Nat)(p1:List cR)(p2:Int):Option ((List Int)):=
 xL p1 p2 n n 0 ([]:List Int)
theorem qq2(n:Nat)(p1:List cR)(p2:Int)(r:(List Int))(J:Om n p1 p2=some r):cB prog 61 [.isl false (p1.map eS),.int .i64 p2] (.isl false (r.map (cI .i64))):=by
 unfold Om at J;refine eW 62 If ?_;refine gr ?_;refine gr ?_;refine gr ?_;refine gV 5 3 1 1 ?_;refine gL (fun m tm σ=>∃z8 l9 bV,xL p1 p2 n m z8 l9=some r/\tm=fr 62 [(0,.iM eS p1),(1,.i6 p2),(5,.vl 0 bV 0 l9.length),(6,.i6 z8)]/\σ=⟨xG l9 bV,1⟩) (fun tm σ=>∃cH eP,Ra cH=some r/\tm=fr 62 [(5,.vl 0 eP 0 cH.length)]/\σ=⟨xG cH eP,1⟩) n ⟨0,([]:List Int),0,J,rfl,rfl⟩ ?_ ?_;rintro _ _ ⟨cH,eP,J,rfl,rfl⟩;unfold Ra at J;refine go ?_;obtain rfl:=sI J;exact rT (us:=[.vl 0 eP 0 cH.length]) (u:=.iM (cI .i64) cH) (d6 rfl (cO)) (fR 0 1);rintro(_|m1) _ _ ⟨z8,l9,bV,J,rfl,rfl⟩;cases J;unfold xL at J;refine gF J ?_ ?_<;>intro cM J;refine go ?_;apply aP;obtain⟨qA,cJ,J⟩:=a9 J;refine gn ?_;refine cW (fun tm σ=>tm=fr 62 [(0,.iM eS p1),(1,.i6 p2),(5,.vl 0 bV 0 l9.length),(6,.i6 z8),(24,.bool qA)]/\σ=⟨xG l9 bV,1⟩) ?_ ?_;rintro _ _ ⟨rfl,rfl⟩;refine gF J ?_ ?_<;>intro gD J;refine go ?_;exact lC ⟨_,l9,bV,J,rfl,rfl⟩;refine go ?_;refine gL (fun m tm σ=>∃TF vG,KP p1 p2 n z8 l9 (xL p1 p2 n m1) m TF vG=some r/\tm=fr 62 [(0,.iM eS p1),(1,.i6 p2),(5,.vl 0 bV 0 l9.length),(6,.i6 z8),(7,.bool TF),(8,.i6 vG)]/\σ=⟨xG l9 bV,1⟩) (fun tm σ=>∃Jn,Qz z8 l9 (xL p1 p2 n m1) Jn=some r/\tm=fr 62 [(0,.iM eS p1),(1,.i6 p2),(5,.vl 0 bV 0 l9.length),(6,.i6 z8),(7,.bool Jn)]/\σ=⟨xG l9 bV,1⟩) n ⟨true,0,J,rfl,rfl⟩ ?_ ?_;rintro _ _ ⟨Jn,J,rfl,rfl⟩;unfold Qz at J;refine gr ?_;refine cW (fun tm σ=>∃eF vK,Dy z8 (xL p1 p2 n m1) eF=some r/\tm=fr 62 [(0,.iM eS p1),(1,.i6 p2),(5,.vl 0 vK 0 eF.length),(6,.i6 z8)]/\σ=⟨xG eF vK,1⟩) ?_ ?_;rintro _ _ ⟨eF,vK,J,rfl,rfl⟩;unfold Dy at J;refine go ?_;exact lC ⟨_,eF,vK,J,rfl,rfl⟩;refine cF J ?_ ?_<;>intro pL J;obtain⟨o5,J⟩:=cC J;refine go ?_;refine bI ?_;refine bI ?_;refine go ?_;exact xC ⟨(l9++[z8]),(bV+1),J,rfl,rfl⟩;refine go ?_;exact xC ⟨l9,bV,J,rfl,rfl⟩;rintro(_|m2) _ _ ⟨TF,vG,J,rfl,rfl⟩;cases J;unfold KP at J;refine gF J ?_ ?_<;>intro kW J;refine go ?_;apply aP;obtain⟨wD,gC,J⟩:=a9 J;refine gn ?_;refine cW (fun tm σ=>tm=fr 62 [(0,.iM eS p1),(1,.i6 p2),(5,.vl 0 bV 0 l9.length),(6,.i6 z8),(7,.bool wD),(8,.i6 vG)]/\σ=⟨xG l9 bV,1⟩) ?_ ?_;rintro _ _ ⟨rfl,rfl⟩;refine go ?_;exact lC ⟨wD,(IntKind.i64.wrap (vG+1)),J,rfl,rfl⟩;refine go ?_;rcases gB gC with⟨mI,gC⟩|⟨mI,gC⟩;refine go ?_;rcases gB gC with⟨rL,gC⟩|⟨rL,gC⟩;exact gy gC;refine go ?_;rcases gB gC with⟨AE,gC⟩|⟨AE,gC⟩;exact gy gC;obtain⟨oF,pX,gC⟩:=a9 gC;refine go ?_;refine aK rfl (pC (Ri n p1 z8 vG oF pX) _) CX ?_;refine go ?_;rcases gB gC with⟨pK,gC⟩|⟨pK,gC⟩;exact gy gC;obtain⟨oX,nK,gC⟩:=a9 gC;obtain rfl:=sI gC;refine go ?_;refine aK rfl (pC (Ri n p1 vG p2 oX nK) _) CX ?_;refine go ?_;exact xC ⟨rfl,rfl⟩;obtain rfl:=sI gC;refine go ?_
 repeat refine RS.no (B9 rfl rfl rfl) rfl rfl ?_
 refine go ?_
 repeat refine RS.no (B9 rfl rfl rfl) rfl rfl ?_
 refine go ?_
 repeat refine RS.no (B9 rfl rfl rfl) rfl rfl ?_
 refine go ?_;exact xC ⟨rfl,rfl⟩;refine go ?_;exact xC ⟨TF,J,rfl,rfl⟩;refine go ?_;rcases gB cJ with⟨fD,cJ⟩|⟨fD,cJ⟩;exact gy cJ;obtain⟨oG,lA,cJ⟩:=a9 cJ;obtain rfl:=sI cJ;refine go ?_;refine aK rfl (pC (Ri n p1 z8 p2 oG lA) _) CX ?_;refine go ?_;exact xC ⟨rfl,rfl⟩;refine go ?_;exact xC ⟨l9,bV,J,rfl,rfl⟩
def Rp  (kK:List eE):Option ((List eE)×Int):=
 some (kK,0)
def QF(p1:List bA)(n:Nat)(r5:(List cR)×Int)(r7:(List (List UInt8))):Nat->Int->(List eE)->Option ((List eE)×Int)
 |0,_,_=>none|m1+1,eY,eT=>
  cond (decide (eY<(r7.length:Int))) (a7 (a8 r7 eY) fun pR=>
   a7 (Bx n p1 pR) fun sS=>
   a7 (a8 r7 eY) fun wJ=>
   a7 (VQ n r5.1 sS.1) fun GA=>
   aB ((eT.length+1)*24<=140737488355328/\eT.length+1<=140737488355328) ((QF p1 n r5 r7 m1) (IntKind.i64.wrap (eY+1)) (eT++[(eE.mk wJ GA)]))) (Rp eT)
def Dn(n:Nat)(p1:List bA):Option ((List eE)×Int):=
 a7 (KF n p1) fun r2=>cond (r2 != 0) (some ([],r2)) (a7 (HA n p1) fun r5=>
  a7 (PN n p1) fun r7=>
  QF p1 n r5 r7 n 0 ([]:List eE))
theorem qne(n:Nat)(p1:List bA)(r:(List eE)×Int)(J:Dn n p1=some r):cB prog 62 [.isl false (p1.map bF)] (.tup [.isl false (r.1.map fG),.int .i64 r.2]):=by
 unfold Dn at J;refine iA 51 Ie ?_;obtain⟨r2,h3,J⟩:=a9 J;refine go ?_;refine aK rfl (pC (ql9 n p1 r2 h3) _) S9 ?_;refine gF J ?_ ?_<;>intro h4 J;refine go ?_;obtain rfl:=sI J;exact rT (us:=[.nils,.i6 r2]) (u:=.tup [.isl false [],.i6 r2]) (d6 rfl (d6 rfl (cO))) wR;obtain⟨r5,h6,J⟩:=a9 J;refine go ?_;refine aK rfl (pC (Pg n p1 r5 h6) _) CY ?_;obtain⟨r7,h8,J⟩:=a9 J;refine go ?_;refine aK rfl (pC (Zj n p1 r7 h8) _) IA ?_;refine gr ?_;refine gr ?_;refine gV 8 187 2 1 ?_;refine gL (fun m tm σ=>∃eY eT nC,QF p1 n r5 r7 m eY eT=some r/\tm=fr 51 [(0,.iM bF p1),(5,.iM eS r5.1),(7,.iM cS r7),(8,.vl 0 nC 0 eT.length),(9,.i6 eY)]/\σ=⟨[(0,.bv fG eT 187 2 nC)],1⟩) (fun tm σ=>∃kK vM,Rp kK=some r/\tm=fr 51 [(8,.vl 0 vM 0 kK.length)]/\σ=⟨[(0,.bv fG kK 187 2 vM)],1⟩) n ⟨0,([]:List eE),0,J,rfl,rfl⟩ ?_ ?_;rintro _ _ ⟨kK,vM,J,rfl,rfl⟩;unfold Rp at J;refine go ?_;obtain rfl:=sI J;exact rT (us:=[.vl 0 vM 0 kK.length,.i6 0]) (u:=.tup [.iM fG kK,.i6 0]) (d6 rfl (d6 rfl (cO))) (fR 0 2);rintro(_|m1) _ _ ⟨eY,eT,nC,J,rfl,rfl⟩;cases J;unfold QF at J;refine gF J ?_ ?_<;>intro oQ J;refine go ?_;apply aP;obtain⟨pR,nL,J⟩:=a9 J;obtain⟨sS,mJ,J⟩:=a9 J;refine go ?_;refine aS nL ?_;refine go ?_;refine aK rfl (pC (qla n p1 pR sS mJ) _) DD ?_;obtain⟨wJ,kY,J⟩:=a9 J;obtain⟨GA,o6,J⟩:=a9 J;obtain⟨m6,J⟩:=cC J;refine go ?_;refine dE [(0,9)] ?_;refine gd ?_;refine bS kY ?_;refine gd ?_;refine eN rfl (pC (Zn n r5.1 sS.1 GA o6)) wB ?_;refine gd ?_;refine dA ?_;refine dA ?_;refine gd ?_;refine aZ ⟨by kernel_rfl,⟨g8 rfl,trivial⟩,?_⟩;refine go ?_;exact lC ⟨_,(eT++[(eE.mk wJ GA)]),(nC+1),J,rfl,rfl⟩;refine go ?_;exact xC ⟨eT,nC,J,rfl,rfl⟩
def Rh(p1:List bA)(n:Nat)(eT:List dI):Option (cA×Int):=
 a7 (Dn n p1) fun dX=>some ((cA.mk eT dX.1),0)
def QD(p1:List bA)(n:Nat)(r2:(List (List jK))×Int)(r5:(List cR)×Int):Nat->Int->(List dI)->Option (cA×Int)
 |0,_,_=>none|m1+1,AR,eV=>
  cond (decide (AR<(r5.1.length:Int))) (a7 (a8 r5.1 AR) fun pR=>
   a7 (a8 r5.1 AR) fun uK=>
   a7 (Om n r5.1 AR) fun mN=>
   a7 (a8 r2.1 AR) fun nS=>
   aB ((eV.length+1)*88<=140737488355328/\eV.length+1<=140737488355328) ((QD p1 n r2 r5 m1) (IntKind.i64.wrap (AR+1)) (eV++[(dI.mk pR.Name uK.Code mN nS)]))) (Rh p1 n eV)
def HG(n:Nat)(p1:List bA):Option (cA×Int):=
 a7 (VR n p1) fun r2=>cond (r2.2 != 0) (some ((cA.mk [] []),r2.2)) (a7 (HA n p1) fun r5=>QD p1 n r2 r5 n 0 ([]:List dI))
theorem Zq(n:Nat)(p1:List bA)(r:cA×Int)(J:HG n p1=some r):cB prog 31 [.isl false (p1.map bF)] (.tup [.agg (fB r.1),.int .i64 r.2]):=by
 unfold HG at J;refine iA 63 IG ?_;obtain⟨r2,h3,J⟩:=a9 J;refine go ?_;refine aK rfl (pC (qq5 n p1 r2 h3) _) Ig ?_;refine gF J ?_ ?_<;>intro h4 J;refine go ?_;obtain rfl:=sI J;exact rT (us:=[.agg [.nils,.nils],.i6 r2.2]) (u:=.tup [.agg [.isl false [],.isl false []],.i6 r2.2]) (jC (fZ mA.h rfl (aR pW.h) rfl rfl rfl) (d6 rfl (cO))) wR;obtain⟨r5,h6,J⟩:=a9 J;refine go ?_;refine aK rfl (pC (Pg n p1 r5 h6) _) CY ?_;refine gr ?_;refine gr ?_;refine bX (tm':=fr 63 [(0,.iM bF p1),(2,.ptr 0 0 0),(4,.iM (cL pI) r2.1),(6,.iM eS r5.1),(8,.ptr 1 0 0),(9,.i6 0)]) (σ':=⟨[(2,.bv eM ([]:List dI) 132 4 0),(1,.row [.vl 2 0 0 (([]:List dI).length),.nils] 27),(0,.row [.nils,.nils] 27)],3⟩) (Gh.trans (rN 1 0 132 4 (by decide) NZ rfl rfl) (m7 ⟨rfl,rfl,rfl,rfl,rfl,rfl,trivial⟩ rfl)) NZ ?_;refine gL (fun m tm σ=>∃AR eV B4,QD p1 n r2 r5 m AR eV=some r/\tm=fr 63 [(0,.iM bF p1),(2,.ptr 0 0 0),(4,.iM (cL pI) r2.1),(6,.iM eS r5.1),(8,.ptr 1 0 0),(9,.i6 AR)]/\σ=⟨[(2,.bv eM eV 132 4 B4),(1,.row [.vl 2 B4 0 eV.length,.nils] 27),(0,.row [.nils,.nils] 27)],3⟩) (fun tm σ=>∃eT nC,Rh p1 n eT=some r/\tm=fr 63 [(0,.iM bF p1),(2,.ptr 0 0 0),(8,.ptr 1 0 0)]/\σ=⟨[(2,.bv eM eT 132 4 nC),(1,.row [.vl 2 nC 0 eT.length,.nils] 27),(0,.row [.nils,.nils] 27)],3⟩) n ⟨0,([]:List dI),0,J,rfl,rfl⟩ ?_ ?_;rintro _ _ ⟨eT,nC,J,rfl,rfl⟩;unfold Rh at J;obtain⟨dX,gD,J⟩:=a9 J;refine go ?_;refine aK rfl (pC (qne n p1 dX gD) _) Ie ?_;refine go ?_;obtain rfl:=sI J;exact rT (us:=[.agg [.vl 2 nC 0 eT.length,.iM fG dX.1],.i6 0]) (u:=.tup [.agg [.iM eM eT,.iM fG dX.1],.i6 0]) (jC (fZ mA.h rfl (aR pW.h) rfl rfl rfl) (d6 rfl (cO))) (fR 2 4);rintro(_|m1) _ _ ⟨AR,eV,B4,J,rfl,rfl⟩;cases J;unfold QD at J;refine gF J ?_ ?_<;>intro oQ J;refine go ?_;apply aP;obtain⟨pR,nL,J⟩:=a9 J;obtain⟨uK,mJ,J⟩:=a9 J;obtain⟨mN,kY,J⟩:=a9 J;obtain⟨nS,o6,J⟩:=a9 J;obtain⟨m6,J⟩:=cC J;refine go ?_;refine dE [(0,20),(1,20)] ?_;refine gd ?_;refine bS nL ?_;refine gd ?_;refine bS mJ ?_;refine gd ?_;refine eN rfl (pC (qq2 n r5.1 AR mN kY)) If ?_;refine gd ?_;refine bS o6 ?_;refine gd ?_;refine dA ?_;refine dA ?_;refine gd ?_;refine n8 ?_;refine aZ ⟨by kernel_rfl,⟨i5 mA.h rfl (aR RM.h) rfl rfl rfl,⟨lV AW.h rfl rfl rfl rfl,trivial⟩⟩,?_⟩;refine go ?_;exact lC ⟨_,(eV++[(dI.mk pR.Name uK.Code mN nS)]),(B4+1),J,rfl,rfl⟩;refine go ?_;exact xC ⟨eV,B4,J,rfl,rfl⟩
def Yx(n:Nat): Option (cA):=
 a7 (HG n ([(bA.mk ([116,111,112]) [] ([(lY.mk ([70]) ([116,111,112])),(lY.mk ([71]) ([116,111,112]))])),(bA.mk ([120]) ([[116,111,112]]) []),(bA.mk ([121]) ([[116,111,112]]) [])])) fun r1=>some (cA.mk r1.1.Types r1.1.Feats)
theorem qry(n:Nat)(r:cA)(J:Yx n  = some r):cB prog 33 [] (.agg (fB r)):=by
 unfold Yx at J;refine xp 17 Iq ?_;obtain⟨r1,h2,J⟩:=a9 J;refine go ?_;refine aJ (u:=.sl 1 0 2 2) (σ':=⟨bh,2⟩) rfl (pF AZ.h LE.h rfl rfl rfl rfl rfl rfl rfl) ?_;refine go ?_;refine bI ?_;refine go ?_;refine bI ?_;refine go ?_;refine aJ (u:=.sl 4 0 3 3) (σ':=⟨(4,.row [.str ([116,111,112]),.nils,.sl 1 0 2 2,.str ([120]),.sl 2 0 1 1,.nils,.str ([121]),.sl 3 0 1 1,.nils] 138)::(3,.row [.str ([116,111,112])] 9)::(2,.row [.str ([116,111,112])] 9)::bh,5⟩) rfl (pF YP.h tG.h rfl rfl rfl rfl rfl rfl rfl) (yG rfl (Gh.trans (jF 1 2) (Gh.trans (jF 2 1) (Gh.trans (jF 3 1) (Gh.trans (Gh.rowC 4) (jF 4 3))))) (pC (Zq n ([(bA.mk ([116,111,112]) [] ([(lY.mk ([70]) ([116,111,112])),(lY.mk ([71]) ([116,111,112]))])),(bA.mk ([120]) ([[116,111,112]]) []),(bA.mk ([121]) ([[116,111,112]]) [])]) r1 h2) _) IG ?_);refine go ?_;obtain rfl:=sI J;exact rT (jC (fZ mA.h rfl (aR pW.h) rfl rfl rfl) (cO)) (pN _ rfl)
def Zi(p1:List UInt8)(p2:List UInt8)(bY:List lY):Option (bA):=
 some (bA.mk p1 ([p2]) bY)
def Pb(p1:List UInt8)(p2:List UInt8)(p3:List (List UInt8)):Nat->Int->(List lY)->Option (bA)
 |0,_,_=>none|m1+1,d9,bN=>
  cond (decide ((IntKind.i64.wrap (d9+1))<(p3.length:Int))) (a7 (a8 p3 d9) fun yR=>
   a7 (a8 p3 (IntKind.i64.wrap (d9+1))) fun k9=>
   aB ((bN.length+1)*32<=140737488355328/\bN.length+1<=140737488355328) ((Pb p1 p2 p3 m1) (IntKind.i64.wrap (d9+2)) (bN++[(lY.mk yR k9)]))) (Zi p1 p2 bN)
def Zh(p1:List UInt8)(hH:List lY):Option (bA):=
 some (bA.mk p1 [] hH)
def Pa(p1:List UInt8)(p3:List (List UInt8)):Nat->Int->(List lY)->Option (bA)
 |0,_,_=>none|m2+1,m9,dP=>
  cond (decide ((IntKind.i64.wrap (m9+1))<(p3.length:Int))) (a7 (a8 p3 m9) fun TV=>
   a7 (a8 p3 (IntKind.i64.wrap (m9+1))) fun gO=>
   aB ((dP.length+1)*32<=140737488355328/\dP.length+1<=140737488355328) ((Pa p1 p3 m2) (IntKind.i64.wrap (m9+2)) (dP++[(lY.mk TV gO)]))) (Zh p1 dP)
def uW(n:Nat)(p1:List UInt8)(p2:List UInt8)(p3:List (List UInt8)):Option (bA):=
 cond (!iX p2 []) (Pb p1 p2 p3 n 0 ([]:List lY)) (Pa p1 p3 n 0 ([]:List lY))
theorem xK(n:Nat)(p1:List UInt8)(p2:List UInt8)(p3:List (List UInt8))(r:bA)(J:uW n p1 p2 p3=some r):cB prog 63 [.str p1,.str p2,.isl false (p3.map cS)] (.agg (bF r)):=by
 unfold uW at J;refine wC 39 lM ?_;refine go ?_;refine aJ (u:=.bool (!iX p2 [])) rfl (z0 rfl rfl rfl rfl) ?_;refine gF J ?_ ?_<;>intro h4 J;refine go ?_;refine bI ?_;refine gr ?_;refine bX (tm':=fr 39 [(2,.iM cS p3),(6,.ptr 0 0 0),(7,.ptr 1 0 0),(8,.i6 0)]) (σ':=⟨(3,.bv iY ([]:List lY) 141 2 0)::(2,.row [.str p2] 9)::(1,.row [.str p1,.sl 2 0 1 1,.vl 3 0 0 (([]:List lY).length)] 138)::V1,4⟩) (Gh.trans (rN 1 2 141 2 (by decide) NZ rfl rfl) (m7 ⟨rfl,rfl,rfl,rfl,trivial⟩ rfl)) NZ ?_;refine gL (fun m tm σ=>∃d9 bN eL,Pb p1 p2 p3 m d9 bN=some r/\tm=fr 39 [(2,.iM cS p3),(6,.ptr 0 0 0),(7,.ptr 1 0 0),(8,.i6 d9)]/\σ=⟨(3,.bv iY bN 141 2 eL)::(2,.row [.str p2] 9)::(1,.row [.str p1,.sl 2 0 1 1,.vl 3 eL 0 bN.length] 138)::V1,4⟩) (fun tm σ=>∃bY dV,Zi p1 p2 bY=some r/\tm=fr 39 [(6,.ptr 0 0 0),(7,.ptr 1 0 0)]/\σ=⟨(3,.bv iY bY 141 2 dV)::(2,.row [.str p2] 9)::(1,.row [.str p1,.sl 2 0 1 1,.vl 3 dV 0 bY.length] 138)::V1,4⟩) n ⟨0,([]:List lY),0,J,rfl,rfl⟩ ?_ ?_;rintro _ _ ⟨bY,dV,J,rfl,rfl⟩;unfold Zi at J;refine go ?_;obtain rfl:=sI J;exact⟨.inr rfl,[.agg [.str p1,.sl 2 0 1 1,.vl 3 dV 0 bY.length]],jC (fZ sO.h rfl (aR tG.h) rfl rfl rfl) (cO),.agg [.str p1,.iM cS ([p2]),.iM iY bY],⟨[],0⟩,zF _,Gh.trans (jF 2 1) (Gh.trans (jF 3 2) (pN (.agg [.str p1,.iM cS ([p2]),.iM iY bY]) rfl)),rfl,BU.h⟩;rintro(_|m1) _ _ ⟨d9,bN,eL,J,rfl,rfl⟩;cases J;unfold Pb at J;refine gF J ?_ ?_<;>intro eJ J;refine go ?_;apply aP;obtain⟨yR,gD,J⟩:=a9 J;obtain⟨k9,jE,J⟩:=a9 J;obtain⟨nL,J⟩:=cC J;refine go ?_;refine dE [(0,12),(1,12)] ?_;refine gd ?_;refine bS gD ?_;refine gd ?_;refine bS jE ?_;refine gd ?_;refine dA ?_;refine dA ?_;refine gd ?_;refine n8 ?_;refine aZ ⟨by kernel_rfl,⟨i5 sO.h rfl (aR LF.h) rfl rfl rfl,⟨lV AZ.h rfl rfl rfl rfl,trivial⟩⟩,?_⟩;refine go ?_;exact lC ⟨_,(bN++[(lY.mk yR k9)]),(eL+1),J,rfl,rfl⟩;refine go ?_;exact xC ⟨bN,eL,J,rfl,rfl⟩;refine gr ?_;refine bX (tm':=fr 39 [(2,.iM cS p3),(6,.ptr 0 0 0),(7,.ptr 1 0 0),(8,.i6 0)]) (σ':=⟨(2,.bv iY ([]:List lY) 141 2 0)::(1,.row [.str p1,.nils,.vl 2 0 0 (([]:List lY).length)] 138)::V1,3⟩) (Gh.trans (rN 1 2 141 2 (by decide) NZ rfl rfl) (m7 ⟨rfl,rfl,rfl,rfl,trivial⟩ rfl)) NZ ?_;refine gL (fun m tm σ=>∃m9 dP EB,Pa p1 p3 m m9 dP=some r/\tm=fr 39 [(2,.iM cS p3),(6,.ptr 0 0 0),(7,.ptr 1 0 0),(8,.i6 m9)]/\σ=⟨(2,.bv iY dP 141 2 EB)::(1,.row [.str p1,.nils,.vl 2 EB 0 dP.length] 138)::V1,3⟩) (fun tm σ=>∃hH kD,Zh p1 hH=some r/\tm=fr 39 [(6,.ptr 0 0 0),(7,.ptr 1 0 0)]/\σ=⟨(2,.bv iY hH 141 2 kD)::(1,.row [.str p1,.nils,.vl 2 kD 0 hH.length] 138)::V1,3⟩) n ⟨0,([]:List lY),0,J,rfl,rfl⟩ ?_ ?_;rintro _ _ ⟨hH,kD,J,rfl,rfl⟩;unfold Zh at J;refine go ?_;obtain rfl:=sI J;exact⟨.inr rfl,[.agg [.str p1,.nils,.vl 2 kD 0 hH.length]],jC (fZ sO.h rfl (aR tG.h) rfl rfl rfl) (cO),.agg [.str p1,.isl false [],.iM iY hH],⟨[],0⟩,zF _,Gh.trans (jF 2 2) (Gh.trans (Gh.wk (.cons (.agg (.cons (.refl _) (.cons (.nil false) (.cons (.refl _) .nil)))) .nil)) (pN (.agg [.str p1,.isl false [],.iM iY hH]) rfl)),rfl,BU.h⟩;rintro(_|m2) _ _ ⟨m9,dP,EB,J,rfl,rfl⟩;cases J;unfold Pa at J;refine gF J ?_ ?_<;>intro kW J;refine go ?_;apply aP;obtain⟨TV,rL,J⟩:=a9 J;obtain⟨gO,iK,J⟩:=a9 J;obtain⟨pX,J⟩:=cC J;refine go ?_;refine dE [(0,12),(1,12)] ?_;refine gd ?_;refine bS rL ?_;refine gd ?_;refine bS iK ?_;refine gd ?_;refine dA ?_;refine dA ?_;refine gd ?_;refine n8 ?_;refine aZ ⟨by kernel_rfl,⟨i5 sO.h rfl (aR LF.h) rfl rfl rfl,⟨lV AZ.h rfl rfl rfl rfl,trivial⟩⟩,?_⟩;refine go ?_;exact lC ⟨_,(dP++[(lY.mk TV gO)]),(EB+1),J,rfl,rfl⟩;refine go ?_;exact xC ⟨dP,EB,J,rfl,rfl⟩
def Cy(n:Nat): Option ((List bA)):=
 a7 (uW n ([116,111,112]) [] []) fun r1=>
 a7 (uW n ([108,105,115,116]) ([116,111,112]) []) fun r3=>
 a7 (uW n ([99,111,110,115]) ([108,105,115,116]) ([[70,73,82,83,84],[116,111,112],[82,69,83,84],[108,105,115,116]])) fun r5=>
 a7 (uW n ([110,117,108,108]) ([108,105,115,116]) []) fun r7=>
 a7 (uW n ([100,108,105,115,116]) ([116,111,112]) ([[76,73,83,84],[108,105,115,116],[76,65,83,84],[108,105,115,116]])) fun r9=>
 a7 (uW n ([105,110,100,101,120]) ([116,111,112]) []) fun nF=>
 a7 (uW n ([104,97,110,100,108,101]) ([105,110,100,101,120]) []) fun dC=>
 a7 (uW n ([101,118,101,110,116]) ([105,110,100,101,120]) []) fun oG=>
 a7 (uW n ([101,110,116,105,116,121]) ([105,110,100,101,120]) []) fun gR=>
 a7 (uW n ([114,101,108]) ([116,111,112]) ([[76,65,66,69,76],[104,97,110,100,108,101]])) fun yV=>
 a7 (uW n ([113,101,113]) ([116,111,112]) ([[72,73,71,72],[104,97,110,100,108,101],[76,79,87],[104,97,110,100,108,101]])) fun B8=>
 a7 (uW n ([115,101,109]) ([116,111,112]) ([[84,79,80],[104,97,110,100,108,101],[73,78,68,69,88],[105,110,100,101,120],[82,69,76,83],[100,108,105,115,116],[67,79,78,83],[100,108,105,115,116]])) fun sS=>
 a7 (uW n ([115,105,103,110]) ([116,111,112]) ([[83,69,77],[115,101,109],[65,82,71,83],[108,105,115,116]])) fun mN=>some ([r1,r3,r5,r7,r9,nF,dC,oG,gR,yV,B8,sS,mN])
theorem qp7(n:Nat)(r:(List bA))(J:Cy n  = some r):cB prog 32 [] (.isl false (r.map bF)):=by
 unfold Cy at J;refine xp 21 Ir ?_;obtain⟨r1,h2,J⟩:=a9 J;obtain⟨r3,h4,J⟩:=a9 J;obtain⟨r5,h6,J⟩:=a9 J;obtain⟨r7,h8,J⟩:=a9 J;obtain⟨r9,eK,J⟩:=a9 J;obtain⟨nF,dJ,J⟩:=a9 J;obtain⟨dC,fD,J⟩:=a9 J;obtain⟨oG,lA,J⟩:=a9 J;obtain⟨gR,cJ,J⟩:=a9 J;obtain⟨yV,oQ,J⟩:=a9 J;obtain⟨B8,nL,J⟩:=a9 J;obtain⟨sS,mJ,J⟩:=a9 J;obtain⟨mN,kY,J⟩:=a9 J;refine go ?_;refine aK rfl (DT (args':=[.str ([116,111,112]),.str [],.isl false []]) (.cons (.refl _) (.cons (.refl _) (.cons (.nil false) .nil))) (pC (xK n ([116,111,112]) [] [] r1 h2)) _) lM (aK rfl (DT (args':=[.str ([108,105,115,116]),.str ([116,111,112]),.isl false []]) (.cons (.refl _) (.cons (.refl _) (.cons (.nil false) .nil))) (pC (xK n ([108,105,115,116]) ([116,111,112]) [] r3 h4)) _) lM ?_);refine bI ?_;refine yG rfl (jF 0 1) (pC (xK n ([99,111,110,115]) ([108,105,115,116]) ([[70,73,82,83,84],[116,111,112],[82,69,83,84],[108,105,115,116]]) r5 h6) _) lM (aK rfl (DT (args':=[.str ([110,117,108,108]),.str ([108,105,115,116]),.isl false []]) (.cons (.refl _) (.cons (.refl _) (.cons (.nil false) .nil))) (pC (xK n ([110,117,108,108]) ([108,105,115,116]) [] r7 h8)) _) lM ?_);refine bI ?_;refine yG rfl (jF 1 1) (pC (xK n ([100,108,105,115,116]) ([116,111,112]) ([[76,73,83,84],[108,105,115,116],[76,65,83,84],[108,105,115,116]]) r9 eK) _) lM (aK rfl (DT (args':=[.str ([105,110,100,101,120]),.str ([116,111,112]),.isl false []]) (.cons (.refl _) (.cons (.refl _) (.cons (.nil false) .nil))) (pC (xK n ([105,110,100,101,120]) ([116,111,112]) [] nF dJ)) _) lM (aK rfl (DT (args':=[.str ([104,97,110,100,108,101]),.str ([105,110,100,101,120]),.isl false []]) (.cons (.refl _) (.cons (.refl _) (.cons (.nil false) .nil))) (pC (xK n ([104,97,110,100,108,101]) ([105,110,100,101,120]) [] dC fD)) _) lM (aK rfl (DT (args':=[.str ([101,118,101,110,116]),.str ([105,110,100,101,120]),.isl false []]) (.cons (.refl _) (.cons (.refl _) (.cons (.nil false) .nil))) (pC (xK n ([101,118,101,110,116]) ([105,110,100,101,120]) [] oG lA)) _) lM (aK rfl (DT (args':=[.str ([101,110,116,105,116,121]),.str ([105,110,100,101,120]),.isl false []]) (.cons (.refl _) (.cons (.refl _) (.cons (.nil false) .nil))) (pC (xK n ([101,110,116,105,116,121]) ([105,110,100,101,120]) [] gR cJ)) _) lM ?_))));refine bI ?_;refine yG rfl (jF 2 1) (pC (xK n ([114,101,108]) ([116,111,112]) ([[76,65,66,69,76],[104,97,110,100,108,101]]) yV oQ) _) lM ?_;refine bI ?_;refine yG rfl (jF 3 1) (pC (xK n ([113,101,113]) ([116,111,112]) ([[72,73,71,72],[104,97,110,100,108,101],[76,79,87],[104,97,110,100,108,101]]) B8 nL) _) lM (aJ (u:=.sl 4 0 8 8) (σ':=⟨[(4,.row [.str ([84,79,80]),.str ([104,97,110,100,108,101]),.str ([73,78,68,69,88]),.str ([105,110,100,101,120]),.str ([82,69,76,83]),.str ([100,108,105,115,116]),.str ([67,79,78,83]),.str ([100,108,105,115,116])] 9)],5⟩) rfl (pF iF.h CN.h rfl rfl rfl rfl rfl rfl rfl) (yG rfl (jF 4 1) (pC (xK n ([115,101,109]) ([116,111,112]) ([[84,79,80],[104,97,110,100,108,101],[73,78,68,69,88],[105,110,100,101,120],[82,69,76,83],[100,108,105,115,116],[67,79,78,83],[100,108,105,115,116]]) sS mJ) _) lM ?_));refine bI ?_;refine yG rfl (jF 5 1) (pC (xK n ([115,105,103,110]) ([116,111,112]) ([[83,69,77],[115,101,109],[65,82,71,83],[108,105,115,116]]) mN kY) _) lM (aJ (u:=.sl 6 0 13 13) (σ':=⟨[(6,.row [.str r1.Name,.iM cS r1.Supers,.iM iY r1.Feats,.str r3.Name,.iM cS r3.Supers,.iM iY r3.Feats,.str r5.Name,.iM cS r5.Supers,.iM iY r5.Feats,.str r7.Name,.iM cS r7.Supers,.iM iY r7.Feats,.str r9.Name,.iM cS r9.Supers,.iM iY r9.Feats,.str nF.Name,.iM cS nF.Supers,.iM iY nF.Feats,.str dC.Name,.iM cS dC.Supers,.iM iY dC.Feats,.str oG.Name,.iM cS oG.Supers,.iM iY oG.Feats,.str gR.Name,.iM cS gR.Supers,.iM iY gR.Feats,.str yV.Name,.iM cS yV.Supers,.iM iY yV.Feats,.str B8.Name,.iM cS B8.Supers,.iM iY B8.Feats,.str sS.Name,.iM cS sS.Supers,.iM iY sS.Feats,.str mN.Name,.iM cS mN.Supers,.iM iY mN.Feats] 138)],7⟩) rfl (pF YP.h tG.h rfl rfl rfl rfl rfl rfl rfl) ?_);refine go ?_;obtain rfl:=sI J;exact rT (us:=[.sl 6 0 13 13]) (u:=.iM bF ([r1,r3,r5,r7,r9,nF,dC,oG,gR,yV,B8,sS,mN])) (d6 rfl (cO)) (fR 6 3)
def Bi(n:Nat)(p1:Int):Option (aW):=
 some (aW.mk ([(aI.mk p1 [])]))
theorem Zd(n:Nat)(p1:Int)(r:aW)(J:Bi n p1=some r):cB prog 36 [.int .i64 p1] (.agg [.isl false (r.Nodes.map aT)]):=by
 unfold Bi at J;refine iA 7 IE ?_;refine go ?_;refine bI ?_;refine go ?_;obtain rfl:=sI J;exact⟨.inr rfl,[.agg [.sl 1 0 1 1]],jC (fZ hZ.h rfl (aR lK.h) rfl rfl rfl) (cO),.agg [.iM aT ([(aI.mk p1 [])])],⟨[],0⟩,zF _,Gh.trans (Gh.trans (Gh.rowC 1) (jF 1 2)) (pN (.agg [.iM aT ([(aI.mk p1 [])])]) rfl),rfl,BU.h⟩
def Rf(z6:Int)(bU:Int->(List Int)->Option ((List Int)))(bQ:List Int):Option ((List Int)):=
 bU (IntKind.i64.wrap (z6+1)) bQ
def WK(z6:Int)(bU:Int->(List Int)->Option ((List Int)))(fP:aI):Nat->Int->(List Int)->Option ((List Int))
 |0,_,_=>none|m2+1,oV,qR=>
  cond (decide (oV<(fP.Arcs.length:Int))) (a7 (a8 fP.Arcs oV) fun iV=>
   a7 (a8 fP.Arcs oV) fun n9=>
   aB ((qR.length+2)*8<=140737488355328/\qR.length+2<=140737488355328) ((WK z6 bU fP m2) (IntKind.i64.wrap (oV+1)) (qR++[iV.Feat,n9.To]))) (Rf z6 bU qR)
def Rg  (l9:List Int):Option ((List Int)):=
 some l9
def HV(p1:aW)(n:Nat):Nat->Int->(List Int)->Option ((List Int))
 |0,_,_=>none|m1+1,z6,l7=>
  cond (decide (z6<(p1.Nodes.length:Int))) (a7 (a8 p1.Nodes z6) fun fP=>
   a7 (a8 p1.Nodes z6) fun iN=>
   aB ((l7.length+2)*8<=140737488355328/\l7.length+2<=140737488355328) (
   WK z6 (HV p1 n m1) fP n 0 (l7++[iN.Typex,(fP.Arcs.length:Int)]))) (Rg l7)
def VY(n:Nat)(p1:aW):Option ((List Int)):=
 HV p1 n n 0 ([(p1.Nodes.length:Int)])
theorem qhv(n:Nat)(p1:aW)(r:(List Int))(J:VY n p1=some r):cB prog 80 [.agg [.isl false (p1.Nodes.map aT)]] (.isl false (r.map (cI .i64))):=by
 unfold VY at J;refine iA 55 SA ?_;refine go ?_;refine RS.step (u:=.vl 1 0 0 ([(p1.Nodes.length:Int)].length)) (σ':=⟨[(1,.bv (cI .i64) ([(p1.Nodes.length:Int)]) 3 1 0),(0,.row [.iM aT p1.Nodes] 40)],2⟩) rfl (BJ.bslv (cs:=(List.map (cI .i64) [(p1.Nodes.length:Int)]).flatten) tb_ok rfl eB.h fL.h rfl rfl rfl rfl rfl rfl rfl rfl) rfl rfl ?_;refine go ?_;refine gL (fun m tm σ=>∃z6 l7 t8,HV p1 n m z6 l7=some r/\tm=fr 55 [(1,.ptr 0 0 0),(3,.vl 1 t8 0 l7.length),(4,.i6 z6)]/\σ=⟨V2 l7 t8 p1.Nodes,2⟩) (fun tm σ=>∃l9 bV,Rg l9=some r/\tm=fr 55 [(3,.vl 1 bV 0 l9.length)]/\σ=⟨V2 l9 bV p1.Nodes,2⟩) n ⟨0,[(p1.Nodes.length:Int)],0,J,rfl,rfl⟩ ?_ ?_;rintro _ _ ⟨l9,bV,J,rfl,rfl⟩;unfold Rg at J;refine go ?_;obtain rfl:=sI J;exact rT (us:=[.vl 1 bV 0 l9.length]) (u:=.iM (cI .i64) l9) (d6 rfl (cO)) (fR 1 1);rintro(_|m1) _ _ ⟨z6,l7,t8,J,rfl,rfl⟩;cases J;unfold HV at J;refine gF J ?_ ?_<;>intro fM J;refine go ?_;apply aP;obtain⟨fP,cM,J⟩:=a9 J;refine go ?_;refine aS cM ?_;obtain⟨iN,dN,J⟩:=a9 J;obtain⟨lA,J⟩:=cC J;refine go ?_;refine aS dN ?_;refine go ?_;refine bI ?_;refine aJ (u:=.vl 1 (t8+1) 0 ((l7++[iN.Typex,(fP.Arcs.length:Int)]).length)) (σ':=⟨(2,.row [.i6 iN.Typex,.i6 (fP.Arcs.length:Int)] 3)::V2 (l7++[iN.Typex,(fP.Arcs.length:Int)]) (t8+1) p1.Nodes,3⟩) rfl (pV rfl rfl rfl rfl (JU (cI .i64) ([iN.Typex,(fP.Arcs.length:Int)]) eB.h eB.h fL.h rfl (jD .i64) rfl (ZP (cI .i64) [iN.Typex,(fP.Arcs.length:Int)] rfl rfl rfl rfl) lA)) ?_;refine go ?_;refine gL (fun m tm σ=>∃oV qR vL,WK z6 (HV p1 n m1) fP m oV qR=some r/\tm=fr 55 [(1,.ptr 0 0 0),(3,.vl 1 vL 0 qR.length),(4,.i6 z6),(5,.iM aN fP.Arcs),(6,.i6 oV)]/\σ=⟨(2,.row [.i6 iN.Typex,.i6 (fP.Arcs.length:Int)] 3)::V2 qR vL p1.Nodes,3⟩) (fun tm σ=>∃bQ gY,Rf z6 (HV p1 n m1) bQ=some r/\tm=fr 55 [(1,.ptr 0 0 0),(3,.vl 1 gY 0 bQ.length),(4,.i6 z6)]/\σ=⟨(2,.row [.i6 iN.Typex,.i6 (fP.Arcs.length:Int)] 3)::V2 bQ gY p1.Nodes,3⟩) n ⟨0,(l7++[iN.Typex,(fP.Arcs.length:Int)]),(t8+1),J,rfl,rfl⟩ ?_ ?_;rintro _ _ ⟨bQ,gY,J,rfl,rfl⟩;unfold Rf at J;refine go ?_;exact lC ⟨_,bQ,gY,J,rfl,rfl⟩;rintro(_|m2) _ _ ⟨oV,qR,vL,J,rfl,rfl⟩;cases J;unfold WK at J;refine gF J ?_ ?_<;>intro pL J;refine go ?_;apply aP;obtain⟨iV,kX,J⟩:=a9 J;obtain⟨n9,kW,J⟩:=a9 J;obtain⟨mI,J⟩:=cC J;refine go ?_;refine dE [(0,11)] ?_;refine gd ?_;refine bS kX ?_;refine gd ?_;refine bS kW ?_;refine gd ?_;refine dA ?_;refine RD.act (u:=.vl 1 (vL+1) 0 ((qR++[iV.Feat,n9.To]).length)) (σ':=⟨(3,.row [.i6 iV.Feat,.i6 n9.To] 3)::(2,.row [.i6 iN.Typex,.i6 (fP.Arcs.length:Int)] 3)::V2 (qR++[iV.Feat,n9.To]) (vL+1) p1.Nodes,4⟩) rfl (pV rfl rfl rfl rfl (JU (cI .i64) ([iV.Feat,n9.To]) eB.h eB.h fL.h rfl (jD .i64) rfl (ZP (cI .i64) [iV.Feat,n9.To] rfl rfl rfl rfl) mI)) rfl rfl ?_;refine gd ?_;refine aZ ⟨by kernel_rfl,⟨g8 rfl,trivial⟩,?_⟩;refine go ?_;exact lC ⟨_,(qR++[iV.Feat,n9.To]),(vL+1),J,rfl,rfl⟩;refine go ?_;exact xC ⟨qR,vL,J,rfl,rfl⟩;refine go ?_;exact xC ⟨l7,t8,J,rfl,rfl⟩
def Ee: Option (Int):=
 some 0
def WM(r3:(List Int))(r5:(List Int)):Nat->Int->Option (Int)
 |0,_=>none|m1+1,d9=>a7 (cond (decide (d9<(r3.length:Int))) (some (decide (d9<(r5.length:Int)))) (some false)) fun qB=>cond qB (a7 (a8 r3 d9) fun nT=>a7 (a8 r5 d9) fun FY=>cond (decide (nT<FY)) (some (-1)) (a7 (a8 r3 d9) fun iB=>a7 (a8 r5 d9) fun lQ=>cond (decide (iB>lQ)) (some 1) ((WM r3 r5 m1) (IntKind.i64.wrap (d9+1))))) (Ee)
def Cw(n:Nat)(p1:aW)(p2:aW):Option (Int):=
 a7 (VY n p1) fun r3=>
 a7 (VY n p2) fun r5=>
 WM r3 r5 n 0
theorem qp8(n:Nat)(p1:aW)(p2:aW)(r:Int)(J:Cw n p1 p2=some r):cB prog 50 [.agg [.isl false (p1.Nodes.map aT)],.agg [.isl false (p2.Nodes.map aT)]] (.int .i64 r):=by
 unfold Cw at J;refine eW 42 Ij ?_;obtain⟨r3,h4,J⟩:=a9 J;refine go ?_;refine aK rfl (pC (qhv n p1 r3 h4) _) SA ?_;obtain⟨r5,h6,J⟩:=a9 J;refine go ?_;refine aK rfl (pC (qhv n p2 r5 h6) _) SA ?_;refine go ?_;refine gL (fun m tm σ=>∃d9,WM r3 r5 m d9=some r/\tm=fr 42 [(5,.iM (cI .i64) r3),(6,.iM (cI .i64) r5),(7,.i6 d9)]/\σ=⟨[(1,.row [.iM aT p2.Nodes] 40),(0,.row [.iM aT p1.Nodes] 40)],2⟩) (fun tm σ=>Ee=some r/\tm=fr 42 []/\σ=⟨[(1,.row [.iM aT p2.Nodes] 40),(0,.row [.iM aT p1.Nodes] 40)],2⟩) n ⟨0,J,rfl,rfl⟩ ?_ ?_;rintro _ _ ⟨J,rfl,rfl⟩;unfold Ee at J;exact gx J;rintro(_|m1) _ _ ⟨d9,J,rfl,rfl⟩;cases J;unfold WM at J;obtain⟨qB,dN,J⟩:=a9 J;refine gn ?_;refine cW (fun tm σ=>tm=fr 42 [(5,.iM (cI .i64) r3),(6,.iM (cI .i64) r5),(7,.i6 d9),(21,.bool qB)]/\σ=⟨[(1,.row [.iM aT p2.Nodes] 40),(0,.row [.iM aT p1.Nodes] 40)],2⟩) ?_ ?_;rintro _ _ ⟨rfl,rfl⟩;refine gF J ?_ ?_<;>intro lA J;refine go ?_;apply aP;obtain⟨nT,cJ,J⟩:=a9 J;obtain⟨FY,oQ,J⟩:=a9 J;refine go ?_;refine dE [] ?_;refine gd ?_;refine bS cJ ?_;refine gd ?_;refine bS oQ ?_;refine gd ?_;refine aZ ⟨by kernel_rfl,trivial,?_⟩;refine gF J ?_ ?_<;>intro jE J;exact gx J;obtain⟨iB,kZ,J⟩:=a9 J;obtain⟨lQ,mZ,J⟩:=a9 J;refine go ?_;refine dE [] ?_;refine gd ?_;refine bS kZ ?_;refine gd ?_;refine bS mZ ?_;refine gd ?_;refine aZ ⟨by kernel_rfl,trivial,?_⟩;refine gF J ?_ ?_<;>intro kY J;exact gx J;refine go ?_;exact lC ⟨_,J,rfl,rfl⟩;refine go ?_;exact xC ⟨J,rfl,rfl⟩;refine go ?_;rcases gB dN with⟨cM,dN⟩|⟨cM,dN⟩;exact gy dN;exact gy dN
def C0(n:Nat)(p1:aW)(p2:aW):Option (Bool):=
 a7 (Cw n p1 p2) fun r3=>some (r3==0)
theorem W3(n:Nat)(p1:aW)(p2:aW)(r:Bool)(J:C0 n p1 p2=some r):cB prog 25 [.agg [.isl false (p1.Nodes.map aT)],.agg [.isl false (p2.Nodes.map aT)]] (.bool r):=by
 unfold C0 at J;refine eW 9 vB ?_;obtain⟨r3,h4,J⟩:=a9 J;refine go ?_;refine aK rfl (pC (qp8 n p1 p2 r3 h4) _) Ij ?_;exact gx J
def Ae(n:Nat)(p1:List aI):Option (aW):=
 some (aW.mk p1)
theorem Yp(n:Nat)(p1:List aI)(r:aW)(J:Ae n p1=some r):cB prog 34 [.isl false (p1.map aT)] (.agg [.isl false (r.Nodes.map aT)]):=by
 unfold Ae at J;refine iA 5 IF ?_;refine go ?_;obtain rfl:=sI J;exact rT (jC (fZ hZ.h rfl (aR lK.h) rfl rfl rfl) (cO)) (pN _ rfl)
def Zl(p1:Int)(fC:List aF):Option (aI):=
 some (aI.mk p1 fC)
def Pk(p1:Int)(p2:List Int):Nat->Int->(List aF)->Option (aI)
 |0,_,_=>none|m1+1,z9,l10=>
  cond (decide ((IntKind.i64.wrap (z9+1))<(p2.length:Int))) (a7 (a8 p2 z9) fun o9=>
   a7 (a8 p2 (IntKind.i64.wrap (z9+1))) fun nT=>
   aB ((l10.length+1)*16<=140737488355328/\l10.length+1<=140737488355328) ((Pk p1 p2 m1) (IntKind.i64.wrap (z9+2)) (l10++[(aF.mk o9 nT)]))) (Zl p1 l10)
def PM(n:Nat)(p1:Int)(p2:List Int):Option (aI):=
 Pk p1 p2 n 0 ([]:List aF)
theorem Cq(n:Nat)(p1:Int)(p2:List Int)(r:aI)(J:PM n p1 p2=some r):cB prog 35 [.int .i64 p1,.isl false (p2.map (cI .i64))] (.agg (aT r)):=by
 unfold PM at J;refine eW 32 y3 ?_;refine gr ?_;refine gr ?_;refine gr ?_;refine bX (tm':=fr 32 [(1,.iM (cI .i64) p2),(4,.ptr 0 0 0),(5,.ptr 1 0 0),(6,.i6 0)]) (σ':=⟨[(2,.bv aN ([]:List aF) 98 2 0),(1,.row [.i6 p1,.vl 2 0 0 (([]:List aF).length)] 78),(0,.row [.i6 0,.nils] 78)],3⟩) (Gh.trans (rN 1 1 98 2 (by decide) NZ rfl rfl) (m7 ⟨rfl,rfl,rfl,rfl,trivial⟩ rfl)) NZ ?_;refine gL (fun m tm σ=>∃z9 l10 j6,Pk p1 p2 m z9 l10=some r/\tm=fr 32 [(1,.iM (cI .i64) p2),(4,.ptr 0 0 0),(5,.ptr 1 0 0),(6,.i6 z9)]/\σ=⟨[(2,.bv aN l10 98 2 j6),(1,.row [.i6 p1,.vl 2 j6 0 l10.length] 78),(0,.row [.i6 0,.nils] 78)],3⟩) (fun tm σ=>∃fC jG,Zl p1 fC=some r/\tm=fr 32 [(4,.ptr 0 0 0),(5,.ptr 1 0 0)]/\σ=⟨[(2,.bv aN fC 98 2 jG),(1,.row [.i6 p1,.vl 2 jG 0 fC.length] 78),(0,.row [.i6 0,.nils] 78)],3⟩) n ⟨0,([]:List aF),0,J,rfl,rfl⟩ ?_ ?_;rintro _ _ ⟨fC,jG,J,rfl,rfl⟩;unfold Zl at J;refine go ?_;obtain rfl:=sI J;exact rT (us:=[.agg [.i6 p1,.vl 2 jG 0 fC.length]]) (u:=.agg [.i6 p1,.iM aN fC]) (jC (fZ qW.h rfl (aR jP.h) rfl rfl rfl) (cO)) (fR 2 2);rintro(_|m1) _ _ ⟨z9,l10,j6,J,rfl,rfl⟩;cases J;unfold Pk at J;refine gF J ?_ ?_<;>intro fD J;refine go ?_;apply aP;obtain⟨o9,lA,J⟩:=a9 J;obtain⟨nT,cJ,J⟩:=a9 J;obtain⟨gD,J⟩:=cC J;refine go ?_;refine dE [(0,12),(1,12)] ?_;refine gd ?_;refine bS lA ?_;refine gd ?_;refine bS cJ ?_;refine gd ?_;refine dA ?_;refine dA ?_;refine gd ?_;refine n8 ?_;refine aZ ⟨by kernel_rfl,⟨i5 qW.h rfl (aR i7.h) rfl rfl rfl,⟨lV dF.h rfl rfl rfl rfl,trivial⟩⟩,?_⟩;refine go ?_;exact lC ⟨_,(l10++[(aF.mk o9 nT)]),(j6+1),J,rfl,rfl⟩;refine go ?_;exact xC ⟨l10,j6,J,rfl,rfl⟩
end Go.Proofs
