import Derived.Test.YtldlchbgolpkaaaGreatP12
set_option linter.all false
namespace Go.Proofs
open Go Go.Rx Go.Vx Tryz
instance:TbP prog Tryz.tb:=⟨tb_ok⟩
set_option maxRecDepth 20000
set_option maxHeartbeats 4000000
set_option synthInstance.maxSize 4000
set_option synthInstance.maxHeartbeats 200000
structure mC where
 Feat:Int
 Value:Int
def uD(x:mC):List U:=[.int .i64 x.Feat,.int .i64 x.Value]
instance{a0:Int}{a1:Int}:DeC uD [.int .i64 a0,.int .i64 a1] (mC.mk a0 a1):=⟨rfl⟩
theorem qn9(n:Nat)(x:mC):aL n (uD x):=by
 simp only[uD,aL,bB,true_and,and_true]
theorem quw(x:mC):(uD x).length=2:=rfl
instance:fY uD 2:=⟨quw⟩
instance:BF uD:=⟨qn9⟩
structure dH where
 Name:List UInt8
 Code:List Int
 Supers:List Int
 Feats:List mC
def fL(x:dH):List U:=[.str x.Name,.isl false (x.Code.map (cI .u64)),.isl false (x.Supers.map (cI .i64)),.isl false (x.Feats.map uD)]
instance{a0:List UInt8}{a1:List Int}{a2:List Int}{a3:List mC}:DeC fL [.str a0,.isl false (a1.map (cI .u64)),.isl false (a2.map (cI .i64)),.isl false (a3.map uD)] (dH.mk a0 a1 a2 a3):=⟨rfl⟩
theorem jz(n:Nat)(x:dH):aL n (fL x):=by
 simp only[fL,aL,bB,true_and,and_true];exact⟨uE _ (fun q=>Fz _ .u64 q) _,uE _ (fun q=>Fz _ .i64 q) _,uE _ (fun q=>qn9 _ q) _⟩
theorem nw(x:dH):(fL x).length=4:=rfl
instance:fY fL 4:=⟨nw⟩
instance:BF fL:=⟨jz⟩
instance(n:Nat)(x:dH):eU n (fL x):=⟨jz n x⟩
structure dZ where
 Name:List UInt8
 Intro:Int
def gN(x:dZ):List U:=[.str x.Name,.int .i64 x.Intro]
instance{a0:List UInt8}{a1:Int}:DeC gN [.str a0,.int .i64 a1] (dZ.mk a0 a1):=⟨rfl⟩
theorem b_(n:Nat)(x:dZ):aL n (gN x):=by
 simp only[gN,aL,bB,true_and,and_true]
theorem qsh(x:dZ):(gN x).length=2:=rfl
instance:fY gN 2:=⟨qsh⟩
instance:BF gN:=⟨b_⟩
structure cY where
 Types:List dH
 Feats:List dZ
def fA(x:cY):List U:=[.isl false (x.Types.map fL),.isl false (x.Feats.map gN)]
theorem qho(n:Nat)(x:cY):aL n (fA x):=by
 simp only[fA,aL,bB,true_and,and_true];exact⟨uE _ (fun q=>jz _ q) _,uE _ (fun q=>b_ _ q) _⟩
theorem qp7(x:cY):(fA x).length=2:=rfl
instance:fY fA 2:=⟨qp7⟩
instance(n:Nat)(x:cY):eU n (fA x):=⟨qho n x⟩
theorem qjn(K:Nat)(b:B)(sz:Nat)(x:cY):jT K b sz (fA x)=fA x:=sX _ _ _ (qho K x)
structure oR where
 Feat:List UInt8
 Value:List UInt8
def lH(x:oR):List U:=[.str x.Feat,.str x.Value]
instance{a0:List UInt8}{a1:List UInt8}:DeC lH [.str a0,.str a1] (oR.mk a0 a1):=⟨rfl⟩
theorem qjg(n:Nat)(x:oR):aL n (lH x):=by
 simp only[lH,aL,bB,true_and,and_true]
theorem qqf(x:oR):(lH x).length=2:=rfl
instance:fY lH 2:=⟨qqf⟩
instance:BF lH:=⟨qjg⟩
structure bL where
 Name:List UInt8
 Supers:List (List UInt8)
 Feats:List oR
def bS(x:bL):List U:=[.str x.Name,.isl false (x.Supers.map cS),.isl false (x.Feats.map lH)]
theorem qjh(n:Nat)(x:bL):aL n (bS x):=by
 simp only[bS,aL,bB,true_and,and_true];exact⟨uE _ (fun q=>z8y _ q) _,uE _ (fun q=>qjg _ q) _⟩
theorem qqg(x:bL):(bS x).length=3:=rfl
instance:fY bS 3:=⟨qqg⟩
instance:BF bS:=⟨qjh⟩
instance(n:Nat)(x:bL):eU n (bS x):=⟨qjh n x⟩
structure dO where
 Name:List UInt8
 Code:List Int
instance:Inhabited dO:=⟨.mk default default⟩
def g8(x:dO):List U:=[.str x.Name,.isl false (x.Code.map (cI .u64))]
instance{a0:List UInt8}{a1:List Int}:DeC g8 [.str a0,.isl false (a1.map (cI .u64))] (dO.mk a0 a1):=⟨rfl⟩
theorem qoi(n:Nat)(x:dO):aL n (g8 x):=by
 simp only[g8,aL,bB,true_and,and_true];exact uE _ (fun q=>Fz _ .u64 q) _
theorem SZ(x:dO):(g8 x).length=2:=rfl
instance:fY g8 2:=⟨SZ⟩
instance:BF g8:=⟨qoi⟩
instance(n:Nat)(x:dO):eU n (g8 x):=⟨qoi n x⟩
structure aK where
 Feat:Int
 To:Int
def aU(x:aK):List U:=[.int .i64 x.Feat,.int .i64 x.To]
instance{a0:Int}{a1:Int}:DeC aU [.int .i64 a0,.int .i64 a1] (aK.mk a0 a1):=⟨rfl⟩
theorem Hc(n:Nat)(x:aK):aL n (aU x):=by
 simp only[aU,aL,bB,true_and,and_true]
theorem rQ(x:aK):(aU x).length=2:=rfl
instance:fY aU 2:=⟨rQ⟩
instance:BF aU:=⟨Hc⟩
instance(n:Nat)(x:aK):eU n (aU x):=⟨Hc n x⟩
structure aN where
 Typex:Int
 Arcs:List aK
def bA(x:aN):List U:=[.int .i64 x.Typex,.isl false (x.Arcs.map aU)]
instance{a0:Int}{a1:List aK}:DeC bA [.int .i64 a0,.isl false (a1.map aU)] (aN.mk a0 a1):=⟨rfl⟩
instance{a0:Int}:DeC bA [.int .i64 a0,.isl false []] (aN.mk a0 []):=⟨rfl⟩
theorem P0(n:Nat)(x:aN):aL n (bA x):=by
 simp only[bA,aL,bB,true_and,and_true];exact uE _ (fun q=>Hc _ q) _
theorem SU(x:aN):(bA x).length=2:=rfl
instance:fY bA 2:=⟨SU⟩
instance:BF bA:=⟨P0⟩
instance(n:Nat)(x:aN):eU n (bA x):=⟨P0 n x⟩
structure GFS where
 Nodes:List aN
def oN(x:GFS):List U:=[.isl false (x.Nodes.map bA)]
instance{a0:List aN}:DeC oN [.isl false (a0.map bA)] (GFS.mk a0):=⟨rfl⟩
theorem qxo(n:Nat)(x:GFS):aL n (oN x):=by
 simp only[oN,aL,bB,true_and,and_true];exact uE _ (fun q=>P0 _ q) _
theorem z7k(x:GFS):(oN x).length=1:=rfl
instance:fY oN 1:=⟨z7k⟩
instance:BF oN:=⟨qxo⟩
instance(n:Nat)(x:GFS):eU n (oN x):=⟨qxo n x⟩
instance:y6 Tryz.tb 27 [.nils,.nils] [(0,1),(1,1)]:=⟨AD oY.h uY.h rfl (by kernel_rfl)⟩
instance:y6 Tryz.tb 40 [.nils] [(0,1)]:=⟨AD jF.h nG.h rfl (by kernel_rfl)⟩
instance:y6 Tryz.tb 78 [.int .i64 0,.nils] [(0,1),(1,1)]:=⟨AD wD.h mD.h rfl (by kernel_rfl)⟩
instance:y6 Tryz.tb 98 [.int .i64 0,.int .i64 0] [(0,1),(1,1)]:=⟨AD y9.h kG.h rfl (by kernel_rfl)⟩
instance Zu:y6 Tryz.tb 128 [.str [],.nils] [(0,1),(1,1)]:=⟨AD RM.h sZ.h rfl (by kernel_rfl)⟩
instance:y6 Tryz.tb 132 [.str [],.nils,.nils,.nils] [(0,1),(1,1),(2,1),(3,1)]:=⟨AD IF.h JW.h rfl (by kernel_rfl)⟩
instance:y6 Tryz.tb 138 [.str [],.nils,.nils] [(0,1),(1,1),(2,1)]:=⟨AD yE.h yV.h rfl (by kernel_rfl)⟩
instance:y6 Tryz.tb 141 [.str [],.str []] [(0,1),(1,1)]:=⟨AD Mu.h U3.h rfl (by kernel_rfl)⟩
instance:y6 Tryz.tb 176 [.int .i64 0,.int .i64 0] [(0,1),(1,1)]:=⟨AD Mt.h Uy.h rfl (by kernel_rfl)⟩
instance:y6 Tryz.tb 187 [.str [],.int .i64 0] [(0,1),(1,1)]:=⟨AD Ms.h Ux.h rfl (by kernel_rfl)⟩
abbrev SH(a)(b:Nat):=([(1,.bv (cL (cI .u64)) a 126 1 b),(0,.row [] 126)]:List (Nat×B))
abbrev mU(a)(b:Nat):=([(0,.bv cS a 9 1 b)]:List (Nat×B))
abbrev Gt(a)(b:Nat)(c):=([(1,.bv (cI .i64) a 3 1 b),(0,.row [.iM bA c] 40)]:List (Nat×B))
abbrev F6(a)(b:Nat):=([(0,.bv (cI .i64) a 3 1 b)]:List (Nat×B))
abbrev Gs:=([(0,.row [.str [],.nils,.nils] 138)]:List (Nat×B))
abbrev Ow(a:U)(b)(c)(d:Nat):=([(2,.row [a,.iM (cI .u64) b] 128),(1,.bv g8 c 128 2 d)]:List (Nat×B))
abbrev qy5:=([(1,.row [.str ([70]),.str ([116,111,112]),.str ([71]),.str ([116,111,112])] 141),(0,.row [.nils,.nils] 27)]:List (Nat×B))
def lj: Option (Int):=
 some 0
def ZA(p1:List bL):Nat->Int->Option (Int)
 |0,_=>none|m1+1,z5=>cond (decide (z5<(p1.length:Int))) (a8 (a8 (aB p1 z5) fun x7=>cond (decide ((x7.Supers.length:Int)>256)) (some true) (a8 (aB p1 z5) fun x10=>some (decide ((x10.Feats.length:Int)>256)))) fun LC=>cond LC (some 7) ((ZA p1 m1) (IntKind.i64.wrap (z5+1)))) (lj)
def Qn(n:Nat)(p1:List bL):Option (Int):=
 cond (decide ((p1.length:Int)>256)) (some 7) (ZA p1 n 0)
theorem qt1(n:Nat)(p1:List bL)(r:Int)(J:Qn n p1=some r):d5 prog 122 [.isl false (p1.map bS)] (.int .i64 r):=by
 unfold Qn at J;refine kC 29 VG ?_;refine gF J ?_ ?_<;>intro h2 J;exact gx J;refine go ?_;refine gL (fun m tm X=>∃z5,ZA p1 m z5=some r/\tm=fr 29 [(0,.iM bS p1),(3,.i6 z5)]/\X=⟨[],0⟩) (fun tm X=>lj=some r/\tm=fr 29 []/\X=⟨[],0⟩) n ⟨0,J,rfl,rfl⟩ ?_ ?_;rintro _ _ ⟨J,rfl,rfl⟩;unfold lj at J;exact gx J;rintro(_|m1) _ _ ⟨z5,J,rfl,rfl⟩;cases J;unfold ZA at J;refine gF J ?_ ?_<;>intro h6 J;refine go ?_;apply aV;obtain⟨LC,dF,J⟩:=aC J;refine gn ?_;refine dM (fun tm X=>tm=fr 29 [(0,.iM bS p1),(3,.i6 z5),(28,.bool LC)]/\X=⟨[],0⟩) ?_ ?_;rintro _ _ ⟨rfl,rfl⟩;refine gF J ?_ ?_<;>intro iA J;exact gx J;refine go ?_;exact lC ⟨_,J,rfl,rfl⟩;obtain⟨x7,h8,dF⟩:=aC dF;refine go ?_;refine aY h8 ?_;refine go ?_;rcases gB dF with⟨h9,dF⟩|⟨h9,dF⟩;exact gy dF;obtain⟨x10,iT,dF⟩:=aC dF;obtain rfl:=sI dF;refine go ?_;refine aY iT ?_;refine go ?_;exact xC ⟨rfl,rfl⟩;refine go ?_;exact xC ⟨J,rfl,rfl⟩
def YS(n:Nat)(p1:Int):Option (Bool):=
 a8 (cond (decide (p1>=48)) (some (decide (p1<=57))) (some false)) fun b3=>some b3
theorem qli(n:Nat)(p1:Int)(r:Bool)(J:YS n p1=some r):d5 prog 171 [.int .u8 p1] (.bool r):=by
 unfold YS at J;refine kC 9 KT ?_;obtain⟨b3,h4,J⟩:=aC J;refine gr ?_;refine dM (fun tm X=>tm=fr 9 [(2,.bool b3)]/\X=⟨[],0⟩) ?_ ?_;rintro _ _ ⟨rfl,rfl⟩;exact gx J;refine go ?_;rcases gB h4 with⟨h2,h4⟩|⟨h2,h4⟩;exact gy h4;exact gy h4
def kp(n:Nat)(p1:Int):Option (Bool):=
 a8 (cond (decide (p1>=65)) (some (decide (p1<=90))) (some false)) fun b3=>some b3
theorem qst(n:Nat)(p1:Int)(r:Bool)(J:kp n p1=some r):d5 prog 174 [.int .u8 p1] (.bool r):=by
 unfold kp at J;refine kC 9 UX ?_;obtain⟨b3,h4,J⟩:=aC J;refine gr ?_;refine dM (fun tm X=>tm=fr 9 [(2,.bool b3)]/\X=⟨[],0⟩) ?_ ?_;rintro _ _ ⟨rfl,rfl⟩;exact gx J;refine go ?_;rcases gB h4 with⟨h2,h4⟩|⟨h2,h4⟩;exact gy h4;exact gy h4
def Qt(n:Nat)(p1:Int):Option (Bool):=
 a8 (cond (decide (p1>=97)) (some (decide (p1<=122))) (some false)) fun b3=>some b3
theorem qlj(n:Nat)(p1:Int)(r:Bool)(J:Qt n p1=some r):d5 prog 175 [.int .u8 p1] (.bool r):=by
 unfold Qt at J;refine kC 9 KS ?_;obtain⟨b3,h4,J⟩:=aC J;refine gr ?_;refine dM (fun tm X=>tm=fr 9 [(2,.bool b3)]/\X=⟨[],0⟩) ?_ ?_;rintro _ _ ⟨rfl,rfl⟩;exact gx J;refine go ?_;rcases gB h4 with⟨h2,h4⟩|⟨h2,h4⟩;exact gy h4;exact gy h4
def Qc(n:Nat)(p1:Int)(p2:Bool):Option (Bool):=
 a8 (a8 (YS n p1) fun r3=>cond r3 (some true) (cond (p1==45) (some true) (cond p2 (a8 (kp n p1) fun r8=>cond r8 (some true) (cond (!p2) (a8 (Qt n p1) fun eL=>some eL) (some false))) (cond (!p2) (a8 (Qt n p1) fun sO=>some sO) (some false))))) fun vD=>some vD
theorem qvb(n:Nat)(p1:Int)(p2:Bool)(r:Bool)(J:Qc n p1 p2=some r):d5 prog 172 [.int .u8 p1,.bool p2] (.bool r):=by
 unfold Qc at J;refine gI 26 UY ?_;obtain⟨vD,dD,J⟩:=aC J;refine gr ?_;refine dM (fun tm X=>tm=fr 26 [(4,.bool vD)]/\X=⟨[],0⟩) ?_ ?_;rintro _ _ ⟨rfl,rfl⟩;exact gx J;obtain⟨r3,h4,dD⟩:=aC dD;refine go ?_;refine aR rfl (pC (qli n p1 r3 h4) _) KT ?_;refine go ?_;rcases gB dD with⟨h5,dD⟩|⟨h5,dD⟩;obtain rfl:=sI dD;refine go ?_
 repeat refine RS.no (IQ rfl rfl rfl) rfl rfl ?_
 refine go ?_
 repeat refine RS.no (IQ rfl rfl rfl) rfl rfl ?_
 refine go ?_;exact xC ⟨rfl,rfl⟩;refine go ?_;rcases gB dD with⟨h6,dD⟩|⟨h6,dD⟩;obtain rfl:=sI dD;refine go ?_
 repeat refine RS.no (IQ rfl rfl rfl) rfl rfl ?_
 refine go ?_
 repeat refine RS.no (IQ rfl rfl rfl) rfl rfl ?_
 refine go ?_;exact xC ⟨rfl,rfl⟩;refine go ?_;rcases gB dD with⟨h7,dD⟩|⟨h7,dD⟩;obtain⟨r8,h9,dD⟩:=aC dD;refine go ?_;refine aR rfl (pC (qst n p1 r8 h9) _) UX ?_;refine go ?_;rcases gB dD with⟨f0,dD⟩|⟨f0,dD⟩;obtain rfl:=sI dD;refine go ?_
 repeat refine RS.no (IQ rfl rfl rfl) rfl rfl ?_
 refine go ?_;exact xC ⟨rfl,rfl⟩;refine go ?_;rcases gB dD with⟨iT,dD⟩|⟨iT,dD⟩;obtain⟨eL,dF,dD⟩:=aC dD;obtain rfl:=sI dD;refine go ?_;refine aR rfl (pC (qlj n p1 eL dF) _) KS ?_;refine go ?_;exact xC ⟨rfl,rfl⟩;exact gy dD;refine go ?_;rcases gB dD with⟨iA,dD⟩|⟨iA,dD⟩;obtain⟨sO,oW,dD⟩:=aC dD;obtain rfl:=sI dD;refine go ?_;refine aR rfl (pC (qlj n p1 sO oW) _) KS ?_;refine go ?_;exact xC ⟨rfl,rfl⟩;exact gy dD
def mn: Option (Bool):=
 some true
def ZE(p1:List UInt8)(p2:Bool)(n:Nat):Nat->Int->Option (Bool)
 |0,_=>none|m1+1,dV=>cond (decide (dV<(p1.length:Int))) (a8 (XN p1 dV) fun n7=>a8 (Qc n n7 p2) fun r22=>cond (!r22) (some false) ((ZE p1 p2 n m1) (IntKind.i64.wrap (dV+1)))) (mn)
def Hn(n:Nat)(p1:List UInt8)(p2:Bool):Option (Bool):=
 a8 (cond (decide ((p1.length:Int)<1)) (some true) (cond (decide ((p1.length:Int)>32)) (some true) (a8 (XN p1 0) fun x5=>a8 (YS n x5) fun r7=>cond r7 (some true) (a8 (XN p1 0) fun x10=>some (x10==45))))) fun LC=>cond LC (some false) (ZE p1 p2 n n 0)
theorem qlk(n:Nat)(p1:List UInt8)(p2:Bool)(r:Bool)(J:Hn n p1 p2=some r):d5 prog 165 [.str p1,.bool p2] (.bool r):=by
 unfold Hn at J;refine gI 36 KU ?_;obtain⟨LC,dF,J⟩:=aC J;refine gr ?_;refine dM (fun tm X=>tm=fr 36 [(0,.str p1),(1,.bool p2),(23,.bool LC)]/\X=⟨[],0⟩) ?_ ?_;rintro _ _ ⟨rfl,rfl⟩;refine gF J ?_ ?_<;>intro iA J;exact gx J;refine go ?_;refine gL (fun m tm X=>∃dV,ZE p1 p2 n m dV=some r/\tm=fr 36 [(0,.str p1),(1,.bool p2),(5,.i6 dV)]/\X=⟨[],0⟩) (fun tm X=>mn=some r/\tm=fr 36 []/\X=⟨[],0⟩) n ⟨0,J,rfl,rfl⟩ ?_ ?_;rintro _ _ ⟨J,rfl,rfl⟩;unfold mn at J;exact gx J;rintro(_|m1) _ _ ⟨dV,J,rfl,rfl⟩;cases J;unfold ZE at J;refine go ?_;refine aP (u:=.i6 (p1.length:Int)) rfl (SA rfl rfl rfl (by simp only[lenU,LW.h])) ?_;refine gF J ?_ ?_<;>intro iX J;refine go ?_;apply aV;obtain⟨n7,m8,J⟩:=aC J;obtain⟨r22,mW,J⟩:=aC J;refine go ?_;refine aP (u:=.int .u8 n7) rfl (ah LW.h rfl rfl m8) ?_;refine go ?_;refine aR rfl (pC (qvb n n7 p2 r22 mW) _) UY ?_;refine gF J ?_ ?_<;>intro pN J;exact gx J;refine go ?_;exact lC ⟨_,J,rfl,rfl⟩;refine go ?_;exact xC ⟨J,rfl,rfl⟩;refine go ?_;refine aP (u:=.i6 (p1.length:Int)) rfl (SA rfl rfl rfl (by simp only[lenU,LW.h])) ?_;refine go ?_;rcases gB dF with⟨h3,dF⟩|⟨h3,dF⟩;exact gy dF;refine go ?_;refine RS.w (u:=.i6 (p1.length:Int)) rfl (SA rfl rfl rfl (by simp only[lenU,LW.h])) ?_;refine go ?_;rcases gB dF with⟨h4,dF⟩|⟨h4,dF⟩;exact gy dF;obtain⟨x5,h6,dF⟩:=aC dF;obtain⟨r7,h8,dF⟩:=aC dF;refine go ?_;refine RS.w (u:=.int .u8 x5) rfl (ah LW.h rfl rfl h6) (aR rfl (pC (qli n x5 r7 h8) _) KT ?_);refine go ?_;rcases gB dF with⟨h9,dF⟩|⟨h9,dF⟩;exact gy dF;obtain⟨x10,iT,dF⟩:=aC dF;obtain rfl:=sI dF;refine go ?_;refine RS.w (u:=.int .u8 x10) rfl (ah LW.h rfl rfl iT) ?_;refine go ?_;exact xC ⟨rfl,rfl⟩
def Qd(n:Nat)(p1:List UInt8):Option (Bool):=
 a8 (Hn n p1 false) fun r2=>some r2
theorem qva(n:Nat)(p1:List UInt8)(r:Bool)(J:Qd n p1=some r):d5 prog 147 [.str p1] (.bool r):=by
 unfold Qd at J;refine kC 5 V4 ?_;obtain⟨r2,h3,J⟩:=aC J;refine go ?_;refine aR rfl (pC (qlk n p1 false r2 h3) _) KU ?_;exact gx J
def yi: Option (Int):=
 some (-1)
def YY(p1:List bL)(p2:List UInt8):Nat->Int->Option (Int)
 |0,_=>none|m1+1,z6=>cond (decide (z6<(p1.length:Int))) (a8 (aB p1 z6) fun x8=>cond (lG x8.Name p2) (some z6) ((YY p1 p2 m1) (IntKind.i64.wrap (z6+1)))) (yi)
def JA(n:Nat)(p1:List bL)(p2:List UInt8):Option (Int):=
 YY p1 p2 n 0
theorem Hu(n:Nat)(p1:List bL)(p2:List UInt8)(r:Int)(J:JA n p1 p2=some r):d5 prog 148 [.isl false (p1.map bS),.str p2] (.int .i64 r):=by
 unfold JA at J;refine gI 20 tP ?_;refine go ?_;refine gL (fun m tm X=>∃z6,YY p1 p2 m z6=some r/\tm=fr 20 [(0,.iM bS p1),(1,.str p2),(5,.i6 z6)]/\X=⟨[],0⟩) (fun tm X=>yi=some r/\tm=fr 20 []/\X=⟨[],0⟩) n ⟨0,J,rfl,rfl⟩ ?_ ?_;rintro _ _ ⟨J,rfl,rfl⟩;unfold yi at J;exact gx J;rintro(_|m1) _ _ ⟨z6,J,rfl,rfl⟩;cases J;unfold YY at J;refine gF J ?_ ?_<;>intro h7 J;refine go ?_;apply aV;obtain⟨x8,h9,J⟩:=aC J;refine go ?_;refine aY h9 ?_;refine go ?_;refine aP (u:=.bool (lG x8.Name p2)) rfl (H4 rfl rfl rfl rfl) ?_;refine gF J ?_ ?_<;>intro f0 J;exact gx J;refine go ?_;exact lC ⟨_,J,rfl,rfl⟩;refine go ?_;exact xC ⟨J,rfl,rfl⟩
def lu: Option (Int):=
 some 0
def ZC(p1:List bL)(n:Nat):Nat->Int->Option (Int)
 |0,_=>none|m1+1,z4=>cond (decide (z4<(p1.length:Int))) (a8 (aB p1 z4) fun x6=>a8 (Qd n x6.Name) fun r8=>cond (!r8) (some 1) (a8 (aB p1 z4) fun gJ=>a8 (JA n p1 gJ.Name) fun gA=>cond (decide (gA<z4)) (some 4) ((ZC p1 n m1) (IntKind.i64.wrap (z4+1))))) (lu)
def kl(n:Nat)(p1:List bL):Option (Int):=
 ZC p1 n n 0
theorem qsz(n:Nat)(p1:List bL)(r:Int)(J:kl n p1=some r):d5 prog 123 [.isl false (p1.map bS)] (.int .i64 r):=by
 unfold kl at J;refine kC 26 VF ?_;refine go ?_;refine gL (fun m tm X=>∃z4,ZC p1 n m z4=some r/\tm=fr 26 [(0,.iM bS p1),(3,.i6 z4)]/\X=⟨[],0⟩) (fun tm X=>lu=some r/\tm=fr 26 []/\X=⟨[],0⟩) n ⟨0,J,rfl,rfl⟩ ?_ ?_;rintro _ _ ⟨J,rfl,rfl⟩;unfold lu at J;exact gx J;rintro(_|m1) _ _ ⟨z4,J,rfl,rfl⟩;cases J;unfold ZC at J;refine gF J ?_ ?_<;>intro h5 J;refine go ?_;apply aV;obtain⟨x6,h7,J⟩:=aC J;obtain⟨r8,h9,J⟩:=aC J;refine go ?_;refine aY h7 ?_;refine go ?_;refine aR rfl (pC (qva n x6.Name r8 h9) _) V4 ?_;refine gF J ?_ ?_<;>intro f0 J;exact gx J;obtain⟨gJ,dP,J⟩:=aC J;obtain⟨gA,iA,J⟩:=aC J;refine go ?_;refine aY dP ?_;refine go ?_;refine aR rfl (pC (Hu n p1 gJ.Name gA iA) _) tP ?_;refine gF J ?_ ?_<;>intro eN J;exact gx J;refine go ?_;exact lC ⟨_,J,rfl,rfl⟩;refine go ?_;exact xC ⟨J,rfl,rfl⟩
def me: Option (Bool):=
 some false
def Io(p1:List (List UInt8))(p2:List UInt8):Nat->Int->Option (Bool)
 |0,_=>none|m1+1,z6=>cond (decide (z6<(p1.length:Int))) (a8 (aB p1 z6) fun x8=>cond (lG x8 p2) (some true) ((Io p1 p2 m1) (IntKind.i64.wrap (z6+1)))) (me)
def HE(n:Nat)(p1:List (List UInt8))(p2:List UInt8):Option (Bool):=
 Io p1 p2 n 0
theorem PA(n:Nat)(p1:List (List UInt8))(p2:List UInt8)(r:Bool)(J:HE n p1 p2=some r):d5 prog 127 [.isl false (p1.map cS),.str p2] (.bool r):=by
 unfold HE at J;refine gI 18 mX ?_;refine go ?_;refine gL (fun m tm X=>∃z6,Io p1 p2 m z6=some r/\tm=fr 18 [(0,.iM cS p1),(1,.str p2),(5,.i6 z6)]/\X=⟨[],0⟩) (fun tm X=>me=some r/\tm=fr 18 []/\X=⟨[],0⟩) n ⟨0,J,rfl,rfl⟩ ?_ ?_;rintro _ _ ⟨J,rfl,rfl⟩;unfold me at J;exact gx J;rintro(_|m1) _ _ ⟨z6,J,rfl,rfl⟩;cases J;unfold Io at J;refine gF J ?_ ?_<;>intro h7 J;refine go ?_;apply aV;obtain⟨x8,h9,J⟩:=aC J;refine go ?_;refine aY h9 ?_;refine go ?_;refine aP (u:=.bool (lG x8 p2)) rfl (H4 rfl rfl rfl rfl) ?_;refine gF J ?_ ?_<;>intro f0 J;exact gx J;refine go ?_;exact lC ⟨_,J,rfl,rfl⟩;refine go ?_;exact xC ⟨J,rfl,rfl⟩
def uh(z4:Int)(bV:Int->Option (Int)): Option (Int):=
 bV (IntKind.i64.wrap (z4+1))
def ZI(p1:List bL)(n:Nat)(z4:Int)(bV:Int->Option (Int))(x6:bL):Nat->Int->Option (Int)
 |0,_=>none|m2+1,eB=>
  cond (decide (eB<(x6.Supers.length:Int))) (a8 (aB x6.Supers eB) fun kQ=>
   a8 (JA n p1 kQ) fun r16=>cond (decide (r16<0)) (some 5) (a8 (sQ x6.Supers 0 eB) fun eG=>
    a8 (aB x6.Supers eB) fun BC=>
    a8 (HE n eG BC) fun nN=>cond nN (some 4) ((ZI p1 n z4 bV x6 m2) (IntKind.i64.wrap (eB+1))))) (uh z4 bV)
def ui: Option (Int):=
 some 0
def MT(p1:List bL)(n:Nat):Nat->Int->Option (Int)
 |0,_=>none|m1+1,z4=>cond (decide (z4<(p1.length:Int))) (a8 (aB p1 z4) fun x6=>ZI p1 n z4 (MT p1 n m1) x6 n 0) (ui)
def vf(n:Nat)(p1:List bL):Option (Int):=
 MT p1 n n 0
theorem qqk(n:Nat)(p1:List bL)(r:Int)(J:vf n p1=some r):d5 prog 124 [.isl false (p1.map bS)] (.int .i64 r):=by
 unfold vf at J;refine kC 38 VE ?_;refine go ?_;refine gL (fun m tm X=>∃z4,MT p1 n m z4=some r/\tm=fr 38 [(0,.iM bS p1),(3,.i6 z4)]/\X=⟨[],0⟩) (fun tm X=>ui=some r/\tm=fr 38 []/\X=⟨[],0⟩) n ⟨0,J,rfl,rfl⟩ ?_ ?_;rintro _ _ ⟨J,rfl,rfl⟩;unfold ui at J;exact gx J;rintro(_|m1) _ _ ⟨z4,J,rfl,rfl⟩;cases J;unfold MT at J;refine gF J ?_ ?_<;>intro h5 J;refine go ?_;apply aV;obtain⟨x6,h7,J⟩:=aC J;refine go ?_;refine aY h7 ?_;refine go ?_;refine gL (fun m tm X=>∃eB,ZI p1 n z4 (MT p1 n m1) x6 m eB=some r/\tm=fr 38 [(0,.iM bS p1),(3,.i6 z4),(4,.iM cS x6.Supers),(5,.i6 eB)]/\X=⟨[],0⟩) (fun tm X=>uh z4 (MT p1 n m1)=some r/\tm=fr 38 [(0,.iM bS p1),(3,.i6 z4)]/\X=⟨[],0⟩) n ⟨0,J,rfl,rfl⟩ ?_ ?_;rintro _ _ ⟨J,rfl,rfl⟩;unfold uh at J;refine go ?_;exact lC ⟨_,J,rfl,rfl⟩;rintro(_|m2) _ _ ⟨eB,J,rfl,rfl⟩;cases J;unfold ZI at J;refine gF J ?_ ?_<;>intro dF J;refine go ?_;apply aV;obtain⟨kQ,eN,J⟩:=aC J;obtain⟨r16,fH,J⟩:=aC J;refine go ?_;refine aY eN ?_;refine go ?_;refine aR rfl (pC (Hu n p1 kQ r16 fH) _) tP ?_;refine gF J ?_ ?_<;>intro dD J;exact gx J;obtain⟨eG,rE,J⟩:=aC J;obtain⟨m8,rD⟩:=Fx cS .i64 rE;obtain⟨BC,pN,J⟩:=aC J;obtain⟨nN,mV,J⟩:=aC J;refine go ?_;refine dE [] ?_;refine gd ?_;refine aQ (u:=.iM cS eG) rfl (AW rfl mL (AL rfl) mL (XT cS kK.h (aZ JV.h) OD m8 rD)) ?_;refine gd ?_;refine cA pN ?_;refine gd ?_;refine fT rfl (pC (PA n eG BC nN mV)) mX ?_;refine bI ⟨by kernel_rfl,trivial,?_⟩;refine gF J ?_ ?_<;>intro w6 J;exact gx J;refine go ?_;exact lC ⟨_,J,rfl,rfl⟩;refine go ?_;exact xC ⟨J,rfl,rfl⟩;refine go ?_;exact xC ⟨J,rfl,rfl⟩
def ll: Option (Bool):=
 some true
def ZB(p1:bL)(p2:List (List UInt8))(n:Nat):Nat->Int->Option (Bool)
 |0,_=>none|m1+1,z8=>cond (decide (z8<(p1.Supers.length:Int))) (a8 (aB p1.Supers z8) fun x10=>a8 (HE n p2 x10) fun eL=>cond (!eL) (some false) ((ZB p1 p2 n m1) (IntKind.i64.wrap (z8+1)))) (ll)
def kj(n:Nat)(p1:bL)(p2:List (List UInt8)):Option (Bool):=
 ZB p1 p2 n n 0
theorem qt0(n:Nat)(p1:bL)(p2:List (List UInt8))(r:Bool)(J:kj n p1 p2=some r):d5 prog 149 [.agg (bS p1),.isl false (p2.map cS)] (.bool r):=by
 unfold kj at J;refine gI 21 V3 ?_;refine go ?_;refine gL (fun m tm X=>∃z8,ZB p1 p2 n m z8=some r/\tm=fr 21 [(1,.iM cS p2),(2,.ptr 0 0 0),(5,.i6 z8)]/\X=⟨[(0,.row (bS p1) 138)],1⟩) (fun tm X=>ll=some r/\tm=fr 21 []/\X=⟨[(0,.row (bS p1) 138)],1⟩) n ⟨0,J,rfl,rfl⟩ ?_ ?_;rintro _ _ ⟨J,rfl,rfl⟩;unfold ll at J;exact gx J;rintro(_|m1) _ _ ⟨z8,J,rfl,rfl⟩;cases J;unfold ZB at J;refine gF J ?_ ?_<;>intro h9 J;refine go ?_;apply aV;obtain⟨x10,iT,J⟩:=aC J;obtain⟨eL,dF,J⟩:=aC J;refine go ?_;refine aY iT ?_;refine go ?_;refine aR rfl (pC (PA n p2 x10 eL dF) _) mX ?_;refine gF J ?_ ?_<;>intro iA J;exact gx J;refine go ?_;exact lC ⟨_,J,rfl,rfl⟩;refine go ?_;exact xC ⟨J,rfl,rfl⟩
def Sr(bV:Bool->(List (List UInt8))->Option ((List (List UInt8))))(HT:Bool)(l24:List (List UInt8)):Option ((List (List UInt8))):=
 bV HT l24
def Sq(dG:Int)(hO:Bool->(List UInt8)->Int->Option ((List (List UInt8))))(Fe:List UInt8):Option ((List (List UInt8))):=
 hO true Fe (IntKind.i64.wrap (dG+1))
def uj(l7:List (List UInt8))(bV:Bool->(List (List UInt8))->Option ((List (List UInt8))))(HT:Bool)(wI:List UInt8):Option ((List (List UInt8))):=
 cond HT (aF ((l7.length+1)*16<=140737488355328/\l7.length+1<=140737488355328) (
  Sr bV HT (l7++[wI]))) (Sr bV HT l7)
def MU(p1:List bL)(n:Nat)(l7:List (List UInt8))(bV:Bool->(List (List UInt8))->Option ((List (List UInt8)))):Nat->Bool->(List UInt8)->Int->Option ((List (List UInt8)))
 |0,_,_,_=>none|m2+1,E3,D2,dG=>cond (decide (dG<(p1.length:Int))) (a8 (a8 (aB p1 dG) fun y8=>a8 (HE n l7 y8.Name) fun fP=>cond fP (some true) (a8 (aB p1 dG) fun qK=>a8 (kj n qK l7) fun iK=>some (!iK))) fun Ej=>cond Ej ((MU p1 n l7 bV m2) E3 D2 (IntKind.i64.wrap (dG+1))) (a8 (cond (!E3) (some true) (a8 (aB p1 dG) fun uO=>some (kN uO.Name D2))) fun E2=>cond E2 (a8 (aB p1 dG) fun x47=>Sq dG (MU p1 n l7 bV m2) x47.Name) (Sq dG (MU p1 n l7 bV m2) D2))) (uj l7 bV E3 D2)
def uk  (l9:List (List UInt8)):Option ((List (List UInt8))):=
 some l9
def JD(p1:List bL)(n:Nat):Nat->Bool->(List (List UInt8))->Option ((List (List UInt8)))
 |0,_,_=>none|m1+1,b6,l7=>cond b6 (MU p1 n l7 (JD p1 n m1) n false [] 0) (uk l7)
def vg(n:Nat)(p1:List bL):Option ((List (List UInt8))):=
 JD p1 n n true ([]:List (List UInt8))
theorem qqj(n:Nat)(p1:List bL)(r:(List (List UInt8)))(J:vg n p1=some r):d5 prog 125 [.isl false (p1.map bS)] (.isl false (r.map cS)):=by
 unfold vg at J;refine kC 52 VD ?_;refine gr ?_;refine gr ?_;refine gr ?_;refine gV 3 9 1 1 ?_;refine gL (fun m tm X=>∃b6 l7 t8,JD p1 n m b6 l7=some r/\tm=fr 52 [(0,.iM bS p1),(3,.vl 0 t8 0 l7.length),(4,.bool b6)]/\X=⟨mU l7 t8,1⟩) (fun tm X=>∃l9 cH,uk l9=some r/\tm=fr 52 [(3,.vl 0 cH 0 l9.length)]/\X=⟨mU l9 cH,1⟩) n ⟨true,([]:List (List UInt8)),0,J,rfl,rfl⟩ ?_ ?_;rintro _ _ ⟨l9,cH,J,rfl,rfl⟩;unfold uk at J;refine go ?_;obtain rfl:=sI J;exact rT (us:=[.vl 0 cH 0 l9.length]) (u:=.iM cS l9) (eA rfl (dL)) (fR 0 1);rintro(_|m1) _ _ ⟨b6,l7,t8,J,rfl,rfl⟩;cases J;unfold JD at J;refine gF J ?_ ?_<;>intro iT J;refine go ?_;apply aV;refine go ?_;refine gL (fun m tm X=>∃E3 D2 dG,MU p1 n l7 (JD p1 n m1) m E3 D2 dG=some r/\tm=fr 52 [(0,.iM bS p1),(3,.vl 0 t8 0 l7.length),(4,.bool E3),(5,.str D2),(6,.i6 dG)]/\X=⟨mU l7 t8,1⟩) (fun tm X=>∃HT wI,uj l7 (JD p1 n m1) HT wI=some r/\tm=fr 52 [(0,.iM bS p1),(3,.vl 0 t8 0 l7.length),(4,.bool HT),(5,.str wI)]/\X=⟨mU l7 t8,1⟩) n ⟨false,[],0,J,rfl,rfl⟩ ?_ ?_;rintro _ _ ⟨HT,wI,J,rfl,rfl⟩;unfold uj at J;refine gr ?_;refine dM (fun tm X=>∃l24 nY,Sr (JD p1 n m1) HT l24=some r/\tm=fr 52 [(0,.iM bS p1),(3,.vl 0 nY 0 l24.length),(4,.bool HT)]/\X=⟨mU l24 nY,1⟩) ?_ ?_;rintro _ _ ⟨l24,nY,J,rfl,rfl⟩;unfold Sr at J;refine go ?_;exact lC ⟨HT,l24,nY,J,rfl,rfl⟩;refine cF J ?_ ?_<;>intro mW J;obtain⟨mV,J⟩:=d9 J;refine go ?_;refine bR ?_;refine bR ?_;refine go ?_;exact xC ⟨(l7++[wI]),(t8+1),J,rfl,rfl⟩;refine go ?_;exact xC ⟨l7,t8,J,rfl,rfl⟩;rintro(_|m2) _ _ ⟨E3,D2,dG,J,rfl,rfl⟩;cases J;unfold MU at J;refine gF J ?_ ?_<;>intro w6 J;refine go ?_;apply aV;obtain⟨Ej,lI,J⟩:=aC J;refine gn ?_;refine dM (fun tm X=>tm=fr 52 [(0,.iM bS p1),(3,.vl 0 t8 0 l7.length),(4,.bool E3),(5,.str D2),(6,.i6 dG),(29,.bool Ej)]/\X=⟨mU l7 t8,1⟩) ?_ ?_;rintro _ _ ⟨rfl,rfl⟩;refine gF J ?_ ?_<;>intro xF J;refine go ?_;exact lC ⟨E3,D2,(IntKind.i64.wrap (dG+1)),J,rfl,rfl⟩;obtain⟨E2,j5,J⟩:=aC J;refine gn ?_;refine dM (fun tm X=>tm=fr 52 [(0,.iM bS p1),(3,.vl 0 t8 0 l7.length),(5,.str D2),(6,.i6 dG),(40,.bool E2)]/\X=⟨mU l7 t8,1⟩) ?_ ?_;rintro _ _ ⟨rfl,rfl⟩;refine gn ?_;refine dM (fun tm X=>∃Fe,Sq dG (MU p1 n l7 (JD p1 n m1) m2) Fe=some r/\tm=fr 52 [(0,.iM bS p1),(3,.vl 0 t8 0 l7.length),(5,.str Fe),(6,.i6 dG)]/\X=⟨mU l7 t8,1⟩) ?_ ?_;rintro _ _ ⟨Fe,J,rfl,rfl⟩;unfold Sq at J;refine go ?_;exact lC ⟨true,Fe,(IntKind.i64.wrap (dG+1)),J,rfl,rfl⟩;refine cF J ?_ ?_<;>intro qG J;obtain⟨x47,KP,J⟩:=aC J;refine go ?_;refine aY KP ?_;refine go ?_;exact xC ⟨x47.Name,J,rfl,rfl⟩;refine go ?_;exact xC ⟨D2,J,rfl,rfl⟩;refine go ?_;rcases gB j5 with⟨uJ,j5⟩|⟨uJ,j5⟩;exact gy j5;obtain⟨uO,qZ,j5⟩:=aC j5;obtain rfl:=sI j5;refine go ?_;refine aY qZ ?_;refine go ?_;refine RS.w (u:=.bool (kN uO.Name D2)) rfl (H4 rfl rfl rfl rfl) ?_;refine go ?_;exact xC ⟨rfl,rfl⟩;obtain⟨y8,oV,lI⟩:=aC lI;obtain⟨fP,vB,lI⟩:=aC lI;refine go ?_;refine aY oV ?_;refine go ?_;refine aR rfl (vw (PA n l7 y8.Name fP vB) (lV 0 1)) mX ?_;refine go ?_;rcases gB lI with⟨oB,lI⟩|⟨oB,lI⟩;exact gy lI;obtain⟨qK,nW,lI⟩:=aC lI;obtain⟨iK,xG,lI⟩:=aC lI;obtain rfl:=sI lI;refine go ?_;refine aY nW ?_;refine go ?_;refine aR rfl (vw (qt0 n qK l7 iK xG) (lV 0 1)) V3 ?_;refine go ?_;exact xC ⟨rfl,rfl⟩;refine go ?_;exact xC ⟨E3,D2,J,rfl,rfl⟩;refine go ?_;exact xC ⟨l7,t8,J,rfl,rfl⟩
def Se(gP:Int)(bV:Int->Int->Option (Int))(tU:Int):Option (Int):=
 bV tU (IntKind.i64.wrap (gP+1))
def ly(p1:List bL)(n:Nat)(iN:Int):Option (Int):=
 cond (iN != 1) (some 1) (a8 (vg n p1) fun fE=>cond (decide ((fE.length:Int)<(p1.length:Int))) (some 6) (some 0))
def PH(p1:List bL)(n:Nat):Nat->Int->Int->Option (Int)
 |0,_,_=>none|m1+1,jD,gP=>cond (decide (gP<(p1.length:Int))) (a8 (aB p1 gP) fun kD=>cond ((kD.Supers.length:Int)==0) (Se gP (PH p1 n m1) (IntKind.i64.wrap (jD+1))) (Se gP (PH p1 n m1) jD)) (ly p1 n jD)
def Qp(n:Nat)(p1:List bL):Option (Int):=
 a8 (Qn n p1) fun r2=>cond (r2 != 0) (some r2) (a8 (kl n p1) fun r5=>cond (r5 != 0) (some r5) (a8 (vf n p1) fun r8=>cond (r8 != 0) (some r8) (PH p1 n n 0 0)))
theorem qsy(n:Nat)(p1:List bL)(r:Int)(J:Qp n p1=some r):d5 prog 93 [.isl false (p1.map bS)] (.int .i64 r):=by
 unfold Qp at J;refine kC 46 Xz ?_;obtain⟨r2,h3,J⟩:=aC J;refine go ?_;refine aR rfl (pC (qt1 n p1 r2 h3) _) VG ?_;refine gF J ?_ ?_<;>intro h4 J;exact gx J;obtain⟨r5,h6,J⟩:=aC J;refine go ?_;refine aR rfl (pC (qsz n p1 r5 h6) _) VF ?_;refine gF J ?_ ?_<;>intro h7 J;exact gx J;obtain⟨r8,h9,J⟩:=aC J;refine go ?_;refine aR rfl (pC (qqk n p1 r8 h9) _) VE ?_;refine gF J ?_ ?_<;>intro f0 J;exact gx J;refine go ?_;refine gL (fun m tm X=>∃jD gP,PH p1 n m jD gP=some r/\tm=fr 46 [(0,.iM bS p1),(6,.i6 jD),(7,.i6 gP)]/\X=⟨[],0⟩) (fun tm X=>∃iN,ly p1 n iN=some r/\tm=fr 46 [(0,.iM bS p1),(6,.i6 iN)]/\X=⟨[],0⟩) n ⟨0,0,J,rfl,rfl⟩ ?_ ?_;rintro _ _ ⟨iN,J,rfl,rfl⟩;unfold ly at J;refine gF J ?_ ?_<;>intro fH J;exact gx J;obtain⟨fE,iX,J⟩:=aC J;refine go ?_;refine aR rfl (pC (qqj n p1 fE iX) _) VD ?_;refine gF J ?_ ?_<;>intro rE J;exact gx J;exact gx J;rintro(_|m1) _ _ ⟨jD,gP,J,rfl,rfl⟩;cases J;unfold PH at J;refine gF J ?_ ?_<;>intro m8 J;refine go ?_;apply aV;obtain⟨kD,mW,J⟩:=aC J;refine go ?_;refine aY mW ?_;refine gn ?_;refine dM (fun tm X=>∃tU,Se gP (PH p1 n m1) tU=some r/\tm=fr 46 [(0,.iM bS p1),(6,.i6 tU),(7,.i6 gP)]/\X=⟨[],0⟩) ?_ ?_;rintro _ _ ⟨tU,J,rfl,rfl⟩;unfold Se at J;refine go ?_;exact lC ⟨tU,(IntKind.i64.wrap (gP+1)),J,rfl,rfl⟩;refine cF J ?_ ?_<;>intro pN J;refine go ?_;exact xC ⟨(IntKind.i64.wrap (jD+1)),J,rfl,rfl⟩;refine go ?_;exact xC ⟨jD,J,rfl,rfl⟩;refine go ?_;exact xC ⟨jD,J,rfl,rfl⟩
def Re(p1:List (List UInt8))(p2:List UInt8)(z7:Int):Option ((List (List UInt8))):=
 a8 (cond (decide (z7<(p1.length:Int))) (a8 (aB p1 z7) fun x9=>some (lG x9 p2)) (some false)) fun CQ=>cond CQ (some p1) (a8 (sQ p1 0 z7) fun gH=>
  aF (gH.length*16<=140737488355328/\gH.length<=140737488355328) (
  aF ((gH.length+1)*16<=140737488355328/\gH.length+1<=140737488355328) (
  a8 (sQ p1 z7 (p1.length:Int)) fun eD=>
  aF (((gH++[p2]).length+eD.length)*16<=140737488355328/\(gH++[p2]).length+eD.length<=140737488355328) (some ((gH++[p2])++eD)))))
def Hv(p1:List (List UInt8))(p2:List UInt8):Nat->Int->Option ((List (List UInt8)))
 |0,_=>none|m1+1,z6=>a8 (cond (decide (z6<(p1.length:Int))) (a8 (aB p1 z6) fun I9=>some (kN I9 p2)) (some false)) fun LB=>cond LB ((Hv p1 p2 m1) (IntKind.i64.wrap (z6+1))) (Re p1 p2 z6)
def OV(n:Nat)(p1:List (List UInt8))(p2:List UInt8):Option ((List (List UInt8))):=
 Hv p1 p2 n 0
theorem Hk(n:Nat)(p1:List (List UInt8))(p2:List UInt8)(r:(List (List UInt8)))(J:OV n p1 p2=some r):d5 prog 117 [.isl false (p1.map cS),.str p2] (.isl false (r.map cS)):=by
 unfold OV at J;refine gI 48 tQ ?_;refine go ?_;refine gL (fun m tm X=>∃z6,Hv p1 p2 m z6=some r/\tm=fr 48 [(0,.iM cS p1),(1,.str p2),(5,.nils),(6,.i6 z6)]/\X=⟨[],0⟩) (fun tm X=>∃z7,Re p1 p2 z7=some r/\tm=fr 48 [(0,.iM cS p1),(1,.str p2),(5,.nils),(6,.i6 z7)]/\X=⟨[],0⟩) n ⟨0,J,rfl,rfl⟩ ?_ ?_;rintro _ _ ⟨z7,J,rfl,rfl⟩;unfold Re at J;obtain⟨CQ,dP,J⟩:=aC J;refine gn ?_;refine dM (fun tm X=>tm=fr 48 [(0,.iM cS p1),(1,.str p2),(5,.nils),(6,.i6 z7),(32,.bool CQ)]/\X=⟨[],0⟩) ?_ ?_;rintro _ _ ⟨rfl,rfl⟩;refine gF J ?_ ?_<;>intro dF J;exact gx J;obtain⟨gH,eN,J⟩:=aC J;obtain⟨oW,fH⟩:=Fx cS .i64 eN;obtain⟨dD,J⟩:=d9 J;refine go ?_;refine aP (u:=.iM cS gH) rfl (AW rfl mL (AL rfl) mL (XT cS kK.h (aZ JV.h) OD oW fH)) (aP (u:=.vl 0 0 0 gH.length) (X':=⟨[(0,.bv cS gH 9 1 0)],1⟩) rfl (uU rfl rfl rfl rfl (da cS gH kK.h kK.h JV.h rfl (H7 cS OD) dD)) ?_);obtain⟨iX,J⟩:=d9 J;refine go ?_;refine bR ?_;refine bR ?_;obtain⟨eD,m8,J⟩:=aC J;obtain⟨rD,mW⟩:=Dq cS .i64 m8;obtain⟨pN,J⟩:=d9 J;refine go ?_;refine aP (u:=.iM cS eD) rfl (AW rfl (AL rfl) mL mL (XT cS kK.h (aZ JV.h) OD rD mW)) ?_;refine bR ?_;refine go ?_;obtain rfl:=sI J;exact rT (us:=[.vl 0 2 0 (((gH++[p2])++eD).length)]) (u:=.iM cS ((gH++[p2])++eD)) (eA rfl (dL)) (fR 0 1);refine go ?_;rcases gB dP with⟨h8,dP⟩|⟨h8,dP⟩;obtain⟨x9,f0,dP⟩:=aC dP;obtain rfl:=sI dP;refine go ?_;refine aY f0 ?_;refine go ?_;refine RS.w (u:=.bool (lG x9 p2)) rfl (H4 rfl rfl rfl rfl) ?_;refine go ?_;exact xC ⟨rfl,rfl⟩;exact gy dP;rintro(_|m1) _ _ ⟨z6,J,rfl,rfl⟩;cases J;unfold Hv at J;obtain⟨LB,oV,J⟩:=aC J;refine gn ?_;refine dM (fun tm X=>tm=fr 48 [(0,.iM cS p1),(1,.str p2),(5,.nils),(6,.i6 z6),(18,.bool LB)]/\X=⟨[],0⟩) ?_ ?_;rintro _ _ ⟨rfl,rfl⟩;refine gF J ?_ ?_<;>intro sA J;refine go ?_;apply aV;refine go ?_;exact lC ⟨_,J,rfl,rfl⟩;refine go ?_;exact xC ⟨z6,J,rfl,rfl⟩;refine go ?_;rcases gB oV with⟨qH,oV⟩|⟨qH,oV⟩;obtain⟨I9,w6,oV⟩:=aC oV;obtain rfl:=sI oV;refine go ?_;refine aY w6 ?_;refine go ?_;refine RS.w (u:=.bool (kN I9 p2)) rfl (H4 rfl rfl rfl rfl) ?_;refine go ?_;exact xC ⟨rfl,rfl⟩;exact gy oV
def lx  (l7:List (List UInt8)):Option ((List (List UInt8))):=
 some l7
def ZD(p1:List bL)(n:Nat):Nat->(List (List UInt8))->Int->Option ((List (List UInt8)))
 |0,_,_=>none|m1+1,l5,z6=>cond (decide (z6<(p1.length:Int))) (a8 (aB p1 z6) fun x9=>a8 (OV n l5 x9.Name) fun qQ=>(ZD p1 n m1) qQ (IntKind.i64.wrap (z6+1))) (lx l5)
def Qo(n:Nat)(p1:List bL):Option ((List (List UInt8))):=
 ZD p1 n n [] 0
theorem qln(n:Nat)(p1:List bL)(r:(List (List UInt8)))(J:Qo n p1=some r):d5 prog 94 [.isl false (p1.map bS)] (.isl false (r.map cS)):=by
 unfold Qo at J;refine kC 19 Cs ?_;refine gr ?_;refine gr ?_;refine gr ?_;refine cE (tm':=fr 19 [(0,.iM bS p1),(3,.iM cS []),(4,.i6 0)]) (Gh.trans (Gh.sub (l':=[(0,.iM bS p1),(3,.nils),(4,.i6 0)]) ⟨rfl,rfl,rfl,trivial⟩) (Gh.wkS (l':=[(0,.iM bS p1),(3,.iM cS []),(4,.i6 0)]) (.cons (.refl _) (.cons (.nil false) (.cons (.refl _) .nil))))) NZ ?_;refine gL (fun m tm X=>∃l5 z6,ZD p1 n m l5 z6=some r/\tm=fr 19 [(0,.iM bS p1),(3,.iM cS l5),(4,.i6 z6)]/\X=⟨[],0⟩) (fun tm X=>∃l7,lx l7=some r/\tm=fr 19 [(3,.iM cS l7)]/\X=⟨[],0⟩) n ⟨[],0,J,rfl,rfl⟩ ?_ ?_;rintro _ _ ⟨l7,J,rfl,rfl⟩;unfold lx at J;exact gx J;rintro(_|m1) _ _ ⟨l5,z6,J,rfl,rfl⟩;cases J;unfold ZD at J;refine gF J ?_ ?_<;>intro h8 J;refine go ?_;apply aV;obtain⟨x9,f0,J⟩:=aC J;obtain⟨qQ,dP,J⟩:=aC J;refine go ?_;refine aY f0 ?_;refine go ?_;refine aR rfl (pC (Hk n l5 x9.Name qQ dP) _) tQ ?_;refine go ?_;exact lC ⟨qQ,(IntKind.i64.wrap (z6+1)),J,rfl,rfl⟩;refine go ?_;exact xC ⟨l5,J,rfl,rfl⟩
def mb  (iJ:List (List UInt8)):Option ((List (List UInt8))):=
 some iJ
def T4(n:Nat)(c6:List (List UInt8)):Nat->(List (List UInt8))->Int->Option ((List (List UInt8)))
 |0,_,_=>none|m2+1,eG,dG=>cond (decide (dG<(c6.length:Int))) (a8 (aB c6 dG) fun BC=>a8 (OV n eG BC) fun nN=>(T4 n c6 m2) nN (IntKind.i64.wrap (dG+1))) (mb eG)
def Sf(w8:Int)(XK:Int->(List (List UInt8))->Option ((List (List UInt8))))(rR:List (List UInt8)):Option ((List (List UInt8))):=
 XK (IntKind.i64.wrap (w8+1)) rR
def ma(dN:Int)(bV:Int->(List (List UInt8))->Option ((List (List UInt8))))(m6:List (List UInt8)):Option ((List (List UInt8))):=
 bV (IntKind.i64.wrap (dN+1)) m6
def PI(p1:List bL)(n:Nat)(dN:Int)(bV:Int->(List (List UInt8))->Option ((List (List UInt8)))):Nat->Int->(List (List UInt8))->Option ((List (List UInt8)))
 |0,_,_=>none|m3+1,w8,jR=>
  cond (decide (w8<(p1.length:Int))) (a8 (a8 (aB p1 w8) fun x39=>
   a8 (aB jR dN) fun uO=>
   a8 (HE n x39.Supers uO) fun S'=>cond S' (a8 (aB p1 w8) fun RB=>
    a8 (HE n jR RB.Name) fun S2=>some (!S2)) (some false)) fun b50=>cond b50 (a8 (aB p1 w8) fun R8=>
    aF ((jR.length+1)*16<=140737488355328/\jR.length+1<=140737488355328) (
    Sf w8 (PI p1 n dN bV m3) (jR++[R8.Name]))) (Sf w8 (PI p1 n dN bV m3) jR)) (ma dN bV jR)
def mc(n:Nat)(c6:List (List UInt8)):Option ((List (List UInt8))):=
 T4 n c6 n [] 0
def MQ(p1:List bL)(n:Nat):Nat->Int->(List (List UInt8))->Option ((List (List UInt8)))
 |0,_,_=>none|m1+1,dN,dC=>cond (decide (dN<(dC.length:Int))) (PI p1 n dN (MQ p1 n m1) n 0 dC) (mc n dC)
def Qq(n:Nat)(p1:List bL)(p2:List UInt8):Option ((List (List UInt8))):=
 a8 (JA n p1 p2) fun r3=>cond (decide (r3<0)) (some []) (MQ p1 n n 0 ([p2]))
theorem qsx(n:Nat)(p1:List bL)(p2:List UInt8)(r:(List (List UInt8)))(J:Qq n p1 p2=some r):d5 prog 126 [.isl false (p1.map bS),.str p2] (.isl false (r.map cS)):=by
 unfold Qq at J;refine gI 69 VC ?_;obtain⟨r3,h4,J⟩:=aC J;refine go ?_;refine aR rfl (pC (Hu n p1 p2 r3 h4) _) tP ?_;refine gF J ?_ ?_<;>intro h5 J;refine go ?_;obtain rfl:=sI J;exact rT (us:=[.nils]) (u:=.isl false []) (eA rfl (dL)) wR;refine go ?_;refine RS.step (u:=.vl 0 0 0 ([p2].length)) (X':=⟨[(0,.bv cS ([p2]) 9 1 0)],1⟩) rfl (IX.bslv (cs:=(List.map cS [p2]).flatten) tb_ok rfl kK.h JV.h rfl rfl rfl rfl rfl rfl rfl rfl) rfl rfl ?_;refine go ?_;refine gL (fun m tm X=>∃dN dC fZ,MQ p1 n m dN dC=some r/\tm=fr 69 [(0,.iM bS p1),(5,.vl 0 fZ 0 dC.length),(6,.i6 dN)]/\X=⟨mU dC fZ,1⟩) (fun tm X=>∃c6 fS,mc n c6=some r/\tm=fr 69 [(5,.vl 0 fS 0 c6.length)]/\X=⟨mU c6 fS,1⟩) n ⟨0,[p2],0,J,rfl,rfl⟩ ?_ ?_;rintro _ _ ⟨c6,fS,J,rfl,rfl⟩;unfold mc at J;refine gr ?_;refine gr ?_;refine cE (tm':=fr 69 [(5,.vl 0 fS 0 c6.length),(8,.iM cS []),(9,.i6 0)]) (Gh.trans (Gh.sub (l':=[(5,.vl 0 fS 0 c6.length),(8,.nils),(9,.i6 0)]) ⟨rfl,rfl,rfl,trivial⟩) (Gh.wkS (l':=[(5,.vl 0 fS 0 c6.length),(8,.iM cS []),(9,.i6 0)]) (.cons (.refl _) (.cons (.nil false) (.cons (.refl _) .nil))))) NZ ?_;refine gL (fun m tm X=>∃eG dG,T4 n c6 m eG dG=some r/\tm=fr 69 [(5,.vl 0 fS 0 c6.length),(8,.iM cS eG),(9,.i6 dG)]/\X=⟨mU c6 fS,1⟩) (fun tm X=>∃iJ,mb iJ=some r/\tm=fr 69 [(8,.iM cS iJ)]/\X=⟨mU c6 fS,1⟩) n ⟨[],0,J,rfl,rfl⟩ ?_ ?_;rintro _ _ ⟨iJ,J,rfl,rfl⟩;unfold mb at J;exact gx J;rintro(_|m2) _ _ ⟨eG,dG,J,rfl,rfl⟩;cases J;unfold T4 at J;refine gF J ?_ ?_<;>intro rD J;refine go ?_;apply aV;obtain⟨BC,pN,J⟩:=aC J;obtain⟨nN,mV,J⟩:=aC J;refine go ?_;refine aP rfl (dX rfl rfl (hZ cS kK.h (aZ JV.h) (by decide) OD (vo rfl) pN)) ?_;refine aP rfl (AV cS (fun x=>.str x) LW.h rfl (fun _=>rfl) rfl rfl pN) (aR rfl (pC (Hk n eG BC nN mV) _) tQ ?_);refine go ?_;exact lC ⟨nN,(IntKind.i64.wrap (dG+1)),J,rfl,rfl⟩;refine go ?_;exact xC ⟨eG,J,rfl,rfl⟩;rintro(_|m1) _ _ ⟨dN,dC,fZ,J,rfl,rfl⟩;cases J;unfold MQ at J;refine gF J ?_ ?_<;>intro w6 J;refine go ?_;apply aV;refine go ?_;refine gL (fun m tm X=>∃w8 jR BE,PI p1 n dN (MQ p1 n m1) m w8 jR=some r/\tm=fr 69 [(0,.iM bS p1),(5,.vl 0 BE 0 jR.length),(6,.i6 dN),(7,.i6 w8)]/\X=⟨mU jR BE,1⟩) (fun tm X=>∃m6 RP,ma dN (MQ p1 n m1) m6=some r/\tm=fr 69 [(0,.iM bS p1),(5,.vl 0 RP 0 m6.length),(6,.i6 dN)]/\X=⟨mU m6 RP,1⟩) n ⟨0,dC,fZ,J,rfl,rfl⟩ ?_ ?_;rintro _ _ ⟨m6,RP,J,rfl,rfl⟩;unfold ma at J;refine go ?_;exact lC ⟨_,m6,RP,J,rfl,rfl⟩;rintro(_|m3) _ _ ⟨w8,jR,BE,J,rfl,rfl⟩;cases J;unfold PI at J;refine gF J ?_ ?_<;>intro lI J;refine go ?_;apply aV;obtain⟨b50,w5,J⟩:=aC J;refine gn ?_;refine dM (fun tm X=>tm=fr 69 [(0,.iM bS p1),(5,.vl 0 BE 0 jR.length),(6,.i6 dN),(7,.i6 w8),(47,.bool b50)]/\X=⟨mU jR BE,1⟩) ?_ ?_;rintro _ _ ⟨rfl,rfl⟩;refine gn ?_;refine dM (fun tm X=>∃rR My,Sf w8 (PI p1 n dN (MQ p1 n m1) m3) rR=some r/\tm=fr 69 [(0,.iM bS p1),(5,.vl 0 My 0 rR.length),(6,.i6 dN),(7,.i6 w8)]/\X=⟨mU rR My,1⟩) ?_ ?_;rintro _ _ ⟨rR,My,J,rfl,rfl⟩;unfold Sf at J;refine go ?_;exact lC ⟨_,rR,My,J,rfl,rfl⟩;refine cF J ?_ ?_<;>intro G7 J;obtain⟨R8,KO,J⟩:=aC J;obtain⟨Xi,J⟩:=d9 J;refine go ?_;refine aY KO ?_;refine go ?_;refine bR ?_;refine bR ?_;refine go ?_;exact xC ⟨(jR++[R8.Name]),(BE+1),J,rfl,rfl⟩;refine go ?_;exact xC ⟨jR,BE,J,rfl,rfl⟩;obtain⟨x39,uJ,w5⟩:=aC w5;obtain⟨uO,qZ,w5⟩:=aC w5;obtain⟨S',j5,w5⟩:=aC w5;refine dE [] ?_;refine gd ?_;refine cA uJ ?_;refine gd ?_;refine aQ rfl (dX rfl rfl (hZ cS kK.h (aZ JV.h) (by decide) OD (vo rfl) qZ)) ?_;refine aQ rfl (AV cS (fun x=>.str x) LW.h rfl (fun _=>rfl) rfl rfl qZ) (fT rfl (pC (PA n x39.Supers uO S' j5)) mX ?_);refine gd ?_;rcases gB w5 with⟨qG,w5⟩|⟨qG,w5⟩;obtain⟨RB,Kt,w5⟩:=aC w5;obtain⟨S2,bf,w5⟩:=aC w5;obtain rfl:=sI w5;refine gd ?_;refine cA Kt ?_;refine gd ?_;refine RD.call (u:=.bool S2) (args:=[.vl 0 BE 0 jR.length,.str RB.Name]) (AN rfl rfl rfl qG) (gC rfl rfl mX hb127 rfl rfl) (vw (PA n jR RB.Name S2 bf) (lV 0 1)) rfl rfl ?_;refine gd ?_;refine bI ⟨by kernel_rfl,trivial,?_⟩;refine go ?_;exact xC ⟨rfl,rfl⟩;obtain rfl:=sI w5;refine gd ?_;refine bI ⟨by kernel_rfl,trivial,?_⟩;refine go ?_;exact xC ⟨rfl,rfl⟩;refine go ?_;exact xC ⟨jR,BE,J,rfl,rfl⟩;refine go ?_;exact xC ⟨dC,fZ,J,rfl,rfl⟩
def Ss(p1:List Int)(z5:Int):Option ((List Int)):=
 a8 (sQ p1 0 z5) fun l6=>
 aF (l6.length*8<=140737488355328/\l6.length<=140737488355328) (some l6)
def T8(p1:List Int):Nat->Int->Option ((List Int))
 |0,_=>none|m1+1,z4=>a8 (cond (decide (z4>0)) (a8 (aB p1 (IntKind.i64.wrap (z4-1))) fun iD=>some (iD==0)) (some false)) fun vE=>cond vE ((T8 p1 m1) (IntKind.i64.wrap (z4-1))) (Ss p1 z4)
def ML(n:Nat)(p1:List Int):Option ((List Int)):=
 T8 p1 n (p1.length:Int)
theorem ml(n:Nat)(p1:List Int)(r:(List Int))(J:ML n p1=some r):d5 prog 120 [.isl false (p1.map (cI .u64))] (.isl false (r.map (cI .u64))):=by
 unfold ML at J;refine kC 23 AC ?_;refine go ?_;refine gL (fun m tm X=>∃z4,T8 p1 m z4=some r/\tm=fr 23 [(0,.iM (cI .u64) p1),(3,.i6 z4)]/\X=⟨[],0⟩) (fun tm X=>∃z5,Ss p1 z5=some r/\tm=fr 23 [(0,.iM (cI .u64) p1),(3,.i6 z5)]/\X=⟨[],0⟩) n ⟨(p1.length:Int),J,rfl,rfl⟩ ?_ ?_;rintro _ _ ⟨z5,J,rfl,rfl⟩;unfold Ss at J;obtain⟨l6,h7,J⟩:=aC J;obtain⟨h8,h9⟩:=Fx (cI .u64) .i64 h7;obtain⟨f0,J⟩:=d9 J;refine go ?_;refine aP (u:=.sl 0 0 0 0) (X':=⟨[(0,.row [] 191)],1⟩) rfl (uA gQ.h lP.h rfl rfl rfl rfl rfl rfl rfl) ?_;refine go ?_;refine aP (u:=.iM (cI .u64) l6) rfl (AW rfl mL (AL rfl) mL (XT (cI .u64) gQ.h (aZ lP.h) (m5 .u64) h8 h9)) (aP (u:=.vl 1 0 0 l6.length) (X':=⟨[(1,.bv (cI .u64) l6 191 1 0),(0,.row [] 191)],2⟩) rfl (uU rfl rfl rfl rfl (MD (cI .u64) l6 gQ.h gQ.h lP.h rfl rfl rfl (H7 (cI .u64) (m5 .u64)) f0)) ?_);refine go ?_;obtain rfl:=sI J;exact rT (us:=[.vl 1 0 0 l6.length]) (u:=.iM (cI .u64) l6) (eA rfl (dL)) (fR 1 1);rintro(_|m1) _ _ ⟨z4,J,rfl,rfl⟩;cases J;unfold T8 at J;obtain⟨vE,eN,J⟩:=aC J;refine gn ?_;refine dM (fun tm X=>tm=fr 23 [(0,.iM (cI .u64) p1),(3,.i6 z4),(15,.bool vE)]/\X=⟨[],0⟩) ?_ ?_;rintro _ _ ⟨rfl,rfl⟩;refine gF J ?_ ?_<;>intro oW J;refine go ?_;apply aV;refine go ?_;exact lC ⟨_,J,rfl,rfl⟩;refine go ?_;exact xC ⟨z4,J,rfl,rfl⟩;refine go ?_;rcases gB eN with⟨iT,eN⟩|⟨iT,eN⟩;obtain⟨iD,dF,eN⟩:=aC eN;obtain rfl:=sI eN;refine go ?_;refine aY dF ?_;refine go ?_;exact xC ⟨rfl,rfl⟩;exact gy eN
def ko(n:Nat)(l8:List Int):Option ((List Int)×Int):=
 aF ((64:Int).toNat=l8.length) (
 a8 (ML n l8) fun lE=>some (lE,0))
def YR(p1:List Int)(n:Nat):Nat->Int->(List Int)->Option ((List Int)×Int)
 |0,_,_=>none|m1+1,z6,l7=>
  cond (decide (z6<(p1.length:Int))) (a8 (a8 (aB p1 z6) fun RC=>cond (decide (RC<0)) (some true) (a8 (aB p1 z6) fun kP=>some (decide (kP>4095)))) fun E3=>cond E3 (some ([],2)) (a8 (aB p1 z6) fun uQ=>
    a8 (aB p1 z6) fun oH=>
    a8 (mK l7 0 ((64:Int).toNat) (IntKind.i64.wrap (oH.tdiv 64))) fun rK=>
    a8 (aB p1 z6) fun j6=>
    aF (¬ (IntKind.u64.wrap (j6.tmod 64))<0) (
    a8 (mK l7 0 ((64:Int).toNat) (IntKind.i64.wrap (uQ.tdiv 64))) fun qK=>(YR p1 n m1) (IntKind.i64.wrap (z6+1)) (l7.set (IntKind.i64.wrap (uQ.tdiv 64)).toNat (Ju .u64 rK (IntKind.u64.wrap (1*(2^(min (IntKind.u64.wrap (j6.tmod 64)).toNat IntKind.u64.bits))))))))) (ko n l7)
def Oo(n:Nat)(p1:List Int):Option ((List Int)×Int):=
 aF (0<=(64:Int)/\8*(64:Int).toNat<=281474976710656/\(64:Int)<=281474976710656) (
 YR p1 n n 0 (List.replicate (64:Int).toNat 0))
theorem z0n(n:Nat)(p1:List Int)(r:(List Int)×Int)(J:Oo n p1=some r):d5 prog 128 [.isl false (p1.map (cI .i64))] (.tup [.isl false (r.1.map (cI .u64)),.int .i64 r.2]):=by
 unfold Oo at J;refine kC 50 VB ?_;obtain⟨h2,J⟩:=d9 J;refine go ?_;refine aP (u:=.sl 0 0 ((64:Int).toNat) ((64:Int).toNat)) (X':=⟨[(0,.row (List.map (cI .u64) (List.replicate (64:Int).toNat 0)).flatten 191)],1⟩) rfl (zt (cI .u64) 0 rfl rfl gQ.h lP.h rfl rfl rfl rfl h2) ?_;refine go ?_;refine gL (fun m tm X=>∃z6 l7,YR p1 n m z6 l7=some r/\tm=fr 50 [(0,.iM (cI .i64) p1),(4,.sl 0 0 ((64:Int).toNat) ((64:Int).toNat)),(5,.i6 z6)]/\X=⟨[(0,.row (l7.map (cI .u64)).flatten 191)],1⟩) (fun tm X=>∃l8,ko n l8=some r/\tm=fr 50 [(4,.sl 0 0 ((64:Int).toNat) ((64:Int).toNat))]/\X=⟨[(0,.row (l8.map (cI .u64)).flatten 191)],1⟩) n ⟨0,(List.replicate (64:Int).toNat 0),J,rfl,rfl⟩ ?_ ?_;rintro _ _ ⟨l8,J,rfl,rfl⟩;unfold ko at J;obtain⟨h9,J⟩:=d9 J;refine gn ?_;refine cE (tm':=fr 50 [(4,.iM (cI .u64) l8)]) (X':=⟨[],1⟩) (Gh.trans (Gh.sub (l':=[(4,.sl 0 0 ((64:Int).toNat) ((64:Int).toNat))]) ⟨rfl,trivial⟩) (Gh.fzS (l':=[(4,.iM (cI .u64) l8)]) (h':=[]) 0 (.row (l8.map (cI .u64)).flatten 191) 1 rfl (by simp) (by simp only[fzS,oZ,yR,vS,H5,MA,M6,J5,OL,OM,ON,M9,M7,OF,J2,M5,M4,EV,Ez (m5 .u64) h9]) (by simp only[fzH,fzB,ug,Nat.beq,zC,zD,oZ,yR,vS,H5,MA,M6,J5,OL,OM,ON,M9,M7,OF,J2,M5,M4,EV,Ez (m5 .u64) h9]))) NZ ?_;obtain⟨lE,iT,J⟩:=aC J;refine go ?_;refine aR rfl (pC (ml n l8 lE iT) _) AC ?_;refine go ?_;obtain rfl:=sI J;exact yG rfl rfl rfl rfl rfl;rintro(_|m1) _ _ ⟨z6,l7,J,rfl,rfl⟩;cases J;unfold YR at J;refine gF J ?_ ?_<;>intro dP J;refine go ?_;apply aV;obtain⟨E3,iX,J⟩:=aC J;refine gn ?_;refine dM (fun tm X=>tm=fr 50 [(0,.iM (cI .i64) p1),(4,.sl 0 0 ((64:Int).toNat) ((64:Int).toNat)),(5,.i6 z6),(24,.bool E3)]/\X=⟨[(0,.row (l7.map (cI .u64)).flatten 191)],1⟩) ?_ ?_;rintro _ _ ⟨rfl,rfl⟩;refine gF J ?_ ?_<;>intro rE J;refine go ?_;obtain rfl:=sI J;exact rT (us:=[.nils,.i6 2]) (u:=.tup [.isl false [],.i6 2]) (eA rfl (eA rfl (dL))) wR;obtain⟨uQ,rD,J⟩:=aC J;obtain⟨oH,qH,J⟩:=aC J;obtain⟨rK,rC,J⟩:=aC J;obtain⟨j6,sA,J⟩:=aC J;obtain⟨oB,J⟩:=d9 J;obtain⟨qK,nW,J⟩:=aC J;refine go ?_;refine dE [] ?_;refine gd ?_;refine cA rD ?_;refine gd ?_;refine aQ rfl (vP rfl rfl (wc _ (by decide)) rfl) ?_;refine gd ?_;refine cA qH ?_;refine gd ?_;refine aQ rfl (vP rfl rfl (wc _ (by decide)) rfl) ?_;refine aQ rfl (dX rfl rfl (EW gQ.h (aZ lP.h) rfl rC)) (aQ (u:=.int .u64 rK) rfl (XZ (cI .u64) (fun x=>.int .u64 x) Mr.h rfl (fun _=>rfl) rfl rfl rC) ?_);refine gd ?_;refine cA sA ?_;refine gd ?_;refine aQ rfl (vP rfl rfl (z9k _ (by decide)) rfl) ?_;refine aQ (u:=.int .u64 (IntKind.u64.wrap (j6.tmod 64))) rfl (wy rfl rfl (by simp only[convX,lW.h,CZ.h]<;>rfl) rfl) ?_;refine aQ rfl (vP rfl rfl (Ah _ oB) rfl) (aQ rfl (vP rfl rfl (Ue _ _ _) rfl) (aQ rfl (dX rfl rfl (EW gQ.h (aZ lP.h) rfl nW)) (RD.actn (u:=.junk) (X':=⟨[(0,.row (List.map (cI .u64) (l7.set (IntKind.i64.wrap (uQ.tdiv 64)).toNat (Ju .u64 rK (IntKind.u64.wrap (1*(2^(min (IntKind.u64.wrap (j6.tmod 64)).toNat IntKind.u64.bits))))))).flatten 191)],1⟩) rfl (Et (cI .u64) (aZ lP.h) (m5 .u64) rfl rfl rfl rfl rfl rfl nW rfl) rfl ?_)));refine bI ⟨by kernel_rfl,trivial,?_⟩;refine go ?_;exact lC ⟨_,(l7.set (IntKind.i64.wrap (uQ.tdiv 64)).toNat (Ju .u64 rK (IntKind.u64.wrap (1*(2^(min (IntKind.u64.wrap (j6.tmod 64)).toNat IntKind.u64.bits)))))),J,rfl,rfl⟩;obtain⟨RC,iA,iX⟩:=aC iX;refine go ?_;refine aY iA ?_;refine go ?_;rcases gB iX with⟨eN,iX⟩|⟨eN,iX⟩;exact gy iX;obtain⟨kP,fH,iX⟩:=aC iX;obtain rfl:=sI iX;refine go ?_;refine aY fH ?_;refine go ?_;exact xC ⟨rfl,rfl⟩;refine go ?_;exact xC ⟨l7,J,rfl,rfl⟩
def Rp(jV:Int)(bV:Int->(List Int)->Option ((List Int)))(l24:List Int):Option ((List Int)):=
 bV (IntKind.i64.wrap (jV+1)) l24
def yf(n:Nat)(gH:List Int):Option ((List Int)):=
 a8 (Oo n gH) fun r16=>some r16.1
def P9(p2:List (List UInt8))(n:Nat)(r4:(List (List UInt8))):Nat->Int->(List Int)->Option ((List Int))
 |0,_,_=>none|m1+1,jV,gT=>
  cond (decide (jV<(p2.length:Int))) (a8 (aB p2 jV) fun NO=>
   a8 (HE n r4 NO) fun IP=>cond IP (aF ((gT.length+1)*8<=140737488355328/\gT.length+1<=140737488355328) (
    Rp jV (P9 p2 n r4 m1) (gT++[jV]))) (Rp jV (P9 p2 n r4 m1) gT)) (yf n gT)
def Qa(n:Nat)(p1:List bL)(p2:List (List UInt8))(p3:List UInt8):Option ((List Int)):=
 a8 (Qq n p1 p3) fun r4=>
 P9 p2 n r4 n 0 ([]:List Int)
theorem qve(n:Nat)(p1:List bL)(p2:List (List UInt8))(p3:List UInt8)(r:(List Int))(J:Qa n p1 p2 p3=some r):d5 prog 95 [.isl false (p1.map bS),.isl false (p2.map cS),.str p3] (.isl false (r.map (cI .u64))):=by
 unfold Qa at J;refine CP 37 Xy ?_;obtain⟨r4,h5,J⟩:=aC J;refine go ?_;refine aR rfl (pC (qsx n p1 p3 r4 h5) _) VC ?_;refine gr ?_;refine gr ?_;refine gV 8 3 1 1 ?_;refine gL (fun m tm X=>∃jV gT m9,P9 p2 n r4 m jV gT=some r/\tm=fr 37 [(1,.iM cS p2),(7,.iM cS r4),(8,.vl 0 m9 0 gT.length),(9,.i6 jV)]/\X=⟨F6 gT m9,1⟩) (fun tm X=>∃gH IK,yf n gH=some r/\tm=fr 37 [(8,.vl 0 IK 0 gH.length)]/\X=⟨F6 gH IK,1⟩) n ⟨0,([]:List Int),0,J,rfl,rfl⟩ ?_ ?_;rintro _ _ ⟨gH,IK,J,rfl,rfl⟩;unfold yf at J;refine gn ?_;refine cE (tm':=fr 37 [(8,.iM (cI .i64) gH)]) (X':=⟨[],1⟩) (Gh.trans (Gh.sub (l':=[(8,.vl 0 IK 0 gH.length)]) ⟨rfl,trivial⟩) (HW 0 1)) NZ ?_;obtain⟨r16,fH,J⟩:=aC J;refine go ?_;refine aR rfl (pC (z0n n gH r16 fH) _) VB ?_;exact gx J;rintro(_|m1) _ _ ⟨jV,gT,m9,J,rfl,rfl⟩;cases J;unfold P9 at J;refine gF J ?_ ?_<;>intro dD J;refine go ?_;apply aV;obtain⟨NO,rE,J⟩:=aC J;obtain⟨IP,rD,J⟩:=aC J;refine go ?_;refine aY rE ?_;refine go ?_;refine aR rfl (pC (PA n r4 NO IP rD) _) mX ?_;refine gn ?_;refine dM (fun tm X=>∃l24 nY,Rp jV (P9 p2 n r4 m1) l24=some r/\tm=fr 37 [(1,.iM cS p2),(7,.iM cS r4),(8,.vl 0 nY 0 l24.length),(9,.i6 jV)]/\X=⟨F6 l24 nY,1⟩) ?_ ?_;rintro _ _ ⟨l24,nY,J,rfl,rfl⟩;unfold Rp at J;refine go ?_;exact lC ⟨_,l24,nY,J,rfl,rfl⟩;refine cF J ?_ ?_<;>intro mW J;obtain⟨mV,J⟩:=d9 J;refine go ?_;refine bR ?_;refine bR ?_;refine go ?_;exact xC ⟨(gT++[jV]),(m9+1),J,rfl,rfl⟩;refine go ?_;exact xC ⟨gT,m9,J,rfl,rfl⟩;refine go ?_;exact xC ⟨gT,m9,J,rfl,rfl⟩
def SS(n:Nat)(p1:List Int)(p2:Int):Option (Int):=
 cond (decide (p2<(p1.length:Int))) (a8 (aB p1 p2) fun x4=>some x4) (some 0)
theorem qnm(n:Nat)(p1:List Int)(p2:Int)(r:Int)(J:SS n p1 p2=some r):d5 prog 146 [.isl false (p1.map (cI .u64)),.int .i64 p2] (.int .u64 r):=by
 unfold SS at J;refine gI 13 KV ?_;refine gF J ?_ ?_<;>intro h3 J;obtain⟨x4,h5,J⟩:=aC J;refine go ?_;refine aY h5 ?_;exact gx J;exact gx J
def P2(n:Nat)(dC:List Int):Option ((List Int)):=
 a8 (ML n dC) fun gA=>some gA
def Hw(p1:List Int)(p2:List Int)(n:Nat):Nat->Int->(List Int)->Option ((List Int))
 |0,_,_=>none|m1+1,z8,l9=>
  cond (decide (z8<(p1.length:Int))) (a8 (aB p1 z8) fun kP=>
   a8 (SS n p2 z8) fun fE=>
   aF ((l9.length+1)*8<=140737488355328/\l9.length+1<=140737488355328) ((Hw p1 p2 n m1) (IntKind.i64.wrap (z8+1)) (l9++[(GP .u64 kP fE)]))) (P2 n l9)
def J9(n:Nat)(p1:List Int)(p2:List Int):Option ((List Int)):=
 Hw p1 p2 n n 0 ([]:List Int)
theorem oh(n:Nat)(p1:List Int)(p2:List Int)(r:(List Int))(J:J9 n p1 p2=some r):d5 prog 119 [.isl false (p1.map (cI .u64)),.isl false (p2.map (cI .u64))] (.isl false (r.map (cI .u64))):=by
 unfold J9 at J;refine gI 26 DX ?_;refine gr ?_;refine gr ?_;refine gr ?_;refine gV 5 191 1 1 ?_;refine gL (fun m tm X=>∃z8 l9 cH,Hw p1 p2 n m z8 l9=some r/\tm=fr 26 [(0,.iM (cI .u64) p1),(1,.iM (cI .u64) p2),(5,.vl 0 cH 0 l9.length),(6,.i6 z8)]/\X=⟨[(0,.bv (cI .u64) l9 191 1 cH)],1⟩) (fun tm X=>∃dC fZ,P2 n dC=some r/\tm=fr 26 [(5,.vl 0 fZ 0 dC.length)]/\X=⟨[(0,.bv (cI .u64) dC 191 1 fZ)],1⟩) n ⟨0,([]:List Int),0,J,rfl,rfl⟩ ?_ ?_;rintro _ _ ⟨dC,fZ,J,rfl,rfl⟩;unfold P2 at J;refine gn ?_;refine cE (tm':=fr 26 [(5,.iM (cI .u64) dC)]) (X':=⟨[],1⟩) (Gh.trans (Gh.sub (l':=[(5,.vl 0 fZ 0 dC.length)]) ⟨rfl,trivial⟩) (HW 0 1)) NZ ?_;obtain⟨gA,iA,J⟩:=aC J;refine go ?_;refine aR rfl (pC (ml n dC gA iA) _) AC ?_;exact gx J;rintro(_|m1) _ _ ⟨z8,l9,cH,J,rfl,rfl⟩;cases J;unfold Hw at J;refine gF J ?_ ?_<;>intro eN J;refine go ?_;apply aV;obtain⟨kP,fH,J⟩:=aC J;obtain⟨fE,iX,J⟩:=aC J;obtain⟨rE,J⟩:=d9 J;refine go ?_;refine dE [(0,9)] ?_;refine gd ?_;refine cA fH ?_;refine gd ?_;refine fT rfl (pC (qnm n p2 z8 fE iX)) KV (aQ rfl (vP rfl rfl (eo _ _ _) rfl) ?_);refine eC ?_;refine eC ?_;refine gd ?_;refine bI ⟨by kernel_rfl,⟨iQ rfl,trivial⟩,?_⟩;refine go ?_;exact lC ⟨_,(l9++[(GP .u64 kP fE)]),(cH+1),J,rfl,rfl⟩;refine go ?_;exact xC ⟨l9,cH,J,rfl,rfl⟩
def rz: Option (Bool):=
 some true
def yj(p1:List Int)(p2:List Int):Nat->Int->Option (Bool)
 |0,_=>none|m1+1,z7=>cond (decide (z7<(p1.length:Int))) (a8 (aB p1 z7) fun x9=>a8 (aB p2 z7) fun gJ=>cond (x9 != gJ) (some false) ((yj p1 p2 m1) (IntKind.i64.wrap (z7+1)))) (rz)
def OY(n:Nat)(p1:List Int)(p2:List Int):Option (Bool):=
 cond ((p1.length:Int) != (p2.length:Int)) (some false) (yj p1 p2 n 0)
theorem re(n:Nat)(p1:List Int)(p2:List Int)(r:Bool)(J:OY n p1 p2=some r):d5 prog 121 [.isl false (p1.map (cI .u64)),.isl false (p2.map (cI .u64))] (.bool r):=by
 unfold OY at J;refine gI 26 DW ?_;refine gF J ?_ ?_<;>intro h3 J;exact gx J;refine go ?_;refine gL (fun m tm X=>∃z7,yj p1 p2 m z7=some r/\tm=fr 26 [(0,.iM (cI .u64) p1),(1,.iM (cI .u64) p2),(5,.i6 z7)]/\X=⟨[],0⟩) (fun tm X=>rz=some r/\tm=fr 26 []/\X=⟨[],0⟩) n ⟨0,J,rfl,rfl⟩ ?_ ?_;rintro _ _ ⟨J,rfl,rfl⟩;unfold rz at J;exact gx J;rintro(_|m1) _ _ ⟨z7,J,rfl,rfl⟩;cases J;unfold yj at J;refine gF J ?_ ?_<;>intro h8 J;refine go ?_;apply aV;obtain⟨x9,f0,J⟩:=aC J;obtain⟨gJ,dP,J⟩:=aC J;refine go ?_;refine dE [] ?_;refine gd ?_;refine cA f0 ?_;refine gd ?_;refine cA dP ?_;refine gd ?_;refine bI ⟨by kernel_rfl,trivial,?_⟩;refine gF J ?_ ?_<;>intro dF J;exact gx J;refine go ?_;exact lC ⟨_,J,rfl,rfl⟩;refine go ?_;exact xC ⟨J,rfl,rfl⟩
def kh: Option (Bool):=
 some false
def YQ(p1:List (List Int))(p2:List Int)(n:Nat):Nat->Int->Option (Bool)
 |0,_=>none|m1+1,z6=>cond (decide (z6<(p1.length:Int))) (a8 (aB p1 z6) fun x8=>a8 (OY n x8 p2) fun lE=>cond lE (some true) ((YQ p1 p2 n m1) (IntKind.i64.wrap (z6+1)))) (kh)
def xn(n:Nat)(p1:List (List Int))(p2:List Int):Option (Bool):=
 YQ p1 p2 n n 0
theorem z0o(n:Nat)(p1:List (List Int))(p2:List Int)(r:Bool)(J:xn n p1 p2=some r):d5 prog 129 [.isl false (List.map (cL (cI .u64)) p1),.isl false (p2.map (cI .u64))] (.bool r):=by
 unfold xn at J;refine gI 18 VA ?_;refine go ?_;refine gL (fun m tm X=>∃z6,YQ p1 p2 n m z6=some r/\tm=fr 18 [(0,.iM (cL (cI .u64)) p1),(1,.iM (cI .u64) p2),(5,.i6 z6)]/\X=⟨[],0⟩) (fun tm X=>kh=some r/\tm=fr 18 []/\X=⟨[],0⟩) n ⟨0,J,rfl,rfl⟩ ?_ ?_;rintro _ _ ⟨J,rfl,rfl⟩;unfold kh at J;exact gx J;rintro(_|m1) _ _ ⟨z6,J,rfl,rfl⟩;cases J;unfold YQ at J;refine gF J ?_ ?_<;>intro h7 J;refine go ?_;apply aV;obtain⟨x8,h9,J⟩:=aC J;obtain⟨lE,iT,J⟩:=aC J;refine go ?_;refine aY h9 ?_;refine go ?_;refine aR rfl (pC (re n x8 p2 lE iT) _) DW ?_;refine gF J ?_ ?_<;>intro dP J;exact gx J;refine go ?_;exact lC ⟨_,J,rfl,rfl⟩;refine go ?_;exact xC ⟨J,rfl,rfl⟩
def So(sD:Int)(hO:Int->(List (List Int))->Option ((List (List Int))))(pY:List (List Int)):Option ((List (List Int))):=
 hO (IntKind.i64.wrap (sD+1)) pY
def Sl(z6:Int)(bV:Int->(List (List Int))->Option ((List (List Int))))(qU:List (List Int)):Option ((List (List Int))):=
 bV (IntKind.i64.wrap (z6+1)) qU
def T6(n:Nat)(z6:Int)(bV:Int->(List (List Int))->Option ((List (List Int)))):Nat->Int->(List (List Int))->Option ((List (List Int)))
 |0,_,_=>none|m2+1,sD,eD=>
  a8 (cond (decide (sD<z6)) (some (decide ((eD.length:Int)<=256))) (some false)) fun b25=>cond b25 (a8 (aB eD z6) fun y8=>
   a8 (aB eD sD) fun WC=>
   a8 (J9 n y8 WC) fun o3=>
   a8 (cond (decide ((o3.length:Int)>0)) (a8 (xn n eD o3) fun iK=>some (!iK)) (some false)) fun Ej=>cond Ej (aF ((eD.length+1)*24<=140737488355328/\eD.length+1<=140737488355328) (
    So sD (T6 n z6 bV m2) (eD++[o3]))) (So sD (T6 n z6 bV m2) eD)) (Sl z6 bV eD)
def Sm  (l9:List (List Int)):Option ((List (List Int))):=
 some l9
def MS(n:Nat):Nat->Int->(List (List Int))->Option ((List (List Int)))
 |0,_,_=>none|m1+1,z6,l7=>a8 (cond (decide (z6<(l7.length:Int))) (some (decide ((l7.length:Int)<=256))) (some false)) fun LC=>cond LC (T6 n z6 (MS n m1) n 0 l7) (Sm l7)
def Rc(n:Nat)(p1:List (List Int)):Option ((List (List Int))):=
 aF (p1.length*24<=140737488355328/\p1.length<=140737488355328) (
 MS n n 0 p1)
theorem qqn(n:Nat)(p1:List (List Int))(r:(List (List Int)))(J:Rc n p1=some r):d5 prog 96 [.isl false (List.map (cL (cI .u64)) p1)] (.isl false (List.map (cL (cI .u64)) r)):=by
 unfold Rc at J;refine kC 54 Xx ?_;obtain⟨h2,J⟩:=d9 J;refine go ?_;refine aP (u:=.sl 0 0 0 0) (X':=⟨[(0,.row [] 126)],1⟩) rfl (uA sG.h qA.h rfl rfl rfl rfl rfl rfl rfl) ?_;refine go ?_;refine aP (u:=.vl 1 0 0 p1.length) (X':=⟨[(1,.bv (cL (cI .u64)) p1 126 1 0),(0,.row [] 126)],2⟩) rfl (uU rfl rfl rfl rfl (MD (cL (cI .u64)) p1 sG.h sG.h qA.h rfl rfl rfl (H7 (cL (cI .u64)) (SB (cI .u64))) h2)) ?_;refine go ?_;refine gL (fun m tm X=>∃z6 l7 t8,MS n m z6 l7=some r/\tm=fr 54 [(3,.vl 1 t8 0 l7.length),(4,.i6 z6)]/\X=⟨SH l7 t8,2⟩) (fun tm X=>∃l9 cH,Sm l9=some r/\tm=fr 54 [(3,.vl 1 cH 0 l9.length)]/\X=⟨SH l9 cH,2⟩) n ⟨0,p1,0,J,rfl,rfl⟩ ?_ ?_;rintro _ _ ⟨l9,cH,J,rfl,rfl⟩;unfold Sm at J;refine go ?_;obtain rfl:=sI J;exact rT (us:=[.vl 1 cH 0 l9.length]) (u:=.iM (cL (cI .u64)) l9) (eA rfl (dL)) (fR 1 1);rintro(_|m1) _ _ ⟨z6,l7,t8,J,rfl,rfl⟩;cases J;unfold MS at J;obtain⟨LC,dF,J⟩:=aC J;refine gn ?_;refine dM (fun tm X=>tm=fr 54 [(3,.vl 1 t8 0 l7.length),(4,.i6 z6),(18,.bool LC)]/\X=⟨SH l7 t8,2⟩) ?_ ?_;rintro _ _ ⟨rfl,rfl⟩;refine gF J ?_ ?_<;>intro iA J;refine go ?_;apply aV;refine go ?_;refine gL (fun m tm X=>∃sD eD IJ,T6 n z6 (MS n m1) m sD eD=some r/\tm=fr 54 [(3,.vl 1 IJ 0 eD.length),(4,.i6 z6),(5,.i6 sD)]/\X=⟨SH eD IJ,2⟩) (fun tm X=>∃qU zl,Sl z6 (MS n m1) qU=some r/\tm=fr 54 [(3,.vl 1 zl 0 qU.length),(4,.i6 z6)]/\X=⟨SH qU zl,2⟩) n ⟨0,l7,t8,J,rfl,rfl⟩ ?_ ?_;rintro _ _ ⟨qU,zl,J,rfl,rfl⟩;unfold Sl at J;refine go ?_;exact lC ⟨_,qU,zl,J,rfl,rfl⟩;rintro(_|m2) _ _ ⟨sD,eD,IJ,J,rfl,rfl⟩;cases J;unfold T6 at J;obtain⟨b25,mV,J⟩:=aC J;refine gn ?_;refine dM (fun tm X=>tm=fr 54 [(3,.vl 1 IJ 0 eD.length),(4,.i6 z6),(5,.i6 sD),(28,.bool b25)]/\X=⟨SH eD IJ,2⟩) ?_ ?_;rintro _ _ ⟨rfl,rfl⟩;refine gF J ?_ ?_<;>intro w6 J;refine go ?_;apply aV;obtain⟨y8,oV,J⟩:=aC J;obtain⟨WC,vB,J⟩:=aC J;obtain⟨o3,tO,J⟩:=aC J;refine go ?_;refine dE [] ?_;refine gd ?_;refine aQ rfl (dX rfl rfl (hZ (cL (cI .u64)) sG.h (aZ qA.h) (by decide) (SB (cI .u64)) (vo rfl) oV)) ?_;refine aQ rfl (AV (cL (cI .u64)) (fun x=>.iM (cI .u64) x) gQ.h rfl (fun _=>rfl) rfl rfl oV) ?_;refine gd ?_;refine aQ rfl (dX rfl rfl (hZ (cL (cI .u64)) sG.h (aZ qA.h) (by decide) (SB (cI .u64)) (vo rfl) vB)) ?_;refine aQ rfl (AV (cL (cI .u64)) (fun x=>.iM (cI .u64) x) gQ.h rfl (fun _=>rfl) rfl rfl vB) (fT rfl (pC (oh n y8 WC o3 tO)) DX ?_);refine gd ?_;refine bI ⟨by kernel_rfl,trivial,?_⟩;obtain⟨Ej,lI,J⟩:=aC J;refine gn ?_;refine dM (fun tm X=>tm=fr 54 [(3,.vl 1 IJ 0 eD.length),(4,.i6 z6),(5,.i6 sD),(6,.iM (cI .u64) o3),(48,.bool Ej)]/\X=⟨SH eD IJ,2⟩) ?_ ?_;rintro _ _ ⟨rfl,rfl⟩;refine gn ?_;refine dM (fun tm X=>∃pY vJ,So sD (T6 n z6 (MS n m1) m2) pY=some r/\tm=fr 54 [(3,.vl 1 vJ 0 pY.length),(4,.i6 z6),(5,.i6 sD)]/\X=⟨SH pY vJ,2⟩) ?_ ?_;rintro _ _ ⟨pY,vJ,J,rfl,rfl⟩;unfold So at J;refine go ?_;exact lC ⟨_,pY,vJ,J,rfl,rfl⟩;refine cF J ?_ ?_<;>intro xF J;obtain⟨qZ,J⟩:=d9 J;refine go ?_;refine bR ?_;refine bR ?_;refine go ?_;exact xC ⟨(eD++[o3]),(IJ+1),J,rfl,rfl⟩;refine go ?_;exact xC ⟨eD,IJ,J,rfl,rfl⟩;refine go ?_;rcases gB lI with⟨nW,lI⟩|⟨nW,lI⟩;obtain⟨iK,xG,lI⟩:=aC lI;obtain rfl:=sI lI;refine go ?_;refine aR rfl (vw (z0o n eD o3 iK xG) (lV 1 1)) VA ?_;refine go ?_;exact xC ⟨rfl,rfl⟩;exact gy lI;refine go ?_;exact xC ⟨eD,IJ,J,rfl,rfl⟩;refine go ?_;rcases gB mV with⟨pN,mV⟩|⟨pN,mV⟩;exact gy mV;exact gy mV;refine go ?_;exact xC ⟨l7,t8,J,rfl,rfl⟩;refine go ?_;rcases gB dF with⟨iT,dF⟩|⟨iT,dF⟩;exact gy dF;exact gy dF
def Ip(n:Nat)(dC:List Int):Option ((List Int)):=
 a8 (ML n dC) fun gA=>some gA
def Si(p1:List Int)(p2:List Int)(n:Nat):Nat->Int->(List Int)->Option ((List Int))
 |0,_,_=>none|m1+1,z8,l9=>
  cond (decide (z8<(p1.length:Int))) (a8 (aB p1 z8) fun kP=>
   a8 (SS n p2 z8) fun fE=>
   aF ((l9.length+1)*8<=140737488355328/\l9.length+1<=140737488355328) ((Si p1 p2 n m1) (IntKind.i64.wrap (z8+1)) (l9++[(SF .u64 kP fE)]))) (Ip n l9)
def Hl(n:Nat)(p1:List Int)(p2:List Int):Option ((List Int)):=
 Si p1 p2 n n 0 ([]:List Int)
theorem qsv(n:Nat)(p1:List Int)(p2:List Int)(r:(List Int))(J:Hl n p1 p2=some r):d5 prog 153 [.isl false (p1.map (cI .u64)),.isl false (p2.map (cI .u64))] (.isl false (r.map (cI .u64))):=by
 unfold Hl at J;refine gI 26 UZ ?_;refine gr ?_;refine gr ?_;refine gr ?_;refine gV 5 191 1 1 ?_;refine gL (fun m tm X=>∃z8 l9 cH,Si p1 p2 n m z8 l9=some r/\tm=fr 26 [(0,.iM (cI .u64) p1),(1,.iM (cI .u64) p2),(5,.vl 0 cH 0 l9.length),(6,.i6 z8)]/\X=⟨[(0,.bv (cI .u64) l9 191 1 cH)],1⟩) (fun tm X=>∃dC fZ,Ip n dC=some r/\tm=fr 26 [(5,.vl 0 fZ 0 dC.length)]/\X=⟨[(0,.bv (cI .u64) dC 191 1 fZ)],1⟩) n ⟨0,([]:List Int),0,J,rfl,rfl⟩ ?_ ?_;rintro _ _ ⟨dC,fZ,J,rfl,rfl⟩;unfold Ip at J;refine gn ?_;refine cE (tm':=fr 26 [(5,.iM (cI .u64) dC)]) (X':=⟨[],1⟩) (Gh.trans (Gh.sub (l':=[(5,.vl 0 fZ 0 dC.length)]) ⟨rfl,trivial⟩) (HW 0 1)) NZ ?_;obtain⟨gA,iA,J⟩:=aC J;refine go ?_;refine aR rfl (pC (ml n dC gA iA) _) AC ?_;exact gx J;rintro(_|m1) _ _ ⟨z8,l9,cH,J,rfl,rfl⟩;cases J;unfold Si at J;refine gF J ?_ ?_<;>intro eN J;refine go ?_;apply aV;obtain⟨kP,fH,J⟩:=aC J;obtain⟨fE,iX,J⟩:=aC J;obtain⟨rE,J⟩:=d9 J;refine go ?_;refine dE [(0,9)] ?_;refine gd ?_;refine cA fH ?_;refine gd ?_;refine fT rfl (pC (qnm n p2 z8 fE iX)) KV (aQ rfl (vP rfl rfl (qut _ _ _) rfl) ?_);refine eC ?_;refine eC ?_;refine gd ?_;refine bI ⟨by kernel_rfl,⟨iQ rfl,trivial⟩,?_⟩;refine go ?_;exact lC ⟨_,(l9++[(SF .u64 kP fE)]),(cH+1),J,rfl,rfl⟩;refine go ?_;exact xC ⟨l9,cH,J,rfl,rfl⟩
def YU(n:Nat)(p1:List Int)(p2:List Int):Option (Bool):=
 a8 (Hl n p1 p2) fun r3=>some ((r3.length:Int)==0)
theorem d_(n:Nat)(p1:List Int)(p2:List Int)(r:Bool)(J:YU n p1 p2=some r):d5 prog 134 [.isl false (p1.map (cI .u64)),.isl false (p2.map (cI .u64))] (.bool r):=by
 unfold YU at J;refine gI 10 DV ?_;obtain⟨r3,h4,J⟩:=aC J;refine go ?_;refine aR rfl (pC (qsv n p1 p2 r3 h4) _) UZ ?_;exact gx J
def Qs(n:Nat)(p1:List Int)(p2:List Int):Option (Bool):=
 a8 (a8 (YU n p1 p2) fun r3=>cond r3 (a8 (YU n p2 p1) fun r6=>some r6) (some false)) fun b8=>some b8
theorem qsu(n:Nat)(p1:List Int)(p2:List Int)(r:Bool)(J:Qs n p1 p2=some r):d5 prog 130 [.isl false (p1.map (cI .u64)),.isl false (p2.map (cI .u64))] (.bool r):=by
 unfold Qs at J;refine gI 13 V9 ?_;obtain⟨b8,h9,J⟩:=aC J;refine gr ?_;refine dM (fun tm X=>tm=fr 13 [(4,.bool b8)]/\X=⟨[],0⟩) ?_ ?_;rintro _ _ ⟨rfl,rfl⟩;exact gx J;obtain⟨r3,h4,h9⟩:=aC h9;refine go ?_;refine aR rfl (pC (d_ n p1 p2 r3 h4) _) DV ?_;refine go ?_;rcases gB h9 with⟨h5,h9⟩|⟨h5,h9⟩;obtain⟨r6,h7,h9⟩:=aC h9;obtain rfl:=sI h9;refine go ?_;refine aR rfl (pC (d_ n p2 p1 r6 h7) _) DV ?_;refine go ?_;exact xC ⟨rfl,rfl⟩;exact gy h9
def Gx(n:Nat)(p1:List Int)(p2:Int):Option (Bool):=
 a8 (cond (decide (p2<0)) (some true) (some (decide ((IntKind.i64.wrap (p2.tdiv 64))>=(p1.length:Int))))) fun b5=>cond b5 (some false) (a8 (aB p1 (IntKind.i64.wrap (p2.tdiv 64))) fun x9=>aF (¬ (IntKind.u64.wrap (p2.tmod 64))<0) (some ((GP .u64 (x9.fdiv (2^(min (IntKind.u64.wrap (p2.tmod 64)).toNat IntKind.u64.bits))) 1)==1)))
theorem qpp(n:Nat)(p1:List Int)(p2:Int)(r:Bool)(J:Gx n p1 p2=some r):d5 prog 131 [.isl false (p1.map (cI .u64)),.int .i64 p2] (.bool r):=by
 unfold Gx at J;refine gI 25 L1 ?_;obtain⟨b5,h6,J⟩:=aC J;refine gr ?_;refine dM (fun tm X=>tm=fr 25 [(0,.iM (cI .u64) p1),(1,.i6 p2),(13,.bool b5)]/\X=⟨[],0⟩) ?_ ?_;rintro _ _ ⟨rfl,rfl⟩;refine gF J ?_ ?_<;>intro h7 J;exact gx J;obtain⟨x9,f0,J⟩:=aC J;obtain⟨dP,J⟩:=d9 J;refine go ?_;refine aP rfl (vP rfl rfl (wc _ (by decide)) rfl) ?_;refine aY f0 ?_;refine go ?_;refine aP rfl (vP rfl rfl (z9k _ (by decide)) rfl) ?_;refine aP (u:=.int .u64 (IntKind.u64.wrap (p2.tmod 64))) rfl (wy rfl rfl (by simp only[convX,lW.h,CZ.h]<;>rfl) rfl) ?_;refine aP rfl (vP rfl rfl (z9l _ dP) rfl) (aP rfl (vP rfl rfl (eo _ _ _) rfl) ?_);exact gx J;refine go ?_;rcases gB h6 with⟨h3,h6⟩|⟨h3,h6⟩;exact gy h6;obtain rfl:=sI h6;refine go ?_;refine RS.w rfl (vP rfl rfl (wc _ (by decide)) rfl) ?_;refine go ?_;exact xC ⟨rfl,rfl⟩
def Tc(z8:Int)(bV:(List (List UInt8))->Int->Option ((List (List UInt8))))(gD:List (List UInt8)):Option ((List (List UInt8))):=
 bV gD (IntKind.i64.wrap (z8+1))
def sa  (l9:List (List UInt8)):Option ((List (List UInt8))):=
 some l9
def PN(p1:List bL)(p2:List (List UInt8))(n:Nat):Nat->(List (List UInt8))->Int->Option ((List (List UInt8)))
 |0,_,_=>none|m1+1,l7,z8=>
  cond (decide (z8<(p2.length:Int))) (a8 (aB p2 z8) fun gJ=>
   a8 (JA n p1 gJ) fun gA=>cond (decide (gA>=0)) (a8 (aB p2 z8) fun rL=>
    a8 (OV n l7 rL) fun hX=>
    Tc z8 (PN p1 p2 n m1) hX) (Tc z8 (PN p1 p2 n m1) l7)) (sa l7)
def lw(n:Nat)(p1:List bL)(p2:List (List UInt8)):Option ((List (List UInt8))):=
 PN p1 p2 n n [] 0
theorem qnu(n:Nat)(p1:List bL)(p2:List (List UInt8))(r:(List (List UInt8)))(J:lw n p1 p2=some r):d5 prog 150 [.isl false (p1.map bS),.isl false (p2.map cS)] (.isl false (r.map cS)):=by
 unfold lw at J;refine gI 27 V2 ?_;refine gr ?_;refine gr ?_;refine gr ?_;refine cE (tm':=fr 27 [(0,.iM bS p1),(1,.iM cS p2),(5,.iM cS []),(6,.i6 0)]) (Gh.trans (Gh.sub (l':=[(0,.iM bS p1),(1,.iM cS p2),(5,.nils),(6,.i6 0)]) ⟨rfl,rfl,rfl,rfl,trivial⟩) (Gh.wkS (l':=[(0,.iM bS p1),(1,.iM cS p2),(5,.iM cS []),(6,.i6 0)]) (.cons (.refl _) (.cons (.refl _) (.cons (.nil false) (.cons (.refl _) .nil)))))) NZ ?_;refine gL (fun m tm X=>∃l7 z8,PN p1 p2 n m l7 z8=some r/\tm=fr 27 [(0,.iM bS p1),(1,.iM cS p2),(5,.iM cS l7),(6,.i6 z8)]/\X=⟨[],0⟩) (fun tm X=>∃l9,sa l9=some r/\tm=fr 27 [(5,.iM cS l9)]/\X=⟨[],0⟩) n ⟨[],0,J,rfl,rfl⟩ ?_ ?_;rintro _ _ ⟨l9,J,rfl,rfl⟩;unfold sa at J;exact gx J;rintro(_|m1) _ _ ⟨l7,z8,J,rfl,rfl⟩;cases J;unfold PN at J;refine gF J ?_ ?_<;>intro f0 J;refine go ?_;apply aV;obtain⟨gJ,dP,J⟩:=aC J;obtain⟨gA,iA,J⟩:=aC J;refine go ?_;refine aY dP ?_;refine go ?_;refine aR rfl (pC (Hu n p1 gJ gA iA) _) tP ?_;refine gn ?_;refine dM (fun tm X=>∃gD,Tc z8 (PN p1 p2 n m1) gD=some r/\tm=fr 27 [(0,.iM bS p1),(1,.iM cS p2),(5,.iM cS gD),(6,.i6 z8)]/\X=⟨[],0⟩) ?_ ?_;rintro _ _ ⟨gD,J,rfl,rfl⟩;unfold Tc at J;refine go ?_;exact lC ⟨gD,(IntKind.i64.wrap (z8+1)),J,rfl,rfl⟩;refine cF J ?_ ?_<;>intro eN J;obtain⟨rL,dD,J⟩:=aC J;obtain⟨hX,rE,J⟩:=aC J;refine go ?_;refine aY dD ?_;refine go ?_;refine aR rfl (pC (Hk n l7 rL hX rE) _) tQ ?_;refine go ?_;exact xC ⟨hX,J,rfl,rfl⟩;refine go ?_;exact xC ⟨l7,J,rfl,rfl⟩;refine go ?_;exact xC ⟨l7,J,rfl,rfl⟩
def mh  (iJ:List (List UInt8)):Option ((List (List UInt8))):=
 some iJ
def T5(n:Nat)(c6:List (List UInt8)):Nat->(List (List UInt8))->Int->Option ((List (List UInt8)))
 |0,_,_=>none|m2+1,eG,dG=>cond (decide (dG<(c6.length:Int))) (a8 (aB c6 dG) fun BC=>a8 (OV n eG BC) fun nN=>(T5 n c6 m2) nN (IntKind.i64.wrap (dG+1))) (mh eG)
def Sh(uN:Int)(XK:Int->(List (List UInt8))->Option ((List (List UInt8))))(TQ:List (List UInt8)):Option ((List (List UInt8))):=
 XK (IntKind.i64.wrap (uN+1)) TQ
def mf(dN:Int)(bV:Int->(List (List UInt8))->Option ((List (List UInt8))))(qT:List (List UInt8)):Option ((List (List UInt8))):=
 bV (IntKind.i64.wrap (dN+1)) qT
def PJ(n:Nat)(dN:Int)(bV:Int->(List (List UInt8))->Option ((List (List UInt8))))(uP:bL):Nat->Int->(List (List UInt8))->Option ((List (List UInt8)))
 |0,_,_=>none|m3+1,uN,nE=>
  cond (decide (uN<(uP.Supers.length:Int))) (a8 (aB uP.Supers uN) fun RB=>
   a8 (HE n nE RB) fun S2=>cond (!S2) (a8 (aB uP.Supers uN) fun R9=>
    aF ((nE.length+1)*16<=140737488355328/\nE.length+1<=140737488355328) (
    Sh uN (PJ n dN bV uP m3) (nE++[R9]))) (Sh uN (PJ n dN bV uP m3) nE)) (mf dN bV nE)
def mj(n:Nat)(c6:List (List UInt8)):Option ((List (List UInt8))):=
 T5 n c6 n [] 0
def MR(p1:List bL)(n:Nat):Nat->Int->(List (List UInt8))->Option ((List (List UInt8)))
 |0,_,_=>none|m1+1,dN,dC=>
  cond (decide (dN<(dC.length:Int))) (a8 (aB dC dN) fun y8=>
   a8 (JA n p1 y8) fun fP=>
   a8 (aB p1 fP) fun uP=>
   PJ n dN (MR p1 n m1) uP n 0 dC) (mj n dC)
def Qr(n:Nat)(p1:List bL)(p2:List UInt8):Option ((List (List UInt8))):=
 a8 (JA n p1 p2) fun r3=>cond (decide (r3<0)) (some []) (MR p1 n n 0 ([p2]))
theorem qsw(n:Nat)(p1:List bL)(p2:List UInt8)(r:(List (List UInt8)))(J:Qr n p1 p2=some r):d5 prog 151 [.isl false (p1.map bS),.str p2] (.isl false (r.map cS)):=by
 unfold Qr at J;refine gI 66 V1 ?_;obtain⟨r3,h4,J⟩:=aC J;refine go ?_;refine aR rfl (pC (Hu n p1 p2 r3 h4) _) tP ?_;refine gF J ?_ ?_<;>intro h5 J;refine go ?_;obtain rfl:=sI J;exact rT (us:=[.nils]) (u:=.isl false []) (eA rfl (dL)) wR;refine go ?_;refine RS.step (u:=.vl 0 0 0 ([p2].length)) (X':=⟨[(0,.bv cS ([p2]) 9 1 0)],1⟩) rfl (IX.bslv (cs:=(List.map cS [p2]).flatten) tb_ok rfl kK.h JV.h rfl rfl rfl rfl rfl rfl rfl rfl) rfl rfl ?_;refine go ?_;refine gL (fun m tm X=>∃dN dC fZ,MR p1 n m dN dC=some r/\tm=fr 66 [(0,.iM bS p1),(5,.vl 0 fZ 0 dC.length),(6,.i6 dN)]/\X=⟨mU dC fZ,1⟩) (fun tm X=>∃c6 fS,mj n c6=some r/\tm=fr 66 [(5,.vl 0 fS 0 c6.length)]/\X=⟨mU c6 fS,1⟩) n ⟨0,[p2],0,J,rfl,rfl⟩ ?_ ?_;rintro _ _ ⟨c6,fS,J,rfl,rfl⟩;unfold mj at J;refine gr ?_;refine gr ?_;refine cE (tm':=fr 66 [(5,.vl 0 fS 0 c6.length),(9,.iM cS []),(10,.i6 0)]) (Gh.trans (Gh.sub (l':=[(5,.vl 0 fS 0 c6.length),(9,.nils),(10,.i6 0)]) ⟨rfl,rfl,rfl,trivial⟩) (Gh.wkS (l':=[(5,.vl 0 fS 0 c6.length),(9,.iM cS []),(10,.i6 0)]) (.cons (.refl _) (.cons (.nil false) (.cons (.refl _) .nil))))) NZ ?_;refine gL (fun m tm X=>∃eG dG,T5 n c6 m eG dG=some r/\tm=fr 66 [(5,.vl 0 fS 0 c6.length),(9,.iM cS eG),(10,.i6 dG)]/\X=⟨mU c6 fS,1⟩) (fun tm X=>∃iJ,mh iJ=some r/\tm=fr 66 [(9,.iM cS iJ)]/\X=⟨mU c6 fS,1⟩) n ⟨[],0,J,rfl,rfl⟩ ?_ ?_;rintro _ _ ⟨iJ,J,rfl,rfl⟩;unfold mh at J;exact gx J;rintro(_|m2) _ _ ⟨eG,dG,J,rfl,rfl⟩;cases J;unfold T5 at J;refine gF J ?_ ?_<;>intro rD J;refine go ?_;apply aV;obtain⟨BC,pN,J⟩:=aC J;obtain⟨nN,mV,J⟩:=aC J;refine go ?_;refine aP rfl (dX rfl rfl (hZ cS kK.h (aZ JV.h) (by decide) OD (vo rfl) pN)) ?_;refine aP rfl (AV cS (fun x=>.str x) LW.h rfl (fun _=>rfl) rfl rfl pN) (aR rfl (pC (Hk n eG BC nN mV) _) tQ ?_);refine go ?_;exact lC ⟨nN,(IntKind.i64.wrap (dG+1)),J,rfl,rfl⟩;refine go ?_;exact xC ⟨eG,J,rfl,rfl⟩;rintro(_|m1) _ _ ⟨dN,dC,fZ,J,rfl,rfl⟩;cases J;unfold MR at J;refine gF J ?_ ?_<;>intro w6 J;refine go ?_;apply aV;obtain⟨y8,oV,J⟩:=aC J;obtain⟨fP,vB,J⟩:=aC J;obtain⟨uP,tO,J⟩:=aC J;refine go ?_;refine aP rfl (dX rfl rfl (hZ cS kK.h (aZ JV.h) (by decide) OD (vo rfl) oV)) ?_;refine aP rfl (AV cS (fun x=>.str x) LW.h rfl (fun _=>rfl) rfl rfl oV) (aR rfl (pC (Hu n p1 y8 fP vB) _) tP ?_);refine aY tO ?_;refine go ?_;refine gL (fun m tm X=>∃uN nE EE,PJ n dN (MR p1 n m1) uP m uN nE=some r/\tm=fr 66 [(0,.iM bS p1),(5,.vl 0 EE 0 nE.length),(6,.i6 dN),(7,.iM cS uP.Supers),(8,.i6 uN)]/\X=⟨mU nE EE,1⟩) (fun tm X=>∃qT NR,mf dN (MR p1 n m1) qT=some r/\tm=fr 66 [(0,.iM bS p1),(5,.vl 0 NR 0 qT.length),(6,.i6 dN)]/\X=⟨mU qT NR,1⟩) n ⟨0,dC,fZ,J,rfl,rfl⟩ ?_ ?_;rintro _ _ ⟨qT,NR,J,rfl,rfl⟩;unfold mf at J;refine go ?_;exact lC ⟨_,qT,NR,J,rfl,rfl⟩;rintro(_|m3) _ _ ⟨uN,nE,EE,J,rfl,rfl⟩;cases J;unfold PJ at J;refine gF J ?_ ?_<;>intro qG J;refine go ?_;apply aV;obtain⟨RB,Kt,J⟩:=aC J;obtain⟨S2,bf,J⟩:=aC J;refine go ?_;refine aY Kt ?_;refine go ?_;refine aR rfl (vw (PA n nE RB S2 bf) (lV 0 1)) mX ?_;refine gn ?_;refine dM (fun tm X=>∃TQ zh,Sh uN (PJ n dN (MR p1 n m1) uP m3) TQ=some r/\tm=fr 66 [(0,.iM bS p1),(5,.vl 0 zh 0 TQ.length),(6,.i6 dN),(7,.iM cS uP.Supers),(8,.i6 uN)]/\X=⟨mU TQ zh,1⟩) ?_ ?_;rintro _ _ ⟨TQ,zh,J,rfl,rfl⟩;unfold Sh at J;refine go ?_;exact lC ⟨_,TQ,zh,J,rfl,rfl⟩;refine cF J ?_ ?_<;>intro UR J;obtain⟨R9,Ks,J⟩:=aC J;obtain⟨Kr,J⟩:=d9 J;refine go ?_;refine aY Ks ?_;refine go ?_;refine bR ?_;refine bR ?_;refine go ?_;exact xC ⟨(nE++[R9]),(EE+1),J,rfl,rfl⟩;refine go ?_;exact xC ⟨nE,EE,J,rfl,rfl⟩;refine go ?_;exact xC ⟨nE,EE,J,rfl,rfl⟩;refine go ?_;exact xC ⟨dC,fZ,J,rfl,rfl⟩
def Sy(dN:Int)(bV:Int->(List (List UInt8))->Option ((List (List UInt8))))(jS:List (List UInt8)):Option ((List (List UInt8))):=
 bV (IntKind.i64.wrap (dN+1)) jS
def ur(r3:(List (List UInt8)))(dN:Int)(dC:List (List UInt8))(bV:Int->(List (List UInt8))->Option ((List (List UInt8))))(Zv:Bool):Option ((List (List UInt8))):=
 cond Zv (a8 (aB r3 dN) fun oG=>
  aF ((dC.length+1)*16<=140737488355328/\dC.length+1<=140737488355328) (
  Sy dN bV (dC++[oG]))) (Sy dN bV dC)
def ZK(n:Nat)(r3:(List (List UInt8)))(dN:Int)(dC:List (List UInt8))(bV:Int->(List (List UInt8))->Option ((List (List UInt8))))(fE:(List (List UInt8))):Nat->Bool->Int->Option ((List (List UInt8)))
 |0,_,_=>none|m2+1,LB,oX=>cond (decide (oX<(r3.length:Int))) (a8 (cond LB (cond (oX==dN) (some true) (a8 (aB r3 oX) fun wB=>a8 (HE n fE wB) fun T'=>some (!T'))) (some false)) fun bh=>(ZK n r3 dN dC bV fE m2) bh (IntKind.i64.wrap (oX+1))) (ur r3 dN dC bV LB)
def ut  (c6:List (List UInt8)):Option ((List (List UInt8))):=
 some c6
def JE(p1:List bL)(n:Nat)(r3:(List (List UInt8))):Nat->Int->(List (List UInt8))->Option ((List (List UInt8)))
 |0,_,_=>none|m1+1,dN,dC=>
  cond (decide (dN<(r3.length:Int))) (a8 (aB r3 dN) fun kP=>
   a8 (Qr n p1 kP) fun fE=>
   ZK n r3 dN dC (JE p1 n r3 m1) fE n true 0) (ut dC)
def Ig(n:Nat)(p1:List bL)(p2:List (List UInt8)):Option ((List (List UInt8))):=
 a8 (lw n p1 p2) fun r3=>
 JE p1 n r3 n 0 ([]:List (List UInt8))
theorem qi7(n:Nat)(p1:List bL)(p2:List (List UInt8))(r:(List (List UInt8)))(J:Ig n p1 p2=some r):d5 prog 132 [.isl false (p1.map bS),.isl false (p2.map cS)] (.isl false (r.map cS)):=by
 unfold Ig at J;refine gI 56 KZ ?_;obtain⟨r3,h4,J⟩:=aC J;refine go ?_;refine aR rfl (pC (qnu n p1 p2 r3 h4) _) V2 ?_;refine gr ?_;refine gV 5 9 1 1 ?_;refine gL (fun m tm X=>∃dN dC fZ,JE p1 n r3 m dN dC=some r/\tm=fr 56 [(0,.iM bS p1),(5,.vl 0 fZ 0 dC.length),(6,.iM cS r3),(7,.i6 dN)]/\X=⟨mU dC fZ,1⟩) (fun tm X=>∃c6 fS,ut c6=some r/\tm=fr 56 [(5,.vl 0 fS 0 c6.length)]/\X=⟨mU c6 fS,1⟩) n ⟨0,([]:List (List UInt8)),0,J,rfl,rfl⟩ ?_ ?_;rintro _ _ ⟨c6,fS,J,rfl,rfl⟩;unfold ut at J;refine go ?_;obtain rfl:=sI J;exact rT (us:=[.vl 0 fS 0 c6.length]) (u:=.iM cS c6) (eA rfl (dL)) (fR 0 1);rintro(_|m1) _ _ ⟨dN,dC,fZ,J,rfl,rfl⟩;cases J;unfold JE at J;refine gF J ?_ ?_<;>intro eN J;refine go ?_;apply aV;obtain⟨kP,fH,J⟩:=aC J;obtain⟨fE,iX,J⟩:=aC J;refine go ?_;refine aY fH ?_;refine go ?_;refine aR rfl (pC (qsw n p1 kP fE iX) _) V1 ?_;refine go ?_;refine gL (fun m tm X=>∃LB oX,ZK n r3 dN dC (JE p1 n r3 m1) fE m LB oX=some r/\tm=fr 56 [(0,.iM bS p1),(5,.vl 0 fZ 0 dC.length),(6,.iM cS r3),(7,.i6 dN),(8,.iM cS fE),(9,.bool LB),(10,.i6 oX)]/\X=⟨mU dC fZ,1⟩) (fun tm X=>∃Zv,ur r3 dN dC (JE p1 n r3 m1) Zv=some r/\tm=fr 56 [(0,.iM bS p1),(5,.vl 0 fZ 0 dC.length),(6,.iM cS r3),(7,.i6 dN),(9,.bool Zv)]/\X=⟨mU dC fZ,1⟩) n ⟨true,0,J,rfl,rfl⟩ ?_ ?_;rintro _ _ ⟨Zv,J,rfl,rfl⟩;unfold ur at J;refine gr ?_;refine dM (fun tm X=>∃jS n9,Sy dN (JE p1 n r3 m1) jS=some r/\tm=fr 56 [(0,.iM bS p1),(5,.vl 0 n9 0 jS.length),(6,.iM cS r3),(7,.i6 dN)]/\X=⟨mU jS n9,1⟩) ?_ ?_;rintro _ _ ⟨jS,n9,J,rfl,rfl⟩;unfold Sy at J;refine go ?_;exact lC ⟨_,jS,n9,J,rfl,rfl⟩;refine cF J ?_ ?_<;>intro vB J;obtain⟨oG,rA,J⟩:=aC J;obtain⟨xG,J⟩:=d9 J;refine go ?_;refine aY rA ?_;refine go ?_;refine bR ?_;refine bR ?_;refine go ?_;exact xC ⟨(dC++[oG]),(fZ+1),J,rfl,rfl⟩;refine go ?_;exact xC ⟨dC,fZ,J,rfl,rfl⟩;rintro(_|m2) _ _ ⟨LB,oX,J,rfl,rfl⟩;cases J;unfold ZK at J;refine gF J ?_ ?_<;>intro HO J;refine go ?_;apply aV;obtain⟨bh,qG,J⟩:=aC J;refine gn ?_;refine dM (fun tm X=>tm=fr 56 [(0,.iM bS p1),(5,.vl 0 fZ 0 dC.length),(6,.iM cS r3),(7,.i6 dN),(8,.iM cS fE),(9,.bool bh),(10,.i6 oX)]/\X=⟨mU dC fZ,1⟩) ?_ ?_;rintro _ _ ⟨rfl,rfl⟩;refine go ?_;exact lC ⟨bh,(IntKind.i64.wrap (oX+1)),J,rfl,rfl⟩;refine go ?_;rcases gB qG with⟨lI,qG⟩|⟨lI,qG⟩;refine go ?_;rcases gB qG with⟨xF,qG⟩|⟨xF,qG⟩;exact gy qG;obtain⟨wB,QC,qG⟩:=aC qG;obtain⟨T',Xj,qG⟩:=aC qG;obtain rfl:=sI qG;refine go ?_;refine aY QC ?_;refine go ?_;refine aR rfl (pC (PA n fE wB T' Xj) _) mX ?_;refine go ?_;exact xC ⟨rfl,rfl⟩;obtain rfl:=sI qG;refine go ?_
 repeat refine RS.no (IQ rfl rfl rfl) rfl rfl ?_
 refine go ?_;exact xC ⟨rfl,rfl⟩;refine go ?_;exact xC ⟨LB,J,rfl,rfl⟩;refine go ?_;exact xC ⟨dC,fZ,J,rfl,rfl⟩
def Ro(jJ:(List (List UInt8)))(dU:Int)(hO:(List UInt8)->Int->Option ((List UInt8)))(RW:List UInt8):Option ((List UInt8)):=
 a8 (aB jJ dU) fun y8=>
 aF (RW.length+y8.length<=9223372036854775807) (
 hO (RW++y8) (IntKind.i64.wrap (dU+1)))
def yd  (Nf:List UInt8):Option ((List UInt8)):=
 some Nf
def MM(jJ:(List (List UInt8))):Nat->(List UInt8)->Int->Option ((List UInt8))
 |0,_,_=>none|m2+1,wI,dU=>
  cond (decide (dU<(jJ.length:Int))) (cond (decide (dU>0)) (aF (wI.length+([38]).length<=9223372036854775807) (
    Ro jJ dU (MM jJ m2) (wI++[38]))) (Ro jJ dU (MM jJ m2) wI)) (yd wI)
def Rn(eB:Int)(bV:Int->(List (List UInt8))->Option ((List UInt8)))(qT:List (List UInt8)):Option ((List UInt8)):=
 bV (IntKind.i64.wrap (eB+1)) qT
def ye(p1:List bL)(n:Nat)(cM:List (List UInt8)):Option ((List UInt8)):=
 a8 (Ig n p1 cM) fun jJ=>
 MM jJ n [] 0
def P8(p1:List bL)(p2:List (List UInt8))(p3:List (List Int))(p4:List Int)(n:Nat):Nat->Int->(List (List UInt8))->Option ((List UInt8))
 |0,_,_=>none|m1+1,eB,c6=>
  cond (decide (eB<(p2.length:Int))) (a8 (aB p3 eB) fun qK=>
   a8 (Qs n qK p4) fun iK=>cond iK (a8 (aB p2 eB) fun LV=>some LV) (a8 (Gx n p4 eB) fun O2=>cond O2 (a8 (aB p2 eB) fun WB=>
     aF ((c6.length+1)*16<=140737488355328/\c6.length+1<=140737488355328) (
     Rn eB (P8 p1 p2 p3 p4 n m1) (c6++[WB]))) (Rn eB (P8 p1 p2 p3 p4 n m1) c6))) (ye p1 n c6)
def Pz(n:Nat)(p1:List bL)(p2:List (List UInt8))(p3:List (List Int))(p4:List Int):Option ((List UInt8)):=
 P8 p1 p2 p3 p4 n n 0 ([]:List (List UInt8))
theorem qvf(n:Nat)(p1:List bL)(p2:List (List UInt8))(p3:List (List Int))(p4:List Int)(r:(List UInt8))(J:Pz n p1 p2 p3 p4=some r):d5 prog 97 [.isl false (p1.map bS),.isl false (p2.map cS),.isl false (List.map (cL (cI .u64)) p3),.isl false (p4.map (cI .u64))] (.str r):=by
 unfold Pz at J;refine bg4 59 Xw ?_;refine gr ?_;refine gr ?_;refine gr ?_;refine gV 9 9 1 1 ?_;refine gL (fun m tm X=>∃eB c6 fS,P8 p1 p2 p3 p4 n m eB c6=some r/\tm=fr 59 [(0,.iM bS p1),(1,.iM cS p2),(2,.iM (cL (cI .u64)) p3),(3,.iM (cI .u64) p4),(9,.vl 0 fS 0 c6.length),(10,.i6 eB)]/\X=⟨mU c6 fS,1⟩) (fun tm X=>∃cM eY,ye p1 n cM=some r/\tm=fr 59 [(0,.iM bS p1),(9,.vl 0 eY 0 cM.length)]/\X=⟨mU cM eY,1⟩) n ⟨0,([]:List (List UInt8)),0,J,rfl,rfl⟩ ?_ ?_;rintro _ _ ⟨cM,eY,J,rfl,rfl⟩;unfold ye at J;refine gn ?_;refine cE (tm':=fr 59 [(0,.iM bS p1),(9,.iM cS cM)]) (X':=⟨[],1⟩) (Gh.trans (Gh.sub (l':=[(0,.iM bS p1),(9,.vl 0 eY 0 cM.length)]) ⟨rfl,rfl,trivial⟩) (HW 0 1)) NZ ?_;obtain⟨jJ,dD,J⟩:=aC J;refine go ?_;refine aR rfl (pC (qi7 n p1 cM jJ dD) _) KZ ?_;refine go ?_;refine gL (fun m tm X=>∃wI dU,MM jJ m wI dU=some r/\tm=fr 59 [(9,.iM cS jJ),(11,.str wI),(12,.i6 dU)]/\X=⟨[],1⟩) (fun tm X=>∃Nf,yd Nf=some r/\tm=fr 59 [(11,.str Nf)]/\X=⟨[],1⟩) n ⟨[],0,J,rfl,rfl⟩ ?_ ?_;rintro _ _ ⟨Nf,J,rfl,rfl⟩;unfold yd at J;exact gx J;rintro(_|m2) _ _ ⟨wI,dU,J,rfl,rfl⟩;cases J;unfold MM at J;refine gF J ?_ ?_<;>intro qH J;refine go ?_;apply aV;refine gr ?_;refine dM (fun tm X=>∃RW,Ro jJ dU (MM jJ m2) RW=some r/\tm=fr 59 [(9,.iM cS jJ),(11,.str RW),(12,.i6 dU)]/\X=⟨[],1⟩) ?_ ?_;rintro _ _ ⟨RW,J,rfl,rfl⟩;unfold Ro at J;obtain⟨y8,oV,J⟩:=aC J;obtain⟨sA,J⟩:=d9 J;refine go ?_;refine aY oV ?_;refine go ?_;refine aP (u:=.str (RW++y8)) rfl (H4 rfl rfl (za7 sA) rfl) ?_;refine go ?_;exact lC ⟨(RW++y8),(IntKind.i64.wrap (dU+1)),J,rfl,rfl⟩;refine cF J ?_ ?_<;>intro mV J;obtain⟨vB,J⟩:=d9 J;refine go ?_;refine aP (u:=.str (wI++[38])) rfl (H4 rfl rfl (za7 vB) rfl) ?_;refine go ?_;exact xC ⟨(wI++[38]),J,rfl,rfl⟩;refine go ?_;exact xC ⟨wI,J,rfl,rfl⟩;refine go ?_;exact xC ⟨wI,J,rfl,rfl⟩;rintro(_|m1) _ _ ⟨eB,c6,fS,J,rfl,rfl⟩;cases J;unfold P8 at J;refine gF J ?_ ?_<;>intro oB J;refine go ?_;apply aV;obtain⟨qK,nW,J⟩:=aC J;obtain⟨iK,xG,J⟩:=aC J;refine go ?_;refine aY nW ?_;refine go ?_;refine aR rfl (pC (qsu n qK p4 iK xG) _) V9 ?_;refine gF J ?_ ?_<;>intro HO J;obtain⟨LV,xF,J⟩:=aC J;refine go ?_;refine aY xF ?_;exact gx J;obtain⟨O2,QC,J⟩:=aC J;refine go ?_;refine aR rfl (pC (qpp n p4 eB O2 QC) _) L1 ?_;refine gn ?_;refine dM (fun tm X=>∃qT NR,Rn eB (P8 p1 p2 p3 p4 n m1) qT=some r/\tm=fr 59 [(0,.iM bS p1),(1,.iM cS p2),(2,.iM (cL (cI .u64)) p3),(3,.iM (cI .u64) p4),(9,.vl 0 NR 0 qT.length),(10,.i6 eB)]/\X=⟨mU qT NR,1⟩) ?_ ?_;rintro _ _ ⟨qT,NR,J,rfl,rfl⟩;unfold Rn at J;refine go ?_;exact lC ⟨_,qT,NR,J,rfl,rfl⟩;refine cF J ?_ ?_<;>intro qZ J;obtain⟨WB,Ku,J⟩:=aC J;obtain⟨Kt,J⟩:=d9 J;refine go ?_;refine aY Ku ?_;refine go ?_;refine bR ?_;refine bR ?_;refine go ?_;exact xC ⟨(c6++[WB]),(fS+1),J,rfl,rfl⟩;refine go ?_;exact xC ⟨c6,fS,J,rfl,rfl⟩;refine go ?_;exact xC ⟨c6,fS,J,rfl,rfl⟩
def Rq(z6:Int)(bV:Int->(List Int)->Option ((List Int)))(cM:List Int):Option ((List Int)):=
 bV (IntKind.i64.wrap (z6+1)) cM
def yk  (l9:List Int):Option ((List Int)):=
 some l9
def PB(p1:List Int)(n:Nat):Nat->Int->(List Int)->Option ((List Int))
 |0,_,_=>none|m1+1,z6,l7=>
  cond (decide (z6<(IntKind.i64.wrap (64*(p1.length:Int))))) (a8 (Gx n p1 z6) fun eL=>cond eL (aF ((l7.length+1)*8<=140737488355328/\l7.length+1<=140737488355328) (
    Rq z6 (PB p1 n m1) (l7++[z6]))) (Rq z6 (PB p1 n m1) l7)) (yk l7)
def jp(n:Nat)(p1:List Int):Option ((List Int)):=
 PB p1 n n 0 ([]:List Int)
theorem qvc(n:Nat)(p1:List Int)(r:(List Int))(J:jp n p1=some r):d5 prog 152 [.isl false (p1.map (cI .u64))] (.isl false (r.map (cI .i64))):=by
 unfold jp at J;refine kC 20 V0 ?_;refine gr ?_;refine gr ?_;refine gr ?_;refine gV 3 3 1 1 ?_;refine gL (fun m tm X=>∃z6 l7 t8,PB p1 n m z6 l7=some r/\tm=fr 20 [(0,.iM (cI .u64) p1),(3,.vl 0 t8 0 l7.length),(4,.i6 z6)]/\X=⟨F6 l7 t8,1⟩) (fun tm X=>∃l9 cH,yk l9=some r/\tm=fr 20 [(3,.vl 0 cH 0 l9.length)]/\X=⟨F6 l9 cH,1⟩) n ⟨0,([]:List Int),0,J,rfl,rfl⟩ ?_ ?_;rintro _ _ ⟨l9,cH,J,rfl,rfl⟩;unfold yk at J;refine go ?_;obtain rfl:=sI J;exact rT (us:=[.vl 0 cH 0 l9.length]) (u:=.iM (cI .i64) l9) (eA rfl (dL)) (fR 0 1);rintro(_|m1) _ _ ⟨z6,l7,t8,J,rfl,rfl⟩;cases J;unfold PB at J;refine gF J ?_ ?_<;>intro iT J;refine go ?_;apply aV;obtain⟨eL,dF,J⟩:=aC J;refine go ?_;refine aR rfl (pC (qpp n p1 z6 eL dF) _) L1 ?_;refine gn ?_;refine dM (fun tm X=>∃cM eY,Rq z6 (PB p1 n m1) cM=some r/\tm=fr 20 [(0,.iM (cI .u64) p1),(3,.vl 0 eY 0 cM.length),(4,.i6 z6)]/\X=⟨F6 cM eY,1⟩) ?_ ?_;rintro _ _ ⟨cM,eY,J,rfl,rfl⟩;unfold Rq at J;refine go ?_;exact lC ⟨_,cM,eY,J,rfl,rfl⟩;refine cF J ?_ ?_<;>intro iA J;obtain⟨fH,J⟩:=d9 J;refine go ?_;refine bR ?_;refine bR ?_;refine go ?_;exact xC ⟨(l7++[z6]),(t8+1),J,rfl,rfl⟩;refine go ?_;exact xC ⟨l7,t8,J,rfl,rfl⟩;refine go ?_;exact xC ⟨l7,t8,J,rfl,rfl⟩
def Hm(n:Nat)(p1:List Int):Option (Int):=
 a8 (jp n p1) fun r2=>some (r2.length:Int)
theorem qll(n:Nat)(p1:List Int)(r:Int)(J:Hm n p1=some r):d5 prog 133 [.isl false (p1.map (cI .u64))] (.int .i64 r):=by
 unfold Hm at J;refine kC 6 KY ?_;obtain⟨r2,h3,J⟩:=aC J;refine go ?_;refine aR rfl (pC (qvc n p1 r2 h3) _) V0 ?_;exact gx J
def Rd(n:Nat)(p1:dO)(p2:dO):Option (Bool):=
 a8 (Hm n p1.Code) fun r3=>
 a8 (Hm n p2.Code) fun r5=>
 a8 (cond (decide (r3>r5)) (some true) (cond (r3==r5) (some (kN p1.Name p2.Name)) (some false))) fun b9=>some b9
theorem qqm(n:Nat)(p1:dO)(p2:dO)(r:Bool)(J:Rd n p1 p2=some r):d5 prog 98 [.agg (g8 p1),.agg (g8 p2)] (.bool r):=by
 unfold Rd at J;refine gI 28 v05 ?_;obtain⟨r3,h4,J⟩:=aC J;refine go ?_;refine aR rfl (pC (qll n p1.Code r3 h4) _) KY ?_;obtain⟨r5,h6,J⟩:=aC J;refine go ?_;refine aR rfl (pC (qll n p2.Code r5 h6) _) KY ?_;obtain⟨b9,f0,J⟩:=aC J;refine gn ?_;refine dM (fun tm X=>tm=fr 28 [(4,.bool b9)]/\X=⟨[(1,.row (g8 p2) 128),(0,.row (g8 p1) 128)],2⟩) ?_ ?_;rintro _ _ ⟨rfl,rfl⟩;exact gx J;refine go ?_;rcases gB f0 with⟨h7,f0⟩|⟨h7,f0⟩;obtain rfl:=sI f0;refine go ?_
 repeat refine RS.no (IQ rfl rfl rfl) rfl rfl ?_
 refine go ?_;exact xC ⟨rfl,rfl⟩;refine go ?_;rcases gB f0 with⟨h8,f0⟩|⟨h8,f0⟩;obtain rfl:=sI f0;refine go ?_;refine RS.w (u:=.bool (kN p1.Name p2.Name)) rfl (H4 rfl rfl rfl rfl) ?_;refine go ?_;exact xC ⟨rfl,rfl⟩;exact gy f0
def Sd(dS:Int)(cB:List dO)(hO:Int->(List dO)->Option ((List dO)×Int))(iK:(List UInt8))(jE:List Int)(iB:Int):Option ((List dO)×Int):=
 aF ((0:Int)<=iB/\iB<=((cB.length:Nat):Int)) (
 aF (0+iB.toNat<=cB.length) (
 aF (((cB.drop 0).take iB.toNat).length*40<=140737488355328/\((cB.drop 0).take iB.toNat).length<=140737488355328) (
 aF ((((cB.drop 0).take iB.toNat).length+1)*40<=140737488355328/\((cB.drop 0).take iB.toNat).length+1<=140737488355328) (
 aF ((0:Int)<=iB/\iB<=((cB.length:Nat):Int)) (
 aF ((0+iB.toNat)+(cB.length-iB.toNat)<=cB.length) (
 aF (((((cB.drop 0).take iB.toNat)++[(dO.mk iK jE)]).length+((cB.drop (0+iB.toNat)).take (cB.length-iB.toNat)).length)*40<=140737488355328/\(((cB.drop 0).take iB.toNat)++[(dO.mk iK jE)]).length+((cB.drop (0+iB.toNat)).take (cB.length-iB.toNat)).length<=140737488355328) (
 hO (IntKind.i64.wrap (dS+1)) ((((cB.drop 0).take iB.toNat)++[(dO.mk iK jE)])++((cB.drop (0+iB.toNat)).take (cB.length-iB.toNat))))))))))
def In(n:Nat)(dS:Int)(cB:List dO)(hO:Int->(List dO)->Option ((List dO)×Int))(iK:(List UInt8))(jE:List Int):Nat->Int->Option ((List dO)×Int)
 |0,_=>none|m3+1,LR=>a8 (cond (decide (LR>0)) (a8 (aB cB (IntKind.i64.wrap (LR-1))) fun CX=>a8 (Rd n (dO.mk iK jE) CX) fun nZ=>some nZ) (some false)) fun b63=>cond b63 ((In n dS cB hO iK jE m3) (IntKind.i64.wrap (LR-1))) (Sd dS cB hO iK jE LR)
def lh  (eT:List dO):Option ((List dO)×Int):=
 some (eT,0)
def PF(p1:List bL)(n:Nat)(r5:(List (List UInt8)))(cM:List (List Int))(jJ:(List (List Int))):Nat->Int->(List dO)->Option ((List dO)×Int)
 |0,_,_=>none|m2+1,dS,cB=>
  cond (decide (dS<(jJ.length:Int))) (a8 (aB jJ dS) fun qK=>
   a8 (Pz n p1 r5 cM qK) fun iK=>
   a8 (aB jJ dS) fun jE=>
   In n dS cB (PF p1 n r5 cM jJ m2) iK jE n (cB.length:Int)) (lh cB)
def li(p1:List bL)(n:Nat)(r5:(List (List UInt8)))(cM:List (List Int)):Option ((List dO)×Int):=
 a8 (Rc n cM) fun jJ=>cond (decide ((jJ.length:Int)>256)) (some ([],7)) (PF p1 n r5 cM jJ n 0 ([]:List dO))
def Z9(p1:List bL)(n:Nat)(r5:(List (List UInt8))):Nat->Int->(List (List Int))->Option ((List dO)×Int)
 |0,_,_=>none|m1+1,eB,c6=>
  cond (decide (eB<(r5.length:Int))) (a8 (aB r5 eB) fun tn=>
   a8 (Qa n p1 r5 tn) fun zo=>
   aF ((c6.length+1)*24<=140737488355328/\c6.length+1<=140737488355328) ((Z9 p1 n r5 m1) (IntKind.i64.wrap (eB+1)) (c6++[zo]))) (li p1 n r5 c6)
def P1(n:Nat)(p1:List bL):Option ((List dO)×Int):=
 a8 (Qp n p1) fun r2=>cond (r2 != 0) (some ([],r2)) (a8 (Qo n p1) fun r5=>Z9 p1 n r5 n 0 ([]:List (List Int)))
theorem yh(n:Nat)(p1:List bL)(r:(List dO)×Int)(J:P1 n p1=some r):d5 prog 60 [.isl false (p1.map bS)] (.tup [.isl false (r.1.map g8),.int .i64 r.2]):=by
 unfold P1 at J;refine kC 92 KR ?_;obtain⟨r2,h3,J⟩:=aC J;refine go ?_;refine aR rfl (pC (qsy n p1 r2 h3) _) Xz ?_;refine gF J ?_ ?_<;>intro h4 J;refine go ?_;obtain rfl:=sI J;exact rT (us:=[.nils,.i6 r2]) (u:=.tup [.isl false [],.i6 r2]) (eA rfl (eA rfl (dL))) wR;obtain⟨r5,h6,J⟩:=aC J;refine go ?_;refine aR rfl (pC (qln n p1 r5 h6) _) Cs ?_;refine gr ?_;refine gr ?_;refine gV 6 126 1 1 ?_;refine gL (fun m tm X=>∃eB c6 fS,Z9 p1 n r5 m eB c6=some r/\tm=fr 92 [(0,.iM bS p1),(5,.iM cS r5),(6,.vl 0 fS 0 c6.length),(7,.i6 eB)]/\X=⟨[(0,.bv (cL (cI .u64)) c6 126 1 fS)],1⟩) (fun tm X=>∃cM eY,li p1 n r5 cM=some r/\tm=fr 92 [(0,.iM bS p1),(5,.iM cS r5),(6,.vl 0 eY 0 cM.length)]/\X=⟨[(0,.bv (cL (cI .u64)) cM 126 1 eY)],1⟩) n ⟨0,([]:List (List Int)),0,J,rfl,rfl⟩ ?_ ?_;rintro _ _ ⟨cM,eY,J,rfl,rfl⟩;unfold li at J;refine gn ?_;refine cE (tm':=fr 92 [(0,.iM bS p1),(5,.iM cS r5),(6,.iM (cL (cI .u64)) cM)]) (X':=⟨[],1⟩) (Gh.trans (Gh.sub (l':=[(0,.iM bS p1),(5,.iM cS r5),(6,.vl 0 eY 0 cM.length)]) ⟨rfl,rfl,rfl,trivial⟩) (HW 0 1)) NZ ?_;obtain⟨jJ,dD,J⟩:=aC J;refine go ?_;refine aR rfl (pC (qqn n cM jJ dD) _) Xx ?_;refine gF J ?_ ?_<;>intro iX J;refine go ?_;obtain rfl:=sI J;exact rT (us:=[.nils,.i6 7]) (u:=.tup [.isl false [],.i6 7]) (eA rfl (eA rfl (dL))) wR;refine gr ?_;refine gr ?_;refine gV 9 128 2 2 ?_;refine gL (fun m tm X=>∃dS cB jP,PF p1 n r5 cM jJ m dS cB=some r/\tm=fr 92 [(0,.iM bS p1),(5,.iM cS r5),(6,.iM (cL (cI .u64)) cM),(8,.iM (cL (cI .u64)) jJ),(9,.vl 1 jP 0 cB.length),(10,.i6 dS)]/\X=⟨[(1,.bv g8 cB 128 2 jP)],2⟩) (fun tm X=>∃eT II,lh eT=some r/\tm=fr 92 [(9,.vl 1 II 0 eT.length)]/\X=⟨[(1,.bv g8 eT 128 2 II)],2⟩) n ⟨0,([]:List dO),0,J,rfl,rfl⟩ ?_ ?_;rintro _ _ ⟨eT,II,J,rfl,rfl⟩;unfold lh at J;refine go ?_;obtain rfl:=sI J;exact rT (us:=[.vl 1 II 0 eT.length,.i6 0]) (u:=.tup [.iM g8 eT,.i6 0]) (eA rfl (eA rfl (dL))) (fR 1 2);rintro(_|m2) _ _ ⟨dS,cB,jP,J,rfl,rfl⟩;cases J;unfold PF at J;refine gF J ?_ ?_<;>intro oB J;refine go ?_;apply aV;obtain⟨qK,nW,J⟩:=aC J;obtain⟨iK,xG,J⟩:=aC J;obtain⟨jE,lI,J⟩:=aC J;refine go ?_;refine dE [(0,13),(1,13),(2,13),(3,13),(4,13),(5,13),(6,13),(8,13),(9,13),(10,13),(11,13),(12,13)] ?_;refine gd ?_;refine cA nW ?_;refine gd ?_;refine fT rfl (pC (qvf n p1 r5 cM qK iK xG)) Xw ?_;refine gd ?_;refine cA lI ?_;refine gd ?_;refine eC ?_;refine qJ ?_;refine bI ⟨by kernel_rfl,⟨iQ rfl,⟨iQ rfl,⟨iQ rfl,⟨iQ rfl,⟨iQ rfl,⟨dX rfl rfl (Fs (cL (cI .u64)) sG.h (aZ qA.h) (SB (cI .u64)) nW rfl),⟨Np gQ.h rfl rfl rfl,⟨iQ rfl,⟨iQ rfl,⟨dX rfl rfl (Fs (cL (cI .u64)) sG.h (aZ qA.h) (SB (cI .u64)) lI rfl),⟨Np gQ.h rfl rfl rfl,⟨zw Zu.h rfl rfl rfl,trivial⟩⟩⟩⟩⟩⟩⟩⟩⟩⟩⟩⟩,?_⟩;refine go ?_;refine gL (fun m tm X=>∃LR,In n dS cB (PF p1 n r5 cM jJ m2) iK jE m LR=some r/\tm=fr 92 [(0,.iM bS p1),(5,.iM cS r5),(6,.iM (cL (cI .u64)) cM),(8,.iM (cL (cI .u64)) jJ),(9,.vl 1 jP 0 cB.length),(10,.i6 dS),(11,.ptr 2 0 0),(12,.i6 LR)]/\X=⟨Ow (.str iK) jE cB jP,3⟩) (fun tm X=>∃iB,Sd dS cB (PF p1 n r5 cM jJ m2) iK jE iB=some r/\tm=fr 92 [(0,.iM bS p1),(5,.iM cS r5),(6,.iM (cL (cI .u64)) cM),(8,.iM (cL (cI .u64)) jJ),(9,.vl 1 jP 0 cB.length),(10,.i6 dS),(11,.ptr 2 0 0),(12,.i6 iB)]/\X=⟨Ow (.str iK) jE cB jP,3⟩) n ⟨(cB.length:Int),J,rfl,rfl⟩ ?_ ?_;rintro _ _ ⟨iB,J,rfl,rfl⟩;unfold Sd at J;obtain⟨w5,J⟩:=d9 J;obtain⟨G7,J⟩:=d9 J;obtain⟨UQ,J⟩:=d9 J;refine go ?_;refine aP (u:=.vl 1 jP 0 iB.toNat) rfl (AW rfl mL (AL rfl) mL (O6 g8 sH.h (aZ sZ.h) SZ (vo rfl) (Nat.le_of_eq (Nat.zero_add _)) (Y3 w5.1 w5.2))) (aP (u:=.vl 3 0 0 (((cB.drop 0).take iB.toNat).length)) (X':=⟨(3,.bv g8 ((cB.drop 0).take iB.toNat) 128 2 0)::Ow (.str iK) jE cB jP,4⟩) rfl (uU rfl rfl rfl rfl (da g8 ((cB.drop 0).take iB.toNat) sH.h sH.h sZ.h rfl (zq g8 SZ (vo rfl) G7) UQ)) ?_);obtain⟨Ks,J⟩:=d9 J;refine go ?_;refine bR ?_;refine bR ?_;obtain⟨Kr,J⟩:=d9 J;obtain⟨KO,J⟩:=d9 J;obtain⟨Xi,J⟩:=d9 J;refine go ?_;refine aP (u:=.vl 1 jP (0+iB.toNat) (cB.length-iB.toNat)) rfl (AW rfl (AL rfl) mL mL (O6 g8 sH.h (aZ sZ.h) SZ (vo rfl) (Nat.le_of_eq (Nat.zero_add _)) (wm Kr.1 Kr.2))) (aP (u:=.vl 3 2 0 (((((cB.drop 0).take iB.toNat)++[(dO.mk iK jE)])++((cB.drop (0+iB.toNat)).take (cB.length-iB.toNat))).length)) (X':=⟨(4,.row [.str iK,.iM (cI .u64) jE] 128)::(3,.bv g8 ((((cB.drop 0).take iB.toNat)++[(dO.mk iK jE)])++((cB.drop (0+iB.toNat)).take (cB.length-iB.toNat))) 128 2 2)::Ow (.str iK) jE cB jP,5⟩) rfl (uU rfl rfl rfl rfl (SC g8 ((cB.drop (0+iB.toNat)).take (cB.length-iB.toNat)) sH.h sH.h sZ.h rfl SZ rfl (zq g8 SZ (vo rfl) KO) Xi)) ?_);refine go ?_;exact⟨m2,_,_,zN _,⟨(IntKind.i64.wrap (dS+1)),((((cB.drop 0).take iB.toNat)++[(dO.mk iK jE)])++((cB.drop (0+iB.toNat)).take (cB.length-iB.toNat))),2,J,rfl,rfl⟩,NZ,Gh.trans (Gh.sub (l':=[(0,.iM bS p1),(5,.iM cS r5),(6,.iM (cL (cI .u64)) cM),(8,.iM (cL (cI .u64)) jJ),(9,.vl 3 2 0 (((((cB.drop 0).take iB.toNat)++[(dO.mk iK jE)])++((cB.drop (0+iB.toNat)).take (cB.length-iB.toNat))).length)),(10,.i6 (IntKind.i64.wrap (dS+1)))]) ⟨rfl,rfl,rfl,rfl,rfl,rfl,trivial⟩) (Gh.trans (Gh.mv (l':=[(0,.iM bS p1),(5,.iM cS r5),(6,.iM (cL (cI .u64)) cM),(8,.iM (cL (cI .u64)) jJ),(9,.vl 1 2 0 (((((cB.drop 0).take iB.toNat)++[(dO.mk iK jE)])++((cB.drop (0+iB.toNat)).take (cB.length-iB.toNat))).length)),(10,.i6 (IntKind.i64.wrap (dS+1)))]) (h':=[(4,.row [.str iK,.iM (cI .u64) jE] 128),(1,.bv g8 ((((cB.drop 0).take iB.toNat)++[(dO.mk iK jE)])++((cB.drop (0+iB.toNat)).take (cB.length-iB.toNat))) 128 2 2),(2,.row [.str iK,.iM (cI .u64) jE] 128)]) 1 3 NZ rfl rfl (by simp only[rS,rU,j7,SE,AY,Nat.beq,zC,zD]) rfl (by simp only[Zx,rB,Fo,j7,rU,SE,zr,AY,Nat.beq,zC,zD,and_self])) (Gh.toC (n1:=2) ⟨rfl,rfl,rfl,rfl,rfl,rfl,trivial⟩ rfl NZ (by simp)))⟩;rintro(_|m3) _ _ ⟨LR,J,rfl,rfl⟩;cases J;unfold In at J;obtain⟨b63,tN,J⟩:=aC J;refine gn ?_;refine dM (fun tm X=>tm=fr 92 [(0,.iM bS p1),(5,.iM cS r5),(6,.iM (cL (cI .u64)) cM),(8,.iM (cL (cI .u64)) jJ),(9,.vl 1 jP 0 cB.length),(10,.i6 dS),(11,.ptr 2 0 0),(12,.i6 LR),(73,.bool b63)]/\X=⟨Ow (.str iK) jE cB jP,3⟩) ?_ ?_;rintro _ _ ⟨rfl,rfl⟩;refine gF J ?_ ?_<;>intro Xg J;refine go ?_;apply aV;refine go ?_;exact lC ⟨_,J,rfl,rfl⟩;refine go ?_;exact xC ⟨LR,J,rfl,rfl⟩;refine dE [] ?_;refine gd ?_;rcases gB tN with⟨QB,tN⟩|⟨QB,tN⟩;obtain⟨CX,Cl,tN⟩:=aC tN;obtain⟨nZ,KN,tN⟩:=aC tN;obtain rfl:=sI tN;refine gd ?_;refine RD.w rfl (dX rfl rfl (hZ g8 sH.h (aZ sZ.h) (by decide) SZ (vo rfl) Cl)) ?_;refine RD.w (u:=.agg (g8 CX)) rfl (XY g8 RM.h rfl (aZ sZ.h) SZ rfl rfl Cl rfl) (fT rfl (pC (qqm n (dO.mk iK jE) CX nZ KN)) v05 ?_);refine gd ?_;refine bI ⟨by kernel_rfl,trivial,?_⟩;refine go ?_;exact xC ⟨rfl,rfl⟩;obtain rfl:=sI tN;refine gd ?_;refine bI ⟨by kernel_rfl,trivial,?_⟩;refine go ?_;exact xC ⟨rfl,rfl⟩;refine go ?_;exact xC ⟨cB,jP,J,rfl,rfl⟩;rintro(_|m1) _ _ ⟨eB,c6,fS,J,rfl,rfl⟩;cases J;unfold Z9 at J;refine gF J ?_ ?_<;>intro h66 J;refine go ?_;apply aV;obtain⟨tn,Xf,J⟩:=aC J;obtain⟨zo,h70,J⟩:=aC J;obtain⟨gz,J⟩:=d9 J;refine go ?_;refine aY Xf ?_;refine go ?_;refine aR rfl (pC (qve n p1 r5 tn zo h70) _) Xy ?_;refine bR ?_;refine bR ?_;refine go ?_;exact lC ⟨_,(c6++[zo]),(fS+1),J,rfl,rfl⟩;refine go ?_;exact xC ⟨c6,fS,J,rfl,rfl⟩
def yw: Option ((List UInt8)×Bool):=
 some ([],false)
def Z5(p1:bL)(p2:List UInt8):Nat->Int->Option ((List UInt8)×Bool)
 |0,_=>none|m1+1,z8=>cond (decide (z8<(p1.Feats.length:Int))) (a8 (aB p1.Feats z8) fun x10=>cond (lG x10.Feat p2) (a8 (aB p1.Feats z8) fun RC=>some (RC.Value,true)) ((Z5 p1 p2 m1) (IntKind.i64.wrap (z8+1)))) (yw)
def Ql(n:Nat)(p1:bL)(p2:List UInt8):Option ((List UInt8)×Bool):=
 Z5 p1 p2 n 0
theorem qlq(n:Nat)(p1:bL)(p2:List UInt8)(r:(List UInt8)×Bool)(J:Ql n p1 p2=some r):d5 prog 118 [.agg (bS p1),.str p2] (.tup [.str r.1,.bool r.2]):=by
 unfold Ql at J;refine gI 28 L2 ?_;refine go ?_;refine gL (fun m tm X=>∃z8,Z5 p1 p2 m z8=some r/\tm=fr 28 [(1,.str p2),(2,.ptr 0 0 0),(6,.i6 z8)]/\X=⟨[(0,.row (bS p1) 138)],1⟩) (fun tm X=>yw=some r/\tm=fr 28 []/\X=⟨[(0,.row (bS p1) 138)],1⟩) n ⟨0,J,rfl,rfl⟩ ?_ ?_;rintro _ _ ⟨J,rfl,rfl⟩;unfold yw at J;refine go ?_;obtain rfl:=sI J;exact yG rfl rfl rfl rfl rfl;rintro(_|m1) _ _ ⟨z8,J,rfl,rfl⟩;cases J;unfold Z5 at J;refine gF J ?_ ?_<;>intro h9 J;refine go ?_;apply aV;obtain⟨x10,iT,J⟩:=aC J;refine go ?_;refine aY iT ?_;refine go ?_;refine aP (u:=.bool (lG x10.Feat p2)) rfl (H4 rfl rfl rfl rfl) ?_;refine gF J ?_ ?_<;>intro dP J;obtain⟨RC,iA,J⟩:=aC J;refine go ?_;refine aY iA ?_;refine go ?_;obtain rfl:=sI J;exact yG rfl rfl rfl rfl rfl;refine go ?_;exact lC ⟨_,J,rfl,rfl⟩;refine go ?_;exact xC ⟨J,rfl,rfl⟩
def Sb(z8:Int)(bV:(List (List UInt8))->Int->Option ((List UInt8)×Bool))(iJ:List (List UInt8)):Option ((List UInt8)×Bool):=
 bV iJ (IntKind.i64.wrap (z8+1))
def yx(p1:List bL)(n:Nat)(l9:List (List UInt8)):Option ((List UInt8)×Bool):=
 a8 (Ig n p1 l9) fun lE=>cond ((lE.length:Int) != 1) (some ([],false)) (a8 (aB lE 0) fun RC=>some (RC,true))
def PE(p1:List bL)(p2:List UInt8)(n:Nat):Nat->(List (List UInt8))->Int->Option ((List UInt8)×Bool)
 |0,_,_=>none|m1+1,l7,z8=>
  cond (decide (z8<(p1.length:Int))) (a8 (aB p1 z8) fun kP=>
   a8 (Ql n kP p2) fun fE=>cond fE.2 (a8 (aB p1 z8) fun kD=>
    a8 (OV n l7 kD.Name) fun pR=>
    Sb z8 (PE p1 p2 n m1) pR) (Sb z8 (PE p1 p2 n m1) l7)) (yx p1 n l7)
def Qm(n:Nat)(p1:List bL)(p2:List UInt8):Option ((List UInt8)×Bool):=
 PE p1 p2 n n [] 0
theorem qlp(n:Nat)(p1:List bL)(p2:List UInt8)(r:(List UInt8)×Bool)(J:Qm n p1 p2=some r):d5 prog 100 [.isl false (p1.map bS),.str p2] (.tup [.str r.1,.bool r.2]):=by
 unfold Qm at J;refine gI 43 L5 ?_;refine gr ?_;refine gr ?_;refine gr ?_;refine cE (tm':=fr 43 [(0,.iM bS p1),(1,.str p2),(6,.iM cS []),(7,.i6 0)]) (Gh.trans (Gh.sub (l':=[(0,.iM bS p1),(1,.str p2),(6,.nils),(7,.i6 0)]) ⟨rfl,rfl,rfl,rfl,trivial⟩) (Gh.wkS (l':=[(0,.iM bS p1),(1,.str p2),(6,.iM cS []),(7,.i6 0)]) (.cons (.refl _) (.cons (.refl _) (.cons (.nil false) (.cons (.refl _) .nil)))))) NZ ?_;refine gL (fun m tm X=>∃l7 z8,PE p1 p2 n m l7 z8=some r/\tm=fr 43 [(0,.iM bS p1),(1,.str p2),(6,.iM cS l7),(7,.i6 z8)]/\X=⟨[],0⟩) (fun tm X=>∃l9,yx p1 n l9=some r/\tm=fr 43 [(0,.iM bS p1),(6,.iM cS l9)]/\X=⟨[],0⟩) n ⟨[],0,J,rfl,rfl⟩ ?_ ?_;rintro _ _ ⟨l9,J,rfl,rfl⟩;unfold yx at J;obtain⟨lE,iT,J⟩:=aC J;refine go ?_;refine aR rfl (pC (qi7 n p1 l9 lE iT) _) KZ ?_;refine gF J ?_ ?_<;>intro dP J;refine go ?_;obtain rfl:=sI J;exact yG rfl rfl rfl rfl rfl;obtain⟨RC,iA,J⟩:=aC J;refine go ?_;refine aY iA ?_;refine go ?_;obtain rfl:=sI J;exact yG rfl rfl rfl rfl rfl;rintro(_|m1) _ _ ⟨l7,z8,J,rfl,rfl⟩;cases J;unfold PE at J;refine gF J ?_ ?_<;>intro eN J;refine go ?_;apply aV;obtain⟨kP,fH,J⟩:=aC J;obtain⟨fE,iX,J⟩:=aC J;refine go ?_;refine aY fH ?_;refine go ?_;refine aR rfl (pC (qlq n kP p2 fE iX) _) L2 ?_;refine gr ?_;refine dM (fun tm X=>∃iJ,Sb z8 (PE p1 p2 n m1) iJ=some r/\tm=fr 43 [(0,.iM bS p1),(1,.str p2),(6,.iM cS iJ),(7,.i6 z8)]/\X=⟨[],0⟩) ?_ ?_;rintro _ _ ⟨iJ,J,rfl,rfl⟩;unfold Sb at J;refine go ?_;exact lC ⟨iJ,(IntKind.i64.wrap (z8+1)),J,rfl,rfl⟩;refine cF J ?_ ?_<;>intro rE J;obtain⟨kD,mW,J⟩:=aC J;obtain⟨pR,qH,J⟩:=aC J;refine go ?_;refine aY mW ?_;refine go ?_;refine aR rfl (pC (Hk n l7 kD.Name pR qH) _) tQ ?_;refine go ?_;exact xC ⟨pR,J,rfl,rfl⟩;refine go ?_;exact xC ⟨l7,J,rfl,rfl⟩;refine go ?_;exact xC ⟨l7,J,rfl,rfl⟩
def YZ(n:Nat)(p1:List UInt8):Option (Bool):=
 a8 (Hn n p1 true) fun r2=>some r2
theorem qpo(n:Nat)(p1:List UInt8)(r:Bool)(J:YZ n p1=some r):d5 prog 145 [.str p1] (.bool r):=by
 unfold YZ at J;refine kC 5 V5 ?_;obtain⟨r2,h3,J⟩:=aC J;refine go ?_;refine aR rfl (pC (qlk n p1 true r2 h3) _) KU ?_;exact gx J
def su(n:Nat)(r2:(List (List UInt8)))(x9:bL)(iN:Int)(hO:Int->Option (Int)): Option (Int):=
 a8 (aB x9.Feats iN) fun WC=>
 a8 (HE n r2 WC.Value) fun o3=>cond (!o3) (some 5) (hO (IntKind.i64.wrap (iN+1)))
def Jp(n:Nat)(r2:(List (List UInt8)))(x9:bL)(iN:Int)(hO:Int->Option (Int)):Nat->Int->Option (Int)
 |0,_=>none|m3+1,oX=>cond (decide (oX<iN)) (a8 (aB x9.Feats oX) fun I8=>a8 (aB x9.Feats iN) fun LV=>cond (lG I8.Feat LV.Feat) (some 4) ((Jp n r2 x9 iN hO m3) (IntKind.i64.wrap (oX+1)))) (su n r2 x9 iN hO)
def sw(z7:Int)(bV:Int->Option (Int)): Option (Int):=
 bV (IntKind.i64.wrap (z7+1))
def MX(n:Nat)(r2:(List (List UInt8)))(z7:Int)(bV:Int->Option (Int))(x9:bL):Nat->Int->Option (Int)
 |0,_=>none|m2+1,iN=>cond (decide (iN<(x9.Feats.length:Int))) (a8 (aB x9.Feats iN) fun GT=>a8 (YZ n GT.Feat) fun pT=>cond (!pT) (some 1) (Jp n r2 x9 iN (MX n r2 z7 bV x9 m2) n 0)) (sw z7 bV)
def sx: Option (Int):=
 some 0
def FE(p1:List bL)(n:Nat)(r2:(List (List UInt8))):Nat->Int->Option (Int)
 |0,_=>none|m1+1,z7=>cond (decide (z7<(p1.length:Int))) (a8 (aB p1 z7) fun x9=>MX n r2 z7 (FE p1 n r2 m1) x9 n 0) (sx)
def Td(n:Nat)(p1:List bL):Option (Int):=
 a8 (Qo n p1) fun r2=>
 FE p1 n r2 n 0
theorem qja(n:Nat)(p1:List bL)(r:Int)(J:Td n p1=some r):d5 prog 116 [.isl false (p1.map bS)] (.int .i64 r):=by
 unfold Td at J;refine kC 58 VH ?_;obtain⟨r2,h3,J⟩:=aC J;refine go ?_;refine aR rfl (pC (qln n p1 r2 h3) _) Cs ?_;refine go ?_;refine gL (fun m tm X=>∃z7,FE p1 n r2 m z7=some r/\tm=fr 58 [(0,.iM bS p1),(3,.iM cS r2),(4,.i6 z7)]/\X=⟨[],0⟩) (fun tm X=>sx=some r/\tm=fr 58 []/\X=⟨[],0⟩) n ⟨0,J,rfl,rfl⟩ ?_ ?_;rintro _ _ ⟨J,rfl,rfl⟩;unfold sx at J;exact gx J;rintro(_|m1) _ _ ⟨z7,J,rfl,rfl⟩;cases J;unfold FE at J;refine gF J ?_ ?_<;>intro h8 J;refine go ?_;apply aV;obtain⟨x9,f0,J⟩:=aC J;refine go ?_;refine aY f0 ?_;refine go ?_;refine gL (fun m tm X=>∃iN,MX n r2 z7 (FE p1 n r2 m1) x9 m iN=some r/\tm=fr 58 [(0,.iM bS p1),(3,.iM cS r2),(4,.i6 z7),(5,.iM lH x9.Feats),(6,.i6 iN)]/\X=⟨[],0⟩) (fun tm X=>sw z7 (FE p1 n r2 m1)=some r/\tm=fr 58 [(0,.iM bS p1),(3,.iM cS r2),(4,.i6 z7)]/\X=⟨[],0⟩) n ⟨0,J,rfl,rfl⟩ ?_ ?_;rintro _ _ ⟨J,rfl,rfl⟩;unfold sw at J;refine go ?_;exact lC ⟨_,J,rfl,rfl⟩;rintro(_|m2) _ _ ⟨iN,J,rfl,rfl⟩;cases J;unfold MX at J;refine gF J ?_ ?_<;>intro fH J;refine go ?_;apply aV;obtain⟨GT,iX,J⟩:=aC J;obtain⟨pT,m8,J⟩:=aC J;refine go ?_;refine aY iX ?_;refine go ?_;refine aR rfl (pC (qpo n GT.Feat pT m8) _) V5 ?_;refine gF J ?_ ?_<;>intro rD J;exact gx J;refine go ?_;refine gL (fun m tm X=>∃oX,Jp n r2 x9 iN (MX n r2 z7 (FE p1 n r2 m1) x9 m2) m oX=some r/\tm=fr 58 [(0,.iM bS p1),(3,.iM cS r2),(4,.i6 z7),(5,.iM lH x9.Feats),(6,.i6 iN),(7,.i6 oX)]/\X=⟨[],0⟩) (fun tm X=>su n r2 x9 iN (MX n r2 z7 (FE p1 n r2 m1) x9 m2)=some r/\tm=fr 58 [(0,.iM bS p1),(3,.iM cS r2),(4,.i6 z7),(5,.iM lH x9.Feats),(6,.i6 iN)]/\X=⟨[],0⟩) n ⟨0,J,rfl,rfl⟩ ?_ ?_;rintro _ _ ⟨J,rfl,rfl⟩;unfold su at J;obtain⟨WC,vB,J⟩:=aC J;obtain⟨o3,tO,J⟩:=aC J;refine go ?_;refine aY vB ?_;refine go ?_;refine aR rfl (pC (PA n r2 WC.Value o3 tO) _) mX ?_;refine gF J ?_ ?_<;>intro nW J;exact gx J;refine go ?_;exact lC ⟨_,J,rfl,rfl⟩;rintro(_|m3) _ _ ⟨oX,J,rfl,rfl⟩;cases J;unfold Jp at J;refine gF J ?_ ?_<;>intro rA J;refine go ?_;apply aV;obtain⟨I8,HO,J⟩:=aC J;obtain⟨LV,xF,J⟩:=aC J;refine go ?_;refine dE [] ?_;refine gd ?_;refine cA HO ?_;refine gd ?_;refine cA xF ?_;refine gd ?_;refine aQ (u:=.bool (lG I8.Feat LV.Feat)) rfl (H4 rfl rfl rfl rfl) ?_;refine bI ⟨by kernel_rfl,trivial,?_⟩;refine gF J ?_ ?_<;>intro uJ J;exact gx J;refine go ?_;exact lC ⟨_,J,rfl,rfl⟩;refine go ?_;exact xC ⟨J,rfl,rfl⟩;refine go ?_;exact xC ⟨J,rfl,rfl⟩;refine go ?_;exact xC ⟨J,rfl,rfl⟩
def yy(z6:Int)(bV:(List (List UInt8))->Int->Option ((List (List UInt8))))(cM:List (List UInt8)):Option ((List (List UInt8))):=
 bV cM (IntKind.i64.wrap (z6+1))
def Z6(p1:List bL)(n:Nat)(z6:Int)(bV:(List (List UInt8))->Int->Option ((List (List UInt8)))):Nat->(List (List UInt8))->Int->Option ((List (List UInt8)))
 |0,_,_=>none|m2+1,c6,jD=>
  a8 (aB p1 z6) fun kP=>cond (decide (jD<(kP.Feats.length:Int))) (a8 (aB p1 z6) fun NO=>
   a8 (aB NO.Feats jD) fun uQ=>
   a8 (OV n c6 uQ.Feat) fun yJ=>(Z6 p1 n z6 bV m2) yJ (IntKind.i64.wrap (jD+1))) (yy z6 bV c6)
def yz  (l7:List (List UInt8)):Option ((List (List UInt8))):=
 some l7
def MO(p1:List bL)(n:Nat):Nat->(List (List UInt8))->Int->Option ((List (List UInt8)))
 |0,_,_=>none|m1+1,l5,z6=>cond (decide (z6<(p1.length:Int))) (Z6 p1 n z6 (MO p1 n m1) n l5 0) (yz l5)
def YP(n:Nat)(p1:List bL):Option ((List (List UInt8))):=
 MO p1 n n [] 0
theorem ru(n:Nat)(p1:List bL)(r:(List (List UInt8)))(J:YP n p1=some r):d5 prog 90 [.isl false (p1.map bS)] (.isl false (r.map cS)):=by
 unfold YP at J;refine kC 34 QF ?_;refine gr ?_;refine gr ?_;refine gr ?_;refine cE (tm':=fr 34 [(0,.iM bS p1),(3,.iM cS []),(4,.i6 0)]) (Gh.trans (Gh.sub (l':=[(0,.iM bS p1),(3,.nils),(4,.i6 0)]) ⟨rfl,rfl,rfl,trivial⟩) (Gh.wkS (l':=[(0,.iM bS p1),(3,.iM cS []),(4,.i6 0)]) (.cons (.refl _) (.cons (.nil false) (.cons (.refl _) .nil))))) NZ ?_;refine gL (fun m tm X=>∃l5 z6,MO p1 n m l5 z6=some r/\tm=fr 34 [(0,.iM bS p1),(3,.iM cS l5),(4,.i6 z6)]/\X=⟨[],0⟩) (fun tm X=>∃l7,yz l7=some r/\tm=fr 34 [(3,.iM cS l7)]/\X=⟨[],0⟩) n ⟨[],0,J,rfl,rfl⟩ ?_ ?_;rintro _ _ ⟨l7,J,rfl,rfl⟩;unfold yz at J;exact gx J;rintro(_|m1) _ _ ⟨l5,z6,J,rfl,rfl⟩;cases J;unfold MO at J;refine gF J ?_ ?_<;>intro h8 J;refine go ?_;apply aV;refine go ?_;refine gL (fun m tm X=>∃c6 jD,Z6 p1 n z6 (MO p1 n m1) m c6 jD=some r/\tm=fr 34 [(0,.iM bS p1),(3,.iM cS c6),(4,.i6 z6),(5,.i6 jD)]/\X=⟨[],0⟩) (fun tm X=>∃cM,yy z6 (MO p1 n m1) cM=some r/\tm=fr 34 [(0,.iM bS p1),(3,.iM cS cM),(4,.i6 z6)]/\X=⟨[],0⟩) n ⟨l5,0,J,rfl,rfl⟩ ?_ ?_;rintro _ _ ⟨cM,J,rfl,rfl⟩;unfold yy at J;refine go ?_;exact lC ⟨cM,(IntKind.i64.wrap (z6+1)),J,rfl,rfl⟩;rintro(_|m2) _ _ ⟨c6,jD,J,rfl,rfl⟩;cases J;unfold Z6 at J;obtain⟨kP,fH,J⟩:=aC J;refine go ?_;refine aY fH ?_;refine gF J ?_ ?_<;>intro dD J;refine go ?_;apply aV;obtain⟨NO,rE,J⟩:=aC J;obtain⟨uQ,rD,J⟩:=aC J;obtain⟨yJ,pN,J⟩:=aC J;refine go ?_;refine aY rE ?_;refine go ?_;refine aY rD ?_;refine go ?_;refine aR rfl (pC (Hk n c6 uQ.Feat yJ pN) _) tQ ?_;refine go ?_;exact lC ⟨yJ,(IntKind.i64.wrap (jD+1)),J,rfl,rfl⟩;refine go ?_;exact xC ⟨c6,J,rfl,rfl⟩;refine go ?_;exact xC ⟨l5,J,rfl,rfl⟩
def ub: Option (Int):=
 some (-1)
def ZH(p1:List dO)(p2:List UInt8):Nat->Int->Option (Int)
 |0,_=>none|m1+1,z6=>cond (decide (z6<(p1.length:Int))) (a8 (aB p1 z6) fun x8=>cond (lG x8.Name p2) (some z6) ((ZH p1 p2 m1) (IntKind.i64.wrap (z6+1)))) (ub)
def Hs(n:Nat)(p1:List dO)(p2:List UInt8):Option (Int):=
 ZH p1 p2 n 0
theorem c_(n:Nat)(p1:List dO)(p2:List UInt8)(r:Int)(J:Hs n p1 p2=some r):d5 prog 101 [.isl false (p1.map g8),.str p2] (.int .i64 r):=by
 unfold Hs at J;refine gI 20 DY ?_;refine go ?_;refine gL (fun m tm X=>∃z6,ZH p1 p2 m z6=some r/\tm=fr 20 [(0,.iM g8 p1),(1,.str p2),(5,.i6 z6)]/\X=⟨[],0⟩) (fun tm X=>ub=some r/\tm=fr 20 []/\X=⟨[],0⟩) n ⟨0,J,rfl,rfl⟩ ?_ ?_;rintro _ _ ⟨J,rfl,rfl⟩;unfold ub at J;exact gx J;rintro(_|m1) _ _ ⟨z6,J,rfl,rfl⟩;cases J;unfold ZH at J;refine gF J ?_ ?_<;>intro h7 J;refine go ?_;apply aV;obtain⟨x8,h9,J⟩:=aC J;refine go ?_;refine aY h9 ?_;refine go ?_;refine aP (u:=.bool (lG x8.Name p2)) rfl (H4 rfl rfl rfl rfl) ?_;refine gF J ?_ ?_<;>intro f0 J;exact gx J;refine go ?_;exact lC ⟨_,J,rfl,rfl⟩;refine go ?_;exact xC ⟨J,rfl,rfl⟩
def T3(n:Nat)(p1:List dO)(p2:Int)(p3:Int):Option (Bool):=
 a8 (aB p1 p3) fun x4=>
 a8 (aB p1 p2) fun x6=>
 a8 (YU n x4.Code x6.Code) fun r8=>some r8
theorem uq(n:Nat)(p1:List dO)(p2:Int)(p3:Int)(r:Bool)(J:T3 n p1 p2 p3=some r):d5 prog 99 [.isl false (p1.map g8),.int .i64 p2,.int .i64 p3] (.bool r):=by
 unfold T3 at J;refine CP 18 KQ ?_;obtain⟨x4,h5,J⟩:=aC J;obtain⟨x6,h7,J⟩:=aC J;obtain⟨r8,h9,J⟩:=aC J;refine go ?_;refine dE [] ?_;refine gd ?_;refine cA h5 ?_;refine gd ?_;refine cA h7 ?_;refine gd ?_;refine fT rfl (pC (d_ n x4.Code x6.Code r8 h9)) DV ?_;refine gd ?_;refine bI ⟨by kernel_rfl,trivial,?_⟩;exact gx J
def se  (vD:Bool) (nF:List Int):Option ((List Int)×Bool):=
 some (nF,vD)
def TD(p1:List bL)(p2:List dO)(p3:Int)(p4:List UInt8)(n:Nat):Nat->Bool->(List Int)->Int->Option ((List Int)×Bool)
 |0,_,_,_=>none|m1+1,vE,cM,iN=>
  cond (decide (iN<(p1.length:Int))) (a8 (aB p1 iN) fun n7=>
   a8 (Ql n n7 p4) fun r22=>
   a8 (cond (!r22.2) (some true) (a8 (aB p1 iN) fun E9=>
    a8 (Hs n p2 E9.Name) fun O4=>
    a8 (T3 n p2 O4 p3) fun S3=>some (!S3))) fun b31=>cond b31 ((TD p1 p2 p3 p4 n m1) vE cM (IntKind.i64.wrap (iN+1))) (a8 (Hs n p2 r22.1) fun M1=>
    a8 (aB p2 M1) fun I8=>
    a8 (J9 n cM I8.Code) fun sN=>(TD p1 p2 p3 p4 n m1) true sN (IntKind.i64.wrap (iN+1)))) (se vE cM)
def Iv(n:Nat)(p1:List bL)(p2:List dO)(p3:Int)(p4:List UInt8):Option ((List Int)×Bool):=
 a8 (aB p2 0) fun x5=>
 TD p1 p2 p3 p4 n n false x5.Code 0
theorem qg1(n:Nat)(p1:List bL)(p2:List dO)(p3:Int)(p4:List UInt8)(r:(List Int)×Bool)(J:Iv n p1 p2 p3 p4=some r):d5 prog 91 [.isl false (p1.map bS),.isl false (p2.map g8),.int .i64 p3,.str p4] (.tup [.isl false (r.1.map (cI .u64)),.bool r.2]):=by
 unfold Iv at J;refine bg4 60 Ct ?_;obtain⟨x5,h6,J⟩:=aC J;refine go ?_;refine aY h6 ?_;refine go ?_;refine gL (fun m tm X=>∃vE cM iN,TD p1 p2 p3 p4 n m vE cM iN=some r/\tm=fr 60 [(0,.iM bS p1),(1,.iM g8 p2),(2,.i6 p3),(3,.str p4),(10,.bool vE),(11,.iM (cI .u64) cM),(12,.i6 iN)]/\X=⟨[],0⟩) (fun tm X=>∃vD nF,se vD nF=some r/\tm=fr 60 [(10,.bool vD),(11,.iM (cI .u64) nF)]/\X=⟨[],0⟩) n ⟨false,x5.Code,0,J,rfl,rfl⟩ ?_ ?_;rintro _ _ ⟨vD,nF,J,rfl,rfl⟩;unfold se at J;refine go ?_;obtain rfl:=sI J;exact yG rfl rfl rfl rfl rfl;rintro(_|m1) _ _ ⟨vE,cM,iN,J,rfl,rfl⟩;cases J;unfold TD at J;refine gF J ?_ ?_<;>intro iX J;refine go ?_;apply aV;obtain⟨n7,m8,J⟩:=aC J;obtain⟨r22,mW,J⟩:=aC J;refine go ?_;refine aY m8 ?_;refine go ?_;refine aR rfl (pC (qlq n n7 p4 r22 mW) _) L2 ?_;obtain⟨b31,oB,J⟩:=aC J;refine gn ?_;refine dM (fun tm X=>tm=fr 60 [(0,.iM bS p1),(1,.iM g8 p2),(2,.i6 p3),(3,.str p4),(10,.bool vE),(11,.iM (cI .u64) cM),(12,.i6 iN),(13,.str r22.1),(48,.bool b31)]/\X=⟨[],0⟩) ?_ ?_;rintro _ _ ⟨rfl,rfl⟩;refine gF J ?_ ?_<;>intro tO J;refine go ?_;exact lC ⟨vE,cM,(IntKind.i64.wrap (iN+1)),J,rfl,rfl⟩;obtain⟨M1,rA,J⟩:=aC J;obtain⟨I8,HO,J⟩:=aC J;obtain⟨sN,xF,J⟩:=aC J;refine go ?_;refine aR rfl (pC (c_ n p2 r22.1 M1 rA) _) DY ?_;refine aY HO ?_;refine go ?_;refine aR rfl (pC (oh n cM I8.Code sN xF) _) DX ?_;refine go ?_;exact lC ⟨true,sN,(IntKind.i64.wrap (iN+1)),J,rfl,rfl⟩;refine go ?_;rcases gB oB with⟨pN,oB⟩|⟨pN,oB⟩;exact gy oB;obtain⟨E9,mV,oB⟩:=aC oB;obtain⟨O4,rC,oB⟩:=aC oB;obtain⟨S3,sA,oB⟩:=aC oB;obtain rfl:=sI oB;refine go ?_;refine aY mV ?_;refine go ?_;refine aR rfl (pC (c_ n p2 E9.Name O4 rC) _) DY ?_;refine go ?_;refine aR rfl (pC (uq n p2 O4 p3 S3 sA) _) KQ ?_;refine go ?_;exact xC ⟨rfl,rfl⟩;refine go ?_;exact xC ⟨vE,cM,J,rfl,rfl⟩
def ld(dG:Int)(hO:Int->Option (Int)): Option (Int):=
 hO (IntKind.i64.wrap (dG+1))
def Z7(p1:List bL)(n:Nat)(r2:(List dO)×Int)(r5:(List (List UInt8)))(dG:Int)(hO:Int->Option (Int)):Nat->Int->Option (Int)
 |0,_=>none|m3+1,dS=>
  cond (decide (dS<(r5.length:Int))) (a8 (aB r5 dS) fun j6=>
   a8 (Iv n p1 r2.1 dG j6) fun Fi=>
   a8 (cond Fi.2 (some ((Fi.1.length:Int)==0)) (some false)) fun b34=>cond b34 (some 11) ((Z7 p1 n r2 r5 dG hO m3) (IntKind.i64.wrap (dS+1)))) (ld dG hO)
def lf: Option (Int):=
 some 0
def MP(p1:List bL)(n:Nat)(r2:(List dO)×Int)(r5:(List (List UInt8))):Nat->Int->Option (Int)
 |0,_=>none|m2+1,dG=>cond (decide (dG<(r2.1.length:Int))) (Z7 p1 n r2 r5 dG (MP p1 n r2 r5 m2) n 0) (lf)
def lg(p1:List bL)(n:Nat)(r2:(List dO)×Int)(r5:(List (List UInt8))): Option (Int):=
 MP p1 n r2 r5 n 0
def Z8(p1:List bL)(n:Nat)(r2:(List dO)×Int)(r5:(List (List UInt8))):Nat->Int->Option (Int)
 |0,_=>none|m1+1,gP=>cond (decide (gP<(r5.length:Int))) (a8 (aB r5 gP) fun LV=>a8 (Qm n p1 LV) fun O2=>cond (!O2.2) (some 10) ((Z8 p1 n r2 r5 m1) (IntKind.i64.wrap (gP+1)))) (lg p1 n r2 r5)
def SY(n:Nat)(p1:List bL):Option (Int):=
 a8 (P1 n p1) fun r2=>cond (r2.2 != 0) (some r2.2) (a8 (YP n p1) fun r5=>cond (decide ((r5.length:Int)>64)) (some 7) (a8 (Td n p1) fun r8=>cond (r8 != 0) (some r8) (Z8 p1 n r2 r5 n 0)))
theorem qlo(n:Nat)(p1:List bL)(r:Int)(J:SY n p1=some r):d5 prog 89 [.isl false (p1.map bS)] (.int .i64 r):=by
 unfold SY at J;refine kC 78 Cu ?_;obtain⟨r2,h3,J⟩:=aC J;refine go ?_;refine aR rfl (pC (yh n p1 r2 h3) _) KR ?_;refine gF J ?_ ?_<;>intro h4 J;exact gx J;obtain⟨r5,h6,J⟩:=aC J;refine go ?_;refine aR rfl (pC (ru n p1 r5 h6) _) QF ?_;refine gF J ?_ ?_<;>intro h7 J;exact gx J;obtain⟨r8,h9,J⟩:=aC J;refine go ?_;refine aR rfl (pC (qja n p1 r8 h9) _) VH ?_;refine gF J ?_ ?_<;>intro f0 J;exact gx J;refine go ?_;refine gL (fun m tm X=>∃gP,Z8 p1 n r2 r5 m gP=some r/\tm=fr 78 [(0,.iM bS p1),(3,.iM g8 r2.1),(5,.iM cS r5),(7,.i6 gP)]/\X=⟨[],0⟩) (fun tm X=>lg p1 n r2 r5=some r/\tm=fr 78 [(0,.iM bS p1),(3,.iM g8 r2.1),(5,.iM cS r5)]/\X=⟨[],0⟩) n ⟨0,J,rfl,rfl⟩ ?_ ?_;rintro _ _ ⟨J,rfl,rfl⟩;unfold lg at J;refine go ?_;refine gL (fun m tm X=>∃dG,MP p1 n r2 r5 m dG=some r/\tm=fr 78 [(0,.iM bS p1),(3,.iM g8 r2.1),(5,.iM cS r5),(10,.i6 dG)]/\X=⟨[],0⟩) (fun tm X=>lf=some r/\tm=fr 78 []/\X=⟨[],0⟩) n ⟨0,J,rfl,rfl⟩ ?_ ?_;rintro _ _ ⟨J,rfl,rfl⟩;unfold lf at J;exact gx J;rintro(_|m2) _ _ ⟨dG,J,rfl,rfl⟩;cases J;unfold MP at J;refine gF J ?_ ?_<;>intro m8 J;refine go ?_;apply aV;refine go ?_;refine gL (fun m tm X=>∃dS,Z7 p1 n r2 r5 dG (MP p1 n r2 r5 m2) m dS=some r/\tm=fr 78 [(0,.iM bS p1),(3,.iM g8 r2.1),(5,.iM cS r5),(10,.i6 dG),(11,.i6 dS)]/\X=⟨[],0⟩) (fun tm X=>ld dG (MP p1 n r2 r5 m2)=some r/\tm=fr 78 [(0,.iM bS p1),(3,.iM g8 r2.1),(5,.iM cS r5),(10,.i6 dG)]/\X=⟨[],0⟩) n ⟨0,J,rfl,rfl⟩ ?_ ?_;rintro _ _ ⟨J,rfl,rfl⟩;unfold ld at J;refine go ?_;exact lC ⟨_,J,rfl,rfl⟩;rintro(_|m3) _ _ ⟨dS,J,rfl,rfl⟩;cases J;unfold Z7 at J;refine gF J ?_ ?_<;>intro rC J;refine go ?_;apply aV;obtain⟨j6,sA,J⟩:=aC J;obtain⟨Fi,oB,J⟩:=aC J;refine go ?_;refine aY sA ?_;refine go ?_;refine aR rfl (pC (qg1 n p1 r2.1 dG j6 Fi oB) _) Ct ?_;obtain⟨b34,rA,J⟩:=aC J;refine gn ?_;refine dM (fun tm X=>tm=fr 78 [(0,.iM bS p1),(3,.iM g8 r2.1),(5,.iM cS r5),(10,.i6 dG),(11,.i6 dS),(77,.bool b34)]/\X=⟨[],0⟩) ?_ ?_;rintro _ _ ⟨rfl,rfl⟩;refine gF J ?_ ?_<;>intro xG J;exact gx J;refine go ?_;exact lC ⟨_,J,rfl,rfl⟩;refine go ?_;rcases gB rA with⟨tO,rA⟩|⟨tO,rA⟩;exact gy rA;exact gy rA;refine go ?_;exact xC ⟨J,rfl,rfl⟩;refine go ?_;exact xC ⟨J,rfl,rfl⟩;rintro(_|m1) _ _ ⟨gP,J,rfl,rfl⟩;cases J;unfold Z8 at J;refine gF J ?_ ?_<;>intro HO J;refine go ?_;apply aV;obtain⟨LV,xF,J⟩:=aC J;obtain⟨O2,QC,J⟩:=aC J;refine go ?_;refine aY xF ?_;refine go ?_;refine aR rfl (pC (qlp n p1 LV O2 QC) _) L5 ?_;refine gF J ?_ ?_<;>intro qZ J;exact gx J;refine go ?_;exact lC ⟨_,J,rfl,rfl⟩;refine go ?_;exact xC ⟨J,rfl,rfl⟩
def yg: Option (Int):=
 some (-1)
def YX(p1:List dO)(n:Nat)(r3:(List Int)):Nat->Int->Option (Int)
 |0,_=>none|m1+1,z8=>cond (decide (z8<(p1.length:Int))) (a8 (aB p1 z8) fun x10=>a8 (OY n x10.Code r3) fun eL=>cond eL (some z8) ((YX p1 n r3 m1) (IntKind.i64.wrap (z8+1)))) (yg)
def Qb(n:Nat)(p1:List dO)(p2:List Int):Option (Int):=
 a8 (ML n p2) fun r3=>
 YX p1 n r3 n 0
theorem qvd(n:Nat)(p1:List dO)(p2:List Int)(r:Int)(J:Qb n p1 p2=some r):d5 prog 92 [.isl false (p1.map g8),.isl false (p2.map (cI .u64))] (.int .i64 r):=by
 unfold Qb at J;refine gI 23 Ya ?_;obtain⟨r3,h4,J⟩:=aC J;refine go ?_;refine aR rfl (pC (ml n p2 r3 h4) _) AC ?_;refine go ?_;refine gL (fun m tm X=>∃z8,YX p1 n r3 m z8=some r/\tm=fr 23 [(0,.iM g8 p1),(5,.iM (cI .u64) r3),(6,.i6 z8)]/\X=⟨[],0⟩) (fun tm X=>yg=some r/\tm=fr 23 []/\X=⟨[],0⟩) n ⟨0,J,rfl,rfl⟩ ?_ ?_;rintro _ _ ⟨J,rfl,rfl⟩;unfold yg at J;exact gx J;rintro(_|m1) _ _ ⟨z8,J,rfl,rfl⟩;cases J;unfold YX at J;refine gF J ?_ ?_<;>intro h9 J;refine go ?_;apply aV;obtain⟨x10,iT,J⟩:=aC J;obtain⟨eL,dF,J⟩:=aC J;refine go ?_;refine aY iT ?_;refine go ?_;refine aR rfl (pC (re n x10.Code r3 eL dF) _) DW ?_;refine gF J ?_ ?_<;>intro iA J;exact gx J;refine go ?_;exact lC ⟨_,J,rfl,rfl⟩;refine go ?_;exact xC ⟨J,rfl,rfl⟩
def Sk(w9:Int)(hO:Int->(List mC)->Option ((List (List mC))×Int))(jX:List mC):Option ((List (List mC))×Int):=
 hO (IntKind.i64.wrap (w9+1)) jX
def uc(gP:Int)(gD:List (List mC))(bV:Int->(List (List mC))->Option ((List (List mC))×Int))(wP:List mC):Option ((List (List mC))×Int):=
 aF ((gD.length+1)*24<=140737488355328/\gD.length+1<=140737488355328) (
 bV (IntKind.i64.wrap (gP+1)) (gD++[wP]))
def PL(p1:List bL)(n:Nat)(r5:(List dO)×Int)(r7:(List (List UInt8)))(gP:Int)(gD:List (List mC))(bV:Int->(List (List mC))->Option ((List (List mC))×Int)):Nat->Int->(List mC)->Option ((List (List mC))×Int)
 |0,_,_=>none|m2+1,w9,eO=>
  cond (decide (w9<(r7.length:Int))) (a8 (aB r7 w9) fun jE=>
   a8 (Iv n p1 r5.1 gP jE) fun Nj=>cond Nj.2 (a8 (Qb n r5.1 Nj.1) fun gR=>
    aF ((eO.length+1)*16<=140737488355328/\eO.length+1<=140737488355328) (
    Sk w9 (PL p1 n r5 r7 gP gD bV m2) (eO++[(mC.mk w9 gR)]))) (Sk w9 (PL p1 n r5 r7 gP gD bV m2) eO)) (uc gP gD bV eO)
def ud  (nF:List (List mC)):Option ((List (List mC))×Int):=
 some (nF,0)
def JC(p1:List bL)(n:Nat)(r5:(List dO)×Int)(r7:(List (List UInt8))):Nat->Int->(List (List mC))->Option ((List (List mC))×Int)
 |0,_,_=>none|m1+1,gP,gD=>cond (decide (gP<(r5.1.length:Int))) (PL p1 n r5 r7 gP gD (JC p1 n r5 r7 m1) n 0 ([]:List mC)) (ud gD)
def Ht(n:Nat)(p1:List bL):Option ((List (List mC))×Int):=
 a8 (SY n p1) fun r2=>cond (r2 != 0) (some ([],r2)) (a8 (P1 n p1) fun r5=>
  a8 (YP n p1) fun r7=>
  JC p1 n r5 r7 n 0 ([]:List (List mC)))
theorem qqo(n:Nat)(p1:List bL)(r:(List (List mC))×Int)(J:Ht n p1=some r):d5 prog 59 [.isl false (p1.map bS)] (.tup [.isl false (r.1.map (cL uD)),.int .i64 r.2]):=by
 unfold Ht at J;refine kC 63 Yp ?_;obtain⟨r2,h3,J⟩:=aC J;refine go ?_;refine aR rfl (pC (qlo n p1 r2 h3) _) Cu ?_;refine gF J ?_ ?_<;>intro h4 J;refine go ?_;obtain rfl:=sI J;exact rT (us:=[.nils,.i6 r2]) (u:=.tup [.isl false [],.i6 r2]) (eA rfl (eA rfl (dL))) wR;obtain⟨r5,h6,J⟩:=aC J;refine go ?_;refine aR rfl (pC (yh n p1 r5 h6) _) KR ?_;obtain⟨r7,h8,J⟩:=aC J;refine go ?_;refine aR rfl (pC (ru n p1 r7 h8) _) QF ?_;refine gr ?_;refine gr ?_;refine gV 8 130 1 1 ?_;refine gL (fun m tm X=>∃gP gD qO,JC p1 n r5 r7 m gP gD=some r/\tm=fr 63 [(0,.iM bS p1),(5,.iM g8 r5.1),(7,.iM cS r7),(8,.vl 0 qO 0 gD.length),(9,.i6 gP)]/\X=⟨[(0,.bv (cL uD) gD 130 1 qO)],1⟩) (fun tm X=>∃nF D0,ud nF=some r/\tm=fr 63 [(8,.vl 0 D0 0 nF.length)]/\X=⟨[(0,.bv (cL uD) nF 130 1 D0)],1⟩) n ⟨0,([]:List (List mC)),0,J,rfl,rfl⟩ ?_ ?_;rintro _ _ ⟨nF,D0,J,rfl,rfl⟩;unfold ud at J;refine go ?_;obtain rfl:=sI J;exact rT (us:=[.vl 0 D0 0 nF.length,.i6 0]) (u:=.tup [.iM (cL uD) nF,.i6 0]) (eA rfl (eA rfl (dL))) (fR 0 1);rintro(_|m1) _ _ ⟨gP,gD,qO,J,rfl,rfl⟩;cases J;unfold JC at J;refine gF J ?_ ?_<;>intro rE J;refine go ?_;apply aV;refine gr ?_;refine gr ?_;refine gV 10 176 2 2 ?_;refine gL (fun m tm X=>∃w9 eO sM,PL p1 n r5 r7 gP gD (JC p1 n r5 r7 m1) m w9 eO=some r/\tm=fr 63 [(0,.iM bS p1),(5,.iM g8 r5.1),(7,.iM cS r7),(8,.vl 0 qO 0 gD.length),(9,.i6 gP),(10,.vl 1 sM 0 eO.length),(11,.i6 w9)]/\X=⟨[(1,.bv uD eO 176 2 sM),(0,.bv (cL uD) gD 130 1 qO)],2⟩) (fun tm X=>∃wP zk,uc gP gD (JC p1 n r5 r7 m1) wP=some r/\tm=fr 63 [(0,.iM bS p1),(5,.iM g8 r5.1),(7,.iM cS r7),(8,.vl 0 qO 0 gD.length),(9,.i6 gP),(10,.vl 1 zk 0 wP.length)]/\X=⟨[(1,.bv uD wP 176 2 zk),(0,.bv (cL uD) gD 130 1 qO)],2⟩) n ⟨0,([]:List mC),0,J,rfl,rfl⟩ ?_ ?_;rintro _ _ ⟨wP,zk,J,rfl,rfl⟩;unfold uc at J;refine gn ?_;refine cE (tm':=fr 63 [(0,.iM bS p1),(5,.iM g8 r5.1),(7,.iM cS r7),(8,.vl 0 qO 0 gD.length),(9,.i6 gP),(10,.iM uD wP)]) (X':=⟨[(0,.bv (cL uD) gD 130 1 qO)],2⟩) (Gh.trans (Gh.sub (l':=[(0,.iM bS p1),(5,.iM g8 r5.1),(7,.iM cS r7),(8,.vl 0 qO 0 gD.length),(9,.i6 gP),(10,.vl 1 zk 0 wP.length)]) ⟨rfl,rfl,rfl,rfl,rfl,rfl,trivial⟩) (HW 1 2)) NZ ?_;obtain⟨rA,J⟩:=d9 J;refine go ?_;refine bR ?_;refine bR ?_;refine go ?_;exact lC ⟨_,(gD++[wP]),(qO+1),J,rfl,rfl⟩;rintro(_|m2) _ _ ⟨w9,eO,sM,J,rfl,rfl⟩;cases J;unfold PL at J;refine gF J ?_ ?_<;>intro xG J;refine go ?_;apply aV;obtain⟨jE,lI,J⟩:=aC J;obtain⟨Nj,uJ,J⟩:=aC J;refine go ?_;refine aY lI ?_;refine go ?_;refine aR rfl (pC (qg1 n p1 r5.1 gP jE Nj uJ) _) Ct ?_;refine gr ?_;refine dM (fun tm X=>∃jX sL,Sk w9 (PL p1 n r5 r7 gP gD (JC p1 n r5 r7 m1) m2) jX=some r/\tm=fr 63 [(0,.iM bS p1),(5,.iM g8 r5.1),(7,.iM cS r7),(8,.vl 0 qO 0 gD.length),(9,.i6 gP),(10,.vl 1 sL 0 jX.length),(11,.i6 w9)]/\X=⟨[(1,.bv uD jX 176 2 sL),(0,.bv (cL uD) gD 130 1 qO)],2⟩) ?_ ?_;rintro _ _ ⟨jX,sL,J,rfl,rfl⟩;unfold Sk at J;refine go ?_;exact lC ⟨_,jX,sL,J,rfl,rfl⟩;refine cF J ?_ ?_<;>intro QC J;obtain⟨gR,qG,J⟩:=aC J;obtain⟨Ku,J⟩:=d9 J;refine go ?_;refine aR rfl (pC (qvd n r5.1 Nj.1 gR qG) _) Ya ?_;refine go ?_;refine bR ?_;refine bR ?_;refine go ?_;exact xC ⟨(eO++[(mC.mk w9 gR)]),(sM+1),J,rfl,rfl⟩;refine go ?_;exact xC ⟨eO,sM,J,rfl,rfl⟩;refine go ?_;exact xC ⟨eO,sM,J,rfl,rfl⟩;refine go ?_;exact xC ⟨gD,qO,J,rfl,rfl⟩
def Sp(z8:Int)(bV:Int->(List Int)->Option ((List Int)))(eO:List Int):Option ((List Int)):=
 bV (IntKind.i64.wrap (z8+1)) eO
def ue(z8:Int)(l9:List Int)(bV:Int->(List Int)->Option ((List Int)))(Zw:Bool):Option ((List Int)):=
 cond Zw (aF ((l9.length+1)*8<=140737488355328/\l9.length+1<=140737488355328) (
  Sp z8 bV (l9++[z8]))) (Sp z8 bV l9)
def T7(p1:List dO)(p2:Int)(n:Nat)(z8:Int)(l9:List Int)(bV:Int->(List Int)->Option ((List Int))):Nat->Bool->Int->Option ((List Int))
 |0,_,_=>none|m2+1,Ek,CW=>cond (decide (CW<(p1.length:Int))) (a8 (cond Ek (cond (CW==p2) (some true) (cond (CW==z8) (some true) (a8 (T3 n p1 z8 CW) fun sN=>cond (!sN) (some true) (a8 (T3 n p1 CW p2) fun tY=>some (!tY))))) (some false)) fun E2=>(T7 p1 p2 n z8 l9 bV m2) E2 (IntKind.i64.wrap (CW+1))) (ue z8 l9 bV Ek)
def uf  (dC:List Int):Option ((List Int)):=
 some dC
def FC(p1:List dO)(p2:Int)(n:Nat):Nat->Int->(List Int)->Option ((List Int))
 |0,_,_=>none|m1+1,z8,l9=>cond (decide (z8<(p1.length:Int))) (a8 (cond (z8==p2) (some true) (a8 (T3 n p1 z8 p2) fun sO=>some (!sO))) fun vD=>cond vD ((FC p1 p2 n m1) (IntKind.i64.wrap (z8+1)) l9) (T7 p1 p2 n z8 l9 (FC p1 p2 n m1) n true 0)) (uf l9)
def ve(n:Nat)(p1:List dO)(p2:Int):Option ((List Int)):=
 FC p1 p2 n n 0 ([]:List Int)
theorem qql(n:Nat)(p1:List dO)(p2:Int)(r:(List Int))(J:ve n p1 p2=some r):d5 prog 61 [.isl false (p1.map g8),.int .i64 p2] (.isl false (r.map (cI .i64))):=by
 unfold ve at J;refine gI 62 Yo ?_;refine gr ?_;refine gr ?_;refine gr ?_;refine gV 5 3 1 1 ?_;refine gL (fun m tm X=>∃z8 l9 cH,FC p1 p2 n m z8 l9=some r/\tm=fr 62 [(0,.iM g8 p1),(1,.i6 p2),(5,.vl 0 cH 0 l9.length),(6,.i6 z8)]/\X=⟨F6 l9 cH,1⟩) (fun tm X=>∃dC fZ,uf dC=some r/\tm=fr 62 [(5,.vl 0 fZ 0 dC.length)]/\X=⟨F6 dC fZ,1⟩) n ⟨0,([]:List Int),0,J,rfl,rfl⟩ ?_ ?_;rintro _ _ ⟨dC,fZ,J,rfl,rfl⟩;unfold uf at J;refine go ?_;obtain rfl:=sI J;exact rT (us:=[.vl 0 fZ 0 dC.length]) (u:=.iM (cI .i64) dC) (eA rfl (dL)) (fR 0 1);rintro(_|m1) _ _ ⟨z8,l9,cH,J,rfl,rfl⟩;cases J;unfold FC at J;refine gF J ?_ ?_<;>intro dF J;refine go ?_;apply aV;obtain⟨vD,dD,J⟩:=aC J;refine gn ?_;refine dM (fun tm X=>tm=fr 62 [(0,.iM g8 p1),(1,.i6 p2),(5,.vl 0 cH 0 l9.length),(6,.i6 z8),(24,.bool vD)]/\X=⟨F6 l9 cH,1⟩) ?_ ?_;rintro _ _ ⟨rfl,rfl⟩;refine gF J ?_ ?_<;>intro iX J;refine go ?_;exact lC ⟨_,l9,cH,J,rfl,rfl⟩;refine go ?_;refine gL (fun m tm X=>∃Ek CW,T7 p1 p2 n z8 l9 (FC p1 p2 n m1) m Ek CW=some r/\tm=fr 62 [(0,.iM g8 p1),(1,.i6 p2),(5,.vl 0 cH 0 l9.length),(6,.i6 z8),(7,.bool Ek),(8,.i6 CW)]/\X=⟨F6 l9 cH,1⟩) (fun tm X=>∃Zw,ue z8 l9 (FC p1 p2 n m1) Zw=some r/\tm=fr 62 [(0,.iM g8 p1),(1,.i6 p2),(5,.vl 0 cH 0 l9.length),(6,.i6 z8),(7,.bool Zw)]/\X=⟨F6 l9 cH,1⟩) n ⟨true,0,J,rfl,rfl⟩ ?_ ?_;rintro _ _ ⟨Zw,J,rfl,rfl⟩;unfold ue at J;refine gr ?_;refine dM (fun tm X=>∃eO sM,Sp z8 (FC p1 p2 n m1) eO=some r/\tm=fr 62 [(0,.iM g8 p1),(1,.i6 p2),(5,.vl 0 sM 0 eO.length),(6,.i6 z8)]/\X=⟨F6 eO sM,1⟩) ?_ ?_;rintro _ _ ⟨eO,sM,J,rfl,rfl⟩;unfold Sp at J;refine go ?_;exact lC ⟨_,eO,sM,J,rfl,rfl⟩;refine cF J ?_ ?_<;>intro sA J;obtain⟨tO,J⟩:=d9 J;refine go ?_;refine bR ?_;refine bR ?_;refine go ?_;exact xC ⟨(l9++[z8]),(cH+1),J,rfl,rfl⟩;refine go ?_;exact xC ⟨l9,cH,J,rfl,rfl⟩;rintro(_|m2) _ _ ⟨Ek,CW,J,rfl,rfl⟩;cases J;unfold T7 at J;refine gF J ?_ ?_<;>intro nW J;refine go ?_;apply aV;obtain⟨E2,j5,J⟩:=aC J;refine gn ?_;refine dM (fun tm X=>tm=fr 62 [(0,.iM g8 p1),(1,.i6 p2),(5,.vl 0 cH 0 l9.length),(6,.i6 z8),(7,.bool E2),(8,.i6 CW)]/\X=⟨F6 l9 cH,1⟩) ?_ ?_;rintro _ _ ⟨rfl,rfl⟩;refine go ?_;exact lC ⟨E2,(IntKind.i64.wrap (CW+1)),J,rfl,rfl⟩;refine go ?_;rcases gB j5 with⟨rA,j5⟩|⟨rA,j5⟩;refine go ?_;rcases gB j5 with⟨xG,j5⟩|⟨xG,j5⟩;exact gy j5;refine go ?_;rcases gB j5 with⟨HO,j5⟩|⟨HO,j5⟩;exact gy j5;obtain⟨sN,xF,j5⟩:=aC j5;refine go ?_;refine aR rfl (pC (uq n p1 z8 CW sN xF) _) KQ ?_;refine go ?_;rcases gB j5 with⟨uJ,j5⟩|⟨uJ,j5⟩;exact gy j5;obtain⟨tY,qZ,j5⟩:=aC j5;obtain rfl:=sI j5;refine go ?_;refine aR rfl (pC (uq n p1 CW p2 tY qZ) _) KQ ?_;refine go ?_;exact xC ⟨rfl,rfl⟩;obtain rfl:=sI j5;refine go ?_
 repeat refine RS.no (IQ rfl rfl rfl) rfl rfl ?_
 refine go ?_
 repeat refine RS.no (IQ rfl rfl rfl) rfl rfl ?_
 refine go ?_
 repeat refine RS.no (IQ rfl rfl rfl) rfl rfl ?_
 refine go ?_;exact xC ⟨rfl,rfl⟩;refine go ?_;exact xC ⟨Ek,J,rfl,rfl⟩;refine go ?_;rcases gB dD with⟨iA,dD⟩|⟨iA,dD⟩;exact gy dD;obtain⟨sO,oW,dD⟩:=aC dD;obtain rfl:=sI dD;refine go ?_;refine aR rfl (pC (uq n p1 z8 p2 sO oW) _) KQ ?_;refine go ?_;exact xC ⟨rfl,rfl⟩;refine go ?_;exact xC ⟨l9,cH,J,rfl,rfl⟩
def uz  (nF:List dZ):Option ((List dZ)×Int):=
 some (nF,0)
def ZL(p1:List bL)(n:Nat)(r5:(List dO)×Int)(r7:(List (List UInt8))):Nat->Int->(List dZ)->Option ((List dZ)×Int)
 |0,_,_=>none|m1+1,gP,gD=>
  cond (decide (gP<(r7.length:Int))) (a8 (aB r7 gP) fun uQ=>
   a8 (Qm n p1 uQ) fun yJ=>
   a8 (aB r7 gP) fun E9=>
   a8 (Hs n r5.1 yJ.1) fun O4=>
   aF ((gD.length+1)*24<=140737488355328/\gD.length+1<=140737488355328) ((ZL p1 n r5 r7 m1) (IntKind.i64.wrap (gP+1)) (gD++[(dZ.mk E9 O4)]))) (uz gD)
def Sc(n:Nat)(p1:List bL):Option ((List dZ)×Int):=
 a8 (SY n p1) fun r2=>cond (r2 != 0) (some ([],r2)) (a8 (P1 n p1) fun r5=>
  a8 (YP n p1) fun r7=>
  ZL p1 n r5 r7 n 0 ([]:List dZ))
theorem qnv(n:Nat)(p1:List bL)(r:(List dZ)×Int)(J:Sc n p1=some r):d5 prog 62 [.isl false (p1.map bS)] (.tup [.isl false (r.1.map gN),.int .i64 r.2]):=by
 unfold Sc at J;refine kC 51 Yn ?_;obtain⟨r2,h3,J⟩:=aC J;refine go ?_;refine aR rfl (pC (qlo n p1 r2 h3) _) Cu ?_;refine gF J ?_ ?_<;>intro h4 J;refine go ?_;obtain rfl:=sI J;exact rT (us:=[.nils,.i6 r2]) (u:=.tup [.isl false [],.i6 r2]) (eA rfl (eA rfl (dL))) wR;obtain⟨r5,h6,J⟩:=aC J;refine go ?_;refine aR rfl (pC (yh n p1 r5 h6) _) KR ?_;obtain⟨r7,h8,J⟩:=aC J;refine go ?_;refine aR rfl (pC (ru n p1 r7 h8) _) QF ?_;refine gr ?_;refine gr ?_;refine gV 8 187 2 1 ?_;refine gL (fun m tm X=>∃gP gD qO,ZL p1 n r5 r7 m gP gD=some r/\tm=fr 51 [(0,.iM bS p1),(5,.iM g8 r5.1),(7,.iM cS r7),(8,.vl 0 qO 0 gD.length),(9,.i6 gP)]/\X=⟨[(0,.bv gN gD 187 2 qO)],1⟩) (fun tm X=>∃nF D0,uz nF=some r/\tm=fr 51 [(8,.vl 0 D0 0 nF.length)]/\X=⟨[(0,.bv gN nF 187 2 D0)],1⟩) n ⟨0,([]:List dZ),0,J,rfl,rfl⟩ ?_ ?_;rintro _ _ ⟨nF,D0,J,rfl,rfl⟩;unfold uz at J;refine go ?_;obtain rfl:=sI J;exact rT (us:=[.vl 0 D0 0 nF.length,.i6 0]) (u:=.tup [.iM gN nF,.i6 0]) (eA rfl (eA rfl (dL))) (fR 0 2);rintro(_|m1) _ _ ⟨gP,gD,qO,J,rfl,rfl⟩;cases J;unfold ZL at J;refine gF J ?_ ?_<;>intro rE J;refine go ?_;apply aV;obtain⟨uQ,rD,J⟩:=aC J;obtain⟨yJ,pN,J⟩:=aC J;refine go ?_;refine aY rD ?_;refine go ?_;refine aR rfl (pC (qlp n p1 uQ yJ pN) _) L5 ?_;obtain⟨E9,mV,J⟩:=aC J;obtain⟨O4,rC,J⟩:=aC J;obtain⟨oV,J⟩:=d9 J;refine go ?_;refine dE [(0,9)] ?_;refine gd ?_;refine cA mV ?_;refine gd ?_;refine fT rfl (pC (c_ n r5.1 yJ.1 O4 rC)) DY ?_;refine gd ?_;refine eC ?_;refine eC ?_;refine gd ?_;refine bI ⟨by kernel_rfl,⟨iQ rfl,trivial⟩,?_⟩;refine go ?_;exact lC ⟨_,(gD++[(dZ.mk E9 O4)]),(qO+1),J,rfl,rfl⟩;refine go ?_;exact xC ⟨gD,qO,J,rfl,rfl⟩
def uo(p1:List bL)(n:Nat)(gD:List dH):Option (cY×Int):=
 a8 (Sc n p1) fun fE=>some ((cY.mk gD fE.1),0)
def ZJ(p1:List bL)(n:Nat)(r2:(List (List mC))×Int)(r5:(List dO)×Int):Nat->Int->(List dH)->Option (cY×Int)
 |0,_,_=>none|m1+1,I6,gH=>
  cond (decide (I6<(r5.1.length:Int))) (a8 (aB r5.1 I6) fun uQ=>
   a8 (aB r5.1 I6) fun BC=>
   a8 (ve n r5.1 I6) fun nN=>
   a8 (aB r2.1 I6) fun rK=>
   aF ((gH.length+1)*88<=140737488355328/\gH.length+1<=140737488355328) ((ZJ p1 n r2 r5 m1) (IntKind.i64.wrap (I6+1)) (gH++[(dH.mk uQ.Name BC.Code nN rK)]))) (uo p1 n gH)
def P7(n:Nat)(p1:List bL):Option (cY×Int):=
 a8 (Ht n p1) fun r2=>cond (r2.2 != 0) (some ((cY.mk [] []),r2.2)) (a8 (P1 n p1) fun r5=>ZJ p1 n r2 r5 n 0 ([]:List dH))
theorem f_(n:Nat)(p1:List bL)(r:cY×Int)(J:P7 n p1=some r):d5 prog 31 [.isl false (p1.map bS)] (.tup [.agg (fA r.1),.int .i64 r.2]):=by
 unfold P7 at J;refine kC 63 QO ?_;obtain⟨r2,h3,J⟩:=aC J;refine go ?_;refine aR rfl (pC (qqo n p1 r2 h3) _) Yp ?_;refine gF J ?_ ?_<;>intro h4 J;refine go ?_;obtain rfl:=sI J;exact rT (us:=[.agg [.nils,.nils],.i6 r2.2]) (u:=.tup [.agg [.isl false [],.isl false []],.i6 r2.2]) (lZ (iP oY.h rfl (aZ uY.h) rfl rfl rfl) (eA rfl (dL))) wR;obtain⟨r5,h6,J⟩:=aC J;refine go ?_;refine aR rfl (pC (yh n p1 r5 h6) _) KR ?_;refine gr ?_;refine gr ?_;refine cE (tm':=fr 63 [(0,.iM bS p1),(2,.ptr 0 0 0),(4,.iM (cL uD) r2.1),(6,.iM g8 r5.1),(8,.ptr 1 0 0),(9,.i6 0)]) (X':=⟨[(2,.bv fL ([]:List dH) 132 4 0),(1,.row [.vl 2 0 0 (([]:List dH).length),.nils] 27),(0,.row [.nils,.nils] 27)],3⟩) (Gh.trans (xI 1 0 132 4 (by decide) NZ rfl rfl) (oF ⟨rfl,rfl,rfl,rfl,rfl,rfl,trivial⟩ rfl)) NZ ?_;refine gL (fun m tm X=>∃I6 gH IK,ZJ p1 n r2 r5 m I6 gH=some r/\tm=fr 63 [(0,.iM bS p1),(2,.ptr 0 0 0),(4,.iM (cL uD) r2.1),(6,.iM g8 r5.1),(8,.ptr 1 0 0),(9,.i6 I6)]/\X=⟨[(2,.bv fL gH 132 4 IK),(1,.row [.vl 2 IK 0 gH.length,.nils] 27),(0,.row [.nils,.nils] 27)],3⟩) (fun tm X=>∃gD qO,uo p1 n gD=some r/\tm=fr 63 [(0,.iM bS p1),(2,.ptr 0 0 0),(8,.ptr 1 0 0)]/\X=⟨[(2,.bv fL gD 132 4 qO),(1,.row [.vl 2 qO 0 gD.length,.nils] 27),(0,.row [.nils,.nils] 27)],3⟩) n ⟨0,([]:List dH),0,J,rfl,rfl⟩ ?_ ?_;rintro _ _ ⟨gD,qO,J,rfl,rfl⟩;unfold uo at J;obtain⟨fE,iX,J⟩:=aC J;refine go ?_;refine aR rfl (pC (qnv n p1 fE iX) _) Yn ?_;refine go ?_;obtain rfl:=sI J;exact rT (us:=[.agg [.vl 2 qO 0 gD.length,.iM gN fE.1],.i6 0]) (u:=.tup [.agg [.iM fL gD,.iM gN fE.1],.i6 0]) (lZ (iP oY.h rfl (aZ uY.h) rfl rfl rfl) (eA rfl (dL))) (fR 2 4);rintro(_|m1) _ _ ⟨I6,gH,IK,J,rfl,rfl⟩;cases J;unfold ZJ at J;refine gF J ?_ ?_<;>intro rE J;refine go ?_;apply aV;obtain⟨uQ,rD,J⟩:=aC J;obtain⟨BC,pN,J⟩:=aC J;obtain⟨nN,mV,J⟩:=aC J;obtain⟨rK,rC,J⟩:=aC J;obtain⟨oV,J⟩:=d9 J;refine go ?_;refine dE [(0,20),(1,20)] ?_;refine gd ?_;refine cA rD ?_;refine gd ?_;refine cA pN ?_;refine gd ?_;refine fT rfl (pC (qql n r5.1 I6 nN mV)) Yo ?_;refine gd ?_;refine cA rC ?_;refine gd ?_;refine eC ?_;refine eC ?_;refine gd ?_;refine qJ ?_;refine bI ⟨by kernel_rfl,⟨jW oY.h rfl (aZ Aw.h) rfl rfl rfl,⟨oO IB.h rfl rfl rfl rfl,trivial⟩⟩,?_⟩;refine go ?_;exact lC ⟨_,(gH++[(dH.mk uQ.Name BC.Code nN rK)]),(IK+1),J,rfl,rfl⟩;refine go ?_;exact xC ⟨gH,IK,J,rfl,rfl⟩
def oi(n:Nat): Option (cY):=
 a8 (P7 n ([(bL.mk ([116,111,112]) [] ([(oR.mk ([70]) ([116,111,112])),(oR.mk ([71]) ([116,111,112]))])),(bL.mk ([120]) ([[116,111,112]]) []),(bL.mk ([121]) ([[116,111,112]]) [])])) fun r1=>some (cY.mk r1.1.Types r1.1.Feats)
theorem qsg(n:Nat)(r:cY)(J:oi n  = some r):d5 prog 33 [] (.agg (fA r)):=by
 unfold oi at J;refine bg0 17 Za ?_;obtain⟨r1,h2,J⟩:=aC J;refine go ?_;refine aP (u:=.sl 1 0 2 2) (X':=⟨qy5,2⟩) rfl (uA IE.h U3.h rfl rfl rfl rfl rfl rfl rfl) ?_;refine go ?_;refine bR ?_;refine go ?_;refine bR ?_;refine go ?_;refine aP (u:=.sl 4 0 3 3) (X':=⟨(4,.row [.str ([116,111,112]),.nils,.sl 1 0 2 2,.str ([120]),.sl 2 0 1 1,.nils,.str ([121]),.sl 3 0 1 1,.nils] 138)::(3,.row [.str ([116,111,112])] 9)::(2,.row [.str ([116,111,112])] 9)::qy5,5⟩) rfl (uA Mq.h yV.h rfl rfl rfl rfl rfl rfl rfl) (GI rfl (Gh.trans (lV 1 2) (Gh.trans (lV 2 1) (Gh.trans (lV 3 1) (Gh.trans (Gh.rowC 4) (lV 4 3))))) (pC (f_ n ([(bL.mk ([116,111,112]) [] ([(oR.mk ([70]) ([116,111,112])),(oR.mk ([71]) ([116,111,112]))])),(bL.mk ([120]) ([[116,111,112]]) []),(bL.mk ([121]) ([[116,111,112]]) [])]) r1 h2) _) QO ?_);refine go ?_;obtain rfl:=sI J;exact rT (lZ (iP oY.h rfl (aZ uY.h) rfl rfl rfl) (dL)) (uM _ rfl)
def rl(p1:List UInt8)(p2:List UInt8)(cM:List oR):Option (bL):=
 some (bL.mk p1 ([p2]) cM)
def yb(p1:List UInt8)(p2:List UInt8)(p3:List (List UInt8)):Nat->Int->(List oR)->Option (bL)
 |0,_,_=>none|m1+1,eB,c6=>
  cond (decide ((IntKind.i64.wrap (eB+1))<(p3.length:Int))) (a8 (aB p3 eB) fun GT=>
   a8 (aB p3 (IntKind.i64.wrap (eB+1))) fun n7=>
   aF ((c6.length+1)*32<=140737488355328/\c6.length+1<=140737488355328) ((yb p1 p2 p3 m1) (IntKind.i64.wrap (eB+2)) (c6++[(oR.mk GT n7)]))) (rl p1 p2 c6)
def rk(p1:List UInt8)(jS:List oR):Option (bL):=
 some (bL.mk p1 [] jS)
def ya(p1:List UInt8)(p3:List (List UInt8)):Nat->Int->(List oR)->Option (bL)
 |0,_,_=>none|m2+1,oX,eT=>
  cond (decide ((IntKind.i64.wrap (oX+1))<(p3.length:Int))) (a8 (aB p3 oX) fun Fa=>
   a8 (aB p3 (IntKind.i64.wrap (oX+1))) fun jE=>
   aF ((eT.length+1)*32<=140737488355328/\eT.length+1<=140737488355328) ((ya p1 p3 m2) (IntKind.i64.wrap (oX+2)) (eT++[(oR.mk Fa jE)]))) (rk p1 eT)
def BT(n:Nat)(p1:List UInt8)(p2:List UInt8)(p3:List (List UInt8)):Option (bL):=
 cond (!lG p2 []) (yb p1 p2 p3 n 0 ([]:List oR)) (ya p1 p3 n 0 ([]:List oR))
theorem FA(n:Nat)(p1:List UInt8)(p2:List UInt8)(p3:List (List UInt8))(r:bL)(J:BT n p1 p2 p3=some r):d5 prog 63 [.str p1,.str p2,.isl false (p3.map cS)] (.agg (bS r)):=by
 unfold BT at J;refine CP 39 oC ?_;refine go ?_;refine aP (u:=.bool (!lG p2 [])) rfl (H4 rfl rfl rfl rfl) ?_;refine gF J ?_ ?_<;>intro h4 J;refine go ?_;refine bR ?_;refine gr ?_;refine cE (tm':=fr 39 [(2,.iM cS p3),(6,.ptr 0 0 0),(7,.ptr 1 0 0),(8,.i6 0)]) (X':=⟨(3,.bv lH ([]:List oR) 141 2 0)::(2,.row [.str p2] 9)::(1,.row [.str p1,.sl 2 0 1 1,.vl 3 0 0 (([]:List oR).length)] 138)::Gs,4⟩) (Gh.trans (xI 1 2 141 2 (by decide) NZ rfl rfl) (oF ⟨rfl,rfl,rfl,rfl,trivial⟩ rfl)) NZ ?_;refine gL (fun m tm X=>∃eB c6 fS,yb p1 p2 p3 m eB c6=some r/\tm=fr 39 [(2,.iM cS p3),(6,.ptr 0 0 0),(7,.ptr 1 0 0),(8,.i6 eB)]/\X=⟨(3,.bv lH c6 141 2 fS)::(2,.row [.str p2] 9)::(1,.row [.str p1,.sl 2 0 1 1,.vl 3 fS 0 c6.length] 138)::Gs,4⟩) (fun tm X=>∃cM eY,rl p1 p2 cM=some r/\tm=fr 39 [(6,.ptr 0 0 0),(7,.ptr 1 0 0)]/\X=⟨(3,.bv lH cM 141 2 eY)::(2,.row [.str p2] 9)::(1,.row [.str p1,.sl 2 0 1 1,.vl 3 eY 0 cM.length] 138)::Gs,4⟩) n ⟨0,([]:List oR),0,J,rfl,rfl⟩ ?_ ?_;rintro _ _ ⟨cM,eY,J,rfl,rfl⟩;unfold rl at J;refine go ?_;obtain rfl:=sI J;exact⟨.inr rfl,[.agg [.str p1,.sl 2 0 1 1,.vl 3 eY 0 cM.length]],lZ (iP yE.h rfl (aZ yV.h) rfl rfl rfl) (dL),.agg [.str p1,.iM cS ([p2]),.iM lH cM],⟨[],0⟩,zF _,Gh.trans (lV 2 1) (Gh.trans (lV 3 2) (uM (.agg [.str p1,.iM cS ([p2]),.iM lH cM]) rfl)),rfl,BU.h⟩;rintro(_|m1) _ _ ⟨eB,c6,fS,J,rfl,rfl⟩;cases J;unfold yb at J;refine gF J ?_ ?_<;>intro fH J;refine go ?_;apply aV;obtain⟨GT,iX,J⟩:=aC J;obtain⟨n7,m8,J⟩:=aC J;obtain⟨rD,J⟩:=d9 J;refine go ?_;refine dE [(0,12),(1,12)] ?_;refine gd ?_;refine cA iX ?_;refine gd ?_;refine cA m8 ?_;refine gd ?_;refine eC ?_;refine eC ?_;refine gd ?_;refine qJ ?_;refine bI ⟨by kernel_rfl,⟨jW yE.h rfl (aZ U4.h) rfl rfl rfl,⟨oO IE.h rfl rfl rfl rfl,trivial⟩⟩,?_⟩;refine go ?_;exact lC ⟨_,(c6++[(oR.mk GT n7)]),(fS+1),J,rfl,rfl⟩;refine go ?_;exact xC ⟨c6,fS,J,rfl,rfl⟩;refine gr ?_;refine cE (tm':=fr 39 [(2,.iM cS p3),(6,.ptr 0 0 0),(7,.ptr 1 0 0),(8,.i6 0)]) (X':=⟨(2,.bv lH ([]:List oR) 141 2 0)::(1,.row [.str p1,.nils,.vl 2 0 0 (([]:List oR).length)] 138)::Gs,3⟩) (Gh.trans (xI 1 2 141 2 (by decide) NZ rfl rfl) (oF ⟨rfl,rfl,rfl,rfl,trivial⟩ rfl)) NZ ?_;refine gL (fun m tm X=>∃oX eT II,ya p1 p3 m oX eT=some r/\tm=fr 39 [(2,.iM cS p3),(6,.ptr 0 0 0),(7,.ptr 1 0 0),(8,.i6 oX)]/\X=⟨(2,.bv lH eT 141 2 II)::(1,.row [.str p1,.nils,.vl 2 II 0 eT.length] 138)::Gs,3⟩) (fun tm X=>∃jS n9,rk p1 jS=some r/\tm=fr 39 [(6,.ptr 0 0 0),(7,.ptr 1 0 0)]/\X=⟨(2,.bv lH jS 141 2 n9)::(1,.row [.str p1,.nils,.vl 2 n9 0 jS.length] 138)::Gs,3⟩) n ⟨0,([]:List oR),0,J,rfl,rfl⟩ ?_ ?_;rintro _ _ ⟨jS,n9,J,rfl,rfl⟩;unfold rk at J;refine go ?_;obtain rfl:=sI J;exact⟨.inr rfl,[.agg [.str p1,.nils,.vl 2 n9 0 jS.length]],lZ (iP yE.h rfl (aZ yV.h) rfl rfl rfl) (dL),.agg [.str p1,.isl false [],.iM lH jS],⟨[],0⟩,zF _,Gh.trans (lV 2 2) (Gh.trans (Gh.wk (.cons (.agg (.cons (.refl _) (.cons (.nil false) (.cons (.refl _) .nil)))) .nil)) (uM (.agg [.str p1,.isl false [],.iM lH jS]) rfl)),rfl,BU.h⟩;rintro(_|m2) _ _ ⟨oX,eT,II,J,rfl,rfl⟩;cases J;unfold ya at J;refine gF J ?_ ?_<;>intro nW J;refine go ?_;apply aV;obtain⟨Fa,xG,J⟩:=aC J;obtain⟨jE,lI,J⟩:=aC J;obtain⟨xF,J⟩:=d9 J;refine go ?_;refine dE [(0,12),(1,12)] ?_;refine gd ?_;refine cA xG ?_;refine gd ?_;refine cA lI ?_;refine gd ?_;refine eC ?_;refine eC ?_;refine gd ?_;refine qJ ?_;refine bI ⟨by kernel_rfl,⟨jW yE.h rfl (aZ U4.h) rfl rfl rfl,⟨oO IE.h rfl rfl rfl rfl,trivial⟩⟩,?_⟩;refine go ?_;exact lC ⟨_,(eT++[(oR.mk Fa jE)]),(II+1),J,rfl,rfl⟩;refine go ?_;exact xC ⟨eT,II,J,rfl,rfl⟩
def Rm(n:Nat): Option ((List bL)):=
 a8 (BT n ([116,111,112]) [] []) fun r1=>
 a8 (BT n ([108,105,115,116]) ([116,111,112]) []) fun r3=>
 a8 (BT n ([99,111,110,115]) ([108,105,115,116]) ([[70,73,82,83,84],[116,111,112],[82,69,83,84],[108,105,115,116]])) fun r5=>
 a8 (BT n ([110,117,108,108]) ([108,105,115,116]) []) fun r7=>
 a8 (BT n ([100,108,105,115,116]) ([116,111,112]) ([[76,73,83,84],[108,105,115,116],[76,65,83,84],[108,105,115,116]])) fun r9=>
 a8 (BT n ([105,110,100,101,120]) ([116,111,112]) []) fun qQ=>
 a8 (BT n ([104,97,110,100,108,101]) ([105,110,100,101,120]) []) fun gA=>
 a8 (BT n ([101,118,101,110,116]) ([105,110,100,101,120]) []) fun sO=>
 a8 (BT n ([101,110,116,105,116,121]) ([105,110,100,101,120]) []) fun jJ=>
 a8 (BT n ([114,101,108]) ([116,111,112]) ([[76,65,66,69,76],[104,97,110,100,108,101]])) fun hX=>
 a8 (BT n ([113,101,113]) ([116,111,112]) ([[72,73,71,72],[104,97,110,100,108,101],[76,79,87],[104,97,110,100,108,101]])) fun IP=>
 a8 (BT n ([115,101,109]) ([116,111,112]) ([[84,79,80],[104,97,110,100,108,101],[73,78,68,69,88],[105,110,100,101,120],[82,69,76,83],[100,108,105,115,116],[67,79,78,83],[100,108,105,115,116]])) fun yJ=>
 a8 (BT n ([115,105,103,110]) ([116,111,112]) ([[83,69,77],[115,101,109],[65,82,71,83],[108,105,115,116]])) fun nN=>some ([r1,r3,r5,r7,r9,qQ,gA,sO,jJ,hX,IP,yJ,nN])
theorem qpq(n:Nat)(r:(List bL))(J:Rm n  = some r):d5 prog 32 [] (.isl false (r.map bS)):=by
 unfold Rm at J;refine bg0 21 Zb ?_;obtain⟨r1,h2,J⟩:=aC J;obtain⟨r3,h4,J⟩:=aC J;obtain⟨r5,h6,J⟩:=aC J;obtain⟨r7,h8,J⟩:=aC J;obtain⟨r9,f0,J⟩:=aC J;obtain⟨qQ,dP,J⟩:=aC J;obtain⟨gA,iA,J⟩:=aC J;obtain⟨sO,oW,J⟩:=aC J;obtain⟨jJ,dD,J⟩:=aC J;obtain⟨hX,rE,J⟩:=aC J;obtain⟨IP,rD,J⟩:=aC J;obtain⟨yJ,pN,J⟩:=aC J;obtain⟨nN,mV,J⟩:=aC J;refine go ?_;refine aR rfl (LK (args':=[.str ([116,111,112]),.str [],.isl false []]) (.cons (.refl _) (.cons (.refl _) (.cons (.nil false) .nil))) (pC (FA n ([116,111,112]) [] [] r1 h2)) _) oC (aR rfl (LK (args':=[.str ([108,105,115,116]),.str ([116,111,112]),.isl false []]) (.cons (.refl _) (.cons (.refl _) (.cons (.nil false) .nil))) (pC (FA n ([108,105,115,116]) ([116,111,112]) [] r3 h4)) _) oC ?_);refine bR ?_;refine GI rfl (lV 0 1) (pC (FA n ([99,111,110,115]) ([108,105,115,116]) ([[70,73,82,83,84],[116,111,112],[82,69,83,84],[108,105,115,116]]) r5 h6) _) oC (aR rfl (LK (args':=[.str ([110,117,108,108]),.str ([108,105,115,116]),.isl false []]) (.cons (.refl _) (.cons (.refl _) (.cons (.nil false) .nil))) (pC (FA n ([110,117,108,108]) ([108,105,115,116]) [] r7 h8)) _) oC ?_);refine bR ?_;refine GI rfl (lV 1 1) (pC (FA n ([100,108,105,115,116]) ([116,111,112]) ([[76,73,83,84],[108,105,115,116],[76,65,83,84],[108,105,115,116]]) r9 f0) _) oC (aR rfl (LK (args':=[.str ([105,110,100,101,120]),.str ([116,111,112]),.isl false []]) (.cons (.refl _) (.cons (.refl _) (.cons (.nil false) .nil))) (pC (FA n ([105,110,100,101,120]) ([116,111,112]) [] qQ dP)) _) oC (aR rfl (LK (args':=[.str ([104,97,110,100,108,101]),.str ([105,110,100,101,120]),.isl false []]) (.cons (.refl _) (.cons (.refl _) (.cons (.nil false) .nil))) (pC (FA n ([104,97,110,100,108,101]) ([105,110,100,101,120]) [] gA iA)) _) oC (aR rfl (LK (args':=[.str ([101,118,101,110,116]),.str ([105,110,100,101,120]),.isl false []]) (.cons (.refl _) (.cons (.refl _) (.cons (.nil false) .nil))) (pC (FA n ([101,118,101,110,116]) ([105,110,100,101,120]) [] sO oW)) _) oC (aR rfl (LK (args':=[.str ([101,110,116,105,116,121]),.str ([105,110,100,101,120]),.isl false []]) (.cons (.refl _) (.cons (.refl _) (.cons (.nil false) .nil))) (pC (FA n ([101,110,116,105,116,121]) ([105,110,100,101,120]) [] jJ dD)) _) oC ?_))));refine bR ?_;refine GI rfl (lV 2 1) (pC (FA n ([114,101,108]) ([116,111,112]) ([[76,65,66,69,76],[104,97,110,100,108,101]]) hX rE) _) oC ?_;refine bR ?_;refine GI rfl (lV 3 1) (pC (FA n ([113,101,113]) ([116,111,112]) ([[72,73,71,72],[104,97,110,100,108,101],[76,79,87],[104,97,110,100,108,101]]) IP rD) _) oC (aP (u:=.sl 4 0 8 8) (X':=⟨[(4,.row [.str ([84,79,80]),.str ([104,97,110,100,108,101]),.str ([73,78,68,69,88]),.str ([105,110,100,101,120]),.str ([82,69,76,83]),.str ([100,108,105,115,116]),.str ([67,79,78,83]),.str ([100,108,105,115,116])] 9)],5⟩) rfl (uA kK.h JV.h rfl rfl rfl rfl rfl rfl rfl) (GI rfl (lV 4 1) (pC (FA n ([115,101,109]) ([116,111,112]) ([[84,79,80],[104,97,110,100,108,101],[73,78,68,69,88],[105,110,100,101,120],[82,69,76,83],[100,108,105,115,116],[67,79,78,83],[100,108,105,115,116]]) yJ pN) _) oC ?_));refine bR ?_;refine GI rfl (lV 5 1) (pC (FA n ([115,105,103,110]) ([116,111,112]) ([[83,69,77],[115,101,109],[65,82,71,83],[108,105,115,116]]) nN mV) _) oC (aP (u:=.sl 6 0 13 13) (X':=⟨[(6,.row [.str r1.Name,.iM cS r1.Supers,.iM lH r1.Feats,.str r3.Name,.iM cS r3.Supers,.iM lH r3.Feats,.str r5.Name,.iM cS r5.Supers,.iM lH r5.Feats,.str r7.Name,.iM cS r7.Supers,.iM lH r7.Feats,.str r9.Name,.iM cS r9.Supers,.iM lH r9.Feats,.str qQ.Name,.iM cS qQ.Supers,.iM lH qQ.Feats,.str gA.Name,.iM cS gA.Supers,.iM lH gA.Feats,.str sO.Name,.iM cS sO.Supers,.iM lH sO.Feats,.str jJ.Name,.iM cS jJ.Supers,.iM lH jJ.Feats,.str hX.Name,.iM cS hX.Supers,.iM lH hX.Feats,.str IP.Name,.iM cS IP.Supers,.iM lH IP.Feats,.str yJ.Name,.iM cS yJ.Supers,.iM lH yJ.Feats,.str nN.Name,.iM cS nN.Supers,.iM lH nN.Feats] 138)],7⟩) rfl (uA Mq.h yV.h rfl rfl rfl rfl rfl rfl rfl) ?_);refine go ?_;obtain rfl:=sI J;exact rT (us:=[.sl 6 0 13 13]) (u:=.iM bS ([r1,r3,r5,r7,r9,qQ,gA,sO,jJ,hX,IP,yJ,nN])) (eA rfl (dL)) (fR 6 3)
def Px(n:Nat)(p1:Int):Option (GFS):=
 some (GFS.mk ([(aN.mk p1 [])]))
theorem ow(n:Nat)(p1:Int)(r:GFS)(J:Px n p1=some r):d5 prog 36 [.int .i64 p1] (.agg [.isl false (r.Nodes.map bA)]):=by
 unfold Px at J;refine kC 7 QL ?_;refine go ?_;refine bR ?_;refine go ?_;obtain rfl:=sI J;exact⟨.inr rfl,[.agg [.sl 1 0 1 1]],lZ (iP jF.h rfl (aZ nG.h) rfl rfl rfl) (dL),.agg [.iM bA ([(aN.mk p1 [])])],⟨[],0⟩,zF _,Gh.trans (Gh.trans (Gh.rowC 1) (lV 1 2)) (uM (.agg [.iM bA ([(aN.mk p1 [])])]) rfl),rfl,BU.h⟩
def ul(z6:Int)(bV:Int->(List Int)->Option ((List Int)))(cB:List Int):Option ((List Int)):=
 bV (IntKind.i64.wrap (z6+1)) cB
def Ix(z6:Int)(bV:Int->(List Int)->Option ((List Int)))(iD:aN):Nat->Int->(List Int)->Option ((List Int))
 |0,_,_=>none|m2+1,tU,vW=>
  cond (decide (tU<(iD.Arcs.length:Int))) (a8 (aB iD.Arcs tU) fun lD=>
   a8 (aB iD.Arcs tU) fun qK=>
   aF ((vW.length+2)*8<=140737488355328/\vW.length+2<=140737488355328) ((Ix z6 bV iD m2) (IntKind.i64.wrap (tU+1)) (vW++[lD.Feat,qK.To]))) (ul z6 bV vW)
def um  (l9:List Int):Option ((List Int)):=
 some l9
def PM(p1:GFS)(n:Nat):Nat->Int->(List Int)->Option ((List Int))
 |0,_,_=>none|m1+1,z6,l7=>
  cond (decide (z6<(p1.Nodes.length:Int))) (a8 (aB p1.Nodes z6) fun iD=>
   a8 (aB p1.Nodes z6) fun kQ=>
   aF ((l7.length+2)*8<=140737488355328/\l7.length+2<=140737488355328) (
   Ix z6 (PM p1 n m1) iD n 0 (l7++[kQ.Typex,(iD.Arcs.length:Int)]))) (um l7)
def Ia(n:Nat)(p1:GFS):Option ((List Int)):=
 PM p1 n n 0 ([(p1.Nodes.length:Int)])
theorem qi9(n:Nat)(p1:GFS)(r:(List Int))(J:Ia n p1=some r):d5 prog 80 [.agg [.isl false (p1.Nodes.map bA)]] (.isl false (r.map (cI .i64))):=by
 unfold Ia at J;refine kC 55 Cv ?_;refine go ?_;refine RS.step (u:=.vl 1 0 0 ([(p1.Nodes.length:Int)].length)) (X':=⟨[(1,.bv (cI .i64) ([(p1.Nodes.length:Int)]) 3 1 0),(0,.row [.iM bA p1.Nodes] 40)],2⟩) rfl (IX.bslv (cs:=(List.map (cI .i64) [(p1.Nodes.length:Int)]).flatten) tb_ok rfl fJ.h i5.h rfl rfl rfl rfl rfl rfl rfl rfl) rfl rfl ?_;refine go ?_;refine gL (fun m tm X=>∃z6 l7 t8,PM p1 n m z6 l7=some r/\tm=fr 55 [(1,.ptr 0 0 0),(3,.vl 1 t8 0 l7.length),(4,.i6 z6)]/\X=⟨Gt l7 t8 p1.Nodes,2⟩) (fun tm X=>∃l9 cH,um l9=some r/\tm=fr 55 [(3,.vl 1 cH 0 l9.length)]/\X=⟨Gt l9 cH p1.Nodes,2⟩) n ⟨0,[(p1.Nodes.length:Int)],0,J,rfl,rfl⟩ ?_ ?_;rintro _ _ ⟨l9,cH,J,rfl,rfl⟩;unfold um at J;refine go ?_;obtain rfl:=sI J;exact rT (us:=[.vl 1 cH 0 l9.length]) (u:=.iM (cI .i64) l9) (eA rfl (dL)) (fR 1 1);rintro(_|m1) _ _ ⟨z6,l7,t8,J,rfl,rfl⟩;cases J;unfold PM at J;refine gF J ?_ ?_<;>intro iT J;refine go ?_;apply aV;obtain⟨iD,dF,J⟩:=aC J;refine go ?_;refine aY dF ?_;obtain⟨kQ,eN,J⟩:=aC J;obtain⟨oW,J⟩:=d9 J;refine go ?_;refine aY eN ?_;refine go ?_;refine bR ?_;refine aP (u:=.vl 1 (t8+1) 0 ((l7++[kQ.Typex,(iD.Arcs.length:Int)]).length)) (X':=⟨(2,.row [.i6 kQ.Typex,.i6 (iD.Arcs.length:Int)] 3)::Gt (l7++[kQ.Typex,(iD.Arcs.length:Int)]) (t8+1) p1.Nodes,3⟩) rfl (uU rfl rfl rfl rfl (SC (cI .i64) ([kQ.Typex,(iD.Arcs.length:Int)]) fJ.h fJ.h i5.h rfl (m5 .i64) rfl (Ob (cI .i64) [kQ.Typex,(iD.Arcs.length:Int)] rfl rfl rfl rfl) oW)) ?_;refine go ?_;refine gL (fun m tm X=>∃tU vW BG,Ix z6 (PM p1 n m1) iD m tU vW=some r/\tm=fr 55 [(1,.ptr 0 0 0),(3,.vl 1 BG 0 vW.length),(4,.i6 z6),(5,.iM aU iD.Arcs),(6,.i6 tU)]/\X=⟨(2,.row [.i6 kQ.Typex,.i6 (iD.Arcs.length:Int)] 3)::Gt vW BG p1.Nodes,3⟩) (fun tm X=>∃cB jP,ul z6 (PM p1 n m1) cB=some r/\tm=fr 55 [(1,.ptr 0 0 0),(3,.vl 1 jP 0 cB.length),(4,.i6 z6)]/\X=⟨(2,.row [.i6 kQ.Typex,.i6 (iD.Arcs.length:Int)] 3)::Gt cB jP p1.Nodes,3⟩) n ⟨0,(l7++[kQ.Typex,(iD.Arcs.length:Int)]),(t8+1),J,rfl,rfl⟩ ?_ ?_;rintro _ _ ⟨cB,jP,J,rfl,rfl⟩;unfold ul at J;refine go ?_;exact lC ⟨_,cB,jP,J,rfl,rfl⟩;rintro(_|m2) _ _ ⟨tU,vW,BG,J,rfl,rfl⟩;cases J;unfold Ix at J;refine gF J ?_ ?_<;>intro sA J;refine go ?_;apply aV;obtain⟨lD,oB,J⟩:=aC J;obtain⟨qK,nW,J⟩:=aC J;obtain⟨rA,J⟩:=d9 J;refine go ?_;refine dE [(0,11)] ?_;refine gd ?_;refine cA oB ?_;refine gd ?_;refine cA nW ?_;refine gd ?_;refine eC ?_;refine RD.act (u:=.vl 1 (BG+1) 0 ((vW++[lD.Feat,qK.To]).length)) (X':=⟨(3,.row [.i6 lD.Feat,.i6 qK.To] 3)::(2,.row [.i6 kQ.Typex,.i6 (iD.Arcs.length:Int)] 3)::Gt (vW++[lD.Feat,qK.To]) (BG+1) p1.Nodes,4⟩) rfl (uU rfl rfl rfl rfl (SC (cI .i64) ([lD.Feat,qK.To]) fJ.h fJ.h i5.h rfl (m5 .i64) rfl (Ob (cI .i64) [lD.Feat,qK.To] rfl rfl rfl rfl) rA)) rfl rfl ?_;refine gd ?_;refine bI ⟨by kernel_rfl,⟨iQ rfl,trivial⟩,?_⟩;refine go ?_;exact lC ⟨_,(vW++[lD.Feat,qK.To]),(BG+1),J,rfl,rfl⟩;refine go ?_;exact xC ⟨vW,BG,J,rfl,rfl⟩;refine go ?_;exact xC ⟨l7,t8,J,rfl,rfl⟩
def Sx: Option (Int):=
 some 0
def Iy(r3:(List Int))(r5:(List Int)):Nat->Int->Option (Int)
 |0,_=>none|m1+1,eB=>a8 (cond (decide (eB<(r3.length:Int))) (some (decide (eB<(r5.length:Int)))) (some false)) fun vE=>cond vE (a8 (aB r3 eB) fun rL=>a8 (aB r5 eB) fun NO=>cond (decide (rL<NO)) (some (-1)) (a8 (aB r3 eB) fun kD=>a8 (aB r5 eB) fun oH=>cond (decide (kD>oH)) (some 1) ((Iy r3 r5 m1) (IntKind.i64.wrap (eB+1))))) (Sx)
def Rl(n:Nat)(p1:GFS)(p2:GFS):Option (Int):=
 a8 (Ia n p1) fun r3=>
 a8 (Ia n p2) fun r5=>
 Iy r3 r5 n 0
theorem qpr(n:Nat)(p1:GFS)(p2:GFS)(r:Int)(J:Rl n p1 p2=some r):d5 prog 50 [.agg [.isl false (p1.Nodes.map bA)],.agg [.isl false (p2.Nodes.map bA)]] (.int .i64 r):=by
 unfold Rl at J;refine gI 42 Ys ?_;obtain⟨r3,h4,J⟩:=aC J;refine go ?_;refine aR rfl (pC (qi9 n p1 r3 h4) _) Cv ?_;obtain⟨r5,h6,J⟩:=aC J;refine go ?_;refine aR rfl (pC (qi9 n p2 r5 h6) _) Cv ?_;refine go ?_;refine gL (fun m tm X=>∃eB,Iy r3 r5 m eB=some r/\tm=fr 42 [(5,.iM (cI .i64) r3),(6,.iM (cI .i64) r5),(7,.i6 eB)]/\X=⟨[(1,.row [.iM bA p2.Nodes] 40),(0,.row [.iM bA p1.Nodes] 40)],2⟩) (fun tm X=>Sx=some r/\tm=fr 42 []/\X=⟨[(1,.row [.iM bA p2.Nodes] 40),(0,.row [.iM bA p1.Nodes] 40)],2⟩) n ⟨0,J,rfl,rfl⟩ ?_ ?_;rintro _ _ ⟨J,rfl,rfl⟩;unfold Sx at J;exact gx J;rintro(_|m1) _ _ ⟨eB,J,rfl,rfl⟩;cases J;unfold Iy at J;obtain⟨vE,eN,J⟩:=aC J;refine gn ?_;refine dM (fun tm X=>tm=fr 42 [(5,.iM (cI .i64) r3),(6,.iM (cI .i64) r5),(7,.i6 eB),(21,.bool vE)]/\X=⟨[(1,.row [.iM bA p2.Nodes] 40),(0,.row [.iM bA p1.Nodes] 40)],2⟩) ?_ ?_;rintro _ _ ⟨rfl,rfl⟩;refine gF J ?_ ?_<;>intro oW J;refine go ?_;apply aV;obtain⟨rL,dD,J⟩:=aC J;obtain⟨NO,rE,J⟩:=aC J;refine go ?_;refine dE [] ?_;refine gd ?_;refine cA dD ?_;refine gd ?_;refine cA rE ?_;refine gd ?_;refine bI ⟨by kernel_rfl,trivial,?_⟩;refine gF J ?_ ?_<;>intro m8 J;exact gx J;obtain⟨kD,mW,J⟩:=aC J;obtain⟨oH,qH,J⟩:=aC J;refine go ?_;refine dE [] ?_;refine gd ?_;refine cA mW ?_;refine gd ?_;refine cA qH ?_;refine gd ?_;refine bI ⟨by kernel_rfl,trivial,?_⟩;refine gF J ?_ ?_<;>intro mV J;exact gx J;refine go ?_;exact lC ⟨_,J,rfl,rfl⟩;refine go ?_;exact xC ⟨J,rfl,rfl⟩;refine go ?_;rcases gB eN with⟨dF,eN⟩|⟨dF,eN⟩;exact gy eN;exact gy eN
def HD(n:Nat)(p1:GFS)(p2:GFS):Option (Bool):=
 a8 (Rl n p1 p2) fun r3=>some (r3==0)
theorem If(n:Nat)(p1:GFS)(p2:GFS)(r:Bool)(J:HD n p1 p2=some r):d5 prog 25 [.agg [.isl false (p1.Nodes.map bA)],.agg [.isl false (p2.Nodes.map bA)]] (.bool r):=by
 unfold HD at J;refine gI 9 CM ?_;obtain⟨r3,h4,J⟩:=aC J;refine go ?_;refine aR rfl (pC (qpr n p1 p2 r3 h4) _) Ys ?_;exact gx J
def Ou(n:Nat)(p1:List aN):Option (GFS):=
 some (GFS.mk p1)
theorem ny(n:Nat)(p1:List aN)(r:GFS)(J:Ou n p1=some r):d5 prog 34 [.isl false (p1.map bA)] (.agg [.isl false (r.Nodes.map bA)]):=by
 unfold Ou at J;refine kC 5 QM ?_;refine go ?_;obtain rfl:=sI J;exact rT (lZ (iP jF.h rfl (aZ nG.h) rfl rfl rfl) (dL)) (uM _ rfl)
def a_(p1:Int)(gT:List aK):Option (aN):=
 some (aN.mk p1 gT)
def yl(p1:Int)(p2:List Int):Nat->Int->(List aK)->Option (aN)
 |0,_,_=>none|m1+1,z9,l10=>
  cond (decide ((IntKind.i64.wrap (z9+1))<(p2.length:Int))) (a8 (aB p2 z9) fun sE=>
   a8 (aB p2 (IntKind.i64.wrap (z9+1))) fun rL=>
   aF ((l10.length+1)*16<=140737488355328/\l10.length+1<=140737488355328) ((yl p1 p2 m1) (IntKind.i64.wrap (z9+2)) (l10++[(aK.mk sE rL)]))) (a_ p1 l10)
def YO(n:Nat)(p1:Int)(p2:List Int):Option (aN):=
 yl p1 p2 n 0 ([]:List aK)
theorem Rf(n:Nat)(p1:Int)(p2:List Int)(r:aN)(J:YO n p1 p2=some r):d5 prog 35 [.int .i64 p1,.isl false (p2.map (cI .i64))] (.agg (bA r)):=by
 unfold YO at J;refine gI 32 G8 ?_;refine gr ?_;refine gr ?_;refine gr ?_;refine cE (tm':=fr 32 [(1,.iM (cI .i64) p2),(4,.ptr 0 0 0),(5,.ptr 1 0 0),(6,.i6 0)]) (X':=⟨[(2,.bv aU ([]:List aK) 98 2 0),(1,.row [.i6 p1,.vl 2 0 0 (([]:List aK).length)] 78),(0,.row [.i6 0,.nils] 78)],3⟩) (Gh.trans (xI 1 1 98 2 (by decide) NZ rfl rfl) (oF ⟨rfl,rfl,rfl,rfl,trivial⟩ rfl)) NZ ?_;refine gL (fun m tm X=>∃z9 l10 lN,yl p1 p2 m z9 l10=some r/\tm=fr 32 [(1,.iM (cI .i64) p2),(4,.ptr 0 0 0),(5,.ptr 1 0 0),(6,.i6 z9)]/\X=⟨[(2,.bv aU l10 98 2 lN),(1,.row [.i6 p1,.vl 2 lN 0 l10.length] 78),(0,.row [.i6 0,.nils] 78)],3⟩) (fun tm X=>∃gT m9,a_ p1 gT=some r/\tm=fr 32 [(4,.ptr 0 0 0),(5,.ptr 1 0 0)]/\X=⟨[(2,.bv aU gT 98 2 m9),(1,.row [.i6 p1,.vl 2 m9 0 gT.length] 78),(0,.row [.i6 0,.nils] 78)],3⟩) n ⟨0,([]:List aK),0,J,rfl,rfl⟩ ?_ ?_;rintro _ _ ⟨gT,m9,J,rfl,rfl⟩;unfold a_ at J;refine go ?_;obtain rfl:=sI J;exact rT (us:=[.agg [.i6 p1,.vl 2 m9 0 gT.length]]) (u:=.agg [.i6 p1,.iM aU gT]) (lZ (iP wD.h rfl (aZ mD.h) rfl rfl rfl) (dL)) (fR 2 2);rintro(_|m1) _ _ ⟨z9,l10,lN,J,rfl,rfl⟩;cases J;unfold yl at J;refine gF J ?_ ?_<;>intro iA J;refine go ?_;apply aV;obtain⟨sE,oW,J⟩:=aC J;obtain⟨rL,dD,J⟩:=aC J;obtain⟨iX,J⟩:=d9 J;refine go ?_;refine dE [(0,12),(1,12)] ?_;refine gd ?_;refine cA oW ?_;refine gd ?_;refine cA dD ?_;refine gd ?_;refine eC ?_;refine eC ?_;refine gd ?_;refine qJ ?_;refine bI ⟨by kernel_rfl,⟨jW wD.h rfl (aZ jY.h) rfl rfl rfl,⟨oO eJ.h rfl rfl rfl rfl,trivial⟩⟩,?_⟩;refine go ?_;exact lC ⟨_,(l10++[(aK.mk sE rL)]),(lN+1),J,rfl,rfl⟩;refine go ?_;exact xC ⟨l10,lN,J,rfl,rfl⟩
end Go.Proofs
