import Derived.Test.YtldlchbgolpkaaaGreatP12
set_option linter.all false
namespace Go.Proofs
open Go Go.Rx Go.Vx Tryz
instance:TbP prog tb:=⟨tb_ok⟩
set_option maxRecDepth 20000
set_option maxHeartbeats 4000000
set_option synthInstance.maxSize 4000
set_option synthInstance.maxHeartbeats 200000
structure mN where
 Feat:Int
 Value:Int
def uK(x:mN):I U:=[.int .i64 x.Feat,.int .i64 x.Value]
instance{a0:Int}{a1:Int}:DeC uK [.int .i64 a0,.int .i64 a1] (mN.mk a0 a1):=⟨rfl⟩
theorem qno(n:Nat)(x:mN):aL n (uK x):=by simp only[uK,aL,bC,true_and,and_true]
theorem qvn(x:mN):(uK x).length=2:=rfl
instance:gG uK 2:=⟨qvn⟩
instance:BF uK:=⟨qno⟩
structure dI where
 Name:I UInt8
 Code:I Int
 Supers:I Int
 Feats:I mN
def fK(x:dI):I U:=[.str x.Name,.isl false (x.Code.map (cI .u64)),.isl false (x.Supers.map (cI .i64)),.isl false (x.Feats.map uK)]
instance{a0:I UInt8}{a1:I Int}{a2:I Int}{a3:I mN}:DeC fK [.str a0,.isl false (a1.map (cI .u64)),.isl false (a2.map (cI .i64)),.isl false (a3.map uK)] (dI.mk a0 a1 a2 a3):=⟨rfl⟩
theorem vr(n:Nat)(x:dI):aL n (fK x):=by simp only[fK,aL,bC,true_and,and_true];exact⟨uL _ (fun q=>Gm _ .u64 q) _,uL _ (fun q=>Gm _ .i64 q) _,uL _ (fun q=>qno _ q) _⟩
theorem p_(x:dI):(fK x).length=4:=rfl
instance:gG fK 4:=⟨p_⟩
instance:BF fK:=⟨vr⟩
instance(n:Nat)(x:dI):fB n (fK x):=⟨vr n x⟩
structure eB where
 Name:I UInt8
 Intro:Int
def gR(x:eB):I U:=[.str x.Name,.int .i64 x.Intro]
instance{a0:I UInt8}{a1:Int}:DeC gR [.str a0,.int .i64 a1] (eB.mk a0 a1):=⟨rfl⟩
theorem O_(n:Nat)(x:eB):aL n (gR x):=by simp only[gR,aL,bC,true_and,and_true]
theorem qt0(x:eB):(gR x).length=2:=rfl
instance:gG gR 2:=⟨qt0⟩
instance:BF gR:=⟨O_⟩
structure cB where
 Types:I dI
 Feats:I eB
def eF(x:cB):I U:=[.isl false (x.Types.map fK),.isl false (x.Feats.map gR)]
theorem qig(n:Nat)(x:cB):aL n (eF x):=by simp only[eF,aL,bC,true_and,and_true];exact⟨uL _ (fun q=>vr _ q) _,uL _ (fun q=>O_ _ q) _⟩
theorem qpr(x:cB):(eF x).length=2:=rfl
instance:gG eF 2:=⟨qpr⟩
instance(n:Nat)(x:cB):fB n (eF x):=⟨qig n x⟩
theorem qk9(K:Nat)(b:B)(sz:Nat)(x:cB):k7 K b sz (eF x)=eF x:=tE _ _ _ (qig K x)
structure pG where
 Feat:I UInt8
 Value:I UInt8
def lR(x:pG):I U:=[.str x.Feat,.str x.Value]
instance{a0:I UInt8}{a1:I UInt8}:DeC lR [.str a0,.str a1] (pG.mk a0 a1):=⟨rfl⟩
theorem qk4(n:Nat)(x:pG):aL n (lR x):=by simp only[lR,aL,bC,true_and,and_true]
theorem qqw(x:pG):(lR x).length=2:=rfl
instance:gG lR 2:=⟨qqw⟩
instance:BF lR:=⟨qk4⟩
structure bL where
 Name:I UInt8
 Supers:I (I UInt8)
 Feats:I pG
def bU(x:bL):I U:=[.str x.Name,.isl false (x.Supers.map cS),.isl false (x.Feats.map lR)]
theorem qk5(n:Nat)(x:bL):aL n (bU x):=by simp only[bU,aL,bC,true_and,and_true];exact⟨uL _ (fun q=>z9h _ q) _,uL _ (fun q=>qk4 _ q) _⟩
theorem qqx(x:bL):(bU x).length=3:=rfl
instance:gG bU 3:=⟨qqx⟩
instance:BF bU:=⟨qk5⟩
instance(n:Nat)(x:bL):fB n (bU x):=⟨qk5 n x⟩
structure dQ where
 Name:I UInt8
 Code:I Int
instance:Inhabited dQ:=⟨.mk default default⟩
def gI(x:dQ):I U:=[.str x.Name,.isl false (x.Code.map (cI .u64))]
instance{a0:I UInt8}{a1:I Int}:DeC gI [.str a0,.isl false (a1.map (cI .u64))] (dQ.mk a0 a1):=⟨rfl⟩
theorem qp2(n:Nat)(x:dQ):aL n (gI x):=by simp only[gI,aL,bC,true_and,and_true];exact uL _ (fun q=>Gm _ .u64 q) _
theorem T6(x:dQ):(gI x).length=2:=rfl
instance:gG gI 2:=⟨T6⟩
instance:BF gI:=⟨qp2⟩
instance(n:Nat)(x:dQ):fB n (gI x):=⟨qp2 n x⟩
structure aK where
 Feat:Int
 To:Int
def aU(x:aK):I U:=[.int .i64 x.Feat,.int .i64 x.To]
instance{a0:Int}{a1:Int}:DeC aU [.int .i64 a0,.int .i64 a1] (aK.mk a0 a1):=⟨rfl⟩
theorem Hr(n:Nat)(x:aK):aL n (aU x):=by simp only[aU,aL,bC,true_and,and_true]
theorem sF(x:aK):(aU x).length=2:=rfl
instance:gG aU 2:=⟨sF⟩
instance:BF aU:=⟨Hr⟩
instance(n:Nat)(x:aK):fB n (aU x):=⟨Hr n x⟩
structure aM where
 Typex:Int
 Arcs:I aK
def aY(x:aM):I U:=[.int .i64 x.Typex,.isl false (x.Arcs.map aU)]
instance{a0:Int}{a1:I aK}:DeC aY [.int .i64 a0,.isl false (a1.map aU)] (aM.mk a0 a1):=⟨rfl⟩
instance{a0:Int}:DeC aY [.int .i64 a0,.isl false []] (aM.mk a0 []):=⟨rfl⟩
theorem P2(n:Nat)(x:aM):aL n (aY x):=by simp only[aY,aL,bC,true_and,and_true];exact uL _ (fun q=>Hr _ q) _
theorem T2(x:aM):(aY x).length=2:=rfl
instance:gG aY 2:=⟨T2⟩
instance:BF aY:=⟨P2⟩
instance(n:Nat)(x:aM):fB n (aY x):=⟨P2 n x⟩
structure GFS where
 Nodes:I aM
def qJ(x:GFS):I U:=[.isl false (x.Nodes.map aY)]
instance{a0:I aM}:DeC qJ [.isl false (a0.map aY)] (GFS.mk a0):=⟨rfl⟩
theorem qyd(n:Nat)(x:GFS):aL n (qJ x):=by simp only[qJ,aL,bC,true_and,and_true];exact uL _ (fun q=>P2 _ q) _
theorem z81(x:GFS):(qJ x).length=1:=rfl
instance:gG qJ 1:=⟨z81⟩
instance:BF qJ:=⟨qyd⟩
instance(n:Nat)(x:GFS):fB n (qJ x):=⟨qyd n x⟩
instance:xW tb 27 [.nils,.nils] [(0,1),(1,1)]:=⟨A7 pN.h v4.h rfl (by kernel_rfl)⟩
instance:xW tb 40 [.nils] [(0,1)]:=⟨A7 k9.h oK.h rfl (by kernel_rfl)⟩
instance:xW tb 78 [.int .i64 0,.nils] [(0,1),(1,1)]:=⟨A7 wB.h mO.h rfl (by kernel_rfl)⟩
instance:xW tb 98 [.int .i64 0,.int .i64 0] [(0,1),(1,1)]:=⟨A7 xY.h kO.h rfl (by kernel_rfl)⟩
instance qp:xW tb 128 [.str [],.nils] [(0,1),(1,1)]:=⟨A7 RV.h tG.h rfl (by kernel_rfl)⟩
instance:xW tb 132 [.str [],.nils,.nils,.nils] [(0,1),(1,1),(2,1),(3,1)]:=⟨A7 IF.h JZ.h rfl (by kernel_rfl)⟩
instance:xW tb 138 [.str [],.nils,.nils] [(0,1),(1,1),(2,1)]:=⟨A7 xZ.h yN.h rfl (by kernel_rfl)⟩
instance:xW tb 141 [.str [],.str []] [(0,1),(1,1)]:=⟨A7 Nl.h UC.h rfl (by kernel_rfl)⟩
instance:xW tb 176 [.int .i64 0,.int .i64 0] [(0,1),(1,1)]:=⟨A7 Nk.h Vs.h rfl (by kernel_rfl)⟩
instance:xW tb 187 [.str [],.int .i64 0] [(0,1),(1,1)]:=⟨A7 Nj.h Vr.h rfl (by kernel_rfl)⟩
abbrev SO(a)(b:Nat):=([(1,.bv (cL (cI .u64)) a 126 1 b),(0,.row [] 126)]:I (Nat×B))
abbrev n8(a)(b:Nat):=([(0,.bv cS a 9 1 b)]:I (Nat×B))
abbrev Hf(a)(b:Nat)(c):=([(1,.bv (cI .i64) a 3 1 b),(0,.row [.iM aY c] 40)]:I (Nat×B))
abbrev EU(a)(b:Nat):=([(0,.bv (cI .i64) a 3 1 b)]:I (Nat×B))
abbrev He:=([(0,.row [.str [],.nils,.nils] 138)]:I (Nat×B))
abbrev Pq(a:U)(b)(c)(d:Nat):=([(2,.row [a,.iM (cI .u64) b] 128),(1,.bv gI c 128 2 d)]:I (Nat×B))
abbrev qyt:=([(1,.row [.str ([70]),.str ([116,111,112]),.str ([71]),.str ([116,111,112])] 141),(0,.row [.nils,.nils] 27)]:I (Nat×B))
def uj: V (Int):=
 some 0
def ZN(p1:I bL):Nat->Int->V (Int)
 |0,_=>none|m1+1,z5=>cond (decide (z5<(p1.length:Int))) (a8 (a8 (aB p1 z5) fun x7=>cond (decide ((x7.Supers.length:Int)>256)) (some true) (a8 (aB p1 z5) fun x10=>some (decide ((x10.Feats.length:Int)>256)))) fun LJ=>cond LJ (some 7) ((ZN p1 m1) (IntKind.i64.wrap (z5+1)))) (uj)
def Rh(n:Nat)(p1:I bL):V (Int):=
 cond (decide ((p1.length:Int)>256)) (some 7) (ZN p1 n 0)
theorem qtk(n:Nat)(p1:I bL)(r:Int)(J:Rh n p1=some r):cY prog 122 [.isl false (p1.map bU)] (.int .i64 r):=by unfold Rh at J;refine kJ 29 VO ?_;refine gF J ?_ ?_<;>intro h2 J;exact gx J;refine go ?_;refine gL (fun m tm O=>∃z5,ZN p1 m z5=some r/\tm=fr 29 [(0,.iM bU p1),(3,.i6 z5)]/\O=⟨[],0⟩) (fun tm O=>uj=some r/\tm=fr 29 []/\O=⟨[],0⟩) n ⟨0,J,rfl,rfl⟩ ?_ ?_;rintro _ _ ⟨J,rfl,rfl⟩;unfold uj at J;exact gx J;rintro(_|m1) _ _ ⟨z5,J,rfl,rfl⟩;cases J;unfold ZN at J;refine gF J ?_ ?_<;>intro h6 J;refine go ?_;apply aV;obtain⟨LJ,dG,J⟩:=aC J;refine gn ?_;refine dO (fun tm O=>tm=fr 29 [(0,.iM bU p1),(3,.i6 z5),(28,.bool LJ)]/\O=⟨[],0⟩) ?_ ?_;rintro _ _ ⟨rfl,rfl⟩;refine gF J ?_ ?_<;>intro iE J;exact gx J;refine go ?_;exact lC ⟨_,J,rfl,rfl⟩;obtain⟨x7,h8,dG⟩:=aC dG;refine go ?_;refine aZ h8 ?_;refine go ?_;rcases gB dG with⟨h9,dG⟩|⟨h9,dG⟩;exact gy dG;obtain⟨x10,iY,dG⟩:=aC dG;obtain rfl:=sI dG;refine go ?_;refine aZ iY ?_;refine go ?_;exact xC ⟨rfl,rfl⟩;refine go ?_;exact xC ⟨J,rfl,rfl⟩
def Z6(n:Nat)(p1:Int):V (Bool):=
 a8 (cond (decide (p1>=48)) (some (decide (p1<=57))) (some false)) fun b3=>some b3
theorem qm3(n:Nat)(p1:Int)(r:Bool)(J:Z6 n p1=some r):cY prog 171 [.int .u8 p1] (.bool r):=by unfold Z6 at J;refine kJ 9 L1 ?_;obtain⟨b3,h4,J⟩:=aC J;refine gr ?_;refine dO (fun tm O=>tm=fr 9 [(2,.bool b3)]/\O=⟨[],0⟩) ?_ ?_;rintro _ _ ⟨rfl,rfl⟩;exact gx J;refine go ?_;rcases gB h4 with⟨h2,h4⟩|⟨h2,h4⟩;exact gy h4;exact gy h4
def yf(n:Nat)(p1:Int):V (Bool):=
 a8 (cond (decide (p1>=65)) (some (decide (p1<=90))) (some false)) fun b3=>some b3
theorem qtc(n:Nat)(p1:Int)(r:Bool)(J:yf n p1=some r):cY prog 174 [.int .u8 p1] (.bool r):=by unfold yf at J;refine kJ 9 V5 ?_;obtain⟨b3,h4,J⟩:=aC J;refine gr ?_;refine dO (fun tm O=>tm=fr 9 [(2,.bool b3)]/\O=⟨[],0⟩) ?_ ?_;rintro _ _ ⟨rfl,rfl⟩;exact gx J;refine go ?_;rcases gB h4 with⟨h2,h4⟩|⟨h2,h4⟩;exact gy h4;exact gy h4
def Rn(n:Nat)(p1:Int):V (Bool):=
 a8 (cond (decide (p1>=97)) (some (decide (p1<=122))) (some false)) fun b3=>some b3
theorem qm4(n:Nat)(p1:Int)(r:Bool)(J:Rn n p1=some r):cY prog 175 [.int .u8 p1] (.bool r):=by unfold Rn at J;refine kJ 9 KZ ?_;obtain⟨b3,h4,J⟩:=aC J;refine gr ?_;refine dO (fun tm O=>tm=fr 9 [(2,.bool b3)]/\O=⟨[],0⟩) ?_ ?_;rintro _ _ ⟨rfl,rfl⟩;exact gx J;refine go ?_;rcases gB h4 with⟨h2,h4⟩|⟨h2,h4⟩;exact gy h4;exact gy h4
def Qv(n:Nat)(p1:Int)(p2:Bool):V (Bool):=
 a8 (a8 (Z6 n p1) fun r3=>cond r3 (some true) (cond (p1==45) (some true) (cond p2 (a8 (yf n p1) fun r8=>cond r8 (some true) (cond (!p2) (a8 (Rn n p1) fun eV=>some eV) (some false))) (cond (!p2) (a8 (Rn n p1) fun sV=>some sV) (some false))))) fun vE=>some vE
theorem qw4(n:Nat)(p1:Int)(p2:Bool)(r:Bool)(J:Qv n p1 p2=some r):cY prog 172 [.int .u8 p1,.bool p2] (.bool r):=by
 unfold Qv at J;refine gP 26 V6 ?_;obtain⟨vE,dF,J⟩:=aC J;refine gr ?_;refine dO (fun tm O=>tm=fr 26 [(4,.bool vE)]/\O=⟨[],0⟩) ?_ ?_;rintro _ _ ⟨rfl,rfl⟩;exact gx J;obtain⟨r3,h4,dF⟩:=aC dF;refine go ?_;refine aR rfl (pC (qm3 n p1 r3 h4) _) L1 ?_;refine go ?_;rcases gB dF with⟨h5,dF⟩|⟨h5,dF⟩;obtain rfl:=sI dF;refine go ?_
 repeat refine RS.no (GO rfl rfl rfl) rfl rfl ?_
 refine go ?_
 repeat refine RS.no (GO rfl rfl rfl) rfl rfl ?_
 refine go ?_;exact xC ⟨rfl,rfl⟩;refine go ?_;rcases gB dF with⟨h6,dF⟩|⟨h6,dF⟩;obtain rfl:=sI dF;refine go ?_
 repeat refine RS.no (GO rfl rfl rfl) rfl rfl ?_
 refine go ?_
 repeat refine RS.no (GO rfl rfl rfl) rfl rfl ?_
 refine go ?_;exact xC ⟨rfl,rfl⟩;refine go ?_;rcases gB dF with⟨h7,dF⟩|⟨h7,dF⟩;obtain⟨r8,h9,dF⟩:=aC dF;refine go ?_;refine aR rfl (pC (qtc n p1 r8 h9) _) V5 ?_;refine go ?_;rcases gB dF with⟨fH,dF⟩|⟨fH,dF⟩;obtain rfl:=sI dF;refine go ?_
 repeat refine RS.no (GO rfl rfl rfl) rfl rfl ?_
 refine go ?_;exact xC ⟨rfl,rfl⟩;refine go ?_;rcases gB dF with⟨iY,dF⟩|⟨iY,dF⟩;obtain⟨eV,dG,dF⟩:=aC dF;obtain rfl:=sI dF;refine go ?_;refine aR rfl (pC (qm4 n p1 eV dG) _) KZ ?_;refine go ?_;exact xC ⟨rfl,rfl⟩;exact gy dF;refine go ?_;rcases gB dF with⟨iE,dF⟩|⟨iE,dF⟩;obtain⟨sV,nV,dF⟩:=aC dF;obtain rfl:=sI dF;refine go ?_;refine aR rfl (pC (qm4 n p1 sV nV) _) KZ ?_;refine go ?_;exact xC ⟨rfl,rfl⟩;exact gy dF
def sb: V (Bool):=
 some true
def ZR(p1:I UInt8)(p2:Bool)(n:Nat):Nat->Int->V (Bool)
 |0,_=>none|m1+1,dX=>cond (decide (dX<(p1.length:Int))) (a8 (Y0 p1 dX) fun nE=>a8 (Qv n nE p2) fun sC=>cond (!sC) (some false) ((ZR p1 p2 n m1) (IntKind.i64.wrap (dX+1)))) (sb)
def Ib(n:Nat)(p1:I UInt8)(p2:Bool):V (Bool):=
 a8 (cond (decide ((p1.length:Int)<1)) (some true) (cond (decide ((p1.length:Int)>32)) (some true) (a8 (Y0 p1 0) fun x5=>a8 (Z6 n x5) fun r7=>cond r7 (some true) (a8 (Y0 p1 0) fun x10=>some (x10==45))))) fun LJ=>cond LJ (some false) (ZR p1 p2 n n 0)
theorem qm5(n:Nat)(p1:I UInt8)(p2:Bool)(r:Bool)(J:Ib n p1 p2=some r):cY prog 165 [.str p1,.bool p2] (.bool r):=by unfold Ib at J;refine gP 36 L2 ?_;obtain⟨LJ,dG,J⟩:=aC J;refine gr ?_;refine dO (fun tm O=>tm=fr 36 [(0,.str p1),(1,.bool p2),(23,.bool LJ)]/\O=⟨[],0⟩) ?_ ?_;rintro _ _ ⟨rfl,rfl⟩;refine gF J ?_ ?_<;>intro iE J;exact gx J;refine go ?_;refine gL (fun m tm O=>∃dX,ZR p1 p2 n m dX=some r/\tm=fr 36 [(0,.str p1),(1,.bool p2),(5,.i6 dX)]/\O=⟨[],0⟩) (fun tm O=>sb=some r/\tm=fr 36 []/\O=⟨[],0⟩) n ⟨0,J,rfl,rfl⟩ ?_ ?_;rintro _ _ ⟨J,rfl,rfl⟩;unfold sb at J;exact gx J;rintro(_|m1) _ _ ⟨dX,J,rfl,rfl⟩;cases J;unfold ZR at J;refine go ?_;refine aO (u:=.i6 (p1.length:Int)) rfl (OD rfl rfl rfl (by simp only[lenU,M4.h])) ?_;refine gF J ?_ ?_<;>intro iS J;refine go ?_;apply aV;obtain⟨nE,lS,J⟩:=aC J;obtain⟨sC,mR,J⟩:=aC J;refine go ?_;refine aO (u:=.int .u8 nE) rfl (fy M4.h rfl rfl lS) ?_;refine go ?_;refine aR rfl (pC (qw4 n nE p2 sC mR) _) V6 ?_;refine gF J ?_ ?_<;>intro qC J;exact gx J;refine go ?_;exact lC ⟨_,J,rfl,rfl⟩;refine go ?_;exact xC ⟨J,rfl,rfl⟩;refine go ?_;refine aO (u:=.i6 (p1.length:Int)) rfl (OD rfl rfl rfl (by simp only[lenU,M4.h])) ?_;refine go ?_;rcases gB dG with⟨h3,dG⟩|⟨h3,dG⟩;exact gy dG;refine go ?_;refine RS.w (u:=.i6 (p1.length:Int)) rfl (OD rfl rfl rfl (by simp only[lenU,M4.h])) ?_;refine go ?_;rcases gB dG with⟨h4,dG⟩|⟨h4,dG⟩;exact gy dG;obtain⟨x5,h6,dG⟩:=aC dG;obtain⟨r7,h8,dG⟩:=aC dG;refine go ?_;refine RS.w (u:=.int .u8 x5) rfl (fy M4.h rfl rfl h6) (aR rfl (pC (qm3 n x5 r7 h8) _) L1 ?_);refine go ?_;rcases gB dG with⟨h9,dG⟩|⟨h9,dG⟩;exact gy dG;obtain⟨x10,iY,dG⟩:=aC dG;obtain rfl:=sI dG;refine go ?_;refine RS.w (u:=.int .u8 x10) rfl (fy M4.h rfl rfl iY) ?_;refine go ?_;exact xC ⟨rfl,rfl⟩
def Qw(n:Nat)(p1:I UInt8):V (Bool):=
 a8 (Ib n p1 false) fun r2=>some r2
theorem qw3(n:Nat)(p1:I UInt8)(r:Bool)(J:Qw n p1=some r):cY prog 147 [.str p1] (.bool r):=by unfold Qw at J;refine kJ 5 VC ?_;obtain⟨r2,h3,J⟩:=aC J;refine go ?_;refine aR rfl (pC (qm5 n p1 false r2 h3) _) L2 ?_;exact gx J
def ly: V (Int):=
 some (-1)
def ZE(p1:I bL)(p2:I UInt8):Nat->Int->V (Int)
 |0,_=>none|m1+1,z6=>cond (decide (z6<(p1.length:Int))) (a8 (aB p1 z6) fun x8=>cond (lQ x8.Name p2) (some z6) ((ZE p1 p2 m1) (IntKind.i64.wrap (z6+1)))) (ly)
def JD(n:Nat)(p1:I bL)(p2:I UInt8):V (Int):=
 ZE p1 p2 n 0
theorem Ih(n:Nat)(p1:I bL)(p2:I UInt8)(r:Int)(J:JD n p1 p2=some r):cY prog 148 [.isl false (p1.map bU),.str p2] (.int .i64 r):=by unfold JD at J;refine gP 20 tX ?_;refine go ?_;refine gL (fun m tm O=>∃z6,ZE p1 p2 m z6=some r/\tm=fr 20 [(0,.iM bU p1),(1,.str p2),(5,.i6 z6)]/\O=⟨[],0⟩) (fun tm O=>ly=some r/\tm=fr 20 []/\O=⟨[],0⟩) n ⟨0,J,rfl,rfl⟩ ?_ ?_;rintro _ _ ⟨J,rfl,rfl⟩;unfold ly at J;exact gx J;rintro(_|m1) _ _ ⟨z6,J,rfl,rfl⟩;cases J;unfold ZE at J;refine gF J ?_ ?_<;>intro h7 J;refine go ?_;apply aV;obtain⟨x8,h9,J⟩:=aC J;refine go ?_;refine aZ h9 ?_;refine go ?_;refine aO (u:=.bool (lQ x8.Name p2)) rfl (GU rfl rfl rfl rfl) ?_;refine gF J ?_ ?_<;>intro fH J;exact gx J;refine go ?_;exact lC ⟨_,J,rfl,rfl⟩;refine go ?_;exact xC ⟨J,rfl,rfl⟩
def ul: V (Int):=
 some 0
def ZP(p1:I bL)(n:Nat):Nat->Int->V (Int)
 |0,_=>none|m1+1,z4=>cond (decide (z4<(p1.length:Int))) (a8 (aB p1 z4) fun x6=>a8 (Qw n x6.Name) fun r8=>cond (!r8) (some 1) (a8 (aB p1 z4) fun fZ=>a8 (JD n p1 fZ.Name) fun gK=>cond (decide (gK<z4)) (some 4) ((ZP p1 n m1) (IntKind.i64.wrap (z4+1))))) (ul)
def yd(n:Nat)(p1:I bL):V (Int):=
 ZP p1 n n 0
theorem qti(n:Nat)(p1:I bL)(r:Int)(J:yd n p1=some r):cY prog 123 [.isl false (p1.map bU)] (.int .i64 r):=by unfold yd at J;refine kJ 26 VN ?_;refine go ?_;refine gL (fun m tm O=>∃z4,ZP p1 n m z4=some r/\tm=fr 26 [(0,.iM bU p1),(3,.i6 z4)]/\O=⟨[],0⟩) (fun tm O=>ul=some r/\tm=fr 26 []/\O=⟨[],0⟩) n ⟨0,J,rfl,rfl⟩ ?_ ?_;rintro _ _ ⟨J,rfl,rfl⟩;unfold ul at J;exact gx J;rintro(_|m1) _ _ ⟨z4,J,rfl,rfl⟩;cases J;unfold ZP at J;refine gF J ?_ ?_<;>intro h5 J;refine go ?_;apply aV;obtain⟨x6,h7,J⟩:=aC J;obtain⟨r8,h9,J⟩:=aC J;refine go ?_;refine aZ h7 ?_;refine go ?_;refine aR rfl (pC (qw3 n x6.Name r8 h9) _) VC ?_;refine gF J ?_ ?_<;>intro fH J;exact gx J;obtain⟨fZ,eC,J⟩:=aC J;obtain⟨gK,iE,J⟩:=aC J;refine go ?_;refine aZ eC ?_;refine go ?_;refine aR rfl (pC (Ih n p1 fZ.Name gK iE) _) tX ?_;refine gF J ?_ ?_<;>intro eW J;exact gx J;refine go ?_;exact lC ⟨_,J,rfl,rfl⟩;refine go ?_;exact xC ⟨J,rfl,rfl⟩
def uw: V (Bool):=
 some false
def Jd(p1:I (I UInt8))(p2:I UInt8):Nat->Int->V (Bool)
 |0,_=>none|m1+1,z6=>cond (decide (z6<(p1.length:Int))) (a8 (aB p1 z6) fun x8=>cond (lQ x8 p2) (some true) ((Jd p1 p2 m1) (IntKind.i64.wrap (z6+1)))) (uw)
def HB(n:Nat)(p1:I (I UInt8))(p2:I UInt8):V (Bool):=
 Jd p1 p2 n 0
theorem PC(n:Nat)(p1:I (I UInt8))(p2:I UInt8)(r:Bool)(J:HB n p1 p2=some r):cY prog 127 [.isl false (p1.map cS),.str p2] (.bool r):=by unfold HB at J;refine gP 18 nC ?_;refine go ?_;refine gL (fun m tm O=>∃z6,Jd p1 p2 m z6=some r/\tm=fr 18 [(0,.iM cS p1),(1,.str p2),(5,.i6 z6)]/\O=⟨[],0⟩) (fun tm O=>uw=some r/\tm=fr 18 []/\O=⟨[],0⟩) n ⟨0,J,rfl,rfl⟩ ?_ ?_;rintro _ _ ⟨J,rfl,rfl⟩;unfold uw at J;exact gx J;rintro(_|m1) _ _ ⟨z6,J,rfl,rfl⟩;cases J;unfold Jd at J;refine gF J ?_ ?_<;>intro h7 J;refine go ?_;apply aV;obtain⟨x8,h9,J⟩:=aC J;refine go ?_;refine aZ h9 ?_;refine go ?_;refine aO (u:=.bool (lQ x8 p2)) rfl (GU rfl rfl rfl rfl) ?_;refine gF J ?_ ?_<;>intro fH J;exact gx J;refine go ?_;exact lC ⟨_,J,rfl,rfl⟩;refine go ?_;exact xC ⟨J,rfl,rfl⟩
def ss(z4:Int)(cE:Int->V (Int)): V (Int):=
 cE (IntKind.i64.wrap (z4+1))
def ZV(p1:I bL)(n:Nat)(z4:Int)(cE:Int->V (Int))(x6:bL):Nat->Int->V (Int)
 |0,_=>none|m2+1,dM=>
  cond (decide (dM<(x6.Supers.length:Int))) (a8 (aB x6.Supers dM) fun lA=>
   a8 (JD n p1 lA) fun mK=>cond (decide (mK<0)) (some 5) (a8 (sW x6.Supers 0 dM) fun eP=>
    a8 (aB x6.Supers dM) fun BE=>
    a8 (HB n eP BE) fun nW=>cond nW (some 4) ((ZV p1 n z4 cE x6 m2) (IntKind.i64.wrap (dM+1))))) (ss z4 cE)
def su: V (Int):=
 some 0
def MW(p1:I bL)(n:Nat):Nat->Int->V (Int)
 |0,_=>none|m1+1,z4=>cond (decide (z4<(p1.length:Int))) (a8 (aB p1 z4) fun x6=>ZV p1 n z4 (MW p1 n m1) x6 n 0) (su)
def yp(n:Nat)(p1:I bL):V (Int):=
 MW p1 n n 0
theorem qr1(n:Nat)(p1:I bL)(r:Int)(J:yp n p1=some r):cY prog 124 [.isl false (p1.map bU)] (.int .i64 r):=by unfold yp at J;refine kJ 38 VM ?_;refine go ?_;refine gL (fun m tm O=>∃z4,MW p1 n m z4=some r/\tm=fr 38 [(0,.iM bU p1),(3,.i6 z4)]/\O=⟨[],0⟩) (fun tm O=>su=some r/\tm=fr 38 []/\O=⟨[],0⟩) n ⟨0,J,rfl,rfl⟩ ?_ ?_;rintro _ _ ⟨J,rfl,rfl⟩;unfold su at J;exact gx J;rintro(_|m1) _ _ ⟨z4,J,rfl,rfl⟩;cases J;unfold MW at J;refine gF J ?_ ?_<;>intro h5 J;refine go ?_;apply aV;obtain⟨x6,h7,J⟩:=aC J;refine go ?_;refine aZ h7 ?_;refine go ?_;refine gL (fun m tm O=>∃dM,ZV p1 n z4 (MW p1 n m1) x6 m dM=some r/\tm=fr 38 [(0,.iM bU p1),(3,.i6 z4),(4,.iM cS x6.Supers),(5,.i6 dM)]/\O=⟨[],0⟩) (fun tm O=>ss z4 (MW p1 n m1)=some r/\tm=fr 38 [(0,.iM bU p1),(3,.i6 z4)]/\O=⟨[],0⟩) n ⟨0,J,rfl,rfl⟩ ?_ ?_;rintro _ _ ⟨J,rfl,rfl⟩;unfold ss at J;refine go ?_;exact lC ⟨_,J,rfl,rfl⟩;rintro(_|m2) _ _ ⟨dM,J,rfl,rfl⟩;cases J;unfold ZV at J;refine gF J ?_ ?_<;>intro dG J;refine go ?_;apply aV;obtain⟨lA,eW,J⟩:=aC J;obtain⟨mK,fU,J⟩:=aC J;refine go ?_;refine aZ eW ?_;refine go ?_;refine aR rfl (pC (Ih n p1 lA mK fU) _) tX ?_;refine gF J ?_ ?_<;>intro dF J;exact gx J;obtain⟨eP,tW,J⟩:=aC J;obtain⟨lS,rO⟩:=Gk cS .i64 tW;obtain⟨BE,qC,J⟩:=aC J;obtain⟨nW,nB,J⟩:=aC J;refine go ?_;refine dE [] ?_;refine gd ?_;refine aQ (u:=.iM cS eP) rfl (AR rfl mT (AH rfl) mT (Y5 cS kQ.h (aW JY.h) OJ lS rO)) ?_;refine gd ?_;refine bP qC ?_;refine gd ?_;refine eM rfl (pC (PC n eP BE nW nB)) nC ?_;refine bD ⟨by kernel_rfl,trivial,?_⟩;refine gF J ?_ ?_<;>intro uR J;exact gx J;refine go ?_;exact lC ⟨_,J,rfl,rfl⟩;refine go ?_;exact xC ⟨J,rfl,rfl⟩;refine go ?_;exact xC ⟨J,rfl,rfl⟩
def uk: V (Bool):=
 some true
def ZO(p1:bL)(p2:I (I UInt8))(n:Nat):Nat->Int->V (Bool)
 |0,_=>none|m1+1,z8=>cond (decide (z8<(p1.Supers.length:Int))) (a8 (aB p1.Supers z8) fun x10=>a8 (HB n p2 x10) fun eV=>cond (!eV) (some false) ((ZO p1 p2 n m1) (IntKind.i64.wrap (z8+1)))) (uk)
def yb(n:Nat)(p1:bL)(p2:I (I UInt8)):V (Bool):=
 ZO p1 p2 n n 0
theorem qtj(n:Nat)(p1:bL)(p2:I (I UInt8))(r:Bool)(J:yb n p1 p2=some r):cY prog 149 [.agg (bU p1),.isl false (p2.map cS)] (.bool r):=by unfold yb at J;refine gP 21 VB ?_;refine go ?_;refine gL (fun m tm O=>∃z8,ZO p1 p2 n m z8=some r/\tm=fr 21 [(1,.iM cS p2),(2,.ptr 0 0 0),(5,.i6 z8)]/\O=⟨[(0,.row (bU p1) 138)],1⟩) (fun tm O=>uk=some r/\tm=fr 21 []/\O=⟨[(0,.row (bU p1) 138)],1⟩) n ⟨0,J,rfl,rfl⟩ ?_ ?_;rintro _ _ ⟨J,rfl,rfl⟩;unfold uk at J;exact gx J;rintro(_|m1) _ _ ⟨z8,J,rfl,rfl⟩;cases J;unfold ZO at J;refine gF J ?_ ?_<;>intro h9 J;refine go ?_;apply aV;obtain⟨x10,iY,J⟩:=aC J;obtain⟨eV,dG,J⟩:=aC J;refine go ?_;refine aZ iY ?_;refine go ?_;refine aR rfl (pC (PC n p2 x10 eV dG) _) nC ?_;refine gF J ?_ ?_<;>intro iE J;exact gx J;refine go ?_;exact lC ⟨_,J,rfl,rfl⟩;refine go ?_;exact xC ⟨J,rfl,rfl⟩
def Tp(cE:Bool->(I (I UInt8))->V ((I (I UInt8))))(HQ:Bool)(l24:I (I UInt8)):V ((I (I UInt8))):=
 cE HQ l24
def Tn(dH:Int)(rc2:Bool->(I UInt8)->Int->V ((I (I UInt8))))(Ft:I UInt8):V ((I (I UInt8))):=
 rc2 true Ft (IntKind.i64.wrap (dH+1))
def sw(l7:I (I UInt8))(cE:Bool->(I (I UInt8))->V ((I (I UInt8))))(HQ:Bool)(wD:I UInt8):V ((I (I UInt8))):=
 cond HQ (aF ((l7.length+1)*16<=140737488355328/\l7.length+1<=140737488355328) (
  Tp cE HQ (l7++[wD]))) (Tp cE HQ l7)
def MX(p1:I bL)(n:Nat)(l7:I (I UInt8))(cE:Bool->(I (I UInt8))->V ((I (I UInt8)))):Nat->Bool->(I UInt8)->Int->V ((I (I UInt8)))
 |0,_,_,_=>none|m2+1,E2,D0,dH=>cond (decide (dH<(p1.length:Int))) (a8 (a8 (aB p1 dH) fun xX=>a8 (HB n l7 xX.Name) fun fW=>cond fW (some true) (a8 (aB p1 dH) fun qV=>a8 (yb n qV l7) fun iP=>some (!iP))) fun Ey=>cond Ey ((MX p1 n l7 cE m2) E2 D0 (IntKind.i64.wrap (dH+1))) (a8 (cond (!E2) (some true) (a8 (aB p1 dH) fun uU=>some (kT uU.Name D0))) fun w5=>cond w5 (a8 (aB p1 dH) fun x47=>Tn dH (MX p1 n l7 cE m2) x47.Name) (Tn dH (MX p1 n l7 cE m2) D0))) (sw l7 cE E2 D0)
def sx  (l9:I (I UInt8)):V ((I (I UInt8))):=
 some l9
def JG(p1:I bL)(n:Nat):Nat->Bool->(I (I UInt8))->V ((I (I UInt8)))
 |0,_,_=>none|m1+1,b6,l7=>cond b6 (MX p1 n l7 (JG p1 n m1) n false [] 0) (sx l7)
def yq(n:Nat)(p1:I bL):V ((I (I UInt8))):=
 JG p1 n n true ([]:I (I UInt8))
theorem qr0(n:Nat)(p1:I bL)(r:(I (I UInt8)))(J:yq n p1=some r):cY prog 125 [.isl false (p1.map bU)] (.isl false (r.map cS)):=by unfold yq at J;refine kJ 52 VL ?_;refine gr ?_;refine gr ?_;refine gr ?_;refine gV 3 9 1 1 ?_;refine gL (fun m tm O=>∃b6 l7 t8,JG p1 n m b6 l7=some r/\tm=fr 52 [(0,.iM bU p1),(3,.vl 0 t8 0 l7.length),(4,.bool b6)]/\O=⟨n8 l7 t8,1⟩) (fun tm O=>∃l9 cK,sx l9=some r/\tm=fr 52 [(3,.vl 0 cK 0 l9.length)]/\O=⟨n8 l9 cK,1⟩) n ⟨true,([]:I (I UInt8)),0,J,rfl,rfl⟩ ?_ ?_;rintro _ _ ⟨l9,cK,J,rfl,rfl⟩;unfold sx at J;refine go ?_;obtain rfl:=sI J;exact rT (us:=[.vl 0 cK 0 l9.length]) (u:=.iM cS l9) (dW rfl (dN)) (fR 0 1);rintro(_|m1) _ _ ⟨b6,l7,t8,J,rfl,rfl⟩;cases J;unfold JG at J;refine gF J ?_ ?_<;>intro iY J;refine go ?_;apply aV;refine go ?_;refine gL (fun m tm O=>∃E2 D0 dH,MX p1 n l7 (JG p1 n m1) m E2 D0 dH=some r/\tm=fr 52 [(0,.iM bU p1),(3,.vl 0 t8 0 l7.length),(4,.bool E2),(5,.str D0),(6,.i6 dH)]/\O=⟨n8 l7 t8,1⟩) (fun tm O=>∃HQ wD,sw l7 (JG p1 n m1) HQ wD=some r/\tm=fr 52 [(0,.iM bU p1),(3,.vl 0 t8 0 l7.length),(4,.bool HQ),(5,.str wD)]/\O=⟨n8 l7 t8,1⟩) n ⟨false,[],0,J,rfl,rfl⟩ ?_ ?_;rintro _ _ ⟨HQ,wD,J,rfl,rfl⟩;unfold sw at J;refine gr ?_;refine dO (fun tm O=>∃l24 oC,Tp (JG p1 n m1) HQ l24=some r/\tm=fr 52 [(0,.iM bU p1),(3,.vl 0 oC 0 l24.length),(4,.bool HQ)]/\O=⟨n8 l24 oC,1⟩) ?_ ?_;rintro _ _ ⟨l24,oC,J,rfl,rfl⟩;unfold Tp at J;refine go ?_;exact lC ⟨HQ,l24,oC,J,rfl,rfl⟩;refine cF J ?_ ?_<;>intro mR J;obtain⟨nB,J⟩:=d7 J;refine go ?_;refine bT ?_;refine bT ?_;refine go ?_;exact xC ⟨(l7++[wD]),(t8+1),J,rfl,rfl⟩;refine go ?_;exact xC ⟨l7,t8,J,rfl,rfl⟩;rintro(_|m2) _ _ ⟨E2,D0,dH,J,rfl,rfl⟩;cases J;unfold MX at J;refine gF J ?_ ?_<;>intro uR J;refine go ?_;apply aV;obtain⟨Ey,kX,J⟩:=aC J;refine gn ?_;refine dO (fun tm O=>tm=fr 52 [(0,.iM bU p1),(3,.vl 0 t8 0 l7.length),(4,.bool E2),(5,.str D0),(6,.i6 dH),(29,.bool Ey)]/\O=⟨n8 l7 t8,1⟩) ?_ ?_;rintro _ _ ⟨rfl,rfl⟩;refine gF J ?_ ?_<;>intro vB J;refine go ?_;exact lC ⟨E2,D0,(IntKind.i64.wrap (dH+1)),J,rfl,rfl⟩;obtain⟨w5,gW,J⟩:=aC J;refine gn ?_;refine dO (fun tm O=>tm=fr 52 [(0,.iM bU p1),(3,.vl 0 t8 0 l7.length),(5,.str D0),(6,.i6 dH),(40,.bool w5)]/\O=⟨n8 l7 t8,1⟩) ?_ ?_;rintro _ _ ⟨rfl,rfl⟩;refine gn ?_;refine dO (fun tm O=>∃Ft,Tn dH (MX p1 n l7 (JG p1 n m1) m2) Ft=some r/\tm=fr 52 [(0,.iM bU p1),(3,.vl 0 t8 0 l7.length),(5,.str Ft),(6,.i6 dH)]/\O=⟨n8 l7 t8,1⟩) ?_ ?_;rintro _ _ ⟨Ft,J,rfl,rfl⟩;unfold Tn at J;refine go ?_;exact lC ⟨true,Ft,(IntKind.i64.wrap (dH+1)),J,rfl,rfl⟩;refine cF J ?_ ?_<;>intro pK J;obtain⟨x47,HM,J⟩:=aC J;refine go ?_;refine aZ HM ?_;refine go ?_;exact xC ⟨x47.Name,J,rfl,rfl⟩;refine go ?_;exact xC ⟨D0,J,rfl,rfl⟩;refine go ?_;rcases gB gW with⟨qB,gW⟩|⟨qB,gW⟩;exact gy gW;obtain⟨uU,qA,gW⟩:=aC gW;obtain rfl:=sI gW;refine go ?_;refine aZ qA ?_;refine go ?_;refine RS.w (u:=.bool (kT uU.Name D0)) rfl (GU rfl rfl rfl rfl) ?_;refine go ?_;exact xC ⟨rfl,rfl⟩;obtain⟨xX,o9,kX⟩:=aC kX;obtain⟨fW,vC,kX⟩:=aC kX;refine go ?_;refine aZ o9 ?_;refine go ?_;refine aR rfl (vw (PC n l7 xX.Name fW vC) (mB 0 1)) nC ?_;refine go ?_;rcases gB kX with⟨nU,kX⟩|⟨nU,kX⟩;exact gy kX;obtain⟨qV,nT,kX⟩:=aC kX;obtain⟨iP,w4,kX⟩:=aC kX;obtain rfl:=sI kX;refine go ?_;refine aZ nT ?_;refine go ?_;refine aR rfl (vw (qtj n qV l7 iP w4) (mB 0 1)) VB ?_;refine go ?_;exact xC ⟨rfl,rfl⟩;refine go ?_;exact xC ⟨E2,D0,J,rfl,rfl⟩;refine go ?_;exact xC ⟨l7,t8,J,rfl,rfl⟩
def Td(gY:Int)(cE:Int->Int->V (Int))(uA:Int):V (Int):=
 cE uA (IntKind.i64.wrap (gY+1))
def uq(p1:I bL)(n:Nat)(iT:Int):V (Int):=
 cond (iT != 1) (some 1) (a8 (yq n p1) fun fD=>cond (decide ((fD.length:Int)<(p1.length:Int))) (some 6) (some 0))
def PL(p1:I bL)(n:Nat):Nat->Int->Int->V (Int)
 |0,_,_=>none|m1+1,jL,gY=>cond (decide (gY<(p1.length:Int))) (a8 (aB p1 gY) fun kK=>cond ((kK.Supers.length:Int)==0) (Td gY (PL p1 n m1) (IntKind.i64.wrap (jL+1))) (Td gY (PL p1 n m1) jL)) (uq p1 n jL)
def Rj(n:Nat)(p1:I bL):V (Int):=
 a8 (Rh n p1) fun r2=>cond (r2 != 0) (some r2) (a8 (yd n p1) fun r5=>cond (r5 != 0) (some r5) (a8 (yp n p1) fun r8=>cond (r8 != 0) (some r8) (PL p1 n n 0 0)))
theorem qth(n:Nat)(p1:I bL)(r:Int)(J:Rj n p1=some r):cY prog 93 [.isl false (p1.map bU)] (.int .i64 r):=by unfold Rj at J;refine kJ 46 Yp ?_;obtain⟨r2,h3,J⟩:=aC J;refine go ?_;refine aR rfl (pC (qtk n p1 r2 h3) _) VO ?_;refine gF J ?_ ?_<;>intro h4 J;exact gx J;obtain⟨r5,h6,J⟩:=aC J;refine go ?_;refine aR rfl (pC (qti n p1 r5 h6) _) VN ?_;refine gF J ?_ ?_<;>intro h7 J;exact gx J;obtain⟨r8,h9,J⟩:=aC J;refine go ?_;refine aR rfl (pC (qr1 n p1 r8 h9) _) VM ?_;refine gF J ?_ ?_<;>intro fH J;exact gx J;refine go ?_;refine gL (fun m tm O=>∃jL gY,PL p1 n m jL gY=some r/\tm=fr 46 [(0,.iM bU p1),(6,.i6 jL),(7,.i6 gY)]/\O=⟨[],0⟩) (fun tm O=>∃iT,uq p1 n iT=some r/\tm=fr 46 [(0,.iM bU p1),(6,.i6 iT)]/\O=⟨[],0⟩) n ⟨0,0,J,rfl,rfl⟩ ?_ ?_;rintro _ _ ⟨iT,J,rfl,rfl⟩;unfold uq at J;refine gF J ?_ ?_<;>intro fU J;exact gx J;obtain⟨fD,iS,J⟩:=aC J;refine go ?_;refine aR rfl (pC (qr0 n p1 fD iS) _) VL ?_;refine gF J ?_ ?_<;>intro tW J;exact gx J;exact gx J;rintro(_|m1) _ _ ⟨jL,gY,J,rfl,rfl⟩;cases J;unfold PL at J;refine gF J ?_ ?_<;>intro lS J;refine go ?_;apply aV;obtain⟨kK,mR,J⟩:=aC J;refine go ?_;refine aZ mR ?_;refine gn ?_;refine dO (fun tm O=>∃uA,Td gY (PL p1 n m1) uA=some r/\tm=fr 46 [(0,.iM bU p1),(6,.i6 uA),(7,.i6 gY)]/\O=⟨[],0⟩) ?_ ?_;rintro _ _ ⟨uA,J,rfl,rfl⟩;unfold Td at J;refine go ?_;exact lC ⟨uA,(IntKind.i64.wrap (gY+1)),J,rfl,rfl⟩;refine cF J ?_ ?_<;>intro qC J;refine go ?_;exact xC ⟨(IntKind.i64.wrap (jL+1)),J,rfl,rfl⟩;refine go ?_;exact xC ⟨jL,J,rfl,rfl⟩;refine go ?_;exact xC ⟨jL,J,rfl,rfl⟩
def Rz(p1:I (I UInt8))(p2:I UInt8)(z7:Int):V ((I (I UInt8))):=
 a8 (cond (decide (z7<(p1.length:Int))) (a8 (aB p1 z7) fun x9=>some (lQ x9 p2)) (some false)) fun LK=>cond LK (some p1) (a8 (sW p1 0 z7) fun fG=>
  aF (fG.length*16<=140737488355328/\fG.length<=140737488355328) (
  aF ((fG.length+1)*16<=140737488355328/\fG.length+1<=140737488355328) (
  a8 (sW p1 z7 (p1.length:Int)) fun eG=>
  aF (((fG++[p2]).length+eG.length)*16<=140737488355328/\(fG++[p2]).length+eG.length<=140737488355328) (some ((fG++[p2])++eG)))))
def Ii(p1:I (I UInt8))(p2:I UInt8):Nat->Int->V ((I (I UInt8)))
 |0,_=>none|m1+1,z6=>a8 (cond (decide (z6<(p1.length:Int))) (a8 (aB p1 z6) fun I9=>some (kT I9 p2)) (some false)) fun A8=>cond A8 ((Ii p1 p2 m1) (IntKind.i64.wrap (z6+1))) (Rz p1 p2 z6)
def OX(n:Nat)(p1:I (I UInt8))(p2:I UInt8):V ((I (I UInt8))):=
 Ii p1 p2 n 0
theorem Hy(n:Nat)(p1:I (I UInt8))(p2:I UInt8)(r:(I (I UInt8)))(J:OX n p1 p2=some r):cY prog 117 [.isl false (p1.map cS),.str p2] (.isl false (r.map cS)):=by unfold OX at J;refine gP 48 tY ?_;refine go ?_;refine gL (fun m tm O=>∃z6,Ii p1 p2 m z6=some r/\tm=fr 48 [(0,.iM cS p1),(1,.str p2),(5,.nils),(6,.i6 z6)]/\O=⟨[],0⟩) (fun tm O=>∃z7,Rz p1 p2 z7=some r/\tm=fr 48 [(0,.iM cS p1),(1,.str p2),(5,.nils),(6,.i6 z7)]/\O=⟨[],0⟩) n ⟨0,J,rfl,rfl⟩ ?_ ?_;rintro _ _ ⟨z7,J,rfl,rfl⟩;unfold Rz at J;obtain⟨LK,eC,J⟩:=aC J;refine gn ?_;refine dO (fun tm O=>tm=fr 48 [(0,.iM cS p1),(1,.str p2),(5,.nils),(6,.i6 z7),(32,.bool LK)]/\O=⟨[],0⟩) ?_ ?_;rintro _ _ ⟨rfl,rfl⟩;refine gF J ?_ ?_<;>intro dG J;exact gx J;obtain⟨fG,eW,J⟩:=aC J;obtain⟨nV,fU⟩:=Gk cS .i64 eW;obtain⟨dF,J⟩:=d7 J;refine go ?_;refine aO (u:=.iM cS fG) rfl (AR rfl mT (AH rfl) mT (Y5 cS kQ.h (aW JY.h) OJ nV fU)) (aO (u:=.vl 0 0 0 fG.length) (O':=⟨[(0,.bv cS fG 9 1 0)],1⟩) rfl (uZ rfl rfl rfl rfl (ip cS fG kQ.h kQ.h JY.h rfl (H2 cS OJ) dF)) ?_);obtain⟨iS,J⟩:=d7 J;refine go ?_;refine bT ?_;refine bT ?_;obtain⟨eG,lS,J⟩:=aC J;obtain⟨rO,mR⟩:=Ee cS .i64 lS;obtain⟨qC,J⟩:=d7 J;refine go ?_;refine aO (u:=.iM cS eG) rfl (AR rfl (AH rfl) mT mT (Y5 cS kQ.h (aW JY.h) OJ rO mR)) ?_;refine bT ?_;refine go ?_;obtain rfl:=sI J;exact rT (us:=[.vl 0 2 0 (((fG++[p2])++eG).length)]) (u:=.iM cS ((fG++[p2])++eG)) (dW rfl (dN)) (fR 0 1);refine go ?_;rcases gB eC with⟨h8,eC⟩|⟨h8,eC⟩;obtain⟨x9,fH,eC⟩:=aC eC;obtain rfl:=sI eC;refine go ?_;refine aZ fH ?_;refine go ?_;refine RS.w (u:=.bool (lQ x9 p2)) rfl (GU rfl rfl rfl rfl) ?_;refine go ?_;exact xC ⟨rfl,rfl⟩;exact gy eC;rintro(_|m1) _ _ ⟨z6,J,rfl,rfl⟩;cases J;unfold Ii at J;obtain⟨A8,o9,J⟩:=aC J;refine gn ?_;refine dO (fun tm O=>tm=fr 48 [(0,.iM cS p1),(1,.str p2),(5,.nils),(6,.i6 z6),(18,.bool A8)]/\O=⟨[],0⟩) ?_ ?_;rintro _ _ ⟨rfl,rfl⟩;refine gF J ?_ ?_<;>intro sL J;refine go ?_;apply aV;refine go ?_;exact lC ⟨_,J,rfl,rfl⟩;refine go ?_;exact xC ⟨z6,J,rfl,rfl⟩;refine go ?_;rcases gB o9 with⟨pL,o9⟩|⟨pL,o9⟩;obtain⟨I9,uR,o9⟩:=aC o9;obtain rfl:=sI o9;refine go ?_;refine aZ uR ?_;refine go ?_;refine RS.w (u:=.bool (kT I9 p2)) rfl (GU rfl rfl rfl rfl) ?_;refine go ?_;exact xC ⟨rfl,rfl⟩;exact gy o9
def uo  (l7:I (I UInt8)):V ((I (I UInt8))):=
 some l7
def ZQ(p1:I bL)(n:Nat):Nat->(I (I UInt8))->Int->V ((I (I UInt8)))
 |0,_,_=>none|m1+1,l5,z6=>cond (decide (z6<(p1.length:Int))) (a8 (aB p1 z6) fun x9=>a8 (OX n l5 x9.Name) fun r11=>(ZQ p1 n m1) r11 (IntKind.i64.wrap (z6+1))) (uo l5)
def Ri(n:Nat)(p1:I bL):V ((I (I UInt8))):=
 ZQ p1 n n [] 0
theorem qm8(n:Nat)(p1:I bL)(r:(I (I UInt8)))(J:Ri n p1=some r):cY prog 94 [.isl false (p1.map bU)] (.isl false (r.map cS)):=by unfold Ri at J;refine kJ 19 Dk ?_;refine gr ?_;refine gr ?_;refine gr ?_;refine cJ (tm':=fr 19 [(0,.iM bU p1),(3,.iM cS []),(4,.i6 0)]) (Gh.trans (Gh.sub (l':=[(0,.iM bU p1),(3,.nils),(4,.i6 0)]) ⟨rfl,rfl,rfl,trivial⟩) (Gh.wkS (l':=[(0,.iM bU p1),(3,.iM cS []),(4,.i6 0)]) (.cons (.refl _) (.cons (.nil false) (.cons (.refl _) .nil))))) NZ ?_;refine gL (fun m tm O=>∃l5 z6,ZQ p1 n m l5 z6=some r/\tm=fr 19 [(0,.iM bU p1),(3,.iM cS l5),(4,.i6 z6)]/\O=⟨[],0⟩) (fun tm O=>∃l7,uo l7=some r/\tm=fr 19 [(3,.iM cS l7)]/\O=⟨[],0⟩) n ⟨[],0,J,rfl,rfl⟩ ?_ ?_;rintro _ _ ⟨l7,J,rfl,rfl⟩;unfold uo at J;exact gx J;rintro(_|m1) _ _ ⟨l5,z6,J,rfl,rfl⟩;cases J;unfold ZQ at J;refine gF J ?_ ?_<;>intro h8 J;refine go ?_;apply aV;obtain⟨x9,fH,J⟩:=aC J;obtain⟨r11,eC,J⟩:=aC J;refine go ?_;refine aZ fH ?_;refine go ?_;refine aR rfl (pC (Hy n l5 x9.Name r11 eC) _) tY ?_;refine go ?_;exact lC ⟨r11,(IntKind.i64.wrap (z6+1)),J,rfl,rfl⟩;refine go ?_;exact xC ⟨l5,J,rfl,rfl⟩
def ut  (iO:I (I UInt8)):V ((I (I UInt8))):=
 some iO
def TE(n:Nat)(bS:I (I UInt8)):Nat->(I (I UInt8))->Int->V ((I (I UInt8)))
 |0,_,_=>none|m2+1,eP,dH=>cond (decide (dH<(bS.length:Int))) (a8 (aB bS dH) fun BE=>a8 (OX n eP BE) fun nW=>(TE n bS m2) nW (IntKind.i64.wrap (dH+1))) (ut eP)
def Te(w6:Int)(XW:Int->(I (I UInt8))->V ((I (I UInt8))))(sG:I (I UInt8)):V ((I (I UInt8))):=
 XW (IntKind.i64.wrap (w6+1)) sG
def ur(dP:Int)(cE:Int->(I (I UInt8))->V ((I (I UInt8))))(mI:I (I UInt8)):V ((I (I UInt8))):=
 cE (IntKind.i64.wrap (dP+1)) mI
def PM(p1:I bL)(n:Nat)(dP:Int)(cE:Int->(I (I UInt8))->V ((I (I UInt8)))):Nat->Int->(I (I UInt8))->V ((I (I UInt8)))
 |0,_,_=>none|m3+1,w6,jZ=>
  cond (decide (w6<(p1.length:Int))) (a8 (a8 (aB p1 w6) fun x39=>
   a8 (aB jZ dP) fun uU=>
   a8 (HB n x39.Supers uU) fun fg=>cond fg (a8 (aB p1 w6) fun RL=>
    a8 (HB n jZ RL.Name) fun SB=>some (!SB)) (some false)) fun b50=>cond b50 (a8 (aB p1 w6) fun RI=>
    aF ((jZ.length+1)*16<=140737488355328/\jZ.length+1<=140737488355328) (
    Te w6 (PM p1 n dP cE m3) (jZ++[RI.Name]))) (Te w6 (PM p1 n dP cE m3) jZ)) (ur dP cE jZ)
def uu(n:Nat)(bS:I (I UInt8)):V ((I (I UInt8))):=
 TE n bS n [] 0
def MT(p1:I bL)(n:Nat):Nat->Int->(I (I UInt8))->V ((I (I UInt8)))
 |0,_,_=>none|m1+1,dP,dD=>cond (decide (dP<(dD.length:Int))) (PM p1 n dP (MT p1 n m1) n 0 dD) (uu n dD)
def Rk(n:Nat)(p1:I bL)(p2:I UInt8):V ((I (I UInt8))):=
 a8 (JD n p1 p2) fun r3=>cond (decide (r3<0)) (some []) (MT p1 n n 0 ([p2]))
theorem qtg(n:Nat)(p1:I bL)(p2:I UInt8)(r:(I (I UInt8)))(J:Rk n p1 p2=some r):cY prog 126 [.isl false (p1.map bU),.str p2] (.isl false (r.map cS)):=by unfold Rk at J;refine gP 69 VK ?_;obtain⟨r3,h4,J⟩:=aC J;refine go ?_;refine aR rfl (pC (Ih n p1 p2 r3 h4) _) tX ?_;refine gF J ?_ ?_<;>intro h5 J;refine go ?_;obtain rfl:=sI J;exact rT (us:=[.nils]) (u:=.isl false []) (dW rfl (dN)) wR;refine go ?_;refine RS.step (u:=.vl 0 0 0 ([p2].length)) (O':=⟨[(0,.bv cS ([p2]) 9 1 0)],1⟩) rfl (IX.bslv (cs:=(List.map cS [p2]).flatten) tb_ok rfl kQ.h JY.h rfl rfl rfl rfl rfl rfl rfl rfl) rfl rfl ?_;refine go ?_;refine gL (fun m tm O=>∃dP dD gH,MT p1 n m dP dD=some r/\tm=fr 69 [(0,.iM bU p1),(5,.vl 0 gH 0 dD.length),(6,.i6 dP)]/\O=⟨n8 dD gH,1⟩) (fun tm O=>∃bS g8,uu n bS=some r/\tm=fr 69 [(5,.vl 0 g8 0 bS.length)]/\O=⟨n8 bS g8,1⟩) n ⟨0,[p2],0,J,rfl,rfl⟩ ?_ ?_;rintro _ _ ⟨bS,g8,J,rfl,rfl⟩;unfold uu at J;refine gr ?_;refine gr ?_;refine cJ (tm':=fr 69 [(5,.vl 0 g8 0 bS.length),(8,.iM cS []),(9,.i6 0)]) (Gh.trans (Gh.sub (l':=[(5,.vl 0 g8 0 bS.length),(8,.nils),(9,.i6 0)]) ⟨rfl,rfl,rfl,trivial⟩) (Gh.wkS (l':=[(5,.vl 0 g8 0 bS.length),(8,.iM cS []),(9,.i6 0)]) (.cons (.refl _) (.cons (.nil false) (.cons (.refl _) .nil))))) NZ ?_;refine gL (fun m tm O=>∃eP dH,TE n bS m eP dH=some r/\tm=fr 69 [(5,.vl 0 g8 0 bS.length),(8,.iM cS eP),(9,.i6 dH)]/\O=⟨n8 bS g8,1⟩) (fun tm O=>∃iO,ut iO=some r/\tm=fr 69 [(8,.iM cS iO)]/\O=⟨n8 bS g8,1⟩) n ⟨[],0,J,rfl,rfl⟩ ?_ ?_;rintro _ _ ⟨iO,J,rfl,rfl⟩;unfold ut at J;exact gx J;rintro(_|m2) _ _ ⟨eP,dH,J,rfl,rfl⟩;cases J;unfold TE at J;refine gF J ?_ ?_<;>intro rO J;refine go ?_;apply aV;obtain⟨BE,qC,J⟩:=aC J;obtain⟨nW,nB,J⟩:=aC J;refine go ?_;refine aO rfl (dC rfl rfl (i9 cS kQ.h (aW JY.h) (by decide) OJ (vo rfl) qC)) ?_;refine aO rfl (AQ cS (fun x=>.str x) M4.h rfl (fun _=>rfl) rfl rfl qC) (aR rfl (pC (Hy n eP BE nW nB) _) tY ?_);refine go ?_;exact lC ⟨nW,(IntKind.i64.wrap (dH+1)),J,rfl,rfl⟩;refine go ?_;exact xC ⟨eP,J,rfl,rfl⟩;rintro(_|m1) _ _ ⟨dP,dD,gH,J,rfl,rfl⟩;cases J;unfold MT at J;refine gF J ?_ ?_<;>intro uR J;refine go ?_;apply aV;refine go ?_;refine gL (fun m tm O=>∃w6 jZ BI,PM p1 n dP (MT p1 n m1) m w6 jZ=some r/\tm=fr 69 [(0,.iM bU p1),(5,.vl 0 BI 0 jZ.length),(6,.i6 dP),(7,.i6 w6)]/\O=⟨n8 jZ BI,1⟩) (fun tm O=>∃mI S0,ur dP (MT p1 n m1) mI=some r/\tm=fr 69 [(0,.iM bU p1),(5,.vl 0 S0 0 mI.length),(6,.i6 dP)]/\O=⟨n8 mI S0,1⟩) n ⟨0,dD,gH,J,rfl,rfl⟩ ?_ ?_;rintro _ _ ⟨mI,S0,J,rfl,rfl⟩;unfold ur at J;refine go ?_;exact lC ⟨_,mI,S0,J,rfl,rfl⟩;rintro(_|m3) _ _ ⟨w6,jZ,BI,J,rfl,rfl⟩;cases J;unfold PM at J;refine gF J ?_ ?_<;>intro kX J;refine go ?_;apply aV;obtain⟨b50,vZ,J⟩:=aC J;refine gn ?_;refine dO (fun tm O=>tm=fr 69 [(0,.iM bU p1),(5,.vl 0 BI 0 jZ.length),(6,.i6 dP),(7,.i6 w6),(47,.bool b50)]/\O=⟨n8 jZ BI,1⟩) ?_ ?_;rintro _ _ ⟨rfl,rfl⟩;refine gn ?_;refine dO (fun tm O=>∃sG Nr,Te w6 (PM p1 n dP (MT p1 n m1) m3) sG=some r/\tm=fr 69 [(0,.iM bU p1),(5,.vl 0 Nr 0 sG.length),(6,.i6 dP),(7,.i6 w6)]/\O=⟨n8 sG Nr,1⟩) ?_ ?_;rintro _ _ ⟨sG,Nr,J,rfl,rfl⟩;unfold Te at J;refine go ?_;exact lC ⟨_,sG,Nr,J,rfl,rfl⟩;refine cF J ?_ ?_<;>intro FW J;obtain⟨RI,KT,J⟩:=aC J;obtain⟨Yb,J⟩:=d7 J;refine go ?_;refine aZ KT ?_;refine go ?_;refine bT ?_;refine bT ?_;refine go ?_;exact xC ⟨(jZ++[RI.Name]),(BI+1),J,rfl,rfl⟩;refine go ?_;exact xC ⟨jZ,BI,J,rfl,rfl⟩;obtain⟨x39,qB,vZ⟩:=aC vZ;obtain⟨uU,qA,vZ⟩:=aC vZ;obtain⟨fg,gW,vZ⟩:=aC vZ;refine dE [] ?_;refine gd ?_;refine bP qB ?_;refine gd ?_;refine aQ rfl (dC rfl rfl (i9 cS kQ.h (aW JY.h) (by decide) OJ (vo rfl) qA)) ?_;refine aQ rfl (AQ cS (fun x=>.str x) M4.h rfl (fun _=>rfl) rfl rfl qA) (eM rfl (pC (PC n x39.Supers uU fg gW)) nC ?_);refine gd ?_;rcases gB vZ with⟨pK,vZ⟩|⟨pK,vZ⟩;obtain⟨RL,B8,vZ⟩:=aC vZ;obtain⟨SB,td,vZ⟩:=aC vZ;obtain rfl:=sI vZ;refine gd ?_;refine bP B8 ?_;refine gd ?_;refine RD.call (u:=.bool SB) (args:=[.vl 0 BI 0 jZ.length,.str RL.Name]) (BL rfl rfl rfl pK) (gM rfl rfl nC rfl rfl rfl) (vw (PC n jZ RL.Name SB td) (mB 0 1)) rfl rfl ?_;refine gd ?_;refine bD ⟨by kernel_rfl,trivial,?_⟩;refine go ?_;exact xC ⟨rfl,rfl⟩;obtain rfl:=sI vZ;refine gd ?_;refine bD ⟨by kernel_rfl,trivial,?_⟩;refine go ?_;exact xC ⟨rfl,rfl⟩;refine go ?_;exact xC ⟨jZ,BI,J,rfl,rfl⟩;refine go ?_;exact xC ⟨dD,gH,J,rfl,rfl⟩
def Tq(p1:I Int)(z5:Int):V ((I Int)):=
 a8 (sW p1 0 z5) fun l6=>
 aF (l6.length*8<=140737488355328/\l6.length<=140737488355328) (some l6)
def TJ(p1:I Int):Nat->Int->V ((I Int))
 |0,_=>none|m1+1,z4=>a8 (cond (decide (z4>0)) (a8 (aB p1 (IntKind.i64.wrap (z4-1))) fun iI=>some (iI==0)) (some false)) fun vF=>cond vF ((TJ p1 m1) (IntKind.i64.wrap (z4-1))) (Tq p1 z4)
def MO(n:Nat)(p1:I Int):V ((I Int)):=
 TJ p1 n (p1.length:Int)
theorem sa(n:Nat)(p1:I Int)(r:(I Int))(J:MO n p1=some r):cY prog 120 [.isl false (p1.map (cI .u64))] (.isl false (r.map (cI .u64))):=by unfold MO at J;refine kJ 23 A5 ?_;refine go ?_;refine gL (fun m tm O=>∃z4,TJ p1 m z4=some r/\tm=fr 23 [(0,.iM (cI .u64) p1),(3,.i6 z4)]/\O=⟨[],0⟩) (fun tm O=>∃z5,Tq p1 z5=some r/\tm=fr 23 [(0,.iM (cI .u64) p1),(3,.i6 z5)]/\O=⟨[],0⟩) n ⟨(p1.length:Int),J,rfl,rfl⟩ ?_ ?_;rintro _ _ ⟨z5,J,rfl,rfl⟩;unfold Tq at J;obtain⟨l6,h7,J⟩:=aC J;obtain⟨h8,h9⟩:=Gk (cI .u64) .i64 h7;obtain⟨fH,J⟩:=d7 J;refine go ?_;refine aO (u:=.sl 0 0 0 0) (O':=⟨[(0,.row [] 191)],1⟩) rfl (uG gZ.h lZ.h rfl rfl rfl rfl rfl rfl rfl) ?_;refine go ?_;refine aO (u:=.iM (cI .u64) l6) rfl (AR rfl mT (AH rfl) mT (Y5 (cI .u64) gZ.h (aW lZ.h) (kN .u64) h8 h9)) (aO (u:=.vl 1 0 0 l6.length) (O':=⟨[(1,.bv (cI .u64) l6 191 1 0),(0,.row [] 191)],2⟩) rfl (uZ rfl rfl rfl rfl (MG (cI .u64) l6 gZ.h gZ.h lZ.h rfl rfl rfl (H2 (cI .u64) (kN .u64)) fH)) ?_);refine go ?_;obtain rfl:=sI J;exact rT (us:=[.vl 1 0 0 l6.length]) (u:=.iM (cI .u64) l6) (dW rfl (dN)) (fR 1 1);rintro(_|m1) _ _ ⟨z4,J,rfl,rfl⟩;cases J;unfold TJ at J;obtain⟨vF,eW,J⟩:=aC J;refine gn ?_;refine dO (fun tm O=>tm=fr 23 [(0,.iM (cI .u64) p1),(3,.i6 z4),(15,.bool vF)]/\O=⟨[],0⟩) ?_ ?_;rintro _ _ ⟨rfl,rfl⟩;refine gF J ?_ ?_<;>intro nV J;refine go ?_;apply aV;refine go ?_;exact lC ⟨_,J,rfl,rfl⟩;refine go ?_;exact xC ⟨z4,J,rfl,rfl⟩;refine go ?_;rcases gB eW with⟨iY,eW⟩|⟨iY,eW⟩;obtain⟨iI,dG,eW⟩:=aC eW;obtain rfl:=sI eW;refine go ?_;refine aZ dG ?_;refine go ?_;exact xC ⟨rfl,rfl⟩;exact gy eW
def ye(n:Nat)(l8:I Int):V ((I Int)×Int):=
 aF ((64:Int).toNat=l8.length) (
 a8 (MO n l8) fun lN=>some (lN,0))
def Z5(p1:I Int)(n:Nat):Nat->Int->(I Int)->V ((I Int)×Int)
 |0,_,_=>none|m1+1,z6,l7=>
  cond (decide (z6<(p1.length:Int))) (a8 (a8 (aB p1 z6) fun RM=>cond (decide (RM<0)) (some true) (a8 (aB p1 z6) fun kZ=>some (decide (kZ>4095)))) fun E2=>cond E2 (some ([],2)) (a8 (aB p1 z6) fun uW=>
    a8 (aB p1 z6) fun oW=>
    a8 (iU l7 0 ((64:Int).toNat) (IntKind.i64.wrap (oW.tdiv 64))) fun rX=>
    a8 (aB p1 z6) fun jF=>
    aF (¬ (IntKind.u64.wrap (jF.tmod 64))<0) (
    a8 (iU l7 0 ((64:Int).toNat) (IntKind.i64.wrap (uW.tdiv 64))) fun qV=>(Z5 p1 n m1) (IntKind.i64.wrap (z6+1)) (l7.set (IntKind.i64.wrap (uW.tdiv 64)).toNat (Kg .u64 rX (IntKind.u64.wrap (1*(2^(min (IntKind.u64.wrap (jF.tmod 64)).toNat IntKind.u64.bits))))))))) (ye n l7)
def Pl(n:Nat)(p1:I Int):V ((I Int)×Int):=
 aF (0<=(64:Int)/\8*(64:Int).toNat<=281474976710656/\(64:Int)<=281474976710656) (
 Z5 p1 n n 0 (List.replicate (64:Int).toNat 0))
theorem z1g(n:Nat)(p1:I Int)(r:(I Int)×Int)(J:Pl n p1=some r):cY prog 128 [.isl false (p1.map (cI .i64))] (.tup [.isl false (r.1.map (cI .u64)),.int .i64 r.2]):=by unfold Pl at J;refine kJ 50 VJ ?_;obtain⟨h2,J⟩:=d7 J;refine go ?_;refine aO (u:=.sl 0 0 ((64:Int).toNat) ((64:Int).toNat)) (O':=⟨[(0,.row (List.map (cI .u64) (List.replicate (64:Int).toNat 0)).flatten 191)],1⟩) rfl (Og (cI .u64) 0 rfl rfl gZ.h lZ.h rfl rfl rfl rfl h2) ?_;refine go ?_;refine gL (fun m tm O=>∃z6 l7,Z5 p1 n m z6 l7=some r/\tm=fr 50 [(0,.iM (cI .i64) p1),(4,.sl 0 0 ((64:Int).toNat) ((64:Int).toNat)),(5,.i6 z6)]/\O=⟨[(0,.row (l7.map (cI .u64)).flatten 191)],1⟩) (fun tm O=>∃l8,ye n l8=some r/\tm=fr 50 [(4,.sl 0 0 ((64:Int).toNat) ((64:Int).toNat))]/\O=⟨[(0,.row (l8.map (cI .u64)).flatten 191)],1⟩) n ⟨0,(List.replicate (64:Int).toNat 0),J,rfl,rfl⟩ ?_ ?_;rintro _ _ ⟨l8,J,rfl,rfl⟩;unfold ye at J;obtain⟨h9,J⟩:=d7 J;refine gn ?_;refine cJ (tm':=fr 50 [(4,.iM (cI .u64) l8)]) (O':=⟨[],1⟩) (Gh.trans (Gh.sub (l':=[(4,.sl 0 0 ((64:Int).toNat) ((64:Int).toNat))]) ⟨rfl,trivial⟩) (Gh.fzS (l':=[(4,.iM (cI .u64) l8)]) (h':=[]) 0 (.row (l8.map (cI .u64)).flatten 191) 1 rfl (by simp) (by simp only[fzS,oG,wL,uI,D7,H5,GW,ET,J4,J5,J6,H4,GX,J2,EP,GV,GR,BM,SH (kN .u64) h9]) (by simp only[fzH,fzB,ug,Nat.beq,zC,zD,oG,wL,uI,D7,H5,GW,ET,J4,J5,J6,H4,GX,J2,EP,GV,GR,BM,SH (kN .u64) h9]))) NZ ?_;obtain⟨lN,iY,J⟩:=aC J;refine go ?_;refine aR rfl (pC (sa n l8 lN iY) _) A5 ?_;refine go ?_;obtain rfl:=sI J;exact y3 rfl rfl rfl rfl rfl;rintro(_|m1) _ _ ⟨z6,l7,J,rfl,rfl⟩;cases J;unfold Z5 at J;refine gF J ?_ ?_<;>intro eC J;refine go ?_;apply aV;obtain⟨E2,iS,J⟩:=aC J;refine gn ?_;refine dO (fun tm O=>tm=fr 50 [(0,.iM (cI .i64) p1),(4,.sl 0 0 ((64:Int).toNat) ((64:Int).toNat)),(5,.i6 z6),(24,.bool E2)]/\O=⟨[(0,.row (l7.map (cI .u64)).flatten 191)],1⟩) ?_ ?_;rintro _ _ ⟨rfl,rfl⟩;refine gF J ?_ ?_<;>intro tW J;refine go ?_;obtain rfl:=sI J;exact rT (us:=[.nils,.i6 2]) (u:=.tup [.isl false [],.i6 2]) (dW rfl (dW rfl (dN))) wR;obtain⟨uW,rO,J⟩:=aC J;obtain⟨oW,pL,J⟩:=aC J;obtain⟨rX,rN,J⟩:=aC J;obtain⟨jF,sL,J⟩:=aC J;obtain⟨nU,J⟩:=d7 J;obtain⟨qV,nT,J⟩:=aC J;refine go ?_;refine dE [] ?_;refine gd ?_;refine bP rO ?_;refine gd ?_;refine aQ rfl (tC rfl rfl (xg _ (by decide)) rfl) ?_;refine gd ?_;refine bP pL ?_;refine gd ?_;refine aQ rfl (tC rfl rfl (xg _ (by decide)) rfl) ?_;refine aQ rfl (dC rfl rfl (wI gZ.h (aW lZ.h) rfl rN)) (aQ (u:=.int .u64 rX) rfl (MA (cI .u64) (fun x=>.int .u64 x) Ni.h rfl (fun _=>rfl) rfl rfl rN) ?_);refine gd ?_;refine bP sL ?_;refine gd ?_;refine aQ rfl (tC rfl rfl (Ok _ (by decide)) rfl) ?_;refine aQ (u:=.int .u64 (IntKind.u64.wrap (jF.tmod 64))) rfl (MC rfl rfl (by simp only[convX,jN.h,CW.h]<;>rfl) rfl) ?_;refine aQ rfl (tC rfl rfl (Ax _ nU) rfl) (aQ rfl (tC rfl rfl (Uy _ _ _) rfl) (aQ rfl (dC rfl rfl (wI gZ.h (aW lZ.h) rfl nT)) (RD.actn (u:=.junk) (O':=⟨[(0,.row (List.map (cI .u64) (l7.set (IntKind.i64.wrap (uW.tdiv 64)).toNat (Kg .u64 rX (IntKind.u64.wrap (1*(2^(min (IntKind.u64.wrap (jF.tmod 64)).toNat IntKind.u64.bits))))))).flatten 191)],1⟩) rfl (OA (cI .u64) (aW lZ.h) (kN .u64) rfl rfl rfl rfl rfl rfl nT rfl) rfl ?_)));refine bD ⟨by kernel_rfl,trivial,?_⟩;refine go ?_;exact lC ⟨_,(l7.set (IntKind.i64.wrap (uW.tdiv 64)).toNat (Kg .u64 rX (IntKind.u64.wrap (1*(2^(min (IntKind.u64.wrap (jF.tmod 64)).toNat IntKind.u64.bits)))))),J,rfl,rfl⟩;obtain⟨RM,iE,iS⟩:=aC iS;refine go ?_;refine aZ iE ?_;refine go ?_;rcases gB iS with⟨eW,iS⟩|⟨eW,iS⟩;exact gy iS;obtain⟨kZ,fU,iS⟩:=aC iS;obtain rfl:=sI iS;refine go ?_;refine aZ fU ?_;refine go ?_;exact xC ⟨rfl,rfl⟩;refine go ?_;exact xC ⟨l7,J,rfl,rfl⟩
def Sl(k8:Int)(cE:Int->(I Int)->V ((I Int)))(l24:I Int):V ((I Int)):=
 cE (IntKind.i64.wrap (k8+1)) l24
def lu(n:Nat)(fG:I Int):V ((I Int)):=
 a8 (Pl n fG) fun mK=>some mK.1
def PB(p2:I (I UInt8))(n:Nat)(r4:(I (I UInt8))):Nat->Int->(I Int)->V ((I Int))
 |0,_,_=>none|m1+1,k8,hJ=>
  cond (decide (k8<(p2.length:Int))) (a8 (aB p2 k8) fun NT=>
   a8 (HB n r4 NT) fun IQ=>cond IQ (aF ((hJ.length+1)*8<=140737488355328/\hJ.length+1<=140737488355328) (
    Sl k8 (PB p2 n r4 m1) (hJ++[k8]))) (Sl k8 (PB p2 n r4 m1) hJ)) (lu n hJ)
def Qt(n:Nat)(p1:I bL)(p2:I (I UInt8))(p3:I UInt8):V ((I Int)):=
 a8 (Rk n p1 p3) fun r4=>
 PB p2 n r4 n 0 ([]:I Int)
theorem qw7(n:Nat)(p1:I bL)(p2:I (I UInt8))(p3:I UInt8)(r:(I Int))(J:Qt n p1 p2 p3=some r):cY prog 95 [.isl false (p1.map bU),.isl false (p2.map cS),.str p3] (.isl false (r.map (cI .u64))):=by unfold Qt at J;refine xV 37 Yo ?_;obtain⟨r4,h5,J⟩:=aC J;refine go ?_;refine aR rfl (pC (qtg n p1 p3 r4 h5) _) VK ?_;refine gr ?_;refine gr ?_;refine gV 8 3 1 1 ?_;refine gL (fun m tm O=>∃k8 hJ mC,PB p2 n r4 m k8 hJ=some r/\tm=fr 37 [(1,.iM cS p2),(7,.iM cS r4),(8,.vl 0 mC 0 hJ.length),(9,.i6 k8)]/\O=⟨EU hJ mC,1⟩) (fun tm O=>∃fG IL,lu n fG=some r/\tm=fr 37 [(8,.vl 0 IL 0 fG.length)]/\O=⟨EU fG IL,1⟩) n ⟨0,([]:I Int),0,J,rfl,rfl⟩ ?_ ?_;rintro _ _ ⟨fG,IL,J,rfl,rfl⟩;unfold lu at J;refine gn ?_;refine cJ (tm':=fr 37 [(8,.iM (cI .i64) fG)]) (O':=⟨[],1⟩) (Gh.trans (Gh.sub (l':=[(8,.vl 0 IL 0 fG.length)]) ⟨rfl,trivial⟩) (HV 0 1)) NZ ?_;obtain⟨mK,fU,J⟩:=aC J;refine go ?_;refine aR rfl (pC (z1g n fG mK fU) _) VJ ?_;exact gx J;rintro(_|m1) _ _ ⟨k8,hJ,mC,J,rfl,rfl⟩;cases J;unfold PB at J;refine gF J ?_ ?_<;>intro dF J;refine go ?_;apply aV;obtain⟨NT,tW,J⟩:=aC J;obtain⟨IQ,rO,J⟩:=aC J;refine go ?_;refine aZ tW ?_;refine go ?_;refine aR rfl (pC (PC n r4 NT IQ rO) _) nC ?_;refine gn ?_;refine dO (fun tm O=>∃l24 oC,Sl k8 (PB p2 n r4 m1) l24=some r/\tm=fr 37 [(1,.iM cS p2),(7,.iM cS r4),(8,.vl 0 oC 0 l24.length),(9,.i6 k8)]/\O=⟨EU l24 oC,1⟩) ?_ ?_;rintro _ _ ⟨l24,oC,J,rfl,rfl⟩;unfold Sl at J;refine go ?_;exact lC ⟨_,l24,oC,J,rfl,rfl⟩;refine cF J ?_ ?_<;>intro mR J;obtain⟨nB,J⟩:=d7 J;refine go ?_;refine bT ?_;refine bT ?_;refine go ?_;exact xC ⟨(hJ++[k8]),(mC+1),J,rfl,rfl⟩;refine go ?_;exact xC ⟨hJ,mC,J,rfl,rfl⟩;refine go ?_;exact xC ⟨hJ,mC,J,rfl,rfl⟩
def T1(n:Nat)(p1:I Int)(p2:Int):V (Int):=
 cond (decide (p2<(p1.length:Int))) (a8 (aB p1 p2) fun x4=>some x4) (some 0)
theorem qo1(n:Nat)(p1:I Int)(p2:Int)(r:Int)(J:T1 n p1 p2=some r):cY prog 146 [.isl false (p1.map (cI .u64)),.int .i64 p2] (.int .u64 r):=by unfold T1 at J;refine gP 13 L3 ?_;refine gF J ?_ ?_<;>intro h3 J;obtain⟨x4,h5,J⟩:=aC J;refine go ?_;refine aZ h5 ?_;exact gx J;exact gx J
def P4(n:Nat)(dD:I Int):V ((I Int)):=
 a8 (MO n dD) fun gK=>some gK
def Ij(p1:I Int)(p2:I Int)(n:Nat):Nat->Int->(I Int)->V ((I Int))
 |0,_,_=>none|m1+1,z8,l9=>
  cond (decide (z8<(p1.length:Int))) (a8 (aB p1 z8) fun kZ=>
   a8 (T1 n p2 z8) fun fD=>
   aF ((l9.length+1)*8<=140737488355328/\l9.length+1<=140737488355328) ((Ij p1 p2 n m1) (IntKind.i64.wrap (z8+1)) (l9++[(GF .u64 kZ fD)]))) (P4 n l9)
def JC(n:Nat)(p1:I Int)(p2:I Int):V ((I Int)):=
 Ij p1 p2 n n 0 ([]:I Int)
theorem x_(n:Nat)(p1:I Int)(p2:I Int)(r:(I Int))(J:JC n p1 p2=some r):cY prog 119 [.isl false (p1.map (cI .u64)),.isl false (p2.map (cI .u64))] (.isl false (r.map (cI .u64))):=by unfold JC at J;refine gP 26 DW ?_;refine gr ?_;refine gr ?_;refine gr ?_;refine gV 5 191 1 1 ?_;refine gL (fun m tm O=>∃z8 l9 cK,Ij p1 p2 n m z8 l9=some r/\tm=fr 26 [(0,.iM (cI .u64) p1),(1,.iM (cI .u64) p2),(5,.vl 0 cK 0 l9.length),(6,.i6 z8)]/\O=⟨[(0,.bv (cI .u64) l9 191 1 cK)],1⟩) (fun tm O=>∃dD gH,P4 n dD=some r/\tm=fr 26 [(5,.vl 0 gH 0 dD.length)]/\O=⟨[(0,.bv (cI .u64) dD 191 1 gH)],1⟩) n ⟨0,([]:I Int),0,J,rfl,rfl⟩ ?_ ?_;rintro _ _ ⟨dD,gH,J,rfl,rfl⟩;unfold P4 at J;refine gn ?_;refine cJ (tm':=fr 26 [(5,.iM (cI .u64) dD)]) (O':=⟨[],1⟩) (Gh.trans (Gh.sub (l':=[(5,.vl 0 gH 0 dD.length)]) ⟨rfl,trivial⟩) (HV 0 1)) NZ ?_;obtain⟨gK,iE,J⟩:=aC J;refine go ?_;refine aR rfl (pC (sa n dD gK iE) _) A5 ?_;exact gx J;rintro(_|m1) _ _ ⟨z8,l9,cK,J,rfl,rfl⟩;cases J;unfold Ij at J;refine gF J ?_ ?_<;>intro eW J;refine go ?_;apply aV;obtain⟨kZ,fU,J⟩:=aC J;obtain⟨fD,iS,J⟩:=aC J;obtain⟨tW,J⟩:=d7 J;refine go ?_;refine dE [(0,9)] ?_;refine gd ?_;refine bP fU ?_;refine gd ?_;refine eM rfl (pC (qo1 n p2 z8 fD iS)) L3 (aQ rfl (tC rfl rfl (aa _ _ _) rfl) ?_);refine eE ?_;refine eE ?_;refine gd ?_;refine bD ⟨by kernel_rfl,⟨iQ rfl,trivial⟩,?_⟩;refine go ?_;exact lC ⟨_,(l9++[(GF .u64 kZ fD)]),(cK+1),J,rfl,rfl⟩;refine go ?_;exact xC ⟨l9,cK,J,rfl,rfl⟩
def L_: V (Bool):=
 some true
def ma(p1:I Int)(p2:I Int):Nat->Int->V (Bool)
 |0,_=>none|m1+1,z7=>cond (decide (z7<(p1.length:Int))) (a8 (aB p1 z7) fun x9=>a8 (aB p2 z7) fun fZ=>cond (x9 != fZ) (some false) ((ma p1 p2 m1) (IntKind.i64.wrap (z7+1)))) (L_)
def P0(n:Nat)(p1:I Int)(p2:I Int):V (Bool):=
 cond ((p1.length:Int) != (p2.length:Int)) (some false) (ma p1 p2 n 0)
theorem F_(n:Nat)(p1:I Int)(p2:I Int)(r:Bool)(J:P0 n p1 p2=some r):cY prog 121 [.isl false (p1.map (cI .u64)),.isl false (p2.map (cI .u64))] (.bool r):=by unfold P0 at J;refine gP 26 DV ?_;refine gF J ?_ ?_<;>intro h3 J;exact gx J;refine go ?_;refine gL (fun m tm O=>∃z7,ma p1 p2 m z7=some r/\tm=fr 26 [(0,.iM (cI .u64) p1),(1,.iM (cI .u64) p2),(5,.i6 z7)]/\O=⟨[],0⟩) (fun tm O=>L_=some r/\tm=fr 26 []/\O=⟨[],0⟩) n ⟨0,J,rfl,rfl⟩ ?_ ?_;rintro _ _ ⟨J,rfl,rfl⟩;unfold L_ at J;exact gx J;rintro(_|m1) _ _ ⟨z7,J,rfl,rfl⟩;cases J;unfold ma at J;refine gF J ?_ ?_<;>intro h8 J;refine go ?_;apply aV;obtain⟨x9,fH,J⟩:=aC J;obtain⟨fZ,eC,J⟩:=aC J;refine go ?_;refine dE [] ?_;refine gd ?_;refine bP fH ?_;refine gd ?_;refine bP eC ?_;refine gd ?_;refine bD ⟨by kernel_rfl,trivial,?_⟩;refine gF J ?_ ?_<;>intro dG J;exact gx J;refine go ?_;exact lC ⟨_,J,rfl,rfl⟩;refine go ?_;exact xC ⟨J,rfl,rfl⟩
def ya: V (Bool):=
 some false
def Z4(p1:I (I Int))(p2:I Int)(n:Nat):Nat->Int->V (Bool)
 |0,_=>none|m1+1,z6=>cond (decide (z6<(p1.length:Int))) (a8 (aB p1 z6) fun x8=>a8 (P0 n x8 p2) fun lN=>cond lN (some true) ((Z4 p1 p2 n m1) (IntKind.i64.wrap (z6+1)))) (ya)
def jp(n:Nat)(p1:I (I Int))(p2:I Int):V (Bool):=
 Z4 p1 p2 n n 0
theorem z1h(n:Nat)(p1:I (I Int))(p2:I Int)(r:Bool)(J:jp n p1 p2=some r):cY prog 129 [.isl false (List.map (cL (cI .u64)) p1),.isl false (p2.map (cI .u64))] (.bool r):=by unfold jp at J;refine gP 18 VI ?_;refine go ?_;refine gL (fun m tm O=>∃z6,Z4 p1 p2 n m z6=some r/\tm=fr 18 [(0,.iM (cL (cI .u64)) p1),(1,.iM (cI .u64) p2),(5,.i6 z6)]/\O=⟨[],0⟩) (fun tm O=>ya=some r/\tm=fr 18 []/\O=⟨[],0⟩) n ⟨0,J,rfl,rfl⟩ ?_ ?_;rintro _ _ ⟨J,rfl,rfl⟩;unfold ya at J;exact gx J;rintro(_|m1) _ _ ⟨z6,J,rfl,rfl⟩;cases J;unfold Z4 at J;refine gF J ?_ ?_<;>intro h7 J;refine go ?_;apply aV;obtain⟨x8,h9,J⟩:=aC J;obtain⟨lN,iY,J⟩:=aC J;refine go ?_;refine aZ h9 ?_;refine go ?_;refine aR rfl (pC (F_ n x8 p2 lN iY) _) DV ?_;refine gF J ?_ ?_<;>intro eC J;exact gx J;refine go ?_;exact lC ⟨_,J,rfl,rfl⟩;refine go ?_;exact xC ⟨J,rfl,rfl⟩
def Tl(sM:Int)(rc2:Int->(I (I Int))->V ((I (I Int))))(yM:I (I Int)):V ((I (I Int))):=
 rc2 (IntKind.i64.wrap (sM+1)) yM
def Tj(z6:Int)(cE:Int->(I (I Int))->V ((I (I Int))))(rH:I (I Int)):V ((I (I Int))):=
 cE (IntKind.i64.wrap (z6+1)) rH
def TG(n:Nat)(z6:Int)(cE:Int->(I (I Int))->V ((I (I Int)))):Nat->Int->(I (I Int))->V ((I (I Int)))
 |0,_,_=>none|m2+1,sM,eG=>
  a8 (cond (decide (sM<z6)) (some (decide ((eG.length:Int)<=256))) (some false)) fun b25=>cond b25 (a8 (aB eG z6) fun xX=>
   a8 (aB eG sM) fun WK=>
   a8 (JC n xX WK) fun oF=>
   a8 (cond (decide ((oF.length:Int)>0)) (a8 (jp n eG oF) fun iP=>some (!iP)) (some false)) fun Ey=>cond Ey (aF ((eG.length+1)*24<=140737488355328/\eG.length+1<=140737488355328) (
    Tl sM (TG n z6 cE m2) (eG++[oF]))) (Tl sM (TG n z6 cE m2) eG)) (Tj z6 cE eG)
def Tk  (l9:I (I Int)):V ((I (I Int))):=
 some l9
def MV(n:Nat):Nat->Int->(I (I Int))->V ((I (I Int)))
 |0,_,_=>none|m1+1,z6,l7=>a8 (cond (decide (z6<(l7.length:Int))) (some (decide ((l7.length:Int)<=256))) (some false)) fun LJ=>cond LJ (TG n z6 (MV n m1) n 0 l7) (Tk l7)
def Rw(n:Nat)(p1:I (I Int)):V ((I (I Int))):=
 aF (p1.length*24<=140737488355328/\p1.length<=140737488355328) (
 MV n n 0 p1)
theorem qr4(n:Nat)(p1:I (I Int))(r:(I (I Int)))(J:Rw n p1=some r):cY prog 96 [.isl false (List.map (cL (cI .u64)) p1)] (.isl false (List.map (cL (cI .u64)) r)):=by unfold Rw at J;refine kJ 54 Yn ?_;obtain⟨h2,J⟩:=d7 J;refine go ?_;refine aO (u:=.sl 0 0 0 0) (O':=⟨[(0,.row [] 126)],1⟩) rfl (uG sO.h qN.h rfl rfl rfl rfl rfl rfl rfl) ?_;refine go ?_;refine aO (u:=.vl 1 0 0 p1.length) (O':=⟨[(1,.bv (cL (cI .u64)) p1 126 1 0),(0,.row [] 126)],2⟩) rfl (uZ rfl rfl rfl rfl (MG (cL (cI .u64)) p1 sO.h sO.h qN.h rfl rfl rfl (H2 (cL (cI .u64)) (SK (cI .u64))) h2)) ?_;refine go ?_;refine gL (fun m tm O=>∃z6 l7 t8,MV n m z6 l7=some r/\tm=fr 54 [(3,.vl 1 t8 0 l7.length),(4,.i6 z6)]/\O=⟨SO l7 t8,2⟩) (fun tm O=>∃l9 cK,Tk l9=some r/\tm=fr 54 [(3,.vl 1 cK 0 l9.length)]/\O=⟨SO l9 cK,2⟩) n ⟨0,p1,0,J,rfl,rfl⟩ ?_ ?_;rintro _ _ ⟨l9,cK,J,rfl,rfl⟩;unfold Tk at J;refine go ?_;obtain rfl:=sI J;exact rT (us:=[.vl 1 cK 0 l9.length]) (u:=.iM (cL (cI .u64)) l9) (dW rfl (dN)) (fR 1 1);rintro(_|m1) _ _ ⟨z6,l7,t8,J,rfl,rfl⟩;cases J;unfold MV at J;obtain⟨LJ,dG,J⟩:=aC J;refine gn ?_;refine dO (fun tm O=>tm=fr 54 [(3,.vl 1 t8 0 l7.length),(4,.i6 z6),(18,.bool LJ)]/\O=⟨SO l7 t8,2⟩) ?_ ?_;rintro _ _ ⟨rfl,rfl⟩;refine gF J ?_ ?_<;>intro iE J;refine go ?_;apply aV;refine go ?_;refine gL (fun m tm O=>∃sM eG M7,TG n z6 (MV n m1) m sM eG=some r/\tm=fr 54 [(3,.vl 1 M7 0 eG.length),(4,.i6 z6),(5,.i6 sM)]/\O=⟨SO eG M7,2⟩) (fun tm O=>∃rH wq,Tj z6 (MV n m1) rH=some r/\tm=fr 54 [(3,.vl 1 wq 0 rH.length),(4,.i6 z6)]/\O=⟨SO rH wq,2⟩) n ⟨0,l7,t8,J,rfl,rfl⟩ ?_ ?_;rintro _ _ ⟨rH,wq,J,rfl,rfl⟩;unfold Tj at J;refine go ?_;exact lC ⟨_,rH,wq,J,rfl,rfl⟩;rintro(_|m2) _ _ ⟨sM,eG,M7,J,rfl,rfl⟩;cases J;unfold TG at J;obtain⟨b25,nB,J⟩:=aC J;refine gn ?_;refine dO (fun tm O=>tm=fr 54 [(3,.vl 1 M7 0 eG.length),(4,.i6 z6),(5,.i6 sM),(28,.bool b25)]/\O=⟨SO eG M7,2⟩) ?_ ?_;rintro _ _ ⟨rfl,rfl⟩;refine gF J ?_ ?_<;>intro uR J;refine go ?_;apply aV;obtain⟨xX,o9,J⟩:=aC J;obtain⟨WK,vC,J⟩:=aC J;obtain⟨oF,tV,J⟩:=aC J;refine go ?_;refine dE [] ?_;refine gd ?_;refine aQ rfl (dC rfl rfl (i9 (cL (cI .u64)) sO.h (aW qN.h) (by decide) (SK (cI .u64)) (vo rfl) o9)) ?_;refine aQ rfl (AQ (cL (cI .u64)) (fun x=>.iM (cI .u64) x) gZ.h rfl (fun _=>rfl) rfl rfl o9) ?_;refine gd ?_;refine aQ rfl (dC rfl rfl (i9 (cL (cI .u64)) sO.h (aW qN.h) (by decide) (SK (cI .u64)) (vo rfl) vC)) ?_;refine aQ rfl (AQ (cL (cI .u64)) (fun x=>.iM (cI .u64) x) gZ.h rfl (fun _=>rfl) rfl rfl vC) (eM rfl (pC (x_ n xX WK oF tV)) DW ?_);refine gd ?_;refine bD ⟨by kernel_rfl,trivial,?_⟩;obtain⟨Ey,kX,J⟩:=aC J;refine gn ?_;refine dO (fun tm O=>tm=fr 54 [(3,.vl 1 M7 0 eG.length),(4,.i6 z6),(5,.i6 sM),(6,.iM (cI .u64) oF),(48,.bool Ey)]/\O=⟨SO eG M7,2⟩) ?_ ?_;rintro _ _ ⟨rfl,rfl⟩;refine gn ?_;refine dO (fun tm O=>∃yM II,Tl sM (TG n z6 (MV n m1) m2) yM=some r/\tm=fr 54 [(3,.vl 1 II 0 yM.length),(4,.i6 z6),(5,.i6 sM)]/\O=⟨SO yM II,2⟩) ?_ ?_;rintro _ _ ⟨yM,II,J,rfl,rfl⟩;unfold Tl at J;refine go ?_;exact lC ⟨_,yM,II,J,rfl,rfl⟩;refine cF J ?_ ?_<;>intro vB J;obtain⟨qA,J⟩:=d7 J;refine go ?_;refine bT ?_;refine bT ?_;refine go ?_;exact xC ⟨(eG++[oF]),(M7+1),J,rfl,rfl⟩;refine go ?_;exact xC ⟨eG,M7,J,rfl,rfl⟩;refine go ?_;rcases gB kX with⟨nT,kX⟩|⟨nT,kX⟩;obtain⟨iP,w4,kX⟩:=aC kX;obtain rfl:=sI kX;refine go ?_;refine aR rfl (vw (z1h n eG oF iP w4) (mB 1 1)) VI ?_;refine go ?_;exact xC ⟨rfl,rfl⟩;exact gy kX;refine go ?_;exact xC ⟨eG,M7,J,rfl,rfl⟩;refine go ?_;rcases gB nB with⟨qC,nB⟩|⟨qC,nB⟩;exact gy nB;exact gy nB;refine go ?_;exact xC ⟨l7,t8,J,rfl,rfl⟩;refine go ?_;rcases gB dG with⟨iY,dG⟩|⟨iY,dG⟩;exact gy dG;exact gy dG
def Je(n:Nat)(dD:I Int):V ((I Int)):=
 a8 (MO n dD) fun gK=>some gK
def Tg(p1:I Int)(p2:I Int)(n:Nat):Nat->Int->(I Int)->V ((I Int))
 |0,_,_=>none|m1+1,z8,l9=>
  cond (decide (z8<(p1.length:Int))) (a8 (aB p1 z8) fun kZ=>
   a8 (T1 n p2 z8) fun fD=>
   aF ((l9.length+1)*8<=140737488355328/\l9.length+1<=140737488355328) ((Tg p1 p2 n m1) (IntKind.i64.wrap (z8+1)) (l9++[(SN .u64 kZ fD)]))) (Je n l9)
def Hz(n:Nat)(p1:I Int)(p2:I Int):V ((I Int)):=
 Tg p1 p2 n n 0 ([]:I Int)
theorem qte(n:Nat)(p1:I Int)(p2:I Int)(r:(I Int))(J:Hz n p1 p2=some r):cY prog 153 [.isl false (p1.map (cI .u64)),.isl false (p2.map (cI .u64))] (.isl false (r.map (cI .u64))):=by unfold Hz at J;refine gP 26 V7 ?_;refine gr ?_;refine gr ?_;refine gr ?_;refine gV 5 191 1 1 ?_;refine gL (fun m tm O=>∃z8 l9 cK,Tg p1 p2 n m z8 l9=some r/\tm=fr 26 [(0,.iM (cI .u64) p1),(1,.iM (cI .u64) p2),(5,.vl 0 cK 0 l9.length),(6,.i6 z8)]/\O=⟨[(0,.bv (cI .u64) l9 191 1 cK)],1⟩) (fun tm O=>∃dD gH,Je n dD=some r/\tm=fr 26 [(5,.vl 0 gH 0 dD.length)]/\O=⟨[(0,.bv (cI .u64) dD 191 1 gH)],1⟩) n ⟨0,([]:I Int),0,J,rfl,rfl⟩ ?_ ?_;rintro _ _ ⟨dD,gH,J,rfl,rfl⟩;unfold Je at J;refine gn ?_;refine cJ (tm':=fr 26 [(5,.iM (cI .u64) dD)]) (O':=⟨[],1⟩) (Gh.trans (Gh.sub (l':=[(5,.vl 0 gH 0 dD.length)]) ⟨rfl,trivial⟩) (HV 0 1)) NZ ?_;obtain⟨gK,iE,J⟩:=aC J;refine go ?_;refine aR rfl (pC (sa n dD gK iE) _) A5 ?_;exact gx J;rintro(_|m1) _ _ ⟨z8,l9,cK,J,rfl,rfl⟩;cases J;unfold Tg at J;refine gF J ?_ ?_<;>intro eW J;refine go ?_;apply aV;obtain⟨kZ,fU,J⟩:=aC J;obtain⟨fD,iS,J⟩:=aC J;obtain⟨tW,J⟩:=d7 J;refine go ?_;refine dE [(0,9)] ?_;refine gd ?_;refine bP fU ?_;refine gd ?_;refine eM rfl (pC (qo1 n p2 z8 fD iS)) L3 (aQ rfl (tC rfl rfl (qvj _ _ _) rfl) ?_);refine eE ?_;refine eE ?_;refine gd ?_;refine bD ⟨by kernel_rfl,⟨iQ rfl,trivial⟩,?_⟩;refine go ?_;exact lC ⟨_,(l9++[(SN .u64 kZ fD)]),(cK+1),J,rfl,rfl⟩;refine go ?_;exact xC ⟨l9,cK,J,rfl,rfl⟩
def Z9(n:Nat)(p1:I Int)(p2:I Int):V (Bool):=
 a8 (Hz n p1 p2) fun r3=>some ((r3.length:Int)==0)
theorem Q_(n:Nat)(p1:I Int)(p2:I Int)(r:Bool)(J:Z9 n p1 p2=some r):cY prog 134 [.isl false (p1.map (cI .u64)),.isl false (p2.map (cI .u64))] (.bool r):=by unfold Z9 at J;refine gP 10 DU ?_;obtain⟨r3,h4,J⟩:=aC J;refine go ?_;refine aR rfl (pC (qte n p1 p2 r3 h4) _) V7 ?_;exact gx J
def Rm(n:Nat)(p1:I Int)(p2:I Int):V (Bool):=
 a8 (a8 (Z9 n p1 p2) fun r3=>cond r3 (a8 (Z9 n p2 p1) fun r6=>some r6) (some false)) fun b8=>some b8
theorem qtd(n:Nat)(p1:I Int)(p2:I Int)(r:Bool)(J:Rm n p1 p2=some r):cY prog 130 [.isl false (p1.map (cI .u64)),.isl false (p2.map (cI .u64))] (.bool r):=by unfold Rm at J;refine gP 13 VH ?_;obtain⟨b8,h9,J⟩:=aC J;refine gr ?_;refine dO (fun tm O=>tm=fr 13 [(4,.bool b8)]/\O=⟨[],0⟩) ?_ ?_;rintro _ _ ⟨rfl,rfl⟩;exact gx J;obtain⟨r3,h4,h9⟩:=aC h9;refine go ?_;refine aR rfl (pC (Q_ n p1 p2 r3 h4) _) DU ?_;refine go ?_;rcases gB h9 with⟨h5,h9⟩|⟨h5,h9⟩;obtain⟨r6,h7,h9⟩:=aC h9;obtain rfl:=sI h9;refine go ?_;refine aR rfl (pC (Q_ n p2 p1 r6 h7) _) DU ?_;refine go ?_;exact xC ⟨rfl,rfl⟩;exact gy h9
def Hk(n:Nat)(p1:I Int)(p2:Int):V (Bool):=
 a8 (cond (decide (p2<0)) (some true) (some (decide ((IntKind.i64.wrap (p2.tdiv 64))>=(p1.length:Int))))) fun b5=>cond b5 (some false) (a8 (aB p1 (IntKind.i64.wrap (p2.tdiv 64))) fun x9=>aF (¬ (IntKind.u64.wrap (p2.tmod 64))<0) (some ((GF .u64 (x9.fdiv (2^(min (IntKind.u64.wrap (p2.tmod 64)).toNat IntKind.u64.bits))) 1)==1)))
theorem qq8(n:Nat)(p1:I Int)(p2:Int)(r:Bool)(J:Hk n p1 p2=some r):cY prog 131 [.isl false (p1.map (cI .u64)),.int .i64 p2] (.bool r):=by unfold Hk at J;refine gP 25 L8 ?_;obtain⟨b5,h6,J⟩:=aC J;refine gr ?_;refine dO (fun tm O=>tm=fr 25 [(0,.iM (cI .u64) p1),(1,.i6 p2),(13,.bool b5)]/\O=⟨[],0⟩) ?_ ?_;rintro _ _ ⟨rfl,rfl⟩;refine gF J ?_ ?_<;>intro h7 J;exact gx J;obtain⟨x9,fH,J⟩:=aC J;obtain⟨eC,J⟩:=d7 J;refine go ?_;refine aO rfl (tC rfl rfl (xg _ (by decide)) rfl) ?_;refine aZ fH ?_;refine go ?_;refine aO rfl (tC rfl rfl (Ok _ (by decide)) rfl) ?_;refine aO (u:=.int .u64 (IntKind.u64.wrap (p2.tmod 64))) rfl (MC rfl rfl (by simp only[convX,jN.h,CW.h]<;>rfl) rfl) ?_;refine aO rfl (tC rfl rfl (za4 _ eC) rfl) (aO rfl (tC rfl rfl (aa _ _ _) rfl) ?_);exact gx J;refine go ?_;rcases gB h6 with⟨h3,h6⟩|⟨h3,h6⟩;exact gy h6;obtain rfl:=sI h6;refine go ?_;refine RS.w rfl (tC rfl rfl (xg _ (by decide)) rfl) ?_;refine go ?_;exact xC ⟨rfl,rfl⟩
def Tz(z8:Int)(cE:(I (I UInt8))->Int->V ((I (I UInt8))))(gN:I (I UInt8)):V ((I (I UInt8))):=
 cE gN (IntKind.i64.wrap (z8+1))
def pq  (l9:I (I UInt8)):V ((I (I UInt8))):=
 some l9
def PR(p1:I bL)(p2:I (I UInt8))(n:Nat):Nat->(I (I UInt8))->Int->V ((I (I UInt8)))
 |0,_,_=>none|m1+1,l7,z8=>
  cond (decide (z8<(p2.length:Int))) (a8 (aB p2 z8) fun fZ=>
   a8 (JD n p1 fZ) fun gK=>cond (decide (gK>=0)) (a8 (aB p2 z8) fun rY=>
    a8 (OX n l7 rY) fun GN=>
    Tz z8 (PR p1 p2 n m1) GN) (Tz z8 (PR p1 p2 n m1) l7)) (pq l7)
def um(n:Nat)(p1:I bL)(p2:I (I UInt8)):V ((I (I UInt8))):=
 PR p1 p2 n n [] 0
theorem qoa(n:Nat)(p1:I bL)(p2:I (I UInt8))(r:(I (I UInt8)))(J:um n p1 p2=some r):cY prog 150 [.isl false (p1.map bU),.isl false (p2.map cS)] (.isl false (r.map cS)):=by unfold um at J;refine gP 27 VA ?_;refine gr ?_;refine gr ?_;refine gr ?_;refine cJ (tm':=fr 27 [(0,.iM bU p1),(1,.iM cS p2),(5,.iM cS []),(6,.i6 0)]) (Gh.trans (Gh.sub (l':=[(0,.iM bU p1),(1,.iM cS p2),(5,.nils),(6,.i6 0)]) ⟨rfl,rfl,rfl,rfl,trivial⟩) (Gh.wkS (l':=[(0,.iM bU p1),(1,.iM cS p2),(5,.iM cS []),(6,.i6 0)]) (.cons (.refl _) (.cons (.refl _) (.cons (.nil false) (.cons (.refl _) .nil)))))) NZ ?_;refine gL (fun m tm O=>∃l7 z8,PR p1 p2 n m l7 z8=some r/\tm=fr 27 [(0,.iM bU p1),(1,.iM cS p2),(5,.iM cS l7),(6,.i6 z8)]/\O=⟨[],0⟩) (fun tm O=>∃l9,pq l9=some r/\tm=fr 27 [(5,.iM cS l9)]/\O=⟨[],0⟩) n ⟨[],0,J,rfl,rfl⟩ ?_ ?_;rintro _ _ ⟨l9,J,rfl,rfl⟩;unfold pq at J;exact gx J;rintro(_|m1) _ _ ⟨l7,z8,J,rfl,rfl⟩;cases J;unfold PR at J;refine gF J ?_ ?_<;>intro fH J;refine go ?_;apply aV;obtain⟨fZ,eC,J⟩:=aC J;obtain⟨gK,iE,J⟩:=aC J;refine go ?_;refine aZ eC ?_;refine go ?_;refine aR rfl (pC (Ih n p1 fZ gK iE) _) tX ?_;refine gn ?_;refine dO (fun tm O=>∃gN,Tz z8 (PR p1 p2 n m1) gN=some r/\tm=fr 27 [(0,.iM bU p1),(1,.iM cS p2),(5,.iM cS gN),(6,.i6 z8)]/\O=⟨[],0⟩) ?_ ?_;rintro _ _ ⟨gN,J,rfl,rfl⟩;unfold Tz at J;refine go ?_;exact lC ⟨gN,(IntKind.i64.wrap (z8+1)),J,rfl,rfl⟩;refine cF J ?_ ?_<;>intro eW J;obtain⟨rY,dF,J⟩:=aC J;obtain⟨GN,tW,J⟩:=aC J;refine go ?_;refine aZ dF ?_;refine go ?_;refine aR rfl (pC (Hy n l7 rY GN tW) _) tY ?_;refine go ?_;exact xC ⟨GN,J,rfl,rfl⟩;refine go ?_;exact xC ⟨l7,J,rfl,rfl⟩;refine go ?_;exact xC ⟨l7,J,rfl,rfl⟩
def uy  (iO:I (I UInt8)):V ((I (I UInt8))):=
 some iO
def TF(n:Nat)(bS:I (I UInt8)):Nat->(I (I UInt8))->Int->V ((I (I UInt8)))
 |0,_,_=>none|m2+1,eP,dH=>cond (decide (dH<(bS.length:Int))) (a8 (aB bS dH) fun BE=>a8 (OX n eP BE) fun nW=>(TF n bS m2) nW (IntKind.i64.wrap (dH+1))) (uy eP)
def Tf(uT:Int)(XW:Int->(I (I UInt8))->V ((I (I UInt8))))(U2:I (I UInt8)):V ((I (I UInt8))):=
 XW (IntKind.i64.wrap (uT+1)) U2
def ux(dP:Int)(cE:Int->(I (I UInt8))->V ((I (I UInt8))))(rF:I (I UInt8)):V ((I (I UInt8))):=
 cE (IntKind.i64.wrap (dP+1)) rF
def PN(n:Nat)(dP:Int)(cE:Int->(I (I UInt8))->V ((I (I UInt8))))(uV:bL):Nat->Int->(I (I UInt8))->V ((I (I UInt8)))
 |0,_,_=>none|m3+1,uT,nK=>
  cond (decide (uT<(uV.Supers.length:Int))) (a8 (aB uV.Supers uT) fun RL=>
   a8 (HB n nK RL) fun SB=>cond (!SB) (a8 (aB uV.Supers uT) fun RJ=>
    aF ((nK.length+1)*16<=140737488355328/\nK.length+1<=140737488355328) (
    Tf uT (PN n dP cE uV m3) (nK++[RJ]))) (Tf uT (PN n dP cE uV m3) nK)) (ux dP cE nK)
def uz(n:Nat)(bS:I (I UInt8)):V ((I (I UInt8))):=
 TF n bS n [] 0
def MU(p1:I bL)(n:Nat):Nat->Int->(I (I UInt8))->V ((I (I UInt8)))
 |0,_,_=>none|m1+1,dP,dD=>
  cond (decide (dP<(dD.length:Int))) (a8 (aB dD dP) fun xX=>
   a8 (JD n p1 xX) fun fW=>
   a8 (aB p1 fW) fun uV=>
   PN n dP (MU p1 n m1) uV n 0 dD) (uz n dD)
def Rl(n:Nat)(p1:I bL)(p2:I UInt8):V ((I (I UInt8))):=
 a8 (JD n p1 p2) fun r3=>cond (decide (r3<0)) (some []) (MU p1 n n 0 ([p2]))
theorem qtf(n:Nat)(p1:I bL)(p2:I UInt8)(r:(I (I UInt8)))(J:Rl n p1 p2=some r):cY prog 151 [.isl false (p1.map bU),.str p2] (.isl false (r.map cS)):=by unfold Rl at J;refine gP 66 V9 ?_;obtain⟨r3,h4,J⟩:=aC J;refine go ?_;refine aR rfl (pC (Ih n p1 p2 r3 h4) _) tX ?_;refine gF J ?_ ?_<;>intro h5 J;refine go ?_;obtain rfl:=sI J;exact rT (us:=[.nils]) (u:=.isl false []) (dW rfl (dN)) wR;refine go ?_;refine RS.step (u:=.vl 0 0 0 ([p2].length)) (O':=⟨[(0,.bv cS ([p2]) 9 1 0)],1⟩) rfl (IX.bslv (cs:=(List.map cS [p2]).flatten) tb_ok rfl kQ.h JY.h rfl rfl rfl rfl rfl rfl rfl rfl) rfl rfl ?_;refine go ?_;refine gL (fun m tm O=>∃dP dD gH,MU p1 n m dP dD=some r/\tm=fr 66 [(0,.iM bU p1),(5,.vl 0 gH 0 dD.length),(6,.i6 dP)]/\O=⟨n8 dD gH,1⟩) (fun tm O=>∃bS g8,uz n bS=some r/\tm=fr 66 [(5,.vl 0 g8 0 bS.length)]/\O=⟨n8 bS g8,1⟩) n ⟨0,[p2],0,J,rfl,rfl⟩ ?_ ?_;rintro _ _ ⟨bS,g8,J,rfl,rfl⟩;unfold uz at J;refine gr ?_;refine gr ?_;refine cJ (tm':=fr 66 [(5,.vl 0 g8 0 bS.length),(9,.iM cS []),(10,.i6 0)]) (Gh.trans (Gh.sub (l':=[(5,.vl 0 g8 0 bS.length),(9,.nils),(10,.i6 0)]) ⟨rfl,rfl,rfl,trivial⟩) (Gh.wkS (l':=[(5,.vl 0 g8 0 bS.length),(9,.iM cS []),(10,.i6 0)]) (.cons (.refl _) (.cons (.nil false) (.cons (.refl _) .nil))))) NZ ?_;refine gL (fun m tm O=>∃eP dH,TF n bS m eP dH=some r/\tm=fr 66 [(5,.vl 0 g8 0 bS.length),(9,.iM cS eP),(10,.i6 dH)]/\O=⟨n8 bS g8,1⟩) (fun tm O=>∃iO,uy iO=some r/\tm=fr 66 [(9,.iM cS iO)]/\O=⟨n8 bS g8,1⟩) n ⟨[],0,J,rfl,rfl⟩ ?_ ?_;rintro _ _ ⟨iO,J,rfl,rfl⟩;unfold uy at J;exact gx J;rintro(_|m2) _ _ ⟨eP,dH,J,rfl,rfl⟩;cases J;unfold TF at J;refine gF J ?_ ?_<;>intro rO J;refine go ?_;apply aV;obtain⟨BE,qC,J⟩:=aC J;obtain⟨nW,nB,J⟩:=aC J;refine go ?_;refine aO rfl (dC rfl rfl (i9 cS kQ.h (aW JY.h) (by decide) OJ (vo rfl) qC)) ?_;refine aO rfl (AQ cS (fun x=>.str x) M4.h rfl (fun _=>rfl) rfl rfl qC) (aR rfl (pC (Hy n eP BE nW nB) _) tY ?_);refine go ?_;exact lC ⟨nW,(IntKind.i64.wrap (dH+1)),J,rfl,rfl⟩;refine go ?_;exact xC ⟨eP,J,rfl,rfl⟩;rintro(_|m1) _ _ ⟨dP,dD,gH,J,rfl,rfl⟩;cases J;unfold MU at J;refine gF J ?_ ?_<;>intro uR J;refine go ?_;apply aV;obtain⟨xX,o9,J⟩:=aC J;obtain⟨fW,vC,J⟩:=aC J;obtain⟨uV,tV,J⟩:=aC J;refine go ?_;refine aO rfl (dC rfl rfl (i9 cS kQ.h (aW JY.h) (by decide) OJ (vo rfl) o9)) ?_;refine aO rfl (AQ cS (fun x=>.str x) M4.h rfl (fun _=>rfl) rfl rfl o9) (aR rfl (pC (Ih n p1 xX fW vC) _) tX ?_);refine aZ tV ?_;refine go ?_;refine gL (fun m tm O=>∃uT nK EF,PN n dP (MU p1 n m1) uV m uT nK=some r/\tm=fr 66 [(0,.iM bU p1),(5,.vl 0 EF 0 nK.length),(6,.i6 dP),(7,.iM cS uV.Supers),(8,.i6 uT)]/\O=⟨n8 nK EF,1⟩) (fun tm O=>∃rF NW,ux dP (MU p1 n m1) rF=some r/\tm=fr 66 [(0,.iM bU p1),(5,.vl 0 NW 0 rF.length),(6,.i6 dP)]/\O=⟨n8 rF NW,1⟩) n ⟨0,dD,gH,J,rfl,rfl⟩ ?_ ?_;rintro _ _ ⟨rF,NW,J,rfl,rfl⟩;unfold ux at J;refine go ?_;exact lC ⟨_,rF,NW,J,rfl,rfl⟩;rintro(_|m3) _ _ ⟨uT,nK,EF,J,rfl,rfl⟩;cases J;unfold PN at J;refine gF J ?_ ?_<;>intro pK J;refine go ?_;apply aV;obtain⟨RL,B8,J⟩:=aC J;obtain⟨SB,td,J⟩:=aC J;refine go ?_;refine aZ B8 ?_;refine go ?_;refine aR rfl (vw (PC n nK RL SB td) (mB 0 1)) nC ?_;refine gn ?_;refine dO (fun tm O=>∃U2 wm,Tf uT (PN n dP (MU p1 n m1) uV m3) U2=some r/\tm=fr 66 [(0,.iM bU p1),(5,.vl 0 wm 0 U2.length),(6,.i6 dP),(7,.iM cS uV.Supers),(8,.i6 uT)]/\O=⟨n8 U2 wm,1⟩) ?_ ?_;rintro _ _ ⟨U2,wm,J,rfl,rfl⟩;unfold Tf at J;refine go ?_;exact lC ⟨_,U2,wm,J,rfl,rfl⟩;refine cF J ?_ ?_<;>intro UZ J;obtain⟨RJ,Yc,J⟩:=aC J;obtain⟨Lh,J⟩:=d7 J;refine go ?_;refine aZ Yc ?_;refine go ?_;refine bT ?_;refine bT ?_;refine go ?_;exact xC ⟨(nK++[RJ]),(EF+1),J,rfl,rfl⟩;refine go ?_;exact xC ⟨nK,EF,J,rfl,rfl⟩;refine go ?_;exact xC ⟨nK,EF,J,rfl,rfl⟩;refine go ?_;exact xC ⟨dD,gH,J,rfl,rfl⟩
def Tv(dP:Int)(cE:Int->(I (I UInt8))->V ((I (I UInt8))))(iR:I (I UInt8)):V ((I (I UInt8))):=
 cE (IntKind.i64.wrap (dP+1)) iR
def pd(r3:(I (I UInt8)))(dP:Int)(dD:I (I UInt8))(cE:Int->(I (I UInt8))->V ((I (I UInt8))))(qt:Bool):V ((I (I UInt8))):=
 cond qt (a8 (aB r3 dP) fun oV=>
  aF ((dD.length+1)*16<=140737488355328/\dD.length+1<=140737488355328) (
  Tv dP cE (dD++[oV]))) (Tv dP cE dD)
def ZY(n:Nat)(r3:(I (I UInt8)))(dP:Int)(dD:I (I UInt8))(cE:Int->(I (I UInt8))->V ((I (I UInt8))))(fD:(I (I UInt8))):Nat->Bool->Int->V ((I (I UInt8)))
 |0,_,_=>none|m2+1,A8,pM=>cond (decide (pM<(r3.length:Int))) (a8 (cond A8 (cond (pM==dP) (some true) (a8 (aB r3 pM) fun w8=>a8 (HB n fD w8) fun fh=>some (!fh))) (some false)) fun tf=>(ZY n r3 dP dD cE fD m2) tf (IntKind.i64.wrap (pM+1))) (pd r3 dP dD cE A8)
def pe  (bS:I (I UInt8)):V ((I (I UInt8))):=
 some bS
def JH(p1:I bL)(n:Nat)(r3:(I (I UInt8))):Nat->Int->(I (I UInt8))->V ((I (I UInt8)))
 |0,_,_=>none|m1+1,dP,dD=>
  cond (decide (dP<(r3.length:Int))) (a8 (aB r3 dP) fun kZ=>
   a8 (Rl n p1 kZ) fun fD=>
   ZY n r3 dP dD (JH p1 n r3 m1) fD n true 0) (pe dD)
def Ir(n:Nat)(p1:I bL)(p2:I (I UInt8)):V ((I (I UInt8))):=
 a8 (um n p1 p2) fun r3=>
 JH p1 n r3 n 0 ([]:I (I UInt8))
theorem qiy(n:Nat)(p1:I bL)(p2:I (I UInt8))(r:(I (I UInt8)))(J:Ir n p1 p2=some r):cY prog 132 [.isl false (p1.map bU),.isl false (p2.map cS)] (.isl false (r.map cS)):=by
 unfold Ir at J;refine gP 56 L7 ?_;obtain⟨r3,h4,J⟩:=aC J;refine go ?_;refine aR rfl (pC (qoa n p1 p2 r3 h4) _) VA ?_;refine gr ?_;refine gV 5 9 1 1 ?_;refine gL (fun m tm O=>∃dP dD gH,JH p1 n r3 m dP dD=some r/\tm=fr 56 [(0,.iM bU p1),(5,.vl 0 gH 0 dD.length),(6,.iM cS r3),(7,.i6 dP)]/\O=⟨n8 dD gH,1⟩) (fun tm O=>∃bS g8,pe bS=some r/\tm=fr 56 [(5,.vl 0 g8 0 bS.length)]/\O=⟨n8 bS g8,1⟩) n ⟨0,([]:I (I UInt8)),0,J,rfl,rfl⟩ ?_ ?_;rintro _ _ ⟨bS,g8,J,rfl,rfl⟩;unfold pe at J;refine go ?_;obtain rfl:=sI J;exact rT (us:=[.vl 0 g8 0 bS.length]) (u:=.iM cS bS) (dW rfl (dN)) (fR 0 1);rintro(_|m1) _ _ ⟨dP,dD,gH,J,rfl,rfl⟩;cases J;unfold JH at J;refine gF J ?_ ?_<;>intro eW J;refine go ?_;apply aV;obtain⟨kZ,fU,J⟩:=aC J;obtain⟨fD,iS,J⟩:=aC J;refine go ?_;refine aZ fU ?_;refine go ?_;refine aR rfl (pC (qtf n p1 kZ fD iS) _) V9 ?_;refine go ?_;refine gL (fun m tm O=>∃A8 pM,ZY n r3 dP dD (JH p1 n r3 m1) fD m A8 pM=some r/\tm=fr 56 [(0,.iM bU p1),(5,.vl 0 gH 0 dD.length),(6,.iM cS r3),(7,.i6 dP),(8,.iM cS fD),(9,.bool A8),(10,.i6 pM)]/\O=⟨n8 dD gH,1⟩) (fun tm O=>∃qt,pd r3 dP dD (JH p1 n r3 m1) qt=some r/\tm=fr 56 [(0,.iM bU p1),(5,.vl 0 gH 0 dD.length),(6,.iM cS r3),(7,.i6 dP),(9,.bool qt)]/\O=⟨n8 dD gH,1⟩) n ⟨true,0,J,rfl,rfl⟩ ?_ ?_;rintro _ _ ⟨qt,J,rfl,rfl⟩;unfold pd at J;refine gr ?_;refine dO (fun tm O=>∃iR mS,Tv dP (JH p1 n r3 m1) iR=some r/\tm=fr 56 [(0,.iM bU p1),(5,.vl 0 mS 0 iR.length),(6,.iM cS r3),(7,.i6 dP)]/\O=⟨n8 iR mS,1⟩) ?_ ?_;rintro _ _ ⟨iR,mS,J,rfl,rfl⟩;unfold Tv at J;refine go ?_;exact lC ⟨_,iR,mS,J,rfl,rfl⟩;refine cF J ?_ ?_<;>intro vC J;obtain⟨oV,o8,J⟩:=aC J;obtain⟨w4,J⟩:=d7 J;refine go ?_;refine aZ o8 ?_;refine go ?_;refine bT ?_;refine bT ?_;refine go ?_;exact xC ⟨(dD++[oV]),(gH+1),J,rfl,rfl⟩;refine go ?_;exact xC ⟨dD,gH,J,rfl,rfl⟩;rintro(_|m2) _ _ ⟨A8,pM,J,rfl,rfl⟩;cases J;unfold ZY at J;refine gF J ?_ ?_<;>intro FX J;refine go ?_;apply aV;obtain⟨tf,pK,J⟩:=aC J;refine gn ?_;refine dO (fun tm O=>tm=fr 56 [(0,.iM bU p1),(5,.vl 0 gH 0 dD.length),(6,.iM cS r3),(7,.i6 dP),(8,.iM cS fD),(9,.bool tf),(10,.i6 pM)]/\O=⟨n8 dD gH,1⟩) ?_ ?_;rintro _ _ ⟨rfl,rfl⟩;refine go ?_;exact lC ⟨tf,(IntKind.i64.wrap (pM+1)),J,rfl,rfl⟩;refine go ?_;rcases gB pK with⟨kX,pK⟩|⟨kX,pK⟩;refine go ?_;rcases gB pK with⟨vB,pK⟩|⟨vB,pK⟩;exact gy pK;obtain⟨w8,KU,pK⟩:=aC pK;obtain⟨fh,Db,pK⟩:=aC pK;obtain rfl:=sI pK;refine go ?_;refine aZ KU ?_;refine go ?_;refine aR rfl (pC (PC n fD w8 fh Db) _) nC ?_;refine go ?_;exact xC ⟨rfl,rfl⟩;obtain rfl:=sI pK;refine go ?_
 repeat refine RS.no (GO rfl rfl rfl) rfl rfl ?_
 refine go ?_;exact xC ⟨rfl,rfl⟩;refine go ?_;exact xC ⟨A8,J,rfl,rfl⟩;refine go ?_;exact xC ⟨dD,gH,J,rfl,rfl⟩
def Sk(jQ:(I (I UInt8)))(dV:Int)(rc2:(I UInt8)->Int->V ((I UInt8)))(S5:I UInt8):V ((I UInt8)):=
 a8 (aB jQ dV) fun xX=>
 aF (S5.length+xX.length<=9223372036854775807) (
 rc2 (S5++xX) (IntKind.i64.wrap (dV+1)))
def lj  (Ny:I UInt8):V ((I UInt8)):=
 some Ny
def MP(jQ:(I (I UInt8))):Nat->(I UInt8)->Int->V ((I UInt8))
 |0,_,_=>none|m2+1,wD,dV=>
  cond (decide (dV<(jQ.length:Int))) (cond (decide (dV>0)) (aF (wD.length+([38]).length<=9223372036854775807) (
    Sk jQ dV (MP jQ m2) (wD++[38]))) (Sk jQ dV (MP jQ m2) wD)) (lj wD)
def Sj(dM:Int)(cE:Int->(I (I UInt8))->V ((I UInt8)))(rF:I (I UInt8)):V ((I UInt8)):=
 cE (IntKind.i64.wrap (dM+1)) rF
def ll(p1:I bL)(n:Nat)(cN:I (I UInt8)):V ((I UInt8)):=
 a8 (Ir n p1 cN) fun jQ=>
 MP jQ n [] 0
def PA(p1:I bL)(p2:I (I UInt8))(p3:I (I Int))(p4:I Int)(n:Nat):Nat->Int->(I (I UInt8))->V ((I UInt8))
 |0,_,_=>none|m1+1,dM,bS=>
  cond (decide (dM<(p2.length:Int))) (a8 (aB p3 dM) fun qV=>
   a8 (Rm n qV p4) fun iP=>cond iP (a8 (aB p2 dM) fun M3=>some M3) (a8 (Hk n p4 dM) fun O5=>cond O5 (a8 (aB p2 dM) fun WJ=>
     aF ((bS.length+1)*16<=140737488355328/\bS.length+1<=140737488355328) (
     Sj dM (PA p1 p2 p3 p4 n m1) (bS++[WJ]))) (Sj dM (PA p1 p2 p3 p4 n m1) bS))) (ll p1 n bS)
def Qs(n:Nat)(p1:I bL)(p2:I (I UInt8))(p3:I (I Int))(p4:I Int):V ((I UInt8)):=
 PA p1 p2 p3 p4 n n 0 ([]:I (I UInt8))
theorem qw8(n:Nat)(p1:I bL)(p2:I (I UInt8))(p3:I (I Int))(p4:I Int)(r:(I UInt8))(J:Qs n p1 p2 p3 p4=some r):cY prog 97 [.isl false (p1.map bU),.isl false (p2.map cS),.isl false (List.map (cL (cI .u64)) p3),.isl false (p4.map (cI .u64))] (.str r):=by unfold Qs at J;refine bg4 59 Ym ?_;refine gr ?_;refine gr ?_;refine gr ?_;refine gV 9 9 1 1 ?_;refine gL (fun m tm O=>∃dM bS g8,PA p1 p2 p3 p4 n m dM bS=some r/\tm=fr 59 [(0,.iM bU p1),(1,.iM cS p2),(2,.iM (cL (cI .u64)) p3),(3,.iM (cI .u64) p4),(9,.vl 0 g8 0 bS.length),(10,.i6 dM)]/\O=⟨n8 bS g8,1⟩) (fun tm O=>∃cN fE,ll p1 n cN=some r/\tm=fr 59 [(0,.iM bU p1),(9,.vl 0 fE 0 cN.length)]/\O=⟨n8 cN fE,1⟩) n ⟨0,([]:I (I UInt8)),0,J,rfl,rfl⟩ ?_ ?_;rintro _ _ ⟨cN,fE,J,rfl,rfl⟩;unfold ll at J;refine gn ?_;refine cJ (tm':=fr 59 [(0,.iM bU p1),(9,.iM cS cN)]) (O':=⟨[],1⟩) (Gh.trans (Gh.sub (l':=[(0,.iM bU p1),(9,.vl 0 fE 0 cN.length)]) ⟨rfl,rfl,trivial⟩) (HV 0 1)) NZ ?_;obtain⟨jQ,dF,J⟩:=aC J;refine go ?_;refine aR rfl (pC (qiy n p1 cN jQ dF) _) L7 ?_;refine go ?_;refine gL (fun m tm O=>∃wD dV,MP jQ m wD dV=some r/\tm=fr 59 [(9,.iM cS jQ),(11,.str wD),(12,.i6 dV)]/\O=⟨[],1⟩) (fun tm O=>∃Ny,lj Ny=some r/\tm=fr 59 [(11,.str Ny)]/\O=⟨[],1⟩) n ⟨[],0,J,rfl,rfl⟩ ?_ ?_;rintro _ _ ⟨Ny,J,rfl,rfl⟩;unfold lj at J;exact gx J;rintro(_|m2) _ _ ⟨wD,dV,J,rfl,rfl⟩;cases J;unfold MP at J;refine gF J ?_ ?_<;>intro pL J;refine go ?_;apply aV;refine gr ?_;refine dO (fun tm O=>∃S5,Sk jQ dV (MP jQ m2) S5=some r/\tm=fr 59 [(9,.iM cS jQ),(11,.str S5),(12,.i6 dV)]/\O=⟨[],1⟩) ?_ ?_;rintro _ _ ⟨S5,J,rfl,rfl⟩;unfold Sk at J;obtain⟨xX,o9,J⟩:=aC J;obtain⟨sL,J⟩:=d7 J;refine go ?_;refine aZ o9 ?_;refine go ?_;refine aO (u:=.str (S5++xX)) rfl (GU rfl rfl (zav sL) rfl) ?_;refine go ?_;exact lC ⟨(S5++xX),(IntKind.i64.wrap (dV+1)),J,rfl,rfl⟩;refine cF J ?_ ?_<;>intro nB J;obtain⟨vC,J⟩:=d7 J;refine go ?_;refine aO (u:=.str (wD++[38])) rfl (GU rfl rfl (zav vC) rfl) ?_;refine go ?_;exact xC ⟨(wD++[38]),J,rfl,rfl⟩;refine go ?_;exact xC ⟨wD,J,rfl,rfl⟩;refine go ?_;exact xC ⟨wD,J,rfl,rfl⟩;rintro(_|m1) _ _ ⟨dM,bS,g8,J,rfl,rfl⟩;cases J;unfold PA at J;refine gF J ?_ ?_<;>intro nU J;refine go ?_;apply aV;obtain⟨qV,nT,J⟩:=aC J;obtain⟨iP,w4,J⟩:=aC J;refine go ?_;refine aZ nT ?_;refine go ?_;refine aR rfl (pC (qtd n qV p4 iP w4) _) VH ?_;refine gF J ?_ ?_<;>intro FX J;obtain⟨M3,vB,J⟩:=aC J;refine go ?_;refine aZ vB ?_;exact gx J;obtain⟨O5,KU,J⟩:=aC J;refine go ?_;refine aR rfl (pC (qq8 n p4 dM O5 KU) _) L8 ?_;refine gn ?_;refine dO (fun tm O=>∃rF NW,Sj dM (PA p1 p2 p3 p4 n m1) rF=some r/\tm=fr 59 [(0,.iM bU p1),(1,.iM cS p2),(2,.iM (cL (cI .u64)) p3),(3,.iM (cI .u64) p4),(9,.vl 0 NW 0 rF.length),(10,.i6 dM)]/\O=⟨n8 rF NW,1⟩) ?_ ?_;rintro _ _ ⟨rF,NW,J,rfl,rfl⟩;unfold Sj at J;refine go ?_;exact lC ⟨_,rF,NW,J,rfl,rfl⟩;refine cF J ?_ ?_<;>intro qA J;obtain⟨WJ,Lj,J⟩:=aC J;obtain⟨B8,J⟩:=d7 J;refine go ?_;refine aZ Lj ?_;refine go ?_;refine bT ?_;refine bT ?_;refine go ?_;exact xC ⟨(bS++[WJ]),(g8+1),J,rfl,rfl⟩;refine go ?_;exact xC ⟨bS,g8,J,rfl,rfl⟩;refine go ?_;exact xC ⟨bS,g8,J,rfl,rfl⟩
def Sm(z6:Int)(cE:Int->(I Int)->V ((I Int)))(cN:I Int):V ((I Int)):=
 cE (IntKind.i64.wrap (z6+1)) cN
def mb  (l9:I Int):V ((I Int)):=
 some l9
def PD(p1:I Int)(n:Nat):Nat->Int->(I Int)->V ((I Int))
 |0,_,_=>none|m1+1,z6,l7=>
  cond (decide (z6<(IntKind.i64.wrap (64*(p1.length:Int))))) (a8 (Hk n p1 z6) fun eV=>cond eV (aF ((l7.length+1)*8<=140737488355328/\l7.length+1<=140737488355328) (
    Sm z6 (PD p1 n m1) (l7++[z6]))) (Sm z6 (PD p1 n m1) l7)) (mb l7)
def ve(n:Nat)(p1:I Int):V ((I Int)):=
 PD p1 n n 0 ([]:I Int)
theorem qw5(n:Nat)(p1:I Int)(r:(I Int))(J:ve n p1=some r):cY prog 152 [.isl false (p1.map (cI .u64))] (.isl false (r.map (cI .i64))):=by unfold ve at J;refine kJ 20 V8 ?_;refine gr ?_;refine gr ?_;refine gr ?_;refine gV 3 3 1 1 ?_;refine gL (fun m tm O=>∃z6 l7 t8,PD p1 n m z6 l7=some r/\tm=fr 20 [(0,.iM (cI .u64) p1),(3,.vl 0 t8 0 l7.length),(4,.i6 z6)]/\O=⟨EU l7 t8,1⟩) (fun tm O=>∃l9 cK,mb l9=some r/\tm=fr 20 [(3,.vl 0 cK 0 l9.length)]/\O=⟨EU l9 cK,1⟩) n ⟨0,([]:I Int),0,J,rfl,rfl⟩ ?_ ?_;rintro _ _ ⟨l9,cK,J,rfl,rfl⟩;unfold mb at J;refine go ?_;obtain rfl:=sI J;exact rT (us:=[.vl 0 cK 0 l9.length]) (u:=.iM (cI .i64) l9) (dW rfl (dN)) (fR 0 1);rintro(_|m1) _ _ ⟨z6,l7,t8,J,rfl,rfl⟩;cases J;unfold PD at J;refine gF J ?_ ?_<;>intro iY J;refine go ?_;apply aV;obtain⟨eV,dG,J⟩:=aC J;refine go ?_;refine aR rfl (pC (qq8 n p1 z6 eV dG) _) L8 ?_;refine gn ?_;refine dO (fun tm O=>∃cN fE,Sm z6 (PD p1 n m1) cN=some r/\tm=fr 20 [(0,.iM (cI .u64) p1),(3,.vl 0 fE 0 cN.length),(4,.i6 z6)]/\O=⟨EU cN fE,1⟩) ?_ ?_;rintro _ _ ⟨cN,fE,J,rfl,rfl⟩;unfold Sm at J;refine go ?_;exact lC ⟨_,cN,fE,J,rfl,rfl⟩;refine cF J ?_ ?_<;>intro iE J;obtain⟨fU,J⟩:=d7 J;refine go ?_;refine bT ?_;refine bT ?_;refine go ?_;exact xC ⟨(l7++[z6]),(t8+1),J,rfl,rfl⟩;refine go ?_;exact xC ⟨l7,t8,J,rfl,rfl⟩;refine go ?_;exact xC ⟨l7,t8,J,rfl,rfl⟩
def Ia(n:Nat)(p1:I Int):V (Int):=
 a8 (ve n p1) fun r2=>some (r2.length:Int)
theorem qm6(n:Nat)(p1:I Int)(r:Int)(J:Ia n p1=some r):cY prog 133 [.isl false (p1.map (cI .u64))] (.int .i64 r):=by unfold Ia at J;refine kJ 6 L6 ?_;obtain⟨r2,h3,J⟩:=aC J;refine go ?_;refine aR rfl (pC (qw5 n p1 r2 h3) _) V8 ?_;exact gx J
def Ry(n:Nat)(p1:dQ)(p2:dQ):V (Bool):=
 a8 (Ia n p1.Code) fun r3=>
 a8 (Ia n p2.Code) fun r5=>
 a8 (cond (decide (r3>r5)) (some true) (cond (r3==r5) (some (kT p1.Name p2.Name)) (some false))) fun b9=>some b9
theorem qr3(n:Nat)(p1:dQ)(p2:dQ)(r:Bool)(J:Ry n p1 p2=some r):cY prog 98 [.agg (gI p1),.agg (gI p2)] (.bool r):=by
 unfold Ry at J;refine gP 28 Yl ?_;obtain⟨r3,h4,J⟩:=aC J;refine go ?_;refine aR rfl (pC (qm6 n p1.Code r3 h4) _) L6 ?_;obtain⟨r5,h6,J⟩:=aC J;refine go ?_;refine aR rfl (pC (qm6 n p2.Code r5 h6) _) L6 ?_;obtain⟨b9,fH,J⟩:=aC J;refine gn ?_;refine dO (fun tm O=>tm=fr 28 [(4,.bool b9)]/\O=⟨[(1,.row (gI p2) 128),(0,.row (gI p1) 128)],2⟩) ?_ ?_;rintro _ _ ⟨rfl,rfl⟩;exact gx J;refine go ?_;rcases gB fH with⟨h7,fH⟩|⟨h7,fH⟩;obtain rfl:=sI fH;refine go ?_
 repeat refine RS.no (GO rfl rfl rfl) rfl rfl ?_
 refine go ?_;exact xC ⟨rfl,rfl⟩;refine go ?_;rcases gB fH with⟨h8,fH⟩|⟨h8,fH⟩;obtain rfl:=sI fH;refine go ?_;refine RS.w (u:=.bool (kT p1.Name p2.Name)) rfl (GU rfl rfl rfl rfl) ?_;refine go ?_;exact xC ⟨rfl,rfl⟩;exact gy fH
def Tc(dU:Int)(cA:I dQ)(rc2:Int->(I dQ)->V ((I dQ)×Int))(iP:(I UInt8))(fM:I Int)(iF:Int):V ((I dQ)×Int):=
 aF ((0:Int)<=iF/\iF<=((cA.length:Nat):Int)) (
 aF (0+iF.toNat<=cA.length) (
 aF (((cA.drop 0).take iF.toNat).length*40<=140737488355328/\((cA.drop 0).take iF.toNat).length<=140737488355328) (
 aF ((((cA.drop 0).take iF.toNat).length+1)*40<=140737488355328/\((cA.drop 0).take iF.toNat).length+1<=140737488355328) (
 aF ((0:Int)<=iF/\iF<=((cA.length:Nat):Int)) (
 aF ((0+iF.toNat)+(cA.length-iF.toNat)<=cA.length) (
 aF (((((cA.drop 0).take iF.toNat)++[(dQ.mk iP fM)]).length+((cA.drop (0+iF.toNat)).take (cA.length-iF.toNat)).length)*40<=140737488355328/\(((cA.drop 0).take iF.toNat)++[(dQ.mk iP fM)]).length+((cA.drop (0+iF.toNat)).take (cA.length-iF.toNat)).length<=140737488355328) (
 rc2 (IntKind.i64.wrap (dU+1)) ((((cA.drop 0).take iF.toNat)++[(dQ.mk iP fM)])++((cA.drop (0+iF.toNat)).take (cA.length-iF.toNat))))))))))
def Jc(n:Nat)(dU:Int)(cA:I dQ)(rc2:Int->(I dQ)->V ((I dQ)×Int))(iP:(I UInt8))(fM:I Int):Nat->Int->V ((I dQ)×Int)
 |0,_=>none|m3+1,LZ=>a8 (cond (decide (LZ>0)) (a8 (aB cA (IntKind.i64.wrap (LZ-1))) fun CU=>a8 (Ry n (dQ.mk iP fM) CU) fun oD=>some oD) (some false)) fun b63=>cond b63 ((Jc n dU cA rc2 iP fM m3) (IntKind.i64.wrap (LZ-1))) (Tc dU cA rc2 iP fM LZ)
def uh  (eO:I dQ):V ((I dQ)×Int):=
 some (eO,0)
def PK(p1:I bL)(n:Nat)(r5:(I (I UInt8)))(cN:I (I Int))(jQ:(I (I Int))):Nat->Int->(I dQ)->V ((I dQ)×Int)
 |0,_,_=>none|m2+1,dU,cA=>
  cond (decide (dU<(jQ.length:Int))) (a8 (aB jQ dU) fun qV=>
   a8 (Qs n p1 r5 cN qV) fun iP=>
   a8 (aB jQ dU) fun fM=>
   Jc n dU cA (PK p1 n r5 cN jQ m2) iP fM n (cA.length:Int)) (uh cA)
def ui(p1:I bL)(n:Nat)(r5:(I (I UInt8)))(cN:I (I Int)):V ((I dQ)×Int):=
 a8 (Rw n cN) fun jQ=>cond (decide ((jQ.length:Int)>256)) (some ([],7)) (PK p1 n r5 cN jQ n 0 ([]:I dQ))
def ZM(p1:I bL)(n:Nat)(r5:(I (I UInt8))):Nat->Int->(I (I Int))->V ((I dQ)×Int)
 |0,_,_=>none|m1+1,dM,bS=>
  cond (decide (dM<(r5.length:Int))) (a8 (aB r5 dM) fun ay=>
   a8 (Qt n p1 r5 ay) fun wv=>
   aF ((bS.length+1)*24<=140737488355328/\bS.length+1<=140737488355328) ((ZM p1 n r5 m1) (IntKind.i64.wrap (dM+1)) (bS++[wv]))) (ui p1 n r5 bS)
def P3(n:Nat)(p1:I bL):V ((I dQ)×Int):=
 a8 (Rj n p1) fun r2=>cond (r2 != 0) (some ([],r2)) (a8 (Ri n p1) fun r5=>ZM p1 n r5 n 0 ([]:I (I Int)))
theorem lx(n:Nat)(p1:I bL)(r:(I dQ)×Int)(J:P3 n p1=some r):cY prog 60 [.isl false (p1.map bU)] (.tup [.isl false (r.1.map gI),.int .i64 r.2]):=by unfold P3 at J;refine kJ 92 KW ?_;obtain⟨r2,h3,J⟩:=aC J;refine go ?_;refine aR rfl (pC (qth n p1 r2 h3) _) Yp ?_;refine gF J ?_ ?_<;>intro h4 J;refine go ?_;obtain rfl:=sI J;exact rT (us:=[.nils,.i6 r2]) (u:=.tup [.isl false [],.i6 r2]) (dW rfl (dW rfl (dN))) wR;obtain⟨r5,h6,J⟩:=aC J;refine go ?_;refine aR rfl (pC (qm8 n p1 r5 h6) _) Dk ?_;refine gr ?_;refine gr ?_;refine gV 6 126 1 1 ?_;refine gL (fun m tm O=>∃dM bS g8,ZM p1 n r5 m dM bS=some r/\tm=fr 92 [(0,.iM bU p1),(5,.iM cS r5),(6,.vl 0 g8 0 bS.length),(7,.i6 dM)]/\O=⟨[(0,.bv (cL (cI .u64)) bS 126 1 g8)],1⟩) (fun tm O=>∃cN fE,ui p1 n r5 cN=some r/\tm=fr 92 [(0,.iM bU p1),(5,.iM cS r5),(6,.vl 0 fE 0 cN.length)]/\O=⟨[(0,.bv (cL (cI .u64)) cN 126 1 fE)],1⟩) n ⟨0,([]:I (I Int)),0,J,rfl,rfl⟩ ?_ ?_;rintro _ _ ⟨cN,fE,J,rfl,rfl⟩;unfold ui at J;refine gn ?_;refine cJ (tm':=fr 92 [(0,.iM bU p1),(5,.iM cS r5),(6,.iM (cL (cI .u64)) cN)]) (O':=⟨[],1⟩) (Gh.trans (Gh.sub (l':=[(0,.iM bU p1),(5,.iM cS r5),(6,.vl 0 fE 0 cN.length)]) ⟨rfl,rfl,rfl,trivial⟩) (HV 0 1)) NZ ?_;obtain⟨jQ,dF,J⟩:=aC J;refine go ?_;refine aR rfl (pC (qr4 n cN jQ dF) _) Yn ?_;refine gF J ?_ ?_<;>intro iS J;refine go ?_;obtain rfl:=sI J;exact rT (us:=[.nils,.i6 7]) (u:=.tup [.isl false [],.i6 7]) (dW rfl (dW rfl (dN))) wR;refine gr ?_;refine gr ?_;refine gV 9 128 2 2 ?_;refine gL (fun m tm O=>∃dU cA jW,PK p1 n r5 cN jQ m dU cA=some r/\tm=fr 92 [(0,.iM bU p1),(5,.iM cS r5),(6,.iM (cL (cI .u64)) cN),(8,.iM (cL (cI .u64)) jQ),(9,.vl 1 jW 0 cA.length),(10,.i6 dU)]/\O=⟨[(1,.bv gI cA 128 2 jW)],2⟩) (fun tm O=>∃eO IJ,uh eO=some r/\tm=fr 92 [(9,.vl 1 IJ 0 eO.length)]/\O=⟨[(1,.bv gI eO 128 2 IJ)],2⟩) n ⟨0,([]:I dQ),0,J,rfl,rfl⟩ ?_ ?_;rintro _ _ ⟨eO,IJ,J,rfl,rfl⟩;unfold uh at J;refine go ?_;obtain rfl:=sI J;exact rT (us:=[.vl 1 IJ 0 eO.length,.i6 0]) (u:=.tup [.iM gI eO,.i6 0]) (dW rfl (dW rfl (dN))) (fR 1 2);rintro(_|m2) _ _ ⟨dU,cA,jW,J,rfl,rfl⟩;cases J;unfold PK at J;refine gF J ?_ ?_<;>intro nU J;refine go ?_;apply aV;obtain⟨qV,nT,J⟩:=aC J;obtain⟨iP,w4,J⟩:=aC J;obtain⟨fM,kX,J⟩:=aC J;refine go ?_;refine dE [(0,13),(1,13),(2,13),(3,13),(4,13),(5,13),(6,13),(8,13),(9,13),(10,13),(11,13),(12,13)] ?_;refine gd ?_;refine bP nT ?_;refine gd ?_;refine eM rfl (pC (qw8 n p1 r5 cN qV iP w4)) Ym ?_;refine gd ?_;refine bP kX ?_;refine gd ?_;refine eE ?_;refine qU ?_;refine bD ⟨by kernel_rfl,⟨iQ rfl,⟨iQ rfl,⟨iQ rfl,⟨iQ rfl,⟨iQ rfl,⟨dC rfl rfl (Ge (cL (cI .u64)) sO.h (aW qN.h) (SK (cI .u64)) nT rfl),⟨Oi gZ.h rfl rfl rfl,⟨iQ rfl,⟨iQ rfl,⟨dC rfl rfl (Ge (cL (cI .u64)) sO.h (aW qN.h) (SK (cI .u64)) kX rfl),⟨Oi gZ.h rfl rfl rfl,⟨wx qp.h rfl rfl rfl,trivial⟩⟩⟩⟩⟩⟩⟩⟩⟩⟩⟩⟩,?_⟩;refine go ?_;refine gL (fun m tm O=>∃LZ,Jc n dU cA (PK p1 n r5 cN jQ m2) iP fM m LZ=some r/\tm=fr 92 [(0,.iM bU p1),(5,.iM cS r5),(6,.iM (cL (cI .u64)) cN),(8,.iM (cL (cI .u64)) jQ),(9,.vl 1 jW 0 cA.length),(10,.i6 dU),(11,.ptr 2 0 0),(12,.i6 LZ)]/\O=⟨Pq (.str iP) fM cA jW,3⟩) (fun tm O=>∃iF,Tc dU cA (PK p1 n r5 cN jQ m2) iP fM iF=some r/\tm=fr 92 [(0,.iM bU p1),(5,.iM cS r5),(6,.iM (cL (cI .u64)) cN),(8,.iM (cL (cI .u64)) jQ),(9,.vl 1 jW 0 cA.length),(10,.i6 dU),(11,.ptr 2 0 0),(12,.i6 iF)]/\O=⟨Pq (.str iP) fM cA jW,3⟩) n ⟨(cA.length:Int),J,rfl,rfl⟩ ?_ ?_;rintro _ _ ⟨iF,J,rfl,rfl⟩;unfold Tc at J;obtain⟨vZ,J⟩:=d7 J;obtain⟨FW,J⟩:=d7 J;obtain⟨Li,J⟩:=d7 J;refine go ?_;refine aO (u:=.vl 1 jW 0 iF.toNat) rfl (AR rfl mT (AH rfl) mT (OB gI sP.h (aW tG.h) T6 (vo rfl) (Nat.le_of_eq (Nat.zero_add _)) (YE vZ.1 vZ.2))) (aO (u:=.vl 3 0 0 (((cA.drop 0).take iF.toNat).length)) (O':=⟨(3,.bv gI ((cA.drop 0).take iF.toNat) 128 2 0)::Pq (.str iP) fM cA jW,4⟩) rfl (uZ rfl rfl rfl rfl (ip gI ((cA.drop 0).take iF.toNat) sP.h sP.h tG.h rfl (wb gI T6 (vo rfl) FW) Li)) ?_);obtain⟨Yc,J⟩:=d7 J;refine go ?_;refine bT ?_;refine bT ?_;obtain⟨Lh,J⟩:=d7 J;obtain⟨KT,J⟩:=d7 J;obtain⟨Yb,J⟩:=d7 J;refine go ?_;refine aO (u:=.vl 1 jW (0+iF.toNat) (cA.length-iF.toNat)) rfl (AR rfl (AH rfl) mT mT (OB gI sP.h (aW tG.h) T6 (vo rfl) (Nat.le_of_eq (Nat.zero_add _)) (xl Lh.1 Lh.2))) (aO (u:=.vl 3 2 0 (((((cA.drop 0).take iF.toNat)++[(dQ.mk iP fM)])++((cA.drop (0+iF.toNat)).take (cA.length-iF.toNat))).length)) (O':=⟨(4,.row [.str iP,.iM (cI .u64) fM] 128)::(3,.bv gI ((((cA.drop 0).take iF.toNat)++[(dQ.mk iP fM)])++((cA.drop (0+iF.toNat)).take (cA.length-iF.toNat))) 128 2 2)::Pq (.str iP) fM cA jW,5⟩) rfl (uZ rfl rfl rfl rfl (SL gI ((cA.drop (0+iF.toNat)).take (cA.length-iF.toNat)) sP.h sP.h tG.h rfl T6 rfl (wb gI T6 (vo rfl) KT) Yb)) ?_);refine go ?_;exact⟨m2,_,_,zN _,⟨(IntKind.i64.wrap (dU+1)),((((cA.drop 0).take iF.toNat)++[(dQ.mk iP fM)])++((cA.drop (0+iF.toNat)).take (cA.length-iF.toNat))),2,J,rfl,rfl⟩,NZ,Gh.trans (Gh.sub (l':=[(0,.iM bU p1),(5,.iM cS r5),(6,.iM (cL (cI .u64)) cN),(8,.iM (cL (cI .u64)) jQ),(9,.vl 3 2 0 (((((cA.drop 0).take iF.toNat)++[(dQ.mk iP fM)])++((cA.drop (0+iF.toNat)).take (cA.length-iF.toNat))).length)),(10,.i6 (IntKind.i64.wrap (dU+1)))]) ⟨rfl,rfl,rfl,rfl,rfl,rfl,trivial⟩) (Gh.trans (Gh.mv (l':=[(0,.iM bU p1),(5,.iM cS r5),(6,.iM (cL (cI .u64)) cN),(8,.iM (cL (cI .u64)) jQ),(9,.vl 1 2 0 (((((cA.drop 0).take iF.toNat)++[(dQ.mk iP fM)])++((cA.drop (0+iF.toNat)).take (cA.length-iF.toNat))).length)),(10,.i6 (IntKind.i64.wrap (dU+1)))]) (h':=[(4,.row [.str iP,.iM (cI .u64) fM] 128),(1,.bv gI ((((cA.drop 0).take iF.toNat)++[(dQ.mk iP fM)])++((cA.drop (0+iF.toNat)).take (cA.length-iF.toNat))) 128 2 2),(2,.row [.str iP,.iM (cI .u64) fM] 128)]) 1 3 NZ rfl rfl (by simp only[rS,rU,jG,SM,AV,Nat.beq,zC,zD]) rfl (by simp only[qw,rB,Ga,jG,rU,SM,ww,AV,Nat.beq,zC,zD,and_self])) (Gh.toC (n1:=2) ⟨rfl,rfl,rfl,rfl,rfl,rfl,trivial⟩ rfl NZ (by simp)))⟩;rintro(_|m3) _ _ ⟨LZ,J,rfl,rfl⟩;cases J;unfold Jc at J;obtain⟨b63,tU,J⟩:=aC J;refine gn ?_;refine dO (fun tm O=>tm=fr 92 [(0,.iM bU p1),(5,.iM cS r5),(6,.iM (cL (cI .u64)) cN),(8,.iM (cL (cI .u64)) jQ),(9,.vl 1 jW 0 cA.length),(10,.i6 dU),(11,.ptr 2 0 0),(12,.i6 LZ),(73,.bool b63)]/\O=⟨Pq (.str iP) fM cA jW,3⟩) ?_ ?_;rintro _ _ ⟨rfl,rfl⟩;refine gF J ?_ ?_<;>intro Cz J;refine go ?_;apply aV;refine go ?_;exact lC ⟨_,J,rfl,rfl⟩;refine go ?_;exact xC ⟨LZ,J,rfl,rfl⟩;refine dE [] ?_;refine gd ?_;rcases gB tU with⟨QH,tU⟩|⟨QH,tU⟩;obtain⟨CU,Da,tU⟩:=aC tU;obtain⟨oD,KS,tU⟩:=aC tU;obtain rfl:=sI tU;refine gd ?_;refine RD.w rfl (dC rfl rfl (i9 gI sP.h (aW tG.h) (by decide) T6 (vo rfl) Da)) ?_;refine RD.w (u:=.agg (gI CU)) rfl (YA gI RV.h rfl (aW tG.h) T6 rfl rfl Da rfl) (eM rfl (pC (qr3 n (dQ.mk iP fM) CU oD KS)) Yl ?_);refine gd ?_;refine bD ⟨by kernel_rfl,trivial,?_⟩;refine go ?_;exact xC ⟨rfl,rfl⟩;obtain rfl:=sI tU;refine gd ?_;refine bD ⟨by kernel_rfl,trivial,?_⟩;refine go ?_;exact xC ⟨rfl,rfl⟩;refine go ?_;exact xC ⟨cA,jW,J,rfl,rfl⟩;rintro(_|m1) _ _ ⟨dM,bS,g8,J,rfl,rfl⟩;cases J;unfold ZM at J;refine gF J ?_ ?_<;>intro h66 J;refine go ?_;apply aV;obtain⟨ay,Xz,J⟩:=aC J;obtain⟨wv,h70,J⟩:=aC J;obtain⟨Lf,J⟩:=d7 J;refine go ?_;refine aZ Xz ?_;refine go ?_;refine aR rfl (pC (qw7 n p1 r5 ay wv h70) _) Yo ?_;refine bT ?_;refine bT ?_;refine go ?_;exact lC ⟨_,(bS++[wv]),(g8+1),J,rfl,rfl⟩;refine go ?_;exact xC ⟨bS,g8,J,rfl,rfl⟩
def my: V ((I UInt8)×Bool):=
 some ([],false)
def ZI(p1:bL)(p2:I UInt8):Nat->Int->V ((I UInt8)×Bool)
 |0,_=>none|m1+1,z8=>cond (decide (z8<(p1.Feats.length:Int))) (a8 (aB p1.Feats z8) fun x10=>cond (lQ x10.Feat p2) (a8 (aB p1.Feats z8) fun RM=>some (RM.Value,true)) ((ZI p1 p2 m1) (IntKind.i64.wrap (z8+1)))) (my)
def Rf(n:Nat)(p1:bL)(p2:I UInt8):V ((I UInt8)×Bool):=
 ZI p1 p2 n 0
theorem qmb(n:Nat)(p1:bL)(p2:I UInt8)(r:(I UInt8)×Bool)(J:Rf n p1 p2=some r):cY prog 118 [.agg (bU p1),.str p2] (.tup [.str r.1,.bool r.2]):=by unfold Rf at J;refine gP 28 L9 ?_;refine go ?_;refine gL (fun m tm O=>∃z8,ZI p1 p2 m z8=some r/\tm=fr 28 [(1,.str p2),(2,.ptr 0 0 0),(6,.i6 z8)]/\O=⟨[(0,.row (bU p1) 138)],1⟩) (fun tm O=>my=some r/\tm=fr 28 []/\O=⟨[(0,.row (bU p1) 138)],1⟩) n ⟨0,J,rfl,rfl⟩ ?_ ?_;rintro _ _ ⟨J,rfl,rfl⟩;unfold my at J;refine go ?_;obtain rfl:=sI J;exact y3 rfl rfl rfl rfl rfl;rintro(_|m1) _ _ ⟨z8,J,rfl,rfl⟩;cases J;unfold ZI at J;refine gF J ?_ ?_<;>intro h9 J;refine go ?_;apply aV;obtain⟨x10,iY,J⟩:=aC J;refine go ?_;refine aZ iY ?_;refine go ?_;refine aO (u:=.bool (lQ x10.Feat p2)) rfl (GU rfl rfl rfl rfl) ?_;refine gF J ?_ ?_<;>intro eC J;obtain⟨RM,iE,J⟩:=aC J;refine go ?_;refine aZ iE ?_;refine go ?_;obtain rfl:=sI J;exact y3 rfl rfl rfl rfl rfl;refine go ?_;exact lC ⟨_,J,rfl,rfl⟩;refine go ?_;exact xC ⟨J,rfl,rfl⟩
def Sz(z8:Int)(cE:(I (I UInt8))->Int->V ((I UInt8)×Bool))(iO:I (I UInt8)):V ((I UInt8)×Bool):=
 cE iO (IntKind.i64.wrap (z8+1))
def mz(p1:I bL)(n:Nat)(l9:I (I UInt8)):V ((I UInt8)×Bool):=
 a8 (Ir n p1 l9) fun lN=>cond ((lN.length:Int) != 1) (some ([],false)) (a8 (aB lN 0) fun RM=>some (RM,true))
def PJ(p1:I bL)(p2:I UInt8)(n:Nat):Nat->(I (I UInt8))->Int->V ((I UInt8)×Bool)
 |0,_,_=>none|m1+1,l7,z8=>
  cond (decide (z8<(p1.length:Int))) (a8 (aB p1 z8) fun kZ=>
   a8 (Rf n kZ p2) fun fD=>cond fD.2 (a8 (aB p1 z8) fun kK=>
    a8 (OX n l7 kK.Name) fun r24=>
    Sz z8 (PJ p1 p2 n m1) r24) (Sz z8 (PJ p1 p2 n m1) l7)) (mz p1 n l7)
def Rg(n:Nat)(p1:I bL)(p2:I UInt8):V ((I UInt8)×Bool):=
 PJ p1 p2 n n [] 0
theorem qma(n:Nat)(p1:I bL)(p2:I UInt8)(r:(I UInt8)×Bool)(J:Rg n p1 p2=some r):cY prog 100 [.isl false (p1.map bU),.str p2] (.tup [.str r.1,.bool r.2]):=by unfold Rg at J;refine gP 43 LC ?_;refine gr ?_;refine gr ?_;refine gr ?_;refine cJ (tm':=fr 43 [(0,.iM bU p1),(1,.str p2),(6,.iM cS []),(7,.i6 0)]) (Gh.trans (Gh.sub (l':=[(0,.iM bU p1),(1,.str p2),(6,.nils),(7,.i6 0)]) ⟨rfl,rfl,rfl,rfl,trivial⟩) (Gh.wkS (l':=[(0,.iM bU p1),(1,.str p2),(6,.iM cS []),(7,.i6 0)]) (.cons (.refl _) (.cons (.refl _) (.cons (.nil false) (.cons (.refl _) .nil)))))) NZ ?_;refine gL (fun m tm O=>∃l7 z8,PJ p1 p2 n m l7 z8=some r/\tm=fr 43 [(0,.iM bU p1),(1,.str p2),(6,.iM cS l7),(7,.i6 z8)]/\O=⟨[],0⟩) (fun tm O=>∃l9,mz p1 n l9=some r/\tm=fr 43 [(0,.iM bU p1),(6,.iM cS l9)]/\O=⟨[],0⟩) n ⟨[],0,J,rfl,rfl⟩ ?_ ?_;rintro _ _ ⟨l9,J,rfl,rfl⟩;unfold mz at J;obtain⟨lN,iY,J⟩:=aC J;refine go ?_;refine aR rfl (pC (qiy n p1 l9 lN iY) _) L7 ?_;refine gF J ?_ ?_<;>intro eC J;refine go ?_;obtain rfl:=sI J;exact y3 rfl rfl rfl rfl rfl;obtain⟨RM,iE,J⟩:=aC J;refine go ?_;refine aZ iE ?_;refine go ?_;obtain rfl:=sI J;exact y3 rfl rfl rfl rfl rfl;rintro(_|m1) _ _ ⟨l7,z8,J,rfl,rfl⟩;cases J;unfold PJ at J;refine gF J ?_ ?_<;>intro eW J;refine go ?_;apply aV;obtain⟨kZ,fU,J⟩:=aC J;obtain⟨fD,iS,J⟩:=aC J;refine go ?_;refine aZ fU ?_;refine go ?_;refine aR rfl (pC (qmb n kZ p2 fD iS) _) L9 ?_;refine gr ?_;refine dO (fun tm O=>∃iO,Sz z8 (PJ p1 p2 n m1) iO=some r/\tm=fr 43 [(0,.iM bU p1),(1,.str p2),(6,.iM cS iO),(7,.i6 z8)]/\O=⟨[],0⟩) ?_ ?_;rintro _ _ ⟨iO,J,rfl,rfl⟩;unfold Sz at J;refine go ?_;exact lC ⟨iO,(IntKind.i64.wrap (z8+1)),J,rfl,rfl⟩;refine cF J ?_ ?_<;>intro tW J;obtain⟨kK,mR,J⟩:=aC J;obtain⟨r24,pL,J⟩:=aC J;refine go ?_;refine aZ mR ?_;refine go ?_;refine aR rfl (pC (Hy n l7 kK.Name r24 pL) _) tY ?_;refine go ?_;exact xC ⟨r24,J,rfl,rfl⟩;refine go ?_;exact xC ⟨l7,J,rfl,rfl⟩;refine go ?_;exact xC ⟨l7,J,rfl,rfl⟩
def ZF(n:Nat)(p1:I UInt8):V (Bool):=
 a8 (Ib n p1 true) fun r2=>some r2
theorem qq7(n:Nat)(p1:I UInt8)(r:Bool)(J:ZF n p1=some r):cY prog 145 [.str p1] (.bool r):=by unfold ZF at J;refine kJ 5 VD ?_;obtain⟨r2,h3,J⟩:=aC J;refine go ?_;refine aR rfl (pC (qm5 n p1 true r2 h3) _) L2 ?_;exact gx J
def gl(n:Nat)(r2:(I (I UInt8)))(x9:bL)(iT:Int)(rc2:Int->V (Int)): V (Int):=
 a8 (aB x9.Feats iT) fun WK=>
 a8 (HB n r2 WK.Value) fun oF=>cond (!oF) (some 5) (rc2 (IntKind.i64.wrap (iT+1)))
def Ka(n:Nat)(r2:(I (I UInt8)))(x9:bL)(iT:Int)(rc2:Int->V (Int)):Nat->Int->V (Int)
 |0,_=>none|m3+1,pM=>cond (decide (pM<iT)) (a8 (aB x9.Feats pM) fun I8=>a8 (aB x9.Feats iT) fun M3=>cond (lQ I8.Feat M3.Feat) (some 4) ((Ka n r2 x9 iT rc2 m3) (IntKind.i64.wrap (pM+1)))) (gl n r2 x9 iT rc2)
def gm(z7:Int)(cE:Int->V (Int)): V (Int):=
 cE (IntKind.i64.wrap (z7+1))
def N4(n:Nat)(r2:(I (I UInt8)))(z7:Int)(cE:Int->V (Int))(x9:bL):Nat->Int->V (Int)
 |0,_=>none|m2+1,iT=>cond (decide (iT<(x9.Feats.length:Int))) (a8 (aB x9.Feats iT) fun GJ=>a8 (ZF n GJ.Feat) fun r20=>cond (!r20) (some 1) (Ka n r2 x9 iT (N4 n r2 z7 cE x9 m2) n 0)) (gm z7 cE)
def gp: V (Int):=
 some 0
def F7(p1:I bL)(n:Nat)(r2:(I (I UInt8))):Nat->Int->V (Int)
 |0,_=>none|m1+1,z7=>cond (decide (z7<(p1.length:Int))) (a8 (aB p1 z7) fun x9=>N4 n r2 z7 (F7 p1 n r2 m1) x9 n 0) (gp)
def Ua(n:Nat)(p1:I bL):V (Int):=
 a8 (Ri n p1) fun r2=>
 F7 p1 n r2 n 0
theorem qk0(n:Nat)(p1:I bL)(r:Int)(J:Ua n p1=some r):cY prog 116 [.isl false (p1.map bU)] (.int .i64 r):=by unfold Ua at J;refine kJ 58 VP ?_;obtain⟨r2,h3,J⟩:=aC J;refine go ?_;refine aR rfl (pC (qm8 n p1 r2 h3) _) Dk ?_;refine go ?_;refine gL (fun m tm O=>∃z7,F7 p1 n r2 m z7=some r/\tm=fr 58 [(0,.iM bU p1),(3,.iM cS r2),(4,.i6 z7)]/\O=⟨[],0⟩) (fun tm O=>gp=some r/\tm=fr 58 []/\O=⟨[],0⟩) n ⟨0,J,rfl,rfl⟩ ?_ ?_;rintro _ _ ⟨J,rfl,rfl⟩;unfold gp at J;exact gx J;rintro(_|m1) _ _ ⟨z7,J,rfl,rfl⟩;cases J;unfold F7 at J;refine gF J ?_ ?_<;>intro h8 J;refine go ?_;apply aV;obtain⟨x9,fH,J⟩:=aC J;refine go ?_;refine aZ fH ?_;refine go ?_;refine gL (fun m tm O=>∃iT,N4 n r2 z7 (F7 p1 n r2 m1) x9 m iT=some r/\tm=fr 58 [(0,.iM bU p1),(3,.iM cS r2),(4,.i6 z7),(5,.iM lR x9.Feats),(6,.i6 iT)]/\O=⟨[],0⟩) (fun tm O=>gm z7 (F7 p1 n r2 m1)=some r/\tm=fr 58 [(0,.iM bU p1),(3,.iM cS r2),(4,.i6 z7)]/\O=⟨[],0⟩) n ⟨0,J,rfl,rfl⟩ ?_ ?_;rintro _ _ ⟨J,rfl,rfl⟩;unfold gm at J;refine go ?_;exact lC ⟨_,J,rfl,rfl⟩;rintro(_|m2) _ _ ⟨iT,J,rfl,rfl⟩;cases J;unfold N4 at J;refine gF J ?_ ?_<;>intro fU J;refine go ?_;apply aV;obtain⟨GJ,iS,J⟩:=aC J;obtain⟨r20,lS,J⟩:=aC J;refine go ?_;refine aZ iS ?_;refine go ?_;refine aR rfl (pC (qq7 n GJ.Feat r20 lS) _) VD ?_;refine gF J ?_ ?_<;>intro rO J;exact gx J;refine go ?_;refine gL (fun m tm O=>∃pM,Ka n r2 x9 iT (N4 n r2 z7 (F7 p1 n r2 m1) x9 m2) m pM=some r/\tm=fr 58 [(0,.iM bU p1),(3,.iM cS r2),(4,.i6 z7),(5,.iM lR x9.Feats),(6,.i6 iT),(7,.i6 pM)]/\O=⟨[],0⟩) (fun tm O=>gl n r2 x9 iT (N4 n r2 z7 (F7 p1 n r2 m1) x9 m2)=some r/\tm=fr 58 [(0,.iM bU p1),(3,.iM cS r2),(4,.i6 z7),(5,.iM lR x9.Feats),(6,.i6 iT)]/\O=⟨[],0⟩) n ⟨0,J,rfl,rfl⟩ ?_ ?_;rintro _ _ ⟨J,rfl,rfl⟩;unfold gl at J;obtain⟨WK,vC,J⟩:=aC J;obtain⟨oF,tV,J⟩:=aC J;refine go ?_;refine aZ vC ?_;refine go ?_;refine aR rfl (pC (PC n r2 WK.Value oF tV) _) nC ?_;refine gF J ?_ ?_<;>intro nT J;exact gx J;refine go ?_;exact lC ⟨_,J,rfl,rfl⟩;rintro(_|m3) _ _ ⟨pM,J,rfl,rfl⟩;cases J;unfold Ka at J;refine gF J ?_ ?_<;>intro o8 J;refine go ?_;apply aV;obtain⟨I8,FX,J⟩:=aC J;obtain⟨M3,vB,J⟩:=aC J;refine go ?_;refine dE [] ?_;refine gd ?_;refine bP FX ?_;refine gd ?_;refine bP vB ?_;refine gd ?_;refine aQ (u:=.bool (lQ I8.Feat M3.Feat)) rfl (GU rfl rfl rfl rfl) ?_;refine bD ⟨by kernel_rfl,trivial,?_⟩;refine gF J ?_ ?_<;>intro qB J;exact gx J;refine go ?_;exact lC ⟨_,J,rfl,rfl⟩;refine go ?_;exact xC ⟨J,rfl,rfl⟩;refine go ?_;exact xC ⟨J,rfl,rfl⟩;refine go ?_;exact xC ⟨J,rfl,rfl⟩
def ub(z6:Int)(cE:(I (I UInt8))->Int->V ((I (I UInt8))))(cN:I (I UInt8)):V ((I (I UInt8))):=
 cE cN (IntKind.i64.wrap (z6+1))
def ZJ(p1:I bL)(n:Nat)(z6:Int)(cE:(I (I UInt8))->Int->V ((I (I UInt8)))):Nat->(I (I UInt8))->Int->V ((I (I UInt8)))
 |0,_,_=>none|m2+1,bS,jL=>
  a8 (aB p1 z6) fun kZ=>cond (decide (jL<(kZ.Feats.length:Int))) (a8 (aB p1 z6) fun NT=>
   a8 (aB NT.Feats jL) fun uW=>
   a8 (OX n bS uW.Feat) fun y7=>(ZJ p1 n z6 cE m2) y7 (IntKind.i64.wrap (jL+1))) (ub z6 cE bS)
def uc  (l7:I (I UInt8)):V ((I (I UInt8))):=
 some l7
def MR(p1:I bL)(n:Nat):Nat->(I (I UInt8))->Int->V ((I (I UInt8)))
 |0,_,_=>none|m1+1,l5,z6=>cond (decide (z6<(p1.length:Int))) (ZJ p1 n z6 (MR p1 n m1) n l5 0) (uc l5)
def Z3(n:Nat)(p1:I bL):V ((I (I UInt8))):=
 MR p1 n n [] 0
theorem K_(n:Nat)(p1:I bL)(r:(I (I UInt8)))(J:Z3 n p1=some r):cY prog 90 [.isl false (p1.map bU)] (.isl false (r.map cS)):=by unfold Z3 at J;refine kJ 34 QL ?_;refine gr ?_;refine gr ?_;refine gr ?_;refine cJ (tm':=fr 34 [(0,.iM bU p1),(3,.iM cS []),(4,.i6 0)]) (Gh.trans (Gh.sub (l':=[(0,.iM bU p1),(3,.nils),(4,.i6 0)]) ⟨rfl,rfl,rfl,trivial⟩) (Gh.wkS (l':=[(0,.iM bU p1),(3,.iM cS []),(4,.i6 0)]) (.cons (.refl _) (.cons (.nil false) (.cons (.refl _) .nil))))) NZ ?_;refine gL (fun m tm O=>∃l5 z6,MR p1 n m l5 z6=some r/\tm=fr 34 [(0,.iM bU p1),(3,.iM cS l5),(4,.i6 z6)]/\O=⟨[],0⟩) (fun tm O=>∃l7,uc l7=some r/\tm=fr 34 [(3,.iM cS l7)]/\O=⟨[],0⟩) n ⟨[],0,J,rfl,rfl⟩ ?_ ?_;rintro _ _ ⟨l7,J,rfl,rfl⟩;unfold uc at J;exact gx J;rintro(_|m1) _ _ ⟨l5,z6,J,rfl,rfl⟩;cases J;unfold MR at J;refine gF J ?_ ?_<;>intro h8 J;refine go ?_;apply aV;refine go ?_;refine gL (fun m tm O=>∃bS jL,ZJ p1 n z6 (MR p1 n m1) m bS jL=some r/\tm=fr 34 [(0,.iM bU p1),(3,.iM cS bS),(4,.i6 z6),(5,.i6 jL)]/\O=⟨[],0⟩) (fun tm O=>∃cN,ub z6 (MR p1 n m1) cN=some r/\tm=fr 34 [(0,.iM bU p1),(3,.iM cS cN),(4,.i6 z6)]/\O=⟨[],0⟩) n ⟨l5,0,J,rfl,rfl⟩ ?_ ?_;rintro _ _ ⟨cN,J,rfl,rfl⟩;unfold ub at J;refine go ?_;exact lC ⟨cN,(IntKind.i64.wrap (z6+1)),J,rfl,rfl⟩;rintro(_|m2) _ _ ⟨bS,jL,J,rfl,rfl⟩;cases J;unfold ZJ at J;obtain⟨kZ,fU,J⟩:=aC J;refine go ?_;refine aZ fU ?_;refine gF J ?_ ?_<;>intro dF J;refine go ?_;apply aV;obtain⟨NT,tW,J⟩:=aC J;obtain⟨uW,rO,J⟩:=aC J;obtain⟨y7,qC,J⟩:=aC J;refine go ?_;refine aZ tW ?_;refine go ?_;refine aZ rO ?_;refine go ?_;refine aR rfl (pC (Hy n bS uW.Feat y7 qC) _) tY ?_;refine go ?_;exact lC ⟨y7,(IntKind.i64.wrap (jL+1)),J,rfl,rfl⟩;refine go ?_;exact xC ⟨bS,J,rfl,rfl⟩;refine go ?_;exact xC ⟨l5,J,rfl,rfl⟩
def sj: V (Int):=
 some (-1)
def ZU(p1:I dQ)(p2:I UInt8):Nat->Int->V (Int)
 |0,_=>none|m1+1,z6=>cond (decide (z6<(p1.length:Int))) (a8 (aB p1 z6) fun x8=>cond (lQ x8.Name p2) (some z6) ((ZU p1 p2 m1) (IntKind.i64.wrap (z6+1)))) (sj)
def If(n:Nat)(p1:I dQ)(p2:I UInt8):V (Int):=
 ZU p1 p2 n 0
theorem P_(n:Nat)(p1:I dQ)(p2:I UInt8)(r:Int)(J:If n p1 p2=some r):cY prog 101 [.isl false (p1.map gI),.str p2] (.int .i64 r):=by unfold If at J;refine gP 20 DY ?_;refine go ?_;refine gL (fun m tm O=>∃z6,ZU p1 p2 m z6=some r/\tm=fr 20 [(0,.iM gI p1),(1,.str p2),(5,.i6 z6)]/\O=⟨[],0⟩) (fun tm O=>sj=some r/\tm=fr 20 []/\O=⟨[],0⟩) n ⟨0,J,rfl,rfl⟩ ?_ ?_;rintro _ _ ⟨J,rfl,rfl⟩;unfold sj at J;exact gx J;rintro(_|m1) _ _ ⟨z6,J,rfl,rfl⟩;cases J;unfold ZU at J;refine gF J ?_ ?_<;>intro h7 J;refine go ?_;apply aV;obtain⟨x8,h9,J⟩:=aC J;refine go ?_;refine aZ h9 ?_;refine go ?_;refine aO (u:=.bool (lQ x8.Name p2)) rfl (GU rfl rfl rfl rfl) ?_;refine gF J ?_ ?_<;>intro fH J;exact gx J;refine go ?_;exact lC ⟨_,J,rfl,rfl⟩;refine go ?_;exact xC ⟨J,rfl,rfl⟩
def TD(n:Nat)(p1:I dQ)(p2:Int)(p3:Int):V (Bool):=
 a8 (aB p1 p3) fun x4=>
 a8 (aB p1 p2) fun x6=>
 a8 (Z9 n x4.Code x6.Code) fun r8=>some r8
theorem pc(n:Nat)(p1:I dQ)(p2:Int)(p3:Int)(r:Bool)(J:TD n p1 p2 p3=some r):cY prog 99 [.isl false (p1.map gI),.int .i64 p2,.int .i64 p3] (.bool r):=by unfold TD at J;refine xV 18 KV ?_;obtain⟨x4,h5,J⟩:=aC J;obtain⟨x6,h7,J⟩:=aC J;obtain⟨r8,h9,J⟩:=aC J;refine go ?_;refine dE [] ?_;refine gd ?_;refine bP h5 ?_;refine gd ?_;refine bP h7 ?_;refine gd ?_;refine eM rfl (pC (Q_ n x4.Code x6.Code r8 h9)) DU ?_;refine gd ?_;refine bD ⟨by kernel_rfl,trivial,?_⟩;exact gx J
def pw  (vE:Bool) (nL:I Int):V ((I Int)×Bool):=
 some (nL,vE)
def TM(p1:I bL)(p2:I dQ)(p3:Int)(p4:I UInt8)(n:Nat):Nat->Bool->(I Int)->Int->V ((I Int)×Bool)
 |0,_,_,_=>none|m1+1,vF,cN,iT=>
  cond (decide (iT<(p1.length:Int))) (a8 (aB p1 iT) fun nE=>
   a8 (Rf n nE p4) fun sC=>
   a8 (cond (!sC.2) (some true) (a8 (aB p1 iT) fun E9=>
    a8 (If n p2 E9.Name) fun O6=>
    a8 (TD n p2 O6 p3) fun SC=>some (!SC))) fun b31=>cond b31 ((TM p1 p2 p3 p4 n m1) vF cN (IntKind.i64.wrap (iT+1))) (a8 (If n p2 sC.1) fun lX=>
    a8 (aB p2 lX) fun I8=>
    a8 (JC n cN I8.Code) fun oE=>(TM p1 p2 p3 p4 n m1) true oE (IntKind.i64.wrap (iT+1)))) (pw vF cN)
def Jj(n:Nat)(p1:I bL)(p2:I dQ)(p3:Int)(p4:I UInt8):V ((I Int)×Bool):=
 a8 (aB p2 0) fun x5=>
 TM p1 p2 p3 p4 n n false x5.Code 0
theorem qgl(n:Nat)(p1:I bL)(p2:I dQ)(p3:Int)(p4:I UInt8)(r:(I Int)×Bool)(J:Jj n p1 p2 p3 p4=some r):cY prog 91 [.isl false (p1.map bU),.isl false (p2.map gI),.int .i64 p3,.str p4] (.tup [.isl false (r.1.map (cI .u64)),.bool r.2]):=by unfold Jj at J;refine bg4 60 Dl ?_;obtain⟨x5,h6,J⟩:=aC J;refine go ?_;refine aZ h6 ?_;refine go ?_;refine gL (fun m tm O=>∃vF cN iT,TM p1 p2 p3 p4 n m vF cN iT=some r/\tm=fr 60 [(0,.iM bU p1),(1,.iM gI p2),(2,.i6 p3),(3,.str p4),(10,.bool vF),(11,.iM (cI .u64) cN),(12,.i6 iT)]/\O=⟨[],0⟩) (fun tm O=>∃vE nL,pw vE nL=some r/\tm=fr 60 [(10,.bool vE),(11,.iM (cI .u64) nL)]/\O=⟨[],0⟩) n ⟨false,x5.Code,0,J,rfl,rfl⟩ ?_ ?_;rintro _ _ ⟨vE,nL,J,rfl,rfl⟩;unfold pw at J;refine go ?_;obtain rfl:=sI J;exact y3 rfl rfl rfl rfl rfl;rintro(_|m1) _ _ ⟨vF,cN,iT,J,rfl,rfl⟩;cases J;unfold TM at J;refine gF J ?_ ?_<;>intro iS J;refine go ?_;apply aV;obtain⟨nE,lS,J⟩:=aC J;obtain⟨sC,mR,J⟩:=aC J;refine go ?_;refine aZ lS ?_;refine go ?_;refine aR rfl (pC (qmb n nE p4 sC mR) _) L9 ?_;obtain⟨b31,nU,J⟩:=aC J;refine gn ?_;refine dO (fun tm O=>tm=fr 60 [(0,.iM bU p1),(1,.iM gI p2),(2,.i6 p3),(3,.str p4),(10,.bool vF),(11,.iM (cI .u64) cN),(12,.i6 iT),(13,.str sC.1),(48,.bool b31)]/\O=⟨[],0⟩) ?_ ?_;rintro _ _ ⟨rfl,rfl⟩;refine gF J ?_ ?_<;>intro tV J;refine go ?_;exact lC ⟨vF,cN,(IntKind.i64.wrap (iT+1)),J,rfl,rfl⟩;obtain⟨lX,o8,J⟩:=aC J;obtain⟨I8,FX,J⟩:=aC J;obtain⟨oE,vB,J⟩:=aC J;refine go ?_;refine aR rfl (pC (P_ n p2 sC.1 lX o8) _) DY ?_;refine aZ FX ?_;refine go ?_;refine aR rfl (pC (x_ n cN I8.Code oE vB) _) DW ?_;refine go ?_;exact lC ⟨true,oE,(IntKind.i64.wrap (iT+1)),J,rfl,rfl⟩;refine go ?_;rcases gB nU with⟨qC,nU⟩|⟨qC,nU⟩;exact gy nU;obtain⟨E9,nB,nU⟩:=aC nU;obtain⟨O6,rN,nU⟩:=aC nU;obtain⟨SC,sL,nU⟩:=aC nU;obtain rfl:=sI nU;refine go ?_;refine aZ nB ?_;refine go ?_;refine aR rfl (pC (P_ n p2 E9.Name O6 rN) _) DY ?_;refine go ?_;refine aR rfl (pC (pc n p2 O6 p3 SC sL) _) KV ?_;refine go ?_;exact xC ⟨rfl,rfl⟩;refine go ?_;exact xC ⟨vF,cN,J,rfl,rfl⟩
def ud(dH:Int)(rc2:Int->V (Int)): V (Int):=
 rc2 (IntKind.i64.wrap (dH+1))
def ZK(p1:I bL)(n:Nat)(r2:(I dQ)×Int)(r5:(I (I UInt8)))(dH:Int)(rc2:Int->V (Int)):Nat->Int->V (Int)
 |0,_=>none|m3+1,dU=>
  cond (decide (dU<(r5.length:Int))) (a8 (aB r5 dU) fun jF=>
   a8 (Jj n p1 r2.1 dH jF) fun r31=>
   a8 (cond r31.2 (some ((r31.1.length:Int)==0)) (some false)) fun b34=>cond b34 (some 11) ((ZK p1 n r2 r5 dH rc2 m3) (IntKind.i64.wrap (dU+1)))) (ud dH rc2)
def ue: V (Int):=
 some 0
def MS(p1:I bL)(n:Nat)(r2:(I dQ)×Int)(r5:(I (I UInt8))):Nat->Int->V (Int)
 |0,_=>none|m2+1,dH=>cond (decide (dH<(r2.1.length:Int))) (ZK p1 n r2 r5 dH (MS p1 n r2 r5 m2) n 0) (ue)
def uf(p1:I bL)(n:Nat)(r2:(I dQ)×Int)(r5:(I (I UInt8))): V (Int):=
 MS p1 n r2 r5 n 0
def ZL(p1:I bL)(n:Nat)(r2:(I dQ)×Int)(r5:(I (I UInt8))):Nat->Int->V (Int)
 |0,_=>none|m1+1,gY=>cond (decide (gY<(r5.length:Int))) (a8 (aB r5 gY) fun M3=>a8 (Rg n p1 M3) fun O5=>cond (!O5.2) (some 10) ((ZL p1 n r2 r5 m1) (IntKind.i64.wrap (gY+1)))) (uf p1 n r2 r5)
def T5(n:Nat)(p1:I bL):V (Int):=
 a8 (P3 n p1) fun r2=>cond (r2.2 != 0) (some r2.2) (a8 (Z3 n p1) fun r5=>cond (decide ((r5.length:Int)>64)) (some 7) (a8 (Ua n p1) fun r8=>cond (r8 != 0) (some r8) (ZL p1 n r2 r5 n 0)))
theorem qm9(n:Nat)(p1:I bL)(r:Int)(J:T5 n p1=some r):cY prog 89 [.isl false (p1.map bU)] (.int .i64 r):=by unfold T5 at J;refine kJ 78 Dm ?_;obtain⟨r2,h3,J⟩:=aC J;refine go ?_;refine aR rfl (pC (lx n p1 r2 h3) _) KW ?_;refine gF J ?_ ?_<;>intro h4 J;exact gx J;obtain⟨r5,h6,J⟩:=aC J;refine go ?_;refine aR rfl (pC (K_ n p1 r5 h6) _) QL ?_;refine gF J ?_ ?_<;>intro h7 J;exact gx J;obtain⟨r8,h9,J⟩:=aC J;refine go ?_;refine aR rfl (pC (qk0 n p1 r8 h9) _) VP ?_;refine gF J ?_ ?_<;>intro fH J;exact gx J;refine go ?_;refine gL (fun m tm O=>∃gY,ZL p1 n r2 r5 m gY=some r/\tm=fr 78 [(0,.iM bU p1),(3,.iM gI r2.1),(5,.iM cS r5),(7,.i6 gY)]/\O=⟨[],0⟩) (fun tm O=>uf p1 n r2 r5=some r/\tm=fr 78 [(0,.iM bU p1),(3,.iM gI r2.1),(5,.iM cS r5)]/\O=⟨[],0⟩) n ⟨0,J,rfl,rfl⟩ ?_ ?_;rintro _ _ ⟨J,rfl,rfl⟩;unfold uf at J;refine go ?_;refine gL (fun m tm O=>∃dH,MS p1 n r2 r5 m dH=some r/\tm=fr 78 [(0,.iM bU p1),(3,.iM gI r2.1),(5,.iM cS r5),(10,.i6 dH)]/\O=⟨[],0⟩) (fun tm O=>ue=some r/\tm=fr 78 []/\O=⟨[],0⟩) n ⟨0,J,rfl,rfl⟩ ?_ ?_;rintro _ _ ⟨J,rfl,rfl⟩;unfold ue at J;exact gx J;rintro(_|m2) _ _ ⟨dH,J,rfl,rfl⟩;cases J;unfold MS at J;refine gF J ?_ ?_<;>intro lS J;refine go ?_;apply aV;refine go ?_;refine gL (fun m tm O=>∃dU,ZK p1 n r2 r5 dH (MS p1 n r2 r5 m2) m dU=some r/\tm=fr 78 [(0,.iM bU p1),(3,.iM gI r2.1),(5,.iM cS r5),(10,.i6 dH),(11,.i6 dU)]/\O=⟨[],0⟩) (fun tm O=>ud dH (MS p1 n r2 r5 m2)=some r/\tm=fr 78 [(0,.iM bU p1),(3,.iM gI r2.1),(5,.iM cS r5),(10,.i6 dH)]/\O=⟨[],0⟩) n ⟨0,J,rfl,rfl⟩ ?_ ?_;rintro _ _ ⟨J,rfl,rfl⟩;unfold ud at J;refine go ?_;exact lC ⟨_,J,rfl,rfl⟩;rintro(_|m3) _ _ ⟨dU,J,rfl,rfl⟩;cases J;unfold ZK at J;refine gF J ?_ ?_<;>intro rN J;refine go ?_;apply aV;obtain⟨jF,sL,J⟩:=aC J;obtain⟨r31,nU,J⟩:=aC J;refine go ?_;refine aZ sL ?_;refine go ?_;refine aR rfl (pC (qgl n p1 r2.1 dH jF r31 nU) _) Dl ?_;obtain⟨b34,o8,J⟩:=aC J;refine gn ?_;refine dO (fun tm O=>tm=fr 78 [(0,.iM bU p1),(3,.iM gI r2.1),(5,.iM cS r5),(10,.i6 dH),(11,.i6 dU),(77,.bool b34)]/\O=⟨[],0⟩) ?_ ?_;rintro _ _ ⟨rfl,rfl⟩;refine gF J ?_ ?_<;>intro w4 J;exact gx J;refine go ?_;exact lC ⟨_,J,rfl,rfl⟩;refine go ?_;rcases gB o8 with⟨tV,o8⟩|⟨tV,o8⟩;exact gy o8;exact gy o8;refine go ?_;exact xC ⟨J,rfl,rfl⟩;refine go ?_;exact xC ⟨J,rfl,rfl⟩;rintro(_|m1) _ _ ⟨gY,J,rfl,rfl⟩;cases J;unfold ZL at J;refine gF J ?_ ?_<;>intro FX J;refine go ?_;apply aV;obtain⟨M3,vB,J⟩:=aC J;obtain⟨O5,KU,J⟩:=aC J;refine go ?_;refine aZ vB ?_;refine go ?_;refine aR rfl (pC (qma n p1 M3 O5 KU) _) LC ?_;refine gF J ?_ ?_<;>intro qA J;exact gx J;refine go ?_;exact lC ⟨_,J,rfl,rfl⟩;refine go ?_;exact xC ⟨J,rfl,rfl⟩
def lw: V (Int):=
 some (-1)
def ZD(p1:I dQ)(n:Nat)(r3:(I Int)):Nat->Int->V (Int)
 |0,_=>none|m1+1,z8=>cond (decide (z8<(p1.length:Int))) (a8 (aB p1 z8) fun x10=>a8 (P0 n x10.Code r3) fun eV=>cond eV (some z8) ((ZD p1 n r3 m1) (IntKind.i64.wrap (z8+1)))) (lw)
def Qu(n:Nat)(p1:I dQ)(p2:I Int):V (Int):=
 a8 (MO n p2) fun r3=>
 ZD p1 n r3 n 0
theorem qw6(n:Nat)(p1:I dQ)(p2:I Int)(r:Int)(J:Qu n p1 p2=some r):cY prog 92 [.isl false (p1.map gI),.isl false (p2.map (cI .u64))] (.int .i64 r):=by unfold Qu at J;refine gP 23 Yq ?_;obtain⟨r3,h4,J⟩:=aC J;refine go ?_;refine aR rfl (pC (sa n p2 r3 h4) _) A5 ?_;refine go ?_;refine gL (fun m tm O=>∃z8,ZD p1 n r3 m z8=some r/\tm=fr 23 [(0,.iM gI p1),(5,.iM (cI .u64) r3),(6,.i6 z8)]/\O=⟨[],0⟩) (fun tm O=>lw=some r/\tm=fr 23 []/\O=⟨[],0⟩) n ⟨0,J,rfl,rfl⟩ ?_ ?_;rintro _ _ ⟨J,rfl,rfl⟩;unfold lw at J;exact gx J;rintro(_|m1) _ _ ⟨z8,J,rfl,rfl⟩;cases J;unfold ZD at J;refine gF J ?_ ?_<;>intro h9 J;refine go ?_;apply aV;obtain⟨x10,iY,J⟩:=aC J;obtain⟨eV,dG,J⟩:=aC J;refine go ?_;refine aZ iY ?_;refine go ?_;refine aR rfl (pC (F_ n x10.Code r3 eV dG) _) DV ?_;refine gF J ?_ ?_<;>intro iE J;exact gx J;refine go ?_;exact lC ⟨_,J,rfl,rfl⟩;refine go ?_;exact xC ⟨J,rfl,rfl⟩
def Ti(w7:Int)(rc2:Int->(I mN)->V ((I (I mN))×Int))(n9:I mN):V ((I (I mN))×Int):=
 rc2 (IntKind.i64.wrap (w7+1)) n9
def sk(gY:Int)(gN:I (I mN))(cE:Int->(I (I mN))->V ((I (I mN))×Int))(rG:I mN):V ((I (I mN))×Int):=
 aF ((gN.length+1)*24<=140737488355328/\gN.length+1<=140737488355328) (
 cE (IntKind.i64.wrap (gY+1)) (gN++[rG]))
def PP(p1:I bL)(n:Nat)(r5:(I dQ)×Int)(r7:(I (I UInt8)))(gY:Int)(gN:I (I mN))(cE:Int->(I (I mN))->V ((I (I mN))×Int)):Nat->Int->(I mN)->V ((I (I mN))×Int)
 |0,_,_=>none|m2+1,w7,eD=>
  cond (decide (w7<(r7.length:Int))) (a8 (aB r7 w7) fun fM=>
   a8 (Jj n p1 r5.1 gY fM) fun Oc=>cond Oc.2 (a8 (Qu n r5.1 Oc.1) fun gJ=>
    aF ((eD.length+1)*16<=140737488355328/\eD.length+1<=140737488355328) (
    Ti w7 (PP p1 n r5 r7 gY gN cE m2) (eD++[(mN.mk w7 gJ)]))) (Ti w7 (PP p1 n r5 r7 gY gN cE m2) eD)) (sk gY gN cE eD)
def sn  (nL:I (I mN)):V ((I (I mN))×Int):=
 some (nL,0)
def JF(p1:I bL)(n:Nat)(r5:(I dQ)×Int)(r7:(I (I UInt8))):Nat->Int->(I (I mN))->V ((I (I mN))×Int)
 |0,_,_=>none|m1+1,gY,gN=>cond (decide (gY<(r5.1.length:Int))) (PP p1 n r5 r7 gY gN (JF p1 n r5 r7 m1) n 0 ([]:I mN)) (sn gN)
def Ig(n:Nat)(p1:I bL):V ((I (I mN))×Int):=
 a8 (T5 n p1) fun r2=>cond (r2 != 0) (some ([],r2)) (a8 (P3 n p1) fun r5=>
  a8 (Z3 n p1) fun r7=>
  JF p1 n r5 r7 n 0 ([]:I (I mN)))
theorem qr5(n:Nat)(p1:I bL)(r:(I (I mN))×Int)(J:Ig n p1=some r):cY prog 59 [.isl false (p1.map bU)] (.tup [.isl false (r.1.map (cL uK)),.int .i64 r.2]):=by unfold Ig at J;refine kJ 63 Zh ?_;obtain⟨r2,h3,J⟩:=aC J;refine go ?_;refine aR rfl (pC (qm9 n p1 r2 h3) _) Dm ?_;refine gF J ?_ ?_<;>intro h4 J;refine go ?_;obtain rfl:=sI J;exact rT (us:=[.nils,.i6 r2]) (u:=.tup [.isl false [],.i6 r2]) (dW rfl (dW rfl (dN))) wR;obtain⟨r5,h6,J⟩:=aC J;refine go ?_;refine aR rfl (pC (lx n p1 r5 h6) _) KW ?_;obtain⟨r7,h8,J⟩:=aC J;refine go ?_;refine aR rfl (pC (K_ n p1 r7 h8) _) QL ?_;refine gr ?_;refine gr ?_;refine gV 8 130 1 1 ?_;refine gL (fun m tm O=>∃gY gN rA,JF p1 n r5 r7 m gY gN=some r/\tm=fr 63 [(0,.iM bU p1),(5,.iM gI r5.1),(7,.iM cS r7),(8,.vl 0 rA 0 gN.length),(9,.i6 gY)]/\O=⟨[(0,.bv (cL uK) gN 130 1 rA)],1⟩) (fun tm O=>∃nL CY,sn nL=some r/\tm=fr 63 [(8,.vl 0 CY 0 nL.length)]/\O=⟨[(0,.bv (cL uK) nL 130 1 CY)],1⟩) n ⟨0,([]:I (I mN)),0,J,rfl,rfl⟩ ?_ ?_;rintro _ _ ⟨nL,CY,J,rfl,rfl⟩;unfold sn at J;refine go ?_;obtain rfl:=sI J;exact rT (us:=[.vl 0 CY 0 nL.length,.i6 0]) (u:=.tup [.iM (cL uK) nL,.i6 0]) (dW rfl (dW rfl (dN))) (fR 0 1);rintro(_|m1) _ _ ⟨gY,gN,rA,J,rfl,rfl⟩;cases J;unfold JF at J;refine gF J ?_ ?_<;>intro tW J;refine go ?_;apply aV;refine gr ?_;refine gr ?_;refine gV 10 176 2 2 ?_;refine gL (fun m tm O=>∃w7 eD sS,PP p1 n r5 r7 gY gN (JF p1 n r5 r7 m1) m w7 eD=some r/\tm=fr 63 [(0,.iM bU p1),(5,.iM gI r5.1),(7,.iM cS r7),(8,.vl 0 rA 0 gN.length),(9,.i6 gY),(10,.vl 1 sS 0 eD.length),(11,.i6 w7)]/\O=⟨[(1,.bv uK eD 176 2 sS),(0,.bv (cL uK) gN 130 1 rA)],2⟩) (fun tm O=>∃rG wo,sk gY gN (JF p1 n r5 r7 m1) rG=some r/\tm=fr 63 [(0,.iM bU p1),(5,.iM gI r5.1),(7,.iM cS r7),(8,.vl 0 rA 0 gN.length),(9,.i6 gY),(10,.vl 1 wo 0 rG.length)]/\O=⟨[(1,.bv uK rG 176 2 wo),(0,.bv (cL uK) gN 130 1 rA)],2⟩) n ⟨0,([]:I mN),0,J,rfl,rfl⟩ ?_ ?_;rintro _ _ ⟨rG,wo,J,rfl,rfl⟩;unfold sk at J;refine gn ?_;refine cJ (tm':=fr 63 [(0,.iM bU p1),(5,.iM gI r5.1),(7,.iM cS r7),(8,.vl 0 rA 0 gN.length),(9,.i6 gY),(10,.iM uK rG)]) (O':=⟨[(0,.bv (cL uK) gN 130 1 rA)],2⟩) (Gh.trans (Gh.sub (l':=[(0,.iM bU p1),(5,.iM gI r5.1),(7,.iM cS r7),(8,.vl 0 rA 0 gN.length),(9,.i6 gY),(10,.vl 1 wo 0 rG.length)]) ⟨rfl,rfl,rfl,rfl,rfl,rfl,trivial⟩) (HV 1 2)) NZ ?_;obtain⟨o8,J⟩:=d7 J;refine go ?_;refine bT ?_;refine bT ?_;refine go ?_;exact lC ⟨_,(gN++[rG]),(rA+1),J,rfl,rfl⟩;rintro(_|m2) _ _ ⟨w7,eD,sS,J,rfl,rfl⟩;cases J;unfold PP at J;refine gF J ?_ ?_<;>intro w4 J;refine go ?_;apply aV;obtain⟨fM,kX,J⟩:=aC J;obtain⟨Oc,qB,J⟩:=aC J;refine go ?_;refine aZ kX ?_;refine go ?_;refine aR rfl (pC (qgl n p1 r5.1 gY fM Oc qB) _) Dl ?_;refine gr ?_;refine dO (fun tm O=>∃n9 CX,Ti w7 (PP p1 n r5 r7 gY gN (JF p1 n r5 r7 m1) m2) n9=some r/\tm=fr 63 [(0,.iM bU p1),(5,.iM gI r5.1),(7,.iM cS r7),(8,.vl 0 rA 0 gN.length),(9,.i6 gY),(10,.vl 1 CX 0 n9.length),(11,.i6 w7)]/\O=⟨[(1,.bv uK n9 176 2 CX),(0,.bv (cL uK) gN 130 1 rA)],2⟩) ?_ ?_;rintro _ _ ⟨n9,CX,J,rfl,rfl⟩;unfold Ti at J;refine go ?_;exact lC ⟨_,n9,CX,J,rfl,rfl⟩;refine cF J ?_ ?_<;>intro KU J;obtain⟨gJ,pK,J⟩:=aC J;obtain⟨Lj,J⟩:=d7 J;refine go ?_;refine aR rfl (pC (qw6 n r5.1 Oc.1 gJ pK) _) Yq ?_;refine go ?_;refine bT ?_;refine bT ?_;refine go ?_;exact xC ⟨(eD++[(mN.mk w7 gJ)]),(sS+1),J,rfl,rfl⟩;refine go ?_;exact xC ⟨eD,sS,J,rfl,rfl⟩;refine go ?_;exact xC ⟨eD,sS,J,rfl,rfl⟩;refine go ?_;exact xC ⟨gN,rA,J,rfl,rfl⟩
def Tm(z8:Int)(cE:Int->(I Int)->V ((I Int)))(eD:I Int):V ((I Int)):=
 cE (IntKind.i64.wrap (z8+1)) eD
def so(z8:Int)(l9:I Int)(cE:Int->(I Int)->V ((I Int)))(qu:Bool):V ((I Int)):=
 cond qu (aF ((l9.length+1)*8<=140737488355328/\l9.length+1<=140737488355328) (
  Tm z8 cE (l9++[z8]))) (Tm z8 cE l9)
def TH(p1:I dQ)(p2:Int)(n:Nat)(z8:Int)(l9:I Int)(cE:Int->(I Int)->V ((I Int))):Nat->Bool->Int->V ((I Int))
 |0,_,_=>none|m2+1,Ez,CT=>cond (decide (CT<(p1.length:Int))) (a8 (cond Ez (cond (CT==p2) (some true) (cond (CT==z8) (some true) (a8 (TD n p1 z8 CT) fun oE=>cond (!oE) (some true) (a8 (TD n p1 CT p2) fun oX=>some (!oX))))) (some false)) fun w5=>(TH p1 p2 n z8 l9 cE m2) w5 (IntKind.i64.wrap (CT+1))) (so z8 l9 cE Ez)
def sr  (dD:I Int):V ((I Int)):=
 some dD
def F6(p1:I dQ)(p2:Int)(n:Nat):Nat->Int->(I Int)->V ((I Int))
 |0,_,_=>none|m1+1,z8,l9=>cond (decide (z8<(p1.length:Int))) (a8 (cond (z8==p2) (some true) (a8 (TD n p1 z8 p2) fun sV=>some (!sV))) fun vE=>cond vE ((F6 p1 p2 n m1) (IntKind.i64.wrap (z8+1)) l9) (TH p1 p2 n z8 l9 (F6 p1 p2 n m1) n true 0)) (sr l9)
def yn(n:Nat)(p1:I dQ)(p2:Int):V ((I Int)):=
 F6 p1 p2 n n 0 ([]:I Int)
theorem qr2(n:Nat)(p1:I dQ)(p2:Int)(r:(I Int))(J:yn n p1 p2=some r):cY prog 61 [.isl false (p1.map gI),.int .i64 p2] (.isl false (r.map (cI .i64))):=by
 unfold yn at J;refine gP 62 Zg ?_;refine gr ?_;refine gr ?_;refine gr ?_;refine gV 5 3 1 1 ?_;refine gL (fun m tm O=>∃z8 l9 cK,F6 p1 p2 n m z8 l9=some r/\tm=fr 62 [(0,.iM gI p1),(1,.i6 p2),(5,.vl 0 cK 0 l9.length),(6,.i6 z8)]/\O=⟨EU l9 cK,1⟩) (fun tm O=>∃dD gH,sr dD=some r/\tm=fr 62 [(5,.vl 0 gH 0 dD.length)]/\O=⟨EU dD gH,1⟩) n ⟨0,([]:I Int),0,J,rfl,rfl⟩ ?_ ?_;rintro _ _ ⟨dD,gH,J,rfl,rfl⟩;unfold sr at J;refine go ?_;obtain rfl:=sI J;exact rT (us:=[.vl 0 gH 0 dD.length]) (u:=.iM (cI .i64) dD) (dW rfl (dN)) (fR 0 1);rintro(_|m1) _ _ ⟨z8,l9,cK,J,rfl,rfl⟩;cases J;unfold F6 at J;refine gF J ?_ ?_<;>intro dG J;refine go ?_;apply aV;obtain⟨vE,dF,J⟩:=aC J;refine gn ?_;refine dO (fun tm O=>tm=fr 62 [(0,.iM gI p1),(1,.i6 p2),(5,.vl 0 cK 0 l9.length),(6,.i6 z8),(24,.bool vE)]/\O=⟨EU l9 cK,1⟩) ?_ ?_;rintro _ _ ⟨rfl,rfl⟩;refine gF J ?_ ?_<;>intro iS J;refine go ?_;exact lC ⟨_,l9,cK,J,rfl,rfl⟩;refine go ?_;refine gL (fun m tm O=>∃Ez CT,TH p1 p2 n z8 l9 (F6 p1 p2 n m1) m Ez CT=some r/\tm=fr 62 [(0,.iM gI p1),(1,.i6 p2),(5,.vl 0 cK 0 l9.length),(6,.i6 z8),(7,.bool Ez),(8,.i6 CT)]/\O=⟨EU l9 cK,1⟩) (fun tm O=>∃qu,so z8 l9 (F6 p1 p2 n m1) qu=some r/\tm=fr 62 [(0,.iM gI p1),(1,.i6 p2),(5,.vl 0 cK 0 l9.length),(6,.i6 z8),(7,.bool qu)]/\O=⟨EU l9 cK,1⟩) n ⟨true,0,J,rfl,rfl⟩ ?_ ?_;rintro _ _ ⟨qu,J,rfl,rfl⟩;unfold so at J;refine gr ?_;refine dO (fun tm O=>∃eD sS,Tm z8 (F6 p1 p2 n m1) eD=some r/\tm=fr 62 [(0,.iM gI p1),(1,.i6 p2),(5,.vl 0 sS 0 eD.length),(6,.i6 z8)]/\O=⟨EU eD sS,1⟩) ?_ ?_;rintro _ _ ⟨eD,sS,J,rfl,rfl⟩;unfold Tm at J;refine go ?_;exact lC ⟨_,eD,sS,J,rfl,rfl⟩;refine cF J ?_ ?_<;>intro sL J;obtain⟨tV,J⟩:=d7 J;refine go ?_;refine bT ?_;refine bT ?_;refine go ?_;exact xC ⟨(l9++[z8]),(cK+1),J,rfl,rfl⟩;refine go ?_;exact xC ⟨l9,cK,J,rfl,rfl⟩;rintro(_|m2) _ _ ⟨Ez,CT,J,rfl,rfl⟩;cases J;unfold TH at J;refine gF J ?_ ?_<;>intro nT J;refine go ?_;apply aV;obtain⟨w5,gW,J⟩:=aC J;refine gn ?_;refine dO (fun tm O=>tm=fr 62 [(0,.iM gI p1),(1,.i6 p2),(5,.vl 0 cK 0 l9.length),(6,.i6 z8),(7,.bool w5),(8,.i6 CT)]/\O=⟨EU l9 cK,1⟩) ?_ ?_;rintro _ _ ⟨rfl,rfl⟩;refine go ?_;exact lC ⟨w5,(IntKind.i64.wrap (CT+1)),J,rfl,rfl⟩;refine go ?_;rcases gB gW with⟨o8,gW⟩|⟨o8,gW⟩;refine go ?_;rcases gB gW with⟨w4,gW⟩|⟨w4,gW⟩;exact gy gW;refine go ?_;rcases gB gW with⟨FX,gW⟩|⟨FX,gW⟩;exact gy gW;obtain⟨oE,vB,gW⟩:=aC gW;refine go ?_;refine aR rfl (pC (pc n p1 z8 CT oE vB) _) KV ?_;refine go ?_;rcases gB gW with⟨qB,gW⟩|⟨qB,gW⟩;exact gy gW;obtain⟨oX,qA,gW⟩:=aC gW;obtain rfl:=sI gW;refine go ?_;refine aR rfl (pC (pc n p1 CT p2 oX qA) _) KV ?_;refine go ?_;exact xC ⟨rfl,rfl⟩;obtain rfl:=sI gW;refine go ?_
 repeat refine RS.no (GO rfl rfl rfl) rfl rfl ?_
 refine go ?_
 repeat refine RS.no (GO rfl rfl rfl) rfl rfl ?_
 refine go ?_
 repeat refine RS.no (GO rfl rfl rfl) rfl rfl ?_
 refine go ?_;exact xC ⟨rfl,rfl⟩;refine go ?_;exact xC ⟨Ez,J,rfl,rfl⟩;refine go ?_;rcases gB dF with⟨iE,dF⟩|⟨iE,dF⟩;exact gy dF;obtain⟨sV,nV,dF⟩:=aC dF;obtain rfl:=sI dF;refine go ?_;refine aR rfl (pC (pc n p1 z8 p2 sV nV) _) KV ?_;refine go ?_;exact xC ⟨rfl,rfl⟩;refine go ?_;exact xC ⟨l9,cK,J,rfl,rfl⟩
def po  (nL:I eB):V ((I eB)×Int):=
 some (nL,0)
def ZZ(p1:I bL)(n:Nat)(r5:(I dQ)×Int)(r7:(I (I UInt8))):Nat->Int->(I eB)->V ((I eB)×Int)
 |0,_,_=>none|m1+1,gY,gN=>
  cond (decide (gY<(r7.length:Int))) (a8 (aB r7 gY) fun uW=>
   a8 (Rg n p1 uW) fun y7=>
   a8 (aB r7 gY) fun E9=>
   a8 (If n r5.1 y7.1) fun O6=>
   aF ((gN.length+1)*24<=140737488355328/\gN.length+1<=140737488355328) ((ZZ p1 n r5 r7 m1) (IntKind.i64.wrap (gY+1)) (gN++[(eB.mk E9 O6)]))) (po gN)
def Ta(n:Nat)(p1:I bL):V ((I eB)×Int):=
 a8 (T5 n p1) fun r2=>cond (r2 != 0) (some ([],r2)) (a8 (P3 n p1) fun r5=>
  a8 (Z3 n p1) fun r7=>
  ZZ p1 n r5 r7 n 0 ([]:I eB))
theorem qob(n:Nat)(p1:I bL)(r:(I eB)×Int)(J:Ta n p1=some r):cY prog 62 [.isl false (p1.map bU)] (.tup [.isl false (r.1.map gR),.int .i64 r.2]):=by unfold Ta at J;refine kJ 51 Zf ?_;obtain⟨r2,h3,J⟩:=aC J;refine go ?_;refine aR rfl (pC (qm9 n p1 r2 h3) _) Dm ?_;refine gF J ?_ ?_<;>intro h4 J;refine go ?_;obtain rfl:=sI J;exact rT (us:=[.nils,.i6 r2]) (u:=.tup [.isl false [],.i6 r2]) (dW rfl (dW rfl (dN))) wR;obtain⟨r5,h6,J⟩:=aC J;refine go ?_;refine aR rfl (pC (lx n p1 r5 h6) _) KW ?_;obtain⟨r7,h8,J⟩:=aC J;refine go ?_;refine aR rfl (pC (K_ n p1 r7 h8) _) QL ?_;refine gr ?_;refine gr ?_;refine gV 8 187 2 1 ?_;refine gL (fun m tm O=>∃gY gN rA,ZZ p1 n r5 r7 m gY gN=some r/\tm=fr 51 [(0,.iM bU p1),(5,.iM gI r5.1),(7,.iM cS r7),(8,.vl 0 rA 0 gN.length),(9,.i6 gY)]/\O=⟨[(0,.bv gR gN 187 2 rA)],1⟩) (fun tm O=>∃nL CY,po nL=some r/\tm=fr 51 [(8,.vl 0 CY 0 nL.length)]/\O=⟨[(0,.bv gR nL 187 2 CY)],1⟩) n ⟨0,([]:I eB),0,J,rfl,rfl⟩ ?_ ?_;rintro _ _ ⟨nL,CY,J,rfl,rfl⟩;unfold po at J;refine go ?_;obtain rfl:=sI J;exact rT (us:=[.vl 0 CY 0 nL.length,.i6 0]) (u:=.tup [.iM gR nL,.i6 0]) (dW rfl (dW rfl (dN))) (fR 0 2);rintro(_|m1) _ _ ⟨gY,gN,rA,J,rfl,rfl⟩;cases J;unfold ZZ at J;refine gF J ?_ ?_<;>intro tW J;refine go ?_;apply aV;obtain⟨uW,rO,J⟩:=aC J;obtain⟨y7,qC,J⟩:=aC J;refine go ?_;refine aZ rO ?_;refine go ?_;refine aR rfl (pC (qma n p1 uW y7 qC) _) LC ?_;obtain⟨E9,nB,J⟩:=aC J;obtain⟨O6,rN,J⟩:=aC J;obtain⟨o9,J⟩:=d7 J;refine go ?_;refine dE [(0,9)] ?_;refine gd ?_;refine bP nB ?_;refine gd ?_;refine eM rfl (pC (P_ n r5.1 y7.1 O6 rN)) DY ?_;refine gd ?_;refine eE ?_;refine eE ?_;refine gd ?_;refine bD ⟨by kernel_rfl,⟨iQ rfl,trivial⟩,?_⟩;refine go ?_;exact lC ⟨_,(gN++[(eB.mk E9 O6)]),(rA+1),J,rfl,rfl⟩;refine go ?_;exact xC ⟨gN,rA,J,rfl,rfl⟩
def pb(p1:I bL)(n:Nat)(gN:I dI):V (cB×Int):=
 a8 (Ta n p1) fun fD=>some ((cB.mk gN fD.1),0)
def ZX(p1:I bL)(n:Nat)(r2:(I (I mN))×Int)(r5:(I dQ)×Int):Nat->Int->(I dI)->V (cB×Int)
 |0,_,_=>none|m1+1,I5,fG=>
  cond (decide (I5<(r5.1.length:Int))) (a8 (aB r5.1 I5) fun uW=>
   a8 (aB r5.1 I5) fun BE=>
   a8 (yn n r5.1 I5) fun nW=>
   a8 (aB r2.1 I5) fun rX=>
   aF ((fG.length+1)*88<=140737488355328/\fG.length+1<=140737488355328) ((ZX p1 n r2 r5 m1) (IntKind.i64.wrap (I5+1)) (fG++[(dI.mk uW.Name BE.Code nW rX)]))) (pb p1 n fG)
def P9(n:Nat)(p1:I bL):V (cB×Int):=
 a8 (Ig n p1) fun r2=>cond (r2.2 != 0) (some ((cB.mk [] []),r2.2)) (a8 (P3 n p1) fun r5=>ZX p1 n r2 r5 n 0 ([]:I dI))
theorem S_(n:Nat)(p1:I bL)(r:cB×Int)(J:P9 n p1=some r):cY prog 31 [.isl false (p1.map bU)] (.tup [.agg (eF r.1),.int .i64 r.2]):=by unfold P9 at J;refine kJ 63 QT ?_;obtain⟨r2,h3,J⟩:=aC J;refine go ?_;refine aR rfl (pC (qr5 n p1 r2 h3) _) Zh ?_;refine gF J ?_ ?_<;>intro h4 J;refine go ?_;obtain rfl:=sI J;exact rT (us:=[.agg [.nils,.nils],.i6 r2.2]) (u:=.tup [.agg [.isl false [],.isl false []],.i6 r2.2]) (mH (j4 pN.h rfl (aW v4.h) rfl rfl rfl) (dW rfl (dN))) wR;obtain⟨r5,h6,J⟩:=aC J;refine go ?_;refine aR rfl (pC (lx n p1 r5 h6) _) KW ?_;refine gr ?_;refine gr ?_;refine cJ (tm':=fr 63 [(0,.iM bU p1),(2,.ptr 0 0 0),(4,.iM (cL uK) r2.1),(6,.iM gI r5.1),(8,.ptr 1 0 0),(9,.i6 0)]) (O':=⟨[(2,.bv fK ([]:I dI) 132 4 0),(1,.row [.vl 2 0 0 (([]:I dI).length),.nils] 27),(0,.row [.nils,.nils] 27)],3⟩) (Gh.trans (x3 1 0 132 4 (by decide) NZ rfl rfl) (oT ⟨rfl,rfl,rfl,rfl,rfl,rfl,trivial⟩ rfl)) NZ ?_;refine gL (fun m tm O=>∃I5 fG IL,ZX p1 n r2 r5 m I5 fG=some r/\tm=fr 63 [(0,.iM bU p1),(2,.ptr 0 0 0),(4,.iM (cL uK) r2.1),(6,.iM gI r5.1),(8,.ptr 1 0 0),(9,.i6 I5)]/\O=⟨[(2,.bv fK fG 132 4 IL),(1,.row [.vl 2 IL 0 fG.length,.nils] 27),(0,.row [.nils,.nils] 27)],3⟩) (fun tm O=>∃gN rA,pb p1 n gN=some r/\tm=fr 63 [(0,.iM bU p1),(2,.ptr 0 0 0),(8,.ptr 1 0 0)]/\O=⟨[(2,.bv fK gN 132 4 rA),(1,.row [.vl 2 rA 0 gN.length,.nils] 27),(0,.row [.nils,.nils] 27)],3⟩) n ⟨0,([]:I dI),0,J,rfl,rfl⟩ ?_ ?_;rintro _ _ ⟨gN,rA,J,rfl,rfl⟩;unfold pb at J;obtain⟨fD,iS,J⟩:=aC J;refine go ?_;refine aR rfl (pC (qob n p1 fD iS) _) Zf ?_;refine go ?_;obtain rfl:=sI J;exact rT (us:=[.agg [.vl 2 rA 0 gN.length,.iM gR fD.1],.i6 0]) (u:=.tup [.agg [.iM fK gN,.iM gR fD.1],.i6 0]) (mH (j4 pN.h rfl (aW v4.h) rfl rfl rfl) (dW rfl (dN))) (fR 2 4);rintro(_|m1) _ _ ⟨I5,fG,IL,J,rfl,rfl⟩;cases J;unfold ZX at J;refine gF J ?_ ?_<;>intro tW J;refine go ?_;apply aV;obtain⟨uW,rO,J⟩:=aC J;obtain⟨BE,qC,J⟩:=aC J;obtain⟨nW,nB,J⟩:=aC J;obtain⟨rX,rN,J⟩:=aC J;obtain⟨o9,J⟩:=d7 J;refine go ?_;refine dE [(0,20),(1,20)] ?_;refine gd ?_;refine bP rO ?_;refine gd ?_;refine bP qC ?_;refine gd ?_;refine eM rfl (pC (qr2 n r5.1 I5 nW nB)) Zg ?_;refine gd ?_;refine bP rN ?_;refine gd ?_;refine eE ?_;refine eE ?_;refine gd ?_;refine qU ?_;refine bD ⟨by kernel_rfl,⟨kC pN.h rfl (aW Bk.h) rfl rfl rfl,⟨mW IB.h rfl rfl rfl rfl,trivial⟩⟩,?_⟩;refine go ?_;exact lC ⟨_,(fG++[(dI.mk uW.Name BE.Code nW rX)]),(IL+1),J,rfl,rfl⟩;refine go ?_;exact xC ⟨fG,IL,J,rfl,rfl⟩
def y_(n:Nat): V (cB):=
 a8 (P9 n ([(bL.mk ([116,111,112]) [] ([(pG.mk ([70]) ([116,111,112])),(pG.mk ([71]) ([116,111,112]))])),(bL.mk ([120]) ([[116,111,112]]) []),(bL.mk ([121]) ([[116,111,112]]) [])])) fun r1=>some (cB.mk r1.1.Types r1.1.Feats)
theorem qsz(n:Nat)(r:cB)(J:y_ n  = some r):cY prog 33 [] (.agg (eF r)):=by unfold y_ at J;refine bg0 17 Zt ?_;obtain⟨r1,h2,J⟩:=aC J;refine go ?_;refine aO (u:=.sl 1 0 2 2) (O':=⟨qyt,2⟩) rfl (uG IE.h UC.h rfl rfl rfl rfl rfl rfl rfl) ?_;refine go ?_;refine bT ?_;refine go ?_;refine bT ?_;refine go ?_;refine aO (u:=.sl 4 0 3 3) (O':=⟨(4,.row [.str ([116,111,112]),.nils,.sl 1 0 2 2,.str ([120]),.sl 2 0 1 1,.nils,.str ([121]),.sl 3 0 1 1,.nils] 138)::(3,.row [.str ([116,111,112])] 9)::(2,.row [.str ([116,111,112])] 9)::qyt,5⟩) rfl (uG Nh.h yN.h rfl rfl rfl rfl rfl rfl rfl) (G7 rfl (Gh.trans (mB 1 2) (Gh.trans (mB 2 1) (Gh.trans (mB 3 1) (Gh.trans (Gh.rowC 4) (mB 4 3))))) (pC (S_ n ([(bL.mk ([116,111,112]) [] ([(pG.mk ([70]) ([116,111,112])),(pG.mk ([71]) ([116,111,112]))])),(bL.mk ([120]) ([[116,111,112]]) []),(bL.mk ([121]) ([[116,111,112]]) [])]) r1 h2) _) QT ?_);refine go ?_;obtain rfl:=sI J;exact rT (mH (j4 pN.h rfl (aW v4.h) rfl rfl rfl) (dN)) (u9 _ rfl)
def J_(p1:I UInt8)(p2:I UInt8)(cN:I pG):V (bL):=
 some (bL.mk p1 ([p2]) cN)
def li(p1:I UInt8)(p2:I UInt8)(p3:I (I UInt8)):Nat->Int->(I pG)->V (bL)
 |0,_,_=>none|m1+1,dM,bS=>
  cond (decide ((IntKind.i64.wrap (dM+1))<(p3.length:Int))) (a8 (aB p3 dM) fun GJ=>
   a8 (aB p3 (IntKind.i64.wrap (dM+1))) fun nE=>
   aF ((bS.length+1)*32<=140737488355328/\bS.length+1<=140737488355328) ((li p1 p2 p3 m1) (IntKind.i64.wrap (dM+2)) (bS++[(pG.mk GJ nE)]))) (J_ p1 p2 bS)
def I_(p1:I UInt8)(iR:I pG):V (bL):=
 some (bL.mk p1 [] iR)
def lh(p1:I UInt8)(p3:I (I UInt8)):Nat->Int->(I pG)->V (bL)
 |0,_,_=>none|m2+1,pM,eO=>
  cond (decide ((IntKind.i64.wrap (pM+1))<(p3.length:Int))) (a8 (aB p3 pM) fun Fq=>
   a8 (aB p3 (IntKind.i64.wrap (pM+1))) fun fM=>
   aF ((eO.length+1)*32<=140737488355328/\eO.length+1<=140737488355328) ((lh p1 p3 m2) (IntKind.i64.wrap (pM+2)) (eO++[(pG.mk Fq fM)]))) (I_ p1 eO)
def BW(n:Nat)(p1:I UInt8)(p2:I UInt8)(p3:I (I UInt8)):V (bL):=
 cond (!lQ p2 []) (li p1 p2 p3 n 0 ([]:I pG)) (lh p1 p3 n 0 ([]:I pG))
theorem F5(n:Nat)(p1:I UInt8)(p2:I UInt8)(p3:I (I UInt8))(r:bL)(J:BW n p1 p2 p3=some r):cY prog 63 [.str p1,.str p2,.isl false (p3.map cS)] (.agg (bU r)):=by unfold BW at J;refine xV 39 oP ?_;refine go ?_;refine aO (u:=.bool (!lQ p2 [])) rfl (GU rfl rfl rfl rfl) ?_;refine gF J ?_ ?_<;>intro h4 J;refine go ?_;refine bT ?_;refine gr ?_;refine cJ (tm':=fr 39 [(2,.iM cS p3),(6,.ptr 0 0 0),(7,.ptr 1 0 0),(8,.i6 0)]) (O':=⟨(3,.bv lR ([]:I pG) 141 2 0)::(2,.row [.str p2] 9)::(1,.row [.str p1,.sl 2 0 1 1,.vl 3 0 0 (([]:I pG).length)] 138)::He,4⟩) (Gh.trans (x3 1 2 141 2 (by decide) NZ rfl rfl) (oT ⟨rfl,rfl,rfl,rfl,trivial⟩ rfl)) NZ ?_;refine gL (fun m tm O=>∃dM bS g8,li p1 p2 p3 m dM bS=some r/\tm=fr 39 [(2,.iM cS p3),(6,.ptr 0 0 0),(7,.ptr 1 0 0),(8,.i6 dM)]/\O=⟨(3,.bv lR bS 141 2 g8)::(2,.row [.str p2] 9)::(1,.row [.str p1,.sl 2 0 1 1,.vl 3 g8 0 bS.length] 138)::He,4⟩) (fun tm O=>∃cN fE,J_ p1 p2 cN=some r/\tm=fr 39 [(6,.ptr 0 0 0),(7,.ptr 1 0 0)]/\O=⟨(3,.bv lR cN 141 2 fE)::(2,.row [.str p2] 9)::(1,.row [.str p1,.sl 2 0 1 1,.vl 3 fE 0 cN.length] 138)::He,4⟩) n ⟨0,([]:I pG),0,J,rfl,rfl⟩ ?_ ?_;rintro _ _ ⟨cN,fE,J,rfl,rfl⟩;unfold J_ at J;refine go ?_;obtain rfl:=sI J;exact⟨.inr rfl,[.agg [.str p1,.sl 2 0 1 1,.vl 3 fE 0 cN.length]],mH (j4 xZ.h rfl (aW yN.h) rfl rfl rfl) (dN),.agg [.str p1,.iM cS ([p2]),.iM lR cN],⟨[],0⟩,zF _,Gh.trans (mB 2 1) (Gh.trans (mB 3 2) (u9 (.agg [.str p1,.iM cS ([p2]),.iM lR cN]) rfl)),rfl,BU.h⟩;rintro(_|m1) _ _ ⟨dM,bS,g8,J,rfl,rfl⟩;cases J;unfold li at J;refine gF J ?_ ?_<;>intro fU J;refine go ?_;apply aV;obtain⟨GJ,iS,J⟩:=aC J;obtain⟨nE,lS,J⟩:=aC J;obtain⟨rO,J⟩:=d7 J;refine go ?_;refine dE [(0,12),(1,12)] ?_;refine gd ?_;refine bP iS ?_;refine gd ?_;refine bP lS ?_;refine gd ?_;refine eE ?_;refine eE ?_;refine gd ?_;refine qU ?_;refine bD ⟨by kernel_rfl,⟨kC xZ.h rfl (aW UD.h) rfl rfl rfl,⟨mW IE.h rfl rfl rfl rfl,trivial⟩⟩,?_⟩;refine go ?_;exact lC ⟨_,(bS++[(pG.mk GJ nE)]),(g8+1),J,rfl,rfl⟩;refine go ?_;exact xC ⟨bS,g8,J,rfl,rfl⟩;refine gr ?_;refine cJ (tm':=fr 39 [(2,.iM cS p3),(6,.ptr 0 0 0),(7,.ptr 1 0 0),(8,.i6 0)]) (O':=⟨(2,.bv lR ([]:I pG) 141 2 0)::(1,.row [.str p1,.nils,.vl 2 0 0 (([]:I pG).length)] 138)::He,3⟩) (Gh.trans (x3 1 2 141 2 (by decide) NZ rfl rfl) (oT ⟨rfl,rfl,rfl,rfl,trivial⟩ rfl)) NZ ?_;refine gL (fun m tm O=>∃pM eO IJ,lh p1 p3 m pM eO=some r/\tm=fr 39 [(2,.iM cS p3),(6,.ptr 0 0 0),(7,.ptr 1 0 0),(8,.i6 pM)]/\O=⟨(2,.bv lR eO 141 2 IJ)::(1,.row [.str p1,.nils,.vl 2 IJ 0 eO.length] 138)::He,3⟩) (fun tm O=>∃iR mS,I_ p1 iR=some r/\tm=fr 39 [(6,.ptr 0 0 0),(7,.ptr 1 0 0)]/\O=⟨(2,.bv lR iR 141 2 mS)::(1,.row [.str p1,.nils,.vl 2 mS 0 iR.length] 138)::He,3⟩) n ⟨0,([]:I pG),0,J,rfl,rfl⟩ ?_ ?_;rintro _ _ ⟨iR,mS,J,rfl,rfl⟩;unfold I_ at J;refine go ?_;obtain rfl:=sI J;exact⟨.inr rfl,[.agg [.str p1,.nils,.vl 2 mS 0 iR.length]],mH (j4 xZ.h rfl (aW yN.h) rfl rfl rfl) (dN),.agg [.str p1,.isl false [],.iM lR iR],⟨[],0⟩,zF _,Gh.trans (mB 2 2) (Gh.trans (Gh.wk (.cons (.agg (.cons (.refl _) (.cons (.nil false) (.cons (.refl _) .nil)))) .nil)) (u9 (.agg [.str p1,.isl false [],.iM lR iR]) rfl)),rfl,BU.h⟩;rintro(_|m2) _ _ ⟨pM,eO,IJ,J,rfl,rfl⟩;cases J;unfold lh at J;refine gF J ?_ ?_<;>intro nT J;refine go ?_;apply aV;obtain⟨Fq,w4,J⟩:=aC J;obtain⟨fM,kX,J⟩:=aC J;obtain⟨vB,J⟩:=d7 J;refine go ?_;refine dE [(0,12),(1,12)] ?_;refine gd ?_;refine bP w4 ?_;refine gd ?_;refine bP kX ?_;refine gd ?_;refine eE ?_;refine eE ?_;refine gd ?_;refine qU ?_;refine bD ⟨by kernel_rfl,⟨kC xZ.h rfl (aW UD.h) rfl rfl rfl,⟨mW IE.h rfl rfl rfl rfl,trivial⟩⟩,?_⟩;refine go ?_;exact lC ⟨_,(eO++[(pG.mk Fq fM)]),(IJ+1),J,rfl,rfl⟩;refine go ?_;exact xC ⟨eO,IJ,J,rfl,rfl⟩
def Si(n:Nat): V ((I bL)):=
 a8 (BW n ([116,111,112]) [] []) fun r1=>
 a8 (BW n ([108,105,115,116]) ([116,111,112]) []) fun r3=>
 a8 (BW n ([99,111,110,115]) ([108,105,115,116]) ([[70,73,82,83,84],[116,111,112],[82,69,83,84],[108,105,115,116]])) fun r5=>
 a8 (BW n ([110,117,108,108]) ([108,105,115,116]) []) fun r7=>
 a8 (BW n ([100,108,105,115,116]) ([116,111,112]) ([[76,73,83,84],[108,105,115,116],[76,65,83,84],[108,105,115,116]])) fun r9=>
 a8 (BW n ([105,110,100,101,120]) ([116,111,112]) []) fun r11=>
 a8 (BW n ([104,97,110,100,108,101]) ([105,110,100,101,120]) []) fun gK=>
 a8 (BW n ([101,118,101,110,116]) ([105,110,100,101,120]) []) fun sV=>
 a8 (BW n ([101,110,116,105,116,121]) ([105,110,100,101,120]) []) fun jQ=>
 a8 (BW n ([114,101,108]) ([116,111,112]) ([[76,65,66,69,76],[104,97,110,100,108,101]])) fun GN=>
 a8 (BW n ([113,101,113]) ([116,111,112]) ([[72,73,71,72],[104,97,110,100,108,101],[76,79,87],[104,97,110,100,108,101]])) fun IQ=>
 a8 (BW n ([115,101,109]) ([116,111,112]) ([[84,79,80],[104,97,110,100,108,101],[73,78,68,69,88],[105,110,100,101,120],[82,69,76,83],[100,108,105,115,116],[67,79,78,83],[100,108,105,115,116]])) fun y7=>
 a8 (BW n ([115,105,103,110]) ([116,111,112]) ([[83,69,77],[115,101,109],[65,82,71,83],[108,105,115,116]])) fun nW=>some ([r1,r3,r5,r7,r9,r11,gK,sV,jQ,GN,IQ,y7,nW])
theorem qq9(n:Nat)(r:(I bL))(J:Si n  = some r):cY prog 32 [] (.isl false (r.map bU)):=by unfold Si at J;refine bg0 21 Zu ?_;obtain⟨r1,h2,J⟩:=aC J;obtain⟨r3,h4,J⟩:=aC J;obtain⟨r5,h6,J⟩:=aC J;obtain⟨r7,h8,J⟩:=aC J;obtain⟨r9,fH,J⟩:=aC J;obtain⟨r11,eC,J⟩:=aC J;obtain⟨gK,iE,J⟩:=aC J;obtain⟨sV,nV,J⟩:=aC J;obtain⟨jQ,dF,J⟩:=aC J;obtain⟨GN,tW,J⟩:=aC J;obtain⟨IQ,rO,J⟩:=aC J;obtain⟨y7,qC,J⟩:=aC J;obtain⟨nW,nB,J⟩:=aC J;refine go ?_;refine aR rfl (LR (args':=[.str ([116,111,112]),.str [],.isl false []]) (.cons (.refl _) (.cons (.refl _) (.cons (.nil false) .nil))) (pC (F5 n ([116,111,112]) [] [] r1 h2)) _) oP (aR rfl (LR (args':=[.str ([108,105,115,116]),.str ([116,111,112]),.isl false []]) (.cons (.refl _) (.cons (.refl _) (.cons (.nil false) .nil))) (pC (F5 n ([108,105,115,116]) ([116,111,112]) [] r3 h4)) _) oP ?_);refine bT ?_;refine G7 rfl (mB 0 1) (pC (F5 n ([99,111,110,115]) ([108,105,115,116]) ([[70,73,82,83,84],[116,111,112],[82,69,83,84],[108,105,115,116]]) r5 h6) _) oP (aR rfl (LR (args':=[.str ([110,117,108,108]),.str ([108,105,115,116]),.isl false []]) (.cons (.refl _) (.cons (.refl _) (.cons (.nil false) .nil))) (pC (F5 n ([110,117,108,108]) ([108,105,115,116]) [] r7 h8)) _) oP ?_);refine bT ?_;refine G7 rfl (mB 1 1) (pC (F5 n ([100,108,105,115,116]) ([116,111,112]) ([[76,73,83,84],[108,105,115,116],[76,65,83,84],[108,105,115,116]]) r9 fH) _) oP (aR rfl (LR (args':=[.str ([105,110,100,101,120]),.str ([116,111,112]),.isl false []]) (.cons (.refl _) (.cons (.refl _) (.cons (.nil false) .nil))) (pC (F5 n ([105,110,100,101,120]) ([116,111,112]) [] r11 eC)) _) oP (aR rfl (LR (args':=[.str ([104,97,110,100,108,101]),.str ([105,110,100,101,120]),.isl false []]) (.cons (.refl _) (.cons (.refl _) (.cons (.nil false) .nil))) (pC (F5 n ([104,97,110,100,108,101]) ([105,110,100,101,120]) [] gK iE)) _) oP (aR rfl (LR (args':=[.str ([101,118,101,110,116]),.str ([105,110,100,101,120]),.isl false []]) (.cons (.refl _) (.cons (.refl _) (.cons (.nil false) .nil))) (pC (F5 n ([101,118,101,110,116]) ([105,110,100,101,120]) [] sV nV)) _) oP (aR rfl (LR (args':=[.str ([101,110,116,105,116,121]),.str ([105,110,100,101,120]),.isl false []]) (.cons (.refl _) (.cons (.refl _) (.cons (.nil false) .nil))) (pC (F5 n ([101,110,116,105,116,121]) ([105,110,100,101,120]) [] jQ dF)) _) oP ?_))));refine bT ?_;refine G7 rfl (mB 2 1) (pC (F5 n ([114,101,108]) ([116,111,112]) ([[76,65,66,69,76],[104,97,110,100,108,101]]) GN tW) _) oP ?_;refine bT ?_;refine G7 rfl (mB 3 1) (pC (F5 n ([113,101,113]) ([116,111,112]) ([[72,73,71,72],[104,97,110,100,108,101],[76,79,87],[104,97,110,100,108,101]]) IQ rO) _) oP (aO (u:=.sl 4 0 8 8) (O':=⟨[(4,.row [.str ([84,79,80]),.str ([104,97,110,100,108,101]),.str ([73,78,68,69,88]),.str ([105,110,100,101,120]),.str ([82,69,76,83]),.str ([100,108,105,115,116]),.str ([67,79,78,83]),.str ([100,108,105,115,116])] 9)],5⟩) rfl (uG kQ.h JY.h rfl rfl rfl rfl rfl rfl rfl) (G7 rfl (mB 4 1) (pC (F5 n ([115,101,109]) ([116,111,112]) ([[84,79,80],[104,97,110,100,108,101],[73,78,68,69,88],[105,110,100,101,120],[82,69,76,83],[100,108,105,115,116],[67,79,78,83],[100,108,105,115,116]]) y7 qC) _) oP ?_));refine bT ?_;refine G7 rfl (mB 5 1) (pC (F5 n ([115,105,103,110]) ([116,111,112]) ([[83,69,77],[115,101,109],[65,82,71,83],[108,105,115,116]]) nW nB) _) oP (aO (u:=.sl 6 0 13 13) (O':=⟨[(6,.row [.str r1.Name,.iM cS r1.Supers,.iM lR r1.Feats,.str r3.Name,.iM cS r3.Supers,.iM lR r3.Feats,.str r5.Name,.iM cS r5.Supers,.iM lR r5.Feats,.str r7.Name,.iM cS r7.Supers,.iM lR r7.Feats,.str r9.Name,.iM cS r9.Supers,.iM lR r9.Feats,.str r11.Name,.iM cS r11.Supers,.iM lR r11.Feats,.str gK.Name,.iM cS gK.Supers,.iM lR gK.Feats,.str sV.Name,.iM cS sV.Supers,.iM lR sV.Feats,.str jQ.Name,.iM cS jQ.Supers,.iM lR jQ.Feats,.str GN.Name,.iM cS GN.Supers,.iM lR GN.Feats,.str IQ.Name,.iM cS IQ.Supers,.iM lR IQ.Feats,.str y7.Name,.iM cS y7.Supers,.iM lR y7.Feats,.str nW.Name,.iM cS nW.Supers,.iM lR nW.Feats] 138)],7⟩) rfl (uG Nh.h yN.h rfl rfl rfl rfl rfl rfl rfl) ?_);refine go ?_;obtain rfl:=sI J;exact rT (us:=[.sl 6 0 13 13]) (u:=.iM bU ([r1,r3,r5,r7,r9,r11,gK,sV,jQ,GN,IQ,y7,nW])) (dW rfl (dN)) (fR 6 3)
def Qq(n:Nat)(p1:Int):V (GFS):=
 some (GFS.mk ([(aM.mk p1 [])]))
theorem E_(n:Nat)(p1:Int)(r:GFS)(J:Qq n p1=some r):cY prog 36 [.int .i64 p1] (.agg [.isl false (r.Nodes.map aY)]):=by unfold Qq at J;refine kJ 7 QR ?_;refine go ?_;refine bT ?_;refine go ?_;obtain rfl:=sI J;exact⟨.inr rfl,[.agg [.sl 1 0 1 1]],mH (j4 k9.h rfl (aW oK.h) rfl rfl rfl) (dN),.agg [.iM aY ([(aM.mk p1 [])])],⟨[],0⟩,zF _,Gh.trans (Gh.trans (Gh.rowC 1) (mB 1 2)) (u9 (.agg [.iM aY ([(aM.mk p1 [])])]) rfl),rfl,BU.h⟩
def sy(z6:Int)(cE:Int->(I Int)->V ((I Int)))(cA:I Int):V ((I Int)):=
 cE (IntKind.i64.wrap (z6+1)) cA
def Jk(z6:Int)(cE:Int->(I Int)->V ((I Int)))(iI:aM):Nat->Int->(I Int)->V ((I Int))
 |0,_,_=>none|m2+1,uA,vR=>
  cond (decide (uA<(iI.Arcs.length:Int))) (a8 (aB iI.Arcs uA) fun lM=>
   a8 (aB iI.Arcs uA) fun qV=>
   aF ((vR.length+2)*8<=140737488355328/\vR.length+2<=140737488355328) ((Jk z6 cE iI m2) (IntKind.i64.wrap (uA+1)) (vR++[lM.Feat,qV.To]))) (sy z6 cE vR)
def pa  (l9:I Int):V ((I Int)):=
 some l9
def PQ(p1:GFS)(n:Nat):Nat->Int->(I Int)->V ((I Int))
 |0,_,_=>none|m1+1,z6,l7=>
  cond (decide (z6<(p1.Nodes.length:Int))) (a8 (aB p1.Nodes z6) fun iI=>
   a8 (aB p1.Nodes z6) fun lA=>
   aF ((l7.length+2)*8<=140737488355328/\l7.length+2<=140737488355328) (
   Jk z6 (PQ p1 n m1) iI n 0 (l7++[lA.Typex,(iI.Arcs.length:Int)]))) (pa l7)
def In(n:Nat)(p1:GFS):V ((I Int)):=
 PQ p1 n n 0 ([(p1.Nodes.length:Int)])
theorem qj0(n:Nat)(p1:GFS)(r:(I Int))(J:In n p1=some r):cY prog 80 [.agg [.isl false (p1.Nodes.map aY)]] (.isl false (r.map (cI .i64))):=by unfold In at J;refine kJ 55 Dn ?_;refine go ?_;refine RS.step (u:=.vl 1 0 0 ([(p1.Nodes.length:Int)].length)) (O':=⟨[(1,.bv (cI .i64) ([(p1.Nodes.length:Int)]) 3 1 0),(0,.row [.iM aY p1.Nodes] 40)],2⟩) rfl (IX.bslv (cs:=(List.map (cI .i64) [(p1.Nodes.length:Int)]).flatten) tb_ok rfl dY.h fQ.h rfl rfl rfl rfl rfl rfl rfl rfl) rfl rfl ?_;refine go ?_;refine gL (fun m tm O=>∃z6 l7 t8,PQ p1 n m z6 l7=some r/\tm=fr 55 [(1,.ptr 0 0 0),(3,.vl 1 t8 0 l7.length),(4,.i6 z6)]/\O=⟨Hf l7 t8 p1.Nodes,2⟩) (fun tm O=>∃l9 cK,pa l9=some r/\tm=fr 55 [(3,.vl 1 cK 0 l9.length)]/\O=⟨Hf l9 cK p1.Nodes,2⟩) n ⟨0,[(p1.Nodes.length:Int)],0,J,rfl,rfl⟩ ?_ ?_;rintro _ _ ⟨l9,cK,J,rfl,rfl⟩;unfold pa at J;refine go ?_;obtain rfl:=sI J;exact rT (us:=[.vl 1 cK 0 l9.length]) (u:=.iM (cI .i64) l9) (dW rfl (dN)) (fR 1 1);rintro(_|m1) _ _ ⟨z6,l7,t8,J,rfl,rfl⟩;cases J;unfold PQ at J;refine gF J ?_ ?_<;>intro iY J;refine go ?_;apply aV;obtain⟨iI,dG,J⟩:=aC J;refine go ?_;refine aZ dG ?_;obtain⟨lA,eW,J⟩:=aC J;obtain⟨nV,J⟩:=d7 J;refine go ?_;refine aZ eW ?_;refine go ?_;refine bT ?_;refine aO (u:=.vl 1 (t8+1) 0 ((l7++[lA.Typex,(iI.Arcs.length:Int)]).length)) (O':=⟨(2,.row [.i6 lA.Typex,.i6 (iI.Arcs.length:Int)] 3)::Hf (l7++[lA.Typex,(iI.Arcs.length:Int)]) (t8+1) p1.Nodes,3⟩) rfl (uZ rfl rfl rfl rfl (SL (cI .i64) ([lA.Typex,(iI.Arcs.length:Int)]) dY.h dY.h fQ.h rfl (kN .i64) rfl (Oz (cI .i64) [lA.Typex,(iI.Arcs.length:Int)] rfl rfl rfl rfl) nV)) ?_;refine go ?_;refine gL (fun m tm O=>∃uA vR BJ,Jk z6 (PQ p1 n m1) iI m uA vR=some r/\tm=fr 55 [(1,.ptr 0 0 0),(3,.vl 1 BJ 0 vR.length),(4,.i6 z6),(5,.iM aU iI.Arcs),(6,.i6 uA)]/\O=⟨(2,.row [.i6 lA.Typex,.i6 (iI.Arcs.length:Int)] 3)::Hf vR BJ p1.Nodes,3⟩) (fun tm O=>∃cA jW,sy z6 (PQ p1 n m1) cA=some r/\tm=fr 55 [(1,.ptr 0 0 0),(3,.vl 1 jW 0 cA.length),(4,.i6 z6)]/\O=⟨(2,.row [.i6 lA.Typex,.i6 (iI.Arcs.length:Int)] 3)::Hf cA jW p1.Nodes,3⟩) n ⟨0,(l7++[lA.Typex,(iI.Arcs.length:Int)]),(t8+1),J,rfl,rfl⟩ ?_ ?_;rintro _ _ ⟨cA,jW,J,rfl,rfl⟩;unfold sy at J;refine go ?_;exact lC ⟨_,cA,jW,J,rfl,rfl⟩;rintro(_|m2) _ _ ⟨uA,vR,BJ,J,rfl,rfl⟩;cases J;unfold Jk at J;refine gF J ?_ ?_<;>intro sL J;refine go ?_;apply aV;obtain⟨lM,nU,J⟩:=aC J;obtain⟨qV,nT,J⟩:=aC J;obtain⟨o8,J⟩:=d7 J;refine go ?_;refine dE [(0,11)] ?_;refine gd ?_;refine bP nU ?_;refine gd ?_;refine bP nT ?_;refine gd ?_;refine eE ?_;refine RD.act (u:=.vl 1 (BJ+1) 0 ((vR++[lM.Feat,qV.To]).length)) (O':=⟨(3,.row [.i6 lM.Feat,.i6 qV.To] 3)::(2,.row [.i6 lA.Typex,.i6 (iI.Arcs.length:Int)] 3)::Hf (vR++[lM.Feat,qV.To]) (BJ+1) p1.Nodes,4⟩) rfl (uZ rfl rfl rfl rfl (SL (cI .i64) ([lM.Feat,qV.To]) dY.h dY.h fQ.h rfl (kN .i64) rfl (Oz (cI .i64) [lM.Feat,qV.To] rfl rfl rfl rfl) o8)) rfl rfl ?_;refine gd ?_;refine bD ⟨by kernel_rfl,⟨iQ rfl,trivial⟩,?_⟩;refine go ?_;exact lC ⟨_,(vR++[lM.Feat,qV.To]),(BJ+1),J,rfl,rfl⟩;refine go ?_;exact xC ⟨vR,BJ,J,rfl,rfl⟩;refine go ?_;exact xC ⟨l7,t8,J,rfl,rfl⟩
def Tu: V (Int):=
 some 0
def Jl(r3:(I Int))(r5:(I Int)):Nat->Int->V (Int)
 |0,_=>none|m1+1,dM=>a8 (cond (decide (dM<(r3.length:Int))) (some (decide (dM<(r5.length:Int)))) (some false)) fun vF=>cond vF (a8 (aB r3 dM) fun rY=>a8 (aB r5 dM) fun NT=>cond (decide (rY<NT)) (some (-1)) (a8 (aB r3 dM) fun kK=>a8 (aB r5 dM) fun oW=>cond (decide (kK>oW)) (some 1) ((Jl r3 r5 m1) (IntKind.i64.wrap (dM+1))))) (Tu)
def Sh(n:Nat)(p1:GFS)(p2:GFS):V (Int):=
 a8 (In n p1) fun r3=>
 a8 (In n p2) fun r5=>
 Jl r3 r5 n 0
theorem qqa(n:Nat)(p1:GFS)(p2:GFS)(r:Int)(J:Sh n p1 p2=some r):cY prog 50 [.agg [.isl false (p1.Nodes.map aY)],.agg [.isl false (p2.Nodes.map aY)]] (.int .i64 r):=by unfold Sh at J;refine gP 42 Zk ?_;obtain⟨r3,h4,J⟩:=aC J;refine go ?_;refine aR rfl (pC (qj0 n p1 r3 h4) _) Dn ?_;obtain⟨r5,h6,J⟩:=aC J;refine go ?_;refine aR rfl (pC (qj0 n p2 r5 h6) _) Dn ?_;refine go ?_;refine gL (fun m tm O=>∃dM,Jl r3 r5 m dM=some r/\tm=fr 42 [(5,.iM (cI .i64) r3),(6,.iM (cI .i64) r5),(7,.i6 dM)]/\O=⟨[(1,.row [.iM aY p2.Nodes] 40),(0,.row [.iM aY p1.Nodes] 40)],2⟩) (fun tm O=>Tu=some r/\tm=fr 42 []/\O=⟨[(1,.row [.iM aY p2.Nodes] 40),(0,.row [.iM aY p1.Nodes] 40)],2⟩) n ⟨0,J,rfl,rfl⟩ ?_ ?_;rintro _ _ ⟨J,rfl,rfl⟩;unfold Tu at J;exact gx J;rintro(_|m1) _ _ ⟨dM,J,rfl,rfl⟩;cases J;unfold Jl at J;obtain⟨vF,eW,J⟩:=aC J;refine gn ?_;refine dO (fun tm O=>tm=fr 42 [(5,.iM (cI .i64) r3),(6,.iM (cI .i64) r5),(7,.i6 dM),(21,.bool vF)]/\O=⟨[(1,.row [.iM aY p2.Nodes] 40),(0,.row [.iM aY p1.Nodes] 40)],2⟩) ?_ ?_;rintro _ _ ⟨rfl,rfl⟩;refine gF J ?_ ?_<;>intro nV J;refine go ?_;apply aV;obtain⟨rY,dF,J⟩:=aC J;obtain⟨NT,tW,J⟩:=aC J;refine go ?_;refine dE [] ?_;refine gd ?_;refine bP dF ?_;refine gd ?_;refine bP tW ?_;refine gd ?_;refine bD ⟨by kernel_rfl,trivial,?_⟩;refine gF J ?_ ?_<;>intro lS J;exact gx J;obtain⟨kK,mR,J⟩:=aC J;obtain⟨oW,pL,J⟩:=aC J;refine go ?_;refine dE [] ?_;refine gd ?_;refine bP mR ?_;refine gd ?_;refine bP pL ?_;refine gd ?_;refine bD ⟨by kernel_rfl,trivial,?_⟩;refine gF J ?_ ?_<;>intro nB J;exact gx J;refine go ?_;exact lC ⟨_,J,rfl,rfl⟩;refine go ?_;exact xC ⟨J,rfl,rfl⟩;refine go ?_;rcases gB eW with⟨dG,eW⟩|⟨dG,eW⟩;exact gy eW;exact gy eW
def EX(n:Nat)(p1:GFS)(p2:GFS):V (Bool):=
 a8 (Sh n p1 p2) fun r3=>some (r3==0)
theorem ZB(n:Nat)(p1:GFS)(p2:GFS)(r:Bool)(J:EX n p1 p2=some r):cY prog 25 [.agg [.isl false (p1.Nodes.map aY)],.agg [.isl false (p2.Nodes.map aY)]] (.bool r):=by unfold EX at J;refine gP 9 A3 ?_;obtain⟨r3,h4,J⟩:=aC J;refine go ?_;refine aR rfl (pC (qqa n p1 p2 r3 h4) _) Zk ?_;exact gx J
def Po(n:Nat)(p1:I aM):V (GFS):=
 some (GFS.mk p1)
theorem q_(n:Nat)(p1:I aM)(r:GFS)(J:Po n p1=some r):cY prog 34 [.isl false (p1.map aY)] (.agg [.isl false (r.Nodes.map aY)]):=by unfold Po at J;refine kJ 5 QS ?_;refine go ?_;obtain rfl:=sI J;exact rT (mH (j4 k9.h rfl (aW oK.h) rfl rfl rfl) (dN)) (u9 _ rfl)
def M_(p1:Int)(hJ:I aK):V (aM):=
 some (aM.mk p1 hJ)
def mc(p1:Int)(p2:I Int):Nat->Int->(I aK)->V (aM)
 |0,_,_=>none|m1+1,z9,l10=>
  cond (decide ((IntKind.i64.wrap (z9+1))<(p2.length:Int))) (a8 (aB p2 z9) fun qW=>
   a8 (aB p2 (IntKind.i64.wrap (z9+1))) fun rY=>
   aF ((l10.length+1)*16<=140737488355328/\l10.length+1<=140737488355328) ((mc p1 p2 m1) (IntKind.i64.wrap (z9+2)) (l10++[(aK.mk qW rY)]))) (M_ p1 l10)
def Z0(n:Nat)(p1:Int)(p2:I Int):V (aM):=
 mc p1 p2 n 0 ([]:I aK)
theorem Sa(n:Nat)(p1:Int)(p2:I Int)(r:aM)(J:Z0 n p1 p2=some r):cY prog 35 [.int .i64 p1,.isl false (p2.map (cI .i64))] (.agg (aY r)):=by unfold Z0 at J;refine gP 32 FY ?_;refine gr ?_;refine gr ?_;refine gr ?_;refine cJ (tm':=fr 32 [(1,.iM (cI .i64) p2),(4,.ptr 0 0 0),(5,.ptr 1 0 0),(6,.i6 0)]) (O':=⟨[(2,.bv aU ([]:I aK) 98 2 0),(1,.row [.i6 p1,.vl 2 0 0 (([]:I aK).length)] 78),(0,.row [.i6 0,.nils] 78)],3⟩) (Gh.trans (x3 1 1 98 2 (by decide) NZ rfl rfl) (oT ⟨rfl,rfl,rfl,rfl,trivial⟩ rfl)) NZ ?_;refine gL (fun m tm O=>∃z9 l10 lW,mc p1 p2 m z9 l10=some r/\tm=fr 32 [(1,.iM (cI .i64) p2),(4,.ptr 0 0 0),(5,.ptr 1 0 0),(6,.i6 z9)]/\O=⟨[(2,.bv aU l10 98 2 lW),(1,.row [.i6 p1,.vl 2 lW 0 l10.length] 78),(0,.row [.i6 0,.nils] 78)],3⟩) (fun tm O=>∃hJ mC,M_ p1 hJ=some r/\tm=fr 32 [(4,.ptr 0 0 0),(5,.ptr 1 0 0)]/\O=⟨[(2,.bv aU hJ 98 2 mC),(1,.row [.i6 p1,.vl 2 mC 0 hJ.length] 78),(0,.row [.i6 0,.nils] 78)],3⟩) n ⟨0,([]:I aK),0,J,rfl,rfl⟩ ?_ ?_;rintro _ _ ⟨hJ,mC,J,rfl,rfl⟩;unfold M_ at J;refine go ?_;obtain rfl:=sI J;exact rT (us:=[.agg [.i6 p1,.vl 2 mC 0 hJ.length]]) (u:=.agg [.i6 p1,.iM aU hJ]) (mH (j4 wB.h rfl (aW mO.h) rfl rfl rfl) (dN)) (fR 2 2);rintro(_|m1) _ _ ⟨z9,l10,lW,J,rfl,rfl⟩;cases J;unfold mc at J;refine gF J ?_ ?_<;>intro iE J;refine go ?_;apply aV;obtain⟨qW,nV,J⟩:=aC J;obtain⟨rY,dF,J⟩:=aC J;obtain⟨iS,J⟩:=d7 J;refine go ?_;refine dE [(0,12),(1,12)] ?_;refine gd ?_;refine bP nV ?_;refine gd ?_;refine bP dF ?_;refine gd ?_;refine eE ?_;refine eE ?_;refine gd ?_;refine qU ?_;refine bD ⟨by kernel_rfl,⟨kC wB.h rfl (aW kD.h) rfl rfl rfl,⟨mW eT.h rfl rfl rfl rfl,trivial⟩⟩,?_⟩;refine go ?_;exact lC ⟨_,(l10++[(aK.mk qW rY)]),(lW+1),J,rfl,rfl⟩;refine go ?_;exact xC ⟨l10,lW,J,rfl,rfl⟩
end Go.Proofs
