import Derived.Test.YtldlchbgolpkaaaGreatP13
set_option linter.all false
namespace Go.Proofs
open Go Go.Rx Go.Vx Tryz
instance:TbP prog tb:=⟨tb_ok⟩
set_option maxRecDepth 20000
set_option maxHeartbeats 4000000
set_option synthInstance.maxSize 4000
set_option synthInstance.maxHeartbeats 200000
structure mS where
 Feat:Int
 Value:Int
def uG(x:mS):V U:=[.int .i64 x.Feat,.int .i64 x.Value]
instance{a0:Int}{a1:Int}:DeC uG [.int .i64 a0,.int .i64 a1] (mS.mk a0 a1):=⟨rfl⟩
theorem qog(n:Nat)(x:mS):aM n (uG x):=by simp only[uG,aM,bA,true_and,and_true]
theorem qwa(x:mS):(uG x).length=2:=rfl
instance:gC uG 2:=⟨qwa⟩
instance:BF uG:=⟨qog⟩
structure dM where
 Name:V Xv
 Code:V Int
 Supers:V Int
 Feats:V mS
def fK(x:dM):V U:=[.str x.Name,.isl false (x.Code.map (cI .u64)),.isl false (x.Supers.map (cI .i64)),.isl false (x.Feats.map uG)]
instance{a0:V Xv}{a1:V Int}{a2:V Int}{a3:V mS}:DeC fK [.str a0,.isl false (a1.map (cI .u64)),.isl false (a2.map (cI .i64)),.isl false (a3.map uG)] (dM.mk a0 a1 a2 a3):=⟨rfl⟩
theorem ko(n:Nat)(x:dM):aM n (fK x):=by simp only[fK,aM,bA,true_and,and_true];exact⟨uH _ (fun q=>O0 _ .u64 q) _,uH _ (fun q=>O0 _ .i64 q) _,uH _ (fun q=>qog _ q) _⟩
theorem iw(x:dM):(fK x).length=4:=rfl
instance:gC fK 4:=⟨iw⟩
instance:BF fK:=⟨ko⟩
instance(n:Nat)(x:dM):eQ n (fK x):=⟨ko n x⟩
structure eJ where
 Name:V Xv
 Intro:Int
def gN(x:eJ):V U:=[.str x.Name,.int .i64 x.Intro]
instance{a0:V Xv}{a1:Int}:DeC gN [.str a0,.int .i64 a1] (eJ.mk a0 a1):=⟨rfl⟩
theorem ow(n:Nat)(x:eJ):aM n (gN x):=by simp only[gN,aM,bA,true_and,and_true]
theorem qtv(x:eJ):(gN x).length=2:=rfl
instance:gC gN 2:=⟨qtv⟩
instance:BF gN:=⟨ow⟩
structure cZ where
 Types:V dM
 Feats:V eJ
def g7(x:cZ):V U:=[.isl false (x.Types.map fK),.isl false (x.Feats.map gN)]
theorem qit(n:Nat)(x:cZ):aM n (g7 x):=by simp only[g7,aM,bA,true_and,and_true];exact⟨uH _ (fun q=>ko _ q) _,uH _ (fun q=>ow _ q) _⟩
theorem qqr(x:cZ):(g7 x).length=2:=rfl
instance:gC g7 2:=⟨qqr⟩
instance(n:Nat)(x:cZ):eQ n (g7 x):=⟨qit n x⟩
theorem qkq(K:Nat)(b:B)(sz:Nat)(x:cZ):jW K b sz (g7 x)=g7 x:=oH _ _ _ (qit K x)
structure oZ where
 Feat:V Xv
 Value:V Xv
def lX(x:oZ):V U:=[.str x.Feat,.str x.Value]
instance{a0:V Xv}{a1:V Xv}:DeC lX [.str a0,.str a1] (oZ.mk a0 a1):=⟨rfl⟩
theorem qkl(n:Nat)(x:oZ):aM n (lX x):=by simp only[lX,aM,bA,true_and,and_true]
theorem qrx(x:oZ):(lX x).length=2:=rfl
instance:gC lX 2:=⟨qrx⟩
instance:BF lX:=⟨qkl⟩
structure bL where
 Name:V Xv
 Supers:V (V Xv)
 Feats:V oZ
def bV(x:bL):V U:=[.str x.Name,.isl false (x.Supers.map cS),.isl false (x.Feats.map lX)]
theorem qkm(n:Nat)(x:bL):aM n (bV x):=by simp only[bV,aM,bA,true_and,and_true];exact⟨uH _ (fun q=>zb2 _ q) _,uH _ (fun q=>qkl _ q) _⟩
theorem qry(x:bL):(bV x).length=3:=rfl
instance:gC bV 3:=⟨qry⟩
instance:BF bV:=⟨qkm⟩
instance(n:Nat)(x:bL):eQ n (bV x):=⟨qkm n x⟩
structure dN where
 Name:V Xv
 Code:V Int
instance:Inhabited dN:=⟨.mk default default⟩
def gE(x:dN):V U:=[.str x.Name,.isl false (x.Code.map (cI .u64))]
instance{a0:V Xv}{a1:V Int}:DeC gE [.str a0,.isl false (a1.map (cI .u64))] (dN.mk a0 a1):=⟨rfl⟩
theorem qq1(n:Nat)(x:dN):aM n (gE x):=by simp only[gE,aM,bA,true_and,and_true];exact uH _ (fun q=>O0 _ .u64 q) _
theorem S3(x:dN):(gE x).length=2:=rfl
instance:gC gE 2:=⟨S3⟩
instance:BF gE:=⟨qq1⟩
instance(n:Nat)(x:dN):eQ n (gE x):=⟨qq1 n x⟩
structure aG where
 Feat:Int
 To:Int
def aL(x:aG):V U:=[.int .i64 x.Feat,.int .i64 x.To]
instance{a0:Int}{a1:Int}:DeC aL [.int .i64 a0,.int .i64 a1] (aG.mk a0 a1):=⟨rfl⟩
theorem Y8(n:Nat)(x:aG):aM n (aL x):=by simp only[aL,aM,bA,true_and,and_true]
theorem mT(x:aG):(aL x).length=2:=rfl
instance:gC aL 2:=⟨mT⟩
instance:BF aL:=⟨Y8⟩
instance(n:Nat)(x:aG):eQ n (aL x):=⟨Y8 n x⟩
structure aJ where
 Typex:Int
 Arcs:V aG
def aW(x:aJ):V U:=[.int .i64 x.Typex,.isl false (x.Arcs.map aL)]
instance{a0:Int}{a1:V aG}:DeC aW [.int .i64 a0,.isl false (a1.map aL)] (aJ.mk a0 a1):=⟨rfl⟩
instance{a0:Int}:DeC aW [.int .i64 a0,.isl false []] (aJ.mk a0 []):=⟨rfl⟩
theorem JC(n:Nat)(x:aJ):aM n (aW x):=by simp only[aW,aM,bA,true_and,and_true];exact uH _ (fun q=>Y8 _ q) _
theorem MM(x:aJ):(aW x).length=2:=rfl
instance:gC aW 2:=⟨MM⟩
instance:BF aW:=⟨JC⟩
instance(n:Nat)(x:aJ):eQ n (aW x):=⟨JC n x⟩
structure GFS where
 Nodes:V aJ
def oG(x:GFS):V U:=[.isl false (x.Nodes.map aW)]
instance{a0:V aJ}:DeC oG [.isl false (a0.map aW)] (GFS.mk a0):=⟨rfl⟩
theorem qzh(n:Nat)(x:GFS):aM n (oG x):=by simp only[oG,aM,bA,true_and,and_true];exact uH _ (fun q=>JC _ q) _
theorem z0b(x:GFS):(oG x).length=1:=rfl
instance:gC oG 1:=⟨z0b⟩
instance:BF oG:=⟨qzh⟩
instance(n:Nat)(x:GFS):eQ n (oG x):=⟨qzh n x⟩
instance:y8 tb 27 [.nils,.nils] [(0,1),(1,1)]:=⟨AN uU.h CC.h rfl (by kernel_rfl)⟩
instance:y8 tb 40 [.nils] [(0,1)]:=⟨AN iA.h mB.h rfl (by kernel_rfl)⟩
instance:y8 tb 78 [.int .i64 0,.nils] [(0,1),(1,1)]:=⟨AN wQ.h kP.h rfl (by kernel_rfl)⟩
instance:y8 tb 98 [.int .i64 0,.int .i64 0] [(0,1),(1,1)]:=⟨AN sS.h iO.h rfl (by kernel_rfl)⟩
instance Zm:y8 tb 128 [.str [],.nils] [(0,1),(1,1)]:=⟨AN QO.h tJ.h rfl (by kernel_rfl)⟩
instance:y8 tb 132 [.str [],.nils,.nils,.nils] [(0,1),(1,1),(2,1),(3,1)]:=⟨AN IG.h JV.h rfl (by kernel_rfl)⟩
instance:y8 tb 138 [.str [],.nils,.nils] [(0,1),(1,1),(2,1)]:=⟨AN yG.h zP.h rfl (by kernel_rfl)⟩
instance:y8 tb 141 [.str [],.str []] [(0,1),(1,1)]:=⟨AN Ls.h TG.h rfl (by kernel_rfl)⟩
instance:y8 tb 176 [.int .i64 0,.int .i64 0] [(0,1),(1,1)]:=⟨AN Lr.h Uc.h rfl (by kernel_rfl)⟩
instance:y8 tb 187 [.str [],.int .i64 0] [(0,1),(1,1)]:=⟨AN Lq.h Ub.h rfl (by kernel_rfl)⟩
abbrev RV(a)(b:Nat):=([(1,.bv (cL (cI .u64)) a 126 1 b),(0,.row [] 126)]:V (Nat×B))
abbrev nB(a)(b:Nat):=([(0,.bv cS a 9 1 b)]:V (Nat×B))
abbrev Gc(a)(b:Nat)(c):=([(1,.bv (cI .i64) a 3 1 b),(0,.row [.iM aW c] 40)]:V (Nat×B))
abbrev FG(a)(b:Nat):=([(0,.bv (cI .i64) a 3 1 b)]:V (Nat×B))
abbrev Gb:=([(0,.row [.str [],.nils,.nils] 138)]:V (Nat×B))
abbrev Nv(a:U)(b)(c)(d:Nat):=([(2,.row [a,.iM (cI .u64) b] 128),(1,.bv gE c 128 2 d)]:V (Nat×B))
abbrev z02:=([(1,.row [.str ([70]),.str ([116,111,112]),.str ([71]),.str ([116,111,112])] 141),(0,.row [.nils,.nils] 27)]:V (Nat×B))
def y_: M (Int):=
 some 0
def Hs(p1:V bL):Nat->Int->M (Int)
 |0,_=>none|m1+1,z5=>cond (decide (z5<(p1.length:Int))) (a8 (a8 (aC p1 z5) fun x7=>cond (decide ((x7.Supers.length:Int)>256)) (some true) (a8 (aC p1 z5) fun x10=>some (decide ((x10.Feats.length:Int)>256)))) fun LG=>cond LG (some 7) ((Hs p1 m1) (IntKind.i64.wrap (z5+1)))) (y_)
def yk(n:Nat)(p1:V bL):M (Int):=
 cond (decide ((p1.length:Int)>256)) (some 7) (Hs p1 n 0)
theorem quf(n:Nat)(p1:V bL)(r:Int)(J:yk n p1=some r):cV prog 122 [.isl false (p1.map bV)] (.int .i64 r):=by apply jO 29 UW;refine gF J ?_ ?_<;>intro h2 J;exact gx J;apply(go);refine gL (fun m tm X=>∃z5,Hs p1 m z5=some r/\tm=fr 29 [(0,.iM bV p1),(3,.i6 z5)]/\X=⟨[],0⟩) (fun tm X=>y_=some r/\tm=fr 29 []/\X=⟨[],0⟩) n ⟨0,J,rfl,rfl⟩ ?_ ?_;rintro _ _ ⟨J,rfl,rfl⟩;exact gx J;rintro(_|m1) _ _ ⟨z5,J,rfl,rfl⟩;cases J;refine gF J ?_ ?_<;>intro h6 J;apply(go);apply aU;have⟨LG,dC,J⟩:=aN J;apply(gn);refine dJ (fun tm X=>tm=fr 29 [(0,.iM bV p1),(3,.i6 z5),(28,.bool LG)]/\X=⟨[],0⟩) ?_ ?_;rintro _ _ ⟨rfl,rfl⟩;refine gF J ?_ ?_<;>intro i4 J;exact gx J;refine go ?_;exact lC ⟨_,J,rfl,rfl⟩;have⟨x7,h8,dC⟩:=aN dC;refine go ?_;apply aY h8;refine go ?_;rcases gB dC with⟨h9,dC⟩|⟨h9,dC⟩;exact gy dC;have⟨x10,iT,dC⟩:=aN dC;cases dC;refine go ?_;apply aY iT;refine go ?_;exact xC ⟨rfl,rfl⟩;refine go ?_;exact xC ⟨J,rfl,rfl⟩
def Ha(n:Nat)(p1:Int):M (D1):=
 a8 (cond (decide (p1>=48)) (some (decide (p1<=57))) (some false)) fun b3=>some b3
theorem qmr(n:Nat)(p1:Int)(r:D1)(J:Ha n p1=some r):cV prog 171 [.int .u8 p1] (.bool r):=by apply jO 9 KT;have⟨b3,h4,J⟩:=aN J;apply(gr);refine dJ (fun tm X=>tm=fr 9 [(2,.bool b3)]/\X=⟨[],0⟩) ?_ ?_;rintro _ _ ⟨rfl,rfl⟩;exact gx J;refine go ?_;rcases gB h4 with⟨h2,h4⟩|⟨h2,h4⟩;exact gy h4;exact gy h4
def om(n:Nat)(p1:Int):M (D1):=
 a8 (cond (decide (p1>=65)) (some (decide (p1<=90))) (some false)) fun b3=>some b3
theorem qu7(n:Nat)(p1:Int)(r:D1)(J:om n p1=some r):cV prog 174 [.int .u8 p1] (.bool r):=by apply jO 9 UA;have⟨b3,h4,J⟩:=aN J;apply(gr);refine dJ (fun tm X=>tm=fr 9 [(2,.bool b3)]/\X=⟨[],0⟩) ?_ ?_;rintro _ _ ⟨rfl,rfl⟩;exact gx J;refine go ?_;rcases gB h4 with⟨h2,h4⟩|⟨h2,h4⟩;exact gy h4;exact gy h4
def yq(n:Nat)(p1:Int):M (D1):=
 a8 (cond (decide (p1>=97)) (some (decide (p1<=122))) (some false)) fun b3=>some b3
theorem qms(n:Nat)(p1:Int)(r:D1)(J:yq n p1=some r):cV prog 175 [.int .u8 p1] (.bool r):=by apply jO 9 KS;have⟨b3,h4,J⟩:=aN J;apply(gr);refine dJ (fun tm X=>tm=fr 9 [(2,.bool b3)]/\X=⟨[],0⟩) ?_ ?_;rintro _ _ ⟨rfl,rfl⟩;exact gx J;refine go ?_;rcases gB h4 with⟨h2,h4⟩|⟨h2,h4⟩;exact gy h4;exact gy h4
def vr(n:Nat)(p1:Int)(p2:D1):M (D1):=
 a8 (a8 (Ha n p1) fun r3=>cond r3 (some true) (cond (p1==45) (some true) (cond p2 (a8 (om n p1) fun r8=>cond r8 (some true) (cond (!p2) (a8 (yq n p1) fun dD=>some dD) (some false))) (cond (!p2) (a8 (yq n p1) fun tC=>some tC) (some false))))) fun vM=>some vM
theorem qwv(n:Nat)(p1:Int)(p2:D1)(r:D1)(J:vr n p1 p2=some r):cV prog 172 [.int .u8 p1,.bool p2] (.bool r):=by
 apply fQ 26 UB;have⟨vM,dB,J⟩:=aN J;apply(gr);refine dJ (fun tm X=>tm=fr 26 [(4,.bool vM)]/\X=⟨[],0⟩) ?_ ?_;rintro _ _ ⟨rfl,rfl⟩;exact gx J;have⟨r3,h4,dB⟩:=aN dB;refine go ?_;apply aR rfl (pC (qmr n p1 r3 h4) _) KT;refine go ?_;rcases gB dB with⟨h5,dB⟩|⟨h5,dB⟩;cases dB;refine go ?_
 repeat apply RS.no (IU rfl rfl rfl) rfl rfl
 refine go ?_
 repeat apply RS.no (IU rfl rfl rfl) rfl rfl
 refine go ?_;exact xC ⟨rfl,rfl⟩;refine go ?_;rcases gB dB with⟨h6,dB⟩|⟨h6,dB⟩;cases dB;refine go ?_
 repeat apply RS.no (IU rfl rfl rfl) rfl rfl
 refine go ?_
 repeat refine RS.no (IU rfl rfl rfl) rfl rfl ?_
 refine go ?_;exact xC ⟨rfl,rfl⟩;refine go ?_;rcases gB dB with⟨h7,dB⟩|⟨h7,dB⟩;obtain⟨r8,h9,dB⟩:=aN dB;refine go ?_;refine aR rfl (pC (qu7 n p1 r8 h9) _) UA ?_;refine go ?_;rcases gB dB with⟨eW,dB⟩|⟨eW,dB⟩;obtain rfl:=sI dB;refine go ?_
 repeat refine RS.no (IU rfl rfl rfl) rfl rfl ?_
 refine go ?_;exact xC ⟨rfl,rfl⟩;refine go ?_;rcases gB dB with⟨iT,dB⟩|⟨iT,dB⟩;obtain⟨dD,dC,dB⟩:=aN dB;obtain rfl:=sI dB;refine go ?_;refine aR rfl (pC (qms n p1 dD dC) _) KS ?_;refine go ?_;exact xC ⟨rfl,rfl⟩;exact gy dB;refine go ?_;rcases gB dB with⟨i4,dB⟩|⟨i4,dB⟩;obtain⟨tC,pH,dB⟩:=aN dB;obtain rfl:=sI dB;refine go ?_;refine aR rfl (pC (qms n p1 tC pH) _) KS ?_;refine go ?_;exact xC ⟨rfl,rfl⟩;exact gy dB
def G_: M (D1):=
 some true
def Hw(p1:V Xv)(p2:D1)(n:Nat):Nat->Int->M (D1)
 |0,_=>none|m1+1,dV=>cond (decide (dV<(p1.length:Int))) (a8 (X6 p1 dV) fun nI=>a8 (vr n nI p2) fun fG=>cond (!fG) (some false) ((Hw p1 p2 n m1) (IntKind.i64.wrap (dV+1)))) (G_)
def Pg(n:Nat)(p1:V Xv)(p2:D1):M (D1):=
 a8 (cond (decide ((p1.length:Int)<1)) (some true) (cond (decide ((p1.length:Int)>32)) (some true) (a8 (X6 p1 0) fun x5=>a8 (Ha n x5) fun r7=>cond r7 (some true) (a8 (X6 p1 0) fun x10=>some (x10==45))))) fun LG=>cond LG (some false) (Hw p1 p2 n n 0)
theorem qmt(n:Nat)(p1:V Xv)(p2:D1)(r:D1)(J:Pg n p1 p2=some r):cV prog 165 [.str p1,.bool p2] (.bool r):=by apply fQ 36 KU;have⟨LG,dC,J⟩:=aN J;apply(gr);refine dJ (fun tm X=>tm=fr 36 [(0,.str p1),(1,.bool p2),(23,.bool LG)]/\X=⟨[],0⟩) ?_ ?_;rintro _ _ ⟨rfl,rfl⟩;refine gF J ?_ ?_<;>intro i4 J;exact gx J;apply(go);refine gL (fun m tm X=>∃dV,Hw p1 p2 n m dV=some r/\tm=fr 36 [(0,.str p1),(1,.bool p2),(5,.i6 dV)]/\X=⟨[],0⟩) (fun tm X=>G_=some r/\tm=fr 36 []/\X=⟨[],0⟩) n ⟨0,J,rfl,rfl⟩ ?_ ?_;rintro _ _ ⟨J,rfl,rfl⟩;exact gx J;rintro(_|m1) _ _ ⟨dV,J,rfl,rfl⟩;cases J;apply(go);apply aO (u:=.i6 (p1.length:Int)) rfl (F5 rfl rfl rfl (by simp only[lenU,M2.h]));refine gF J ?_ ?_<;>intro j8 J;apply(go);apply aU;have⟨nI,mM,fG,nF,J⟩:=bS J;apply(go);apply aO (u:=.int .u8 nI) rfl (V' M2.h rfl rfl mM);apply(go);apply aR rfl (pC (qwv n nI p2 fG nF) _) UB;refine gF J ?_ ?_<;>intro oR J;exact gx J;apply(go);exact lC ⟨_,J,rfl,rfl⟩;refine go ?_;exact xC ⟨J,rfl,rfl⟩;refine go ?_;apply aO (u:=.i6 (p1.length:Int)) rfl (F5 rfl rfl rfl (by simp only[lenU,M2.h]));refine go ?_;rcases gB dC with⟨h3,dC⟩|⟨h3,dC⟩;exact gy dC;refine go ?_;apply RS.wq (u:=.i6 (p1.length:Int)) rfl (F5 rfl rfl rfl (by simp only[lenU,M2.h]));refine go ?_;rcases gB dC with⟨h4,dC⟩|⟨h4,dC⟩;exact gy dC;have⟨x5,h6,dC⟩:=aN dC;have⟨r7,h8,dC⟩:=aN dC;refine go ?_;refine RS.wq (u:=.int .u8 x5) rfl (V' M2.h rfl rfl h6) (aR rfl (pC (qmr n x5 r7 h8) _) KT ?_);refine go ?_;rcases gB dC with⟨h9,dC⟩|⟨h9,dC⟩;exact gy dC;have⟨x10,iT,dC⟩:=aN dC;cases dC;refine go ?_;apply RS.wq (u:=.int .u8 x10) rfl (V' M2.h rfl rfl iT);refine go ?_;exact xC ⟨rfl,rfl⟩
def vt(n:Nat)(p1:V Xv):M (D1):=
 a8 (Pg n p1 false) fun r2=>some r2
theorem qwu(n:Nat)(p1:V Xv)(r:D1)(J:vt n p1=some r):cV prog 147 [.str p1] (.bool r):=by apply jO 5 UI;have⟨r2,h3,J⟩:=aN J;apply(go);apply aR rfl (pC (qmt n p1 false r2 h3) _) KU;exact gx J
def i_: M (Int):=
 some (-1)
def Hi(p1:V bL)(p2:V Xv):Nat->Int->M (Int)
 |0,_=>none|m1+1,z6=>cond (decide (z6<(p1.length:Int))) (a8 (aC p1 z6) fun x8=>cond (lW x8.Name p2) (some z6) ((Hi p1 p2 m1) (IntKind.i64.wrap (z6+1)))) (i_)
def JA(n:Nat)(p1:V bL)(p2:V Xv):M (Int):=
 Hi p1 p2 n 0
theorem Gx(n:Nat)(p1:V bL)(p2:V Xv)(r:Int)(J:JA n p1 p2=some r):cV prog 148 [.isl false (p1.map bV),.str p2] (.int .i64 r):=by unfold JA at J;apply fQ 20 u6;apply(go);refine gL (fun m tm X=>∃z6,Hi p1 p2 m z6=some r/\tm=fr 20 [(0,.iM bV p1),(1,.str p2),(5,.i6 z6)]/\X=⟨[],0⟩) (fun tm X=>i_=some r/\tm=fr 20 []/\X=⟨[],0⟩) n ⟨0,J,rfl,rfl⟩ ?_ ?_;rintro _ _ ⟨J,rfl,rfl⟩;exact gx J;rintro(_|m1) _ _ ⟨z6,J,rfl,rfl⟩;cases J;refine gF J ?_ ?_<;>intro h7 J;apply(go);apply aU;have⟨x8,h9,J⟩:=aN J;apply(go);apply aY h9;apply(go);apply aO (u:=.bool (lW x8.Name p2)) rfl (H3 rfl rfl rfl rfl);refine gF J ?_ ?_<;>intro eW J;exact gx J;apply(go);exact lC ⟨_,J,rfl,rfl⟩;apply(go);exact xC ⟨J,rfl,rfl⟩
def A_: M (Int):=
 some 0
def Hu(p1:V bL)(n:Nat):Nat->Int->M (Int)
 |0,_=>none|m1+1,z4=>cond (decide (z4<(p1.length:Int))) (a8 (aC p1 z4) fun x6=>a8 (vt n x6.Name) fun r8=>cond (!r8) (some 1) (a8 (aC p1 z4) fun gQ=>a8 (JA n p1 gQ.Name) fun gG=>cond (decide (gG<z4)) (some 4) ((Hu p1 n m1) (IntKind.i64.wrap (z4+1))))) (A_)
def kx(n:Nat)(p1:V bL):M (Int):=
 Hu p1 n n 0
theorem qud(n:Nat)(p1:V bL)(r:Int)(J:kx n p1=some r):cV prog 123 [.isl false (p1.map bV)] (.int .i64 r):=by unfold kx at J;apply jO 26 UV;apply(go);refine gL (fun m tm X=>∃z4,Hu p1 n m z4=some r/\tm=fr 26 [(0,.iM bV p1),(3,.i6 z4)]/\X=⟨[],0⟩) (fun tm X=>A_=some r/\tm=fr 26 []/\X=⟨[],0⟩) n ⟨0,J,rfl,rfl⟩ ?_ ?_;rintro _ _ ⟨J,rfl,rfl⟩;exact gx J;rintro(_|m1) _ _ ⟨z4,J,rfl,rfl⟩;cases J;refine gF J ?_ ?_<;>intro h5 J;apply(go);apply aU;have⟨x6,h7,r8,h9,J⟩:=bS J;apply(go);apply aY h7;apply(go);apply aR rfl (pC (qwu n x6.Name r8 h9) _) UI;refine gF J ?_ ?_<;>intro eW J;exact gx J;have⟨gQ,dK,gG,i4,J⟩:=bS J;apply(go);apply aY dK;apply(go);apply aR rfl (pC (Gx n p1 gQ.Name gG i4) _) u6;refine gF J ?_ ?_<;>intro eM J;exact gx J;apply(go);exact lC ⟨_,J,rfl,rfl⟩;apply(go);exact xC ⟨J,rfl,rfl⟩
def E_: M (D1):=
 some false
def Qx(p1:V (V Xv))(p2:V Xv):Nat->Int->M (D1)
 |0,_=>none|m1+1,z6=>cond (decide (z6<(p1.length:Int))) (a8 (aC p1 z6) fun x8=>cond (lW x8 p2) (some true) ((Qx p1 p2 m1) (IntKind.i64.wrap (z6+1)))) (E_)
def HF(n:Nat)(p1:V (V Xv))(p2:V Xv):M (D1):=
 Qx p1 p2 n 0
theorem OG(n:Nat)(p1:V (V Xv))(p2:V Xv)(r:D1)(J:HF n p1 p2=some r):cV prog 127 [.isl false (p1.map cS),.str p2] (.bool r):=by unfold HF at J;apply fQ 18 nG;apply(go);refine gL (fun m tm X=>∃z6,Qx p1 p2 m z6=some r/\tm=fr 18 [(0,.iM cS p1),(1,.str p2),(5,.i6 z6)]/\X=⟨[],0⟩) (fun tm X=>E_=some r/\tm=fr 18 []/\X=⟨[],0⟩) n ⟨0,J,rfl,rfl⟩ ?_ ?_;rintro _ _ ⟨J,rfl,rfl⟩;exact gx J;rintro(_|m1) _ _ ⟨z6,J,rfl,rfl⟩;cases J;refine gF J ?_ ?_<;>intro h7 J;apply(go);apply aU;have⟨x8,h9,J⟩:=aN J;apply(go);apply aY h9;apply(go);apply aO (u:=.bool (lW x8 p2)) rfl (H3 rfl rfl rfl rfl);refine gF J ?_ ?_<;>intro eW J;exact gx J;apply(go);exact lC ⟨_,J,rfl,rfl⟩;apply(go);exact xC ⟨J,rfl,rfl⟩
def mn(z4:Int)(cA:Int->M (Int)): M (Int):=
 cA (IntKind.i64.wrap (z4+1))
def Ia(p1:V bL)(n:Nat)(z4:Int)(cA:Int->M (Int))(x6:bL):Nat->Int->M (Int)
 |0,_=>none|m2+1,dY=>
  cond (decide (dY<(x6.Supers.length:Int))) (a8 (aC x6.Supers dY) fun lB=>
   a8 (JA n p1 lB) fun bU=>cond (decide (bU<0)) (some 5) (a8 (qD x6.Supers 0 dY) fun eK=>
    a8 (aC x6.Supers dY) fun BT=>
    a8 (HF n eK BT) fun jR=>cond jR (some 4) ((Ia p1 n z4 cA x6 m2) (IntKind.i64.wrap (dY+1))))) (mn z4 cA)
def Q_: M (Int):=
 some 0
def ON(p1:V bL)(n:Nat):Nat->Int->M (Int)
 |0,_=>none|m1+1,z4=>cond (decide (z4<(p1.length:Int))) (a8 (aC p1 z4) fun x6=>Ia p1 n z4 (ON p1 n m1) x6 n 0) (Q_)
def yd(n:Nat)(p1:V bL):M (Int):=
 ON p1 n n 0
theorem qs3(n:Nat)(p1:V bL)(r:Int)(J:yd n p1=some r):cV prog 124 [.isl false (p1.map bV)] (.int .i64 r):=by unfold yd at J;apply jO 38 UU;apply(go);refine gL (fun m tm X=>∃z4,ON p1 n m z4=some r/\tm=fr 38 [(0,.iM bV p1),(3,.i6 z4)]/\X=⟨[],0⟩) (fun tm X=>Q_=some r/\tm=fr 38 []/\X=⟨[],0⟩) n ⟨0,J,rfl,rfl⟩ ?_ ?_;rintro _ _ ⟨J,rfl,rfl⟩;exact gx J;rintro(_|m1) _ _ ⟨z4,J,rfl,rfl⟩;cases J;refine gF J ?_ ?_<;>intro h5 J;apply(go);apply aU;have⟨x6,h7,J⟩:=aN J;apply(go);apply aY h7;apply(go);refine gL (fun m tm X=>∃dY,Ia p1 n z4 (ON p1 n m1) x6 m dY=some r/\tm=fr 38 [(0,.iM bV p1),(3,.i6 z4),(4,.iM cS x6.Supers),(5,.i6 dY)]/\X=⟨[],0⟩) (fun tm X=>mn z4 (ON p1 n m1)=some r/\tm=fr 38 [(0,.iM bV p1),(3,.i6 z4)]/\X=⟨[],0⟩) n ⟨0,J,rfl,rfl⟩ ?_ ?_;rintro _ _ ⟨J,rfl,rfl⟩;unfold mn at J;apply(go);exact lC ⟨_,J,rfl,rfl⟩;rintro(_|m2) _ _ ⟨dY,J,rfl,rfl⟩;cases J;refine gF J ?_ ?_<;>intro dC J;apply(go);apply aU;obtain⟨lB,eM,bU,fI,J⟩:=bS J;apply(go);refine aY eM ?_;apply(go);refine aR rfl (pC (Gx n p1 lB bU fI) _) u6 ?_;refine gF J ?_ ?_<;>intro dB J;exact gx J;obtain⟨eK,pG,J⟩:=aN J;obtain⟨mM,oA⟩:=XN cS .i64 pG;obtain⟨BT,oR,jR,mL,J⟩:=bS J;apply(go);refine dE [] ?_;apply(gd);refine aQ (u:=.iM cS eK) rfl (yX rfl mI (yN rfl) mI (RE cS kR.h (aX JU.h) NW mM oA)) ?_;apply(gd);apply c8 oR;apply(gd);apply fC rfl (pC (OG n eK BT jR mL)) nG;refine bC ⟨by kernel_rfl,trivial,?_⟩;refine gF J ?_ ?_<;>intro uP J;exact gx J;apply(go);exact lC ⟨_,J,rfl,rfl⟩;apply(go);exact xC ⟨J,rfl,rfl⟩;apply(go);exact xC ⟨J,rfl,rfl⟩
def z_: M (D1):=
 some true
def Ht(p1:bL)(p2:V (V Xv))(n:Nat):Nat->Int->M (D1)
 |0,_=>none|m1+1,z8=>cond (decide (z8<(p1.Supers.length:Int))) (a8 (aC p1.Supers z8) fun x10=>a8 (HF n p2 x10) fun dD=>cond (!dD) (some false) ((Ht p1 p2 n m1) (IntKind.i64.wrap (z8+1)))) (z_)
def kw(n:Nat)(p1:bL)(p2:V (V Xv)):M (D1):=
 Ht p1 p2 n n 0
theorem que(n:Nat)(p1:bL)(p2:V (V Xv))(r:D1)(J:kw n p1 p2=some r):cV prog 149 [.agg (bV p1),.isl false (p2.map cS)] (.bool r):=by unfold kw at J;apply fQ 21 UH;apply(go);refine gL (fun m tm X=>∃z8,Ht p1 p2 n m z8=some r/\tm=fr 21 [(1,.iM cS p2),(2,.ptr 0 0 0),(5,.i6 z8)]/\X=⟨[(0,.row (bV p1) 138)],1⟩) (fun tm X=>z_=some r/\tm=fr 21 []/\X=⟨[(0,.row (bV p1) 138)],1⟩) n ⟨0,J,rfl,rfl⟩ ?_ ?_;rintro _ _ ⟨J,rfl,rfl⟩;exact gx J;rintro(_|m1) _ _ ⟨z8,J,rfl,rfl⟩;cases J;refine gF J ?_ ?_<;>intro h9 J;apply(go);apply aU;have⟨x10,iT,dD,dC,J⟩:=bS J;apply(go);apply aY iT;apply(go);apply aR rfl (pC (OG n p2 x10 dD dC) _) nG;refine gF J ?_ ?_<;>intro i4 J;exact gx J;apply(go);exact lC ⟨_,J,rfl,rfl⟩;apply(go);exact xC ⟨J,rfl,rfl⟩
def Qo(cA:D1->(V (V Xv))->M ((V (V Xv))))(HT:D1)(l24:V (V Xv)):M ((V (V Xv))):=
 cA HT l24
def Qn(dG:Int)(iW:D1->(V Xv)->Int->M ((V (V Xv))))(Er:V Xv):M ((V (V Xv))):=
 iW true Er (IntKind.i64.wrap (dG+1))
def mp(l7:V (V Xv))(cA:D1->(V (V Xv))->M ((V (V Xv))))(HT:D1)(wU:V Xv):M ((V (V Xv))):=
 cond HT (aH ((l7.length+1)*16<=140737488355328/\l7.length+1<=140737488355328) (
  Qo cA HT (l7++[wU]))) (Qo cA HT l7)
def OO(p1:V bL)(n:Nat)(l7:V (V Xv))(cA:D1->(V (V Xv))->M ((V (V Xv)))):Nat->D1->(V Xv)->Int->M ((V (V Xv)))
 |0,_,_,_=>none|m2+1,EM,DJ,dG=>cond (decide (dG<(p1.length:Int))) (a8 (a8 (aC p1 dG) fun y9=>a8 (HF n l7 y9.Name) fun fX=>cond fX (some true) (a8 (aC p1 dG) fun qV=>a8 (kw n qV l7) fun iR=>some (!iR))) fun Dr=>cond Dr ((OO p1 n l7 cA m2) EM DJ (IntKind.i64.wrap (dG+1))) (a8 (cond (!EM) (some true) (a8 (aC p1 dG) fun uS=>some (kX uS.Name DJ))) fun y7=>cond y7 (a8 (aC p1 dG) fun x47=>Qn dG (OO p1 n l7 cA m2) x47.Name) (Qn dG (OO p1 n l7 cA m2) DJ))) (mp l7 cA EM DJ)
def R_  (l9:V (V Xv)):M ((V (V Xv))):=
 some l9
def MR(p1:V bL)(n:Nat):Nat->D1->(V (V Xv))->M ((V (V Xv)))
 |0,_,_=>none|m1+1,b6,l7=>cond b6 (OO p1 n l7 (MR p1 n m1) n false [] 0) (R_ l7)
def ye(n:Nat)(p1:V bL):M ((V (V Xv))):=
 MR p1 n n true ([]:V (V Xv))
theorem qs2(n:Nat)(p1:V bL)(r:(V (V Xv)))(J:ye n p1=some r):cV prog 125 [.isl false (p1.map bV)] (.isl false (r.map cS)):=by unfold ye at J;refine jO 52 UT ?_;apply(gr);apply(gr);apply(gr);refine gV 3 9 1 1 ?_;refine gL (fun m tm X=>∃b6 l7 t8,MR p1 n m b6 l7=some r/\tm=fr 52 [(0,.iM bV p1),(3,.vl 0 t8 0 l7.length),(4,.bool b6)]/\X=⟨nB l7 t8,1⟩) (fun tm X=>∃l9 cN,R_ l9=some r/\tm=fr 52 [(3,.vl 0 cN 0 l9.length)]/\X=⟨nB l9 cN,1⟩) n ⟨true,([]:V (V Xv)),0,J,rfl,rfl⟩ ?_ ?_;rintro _ _ ⟨l9,cN,J,rfl,rfl⟩;apply(go);obtain rfl:=sI J;exact rT (us:=[.vl 0 cN 0 l9.length]) (u:=.iM cS l9) (dS rfl (d9)) (fR 0 1);rintro(_|m1) _ _ ⟨b6,l7,t8,J,rfl,rfl⟩;cases J;refine gF J ?_ ?_<;>intro iT J;apply(go);apply aU;apply(go);refine gL (fun m tm X=>∃EM DJ dG,OO p1 n l7 (MR p1 n m1) m EM DJ dG=some r/\tm=fr 52 [(0,.iM bV p1),(3,.vl 0 t8 0 l7.length),(4,.bool EM),(5,.str DJ),(6,.i6 dG)]/\X=⟨nB l7 t8,1⟩) (fun tm X=>∃HT wU,mp l7 (MR p1 n m1) HT wU=some r/\tm=fr 52 [(0,.iM bV p1),(3,.vl 0 t8 0 l7.length),(4,.bool HT),(5,.str wU)]/\X=⟨nB l7 t8,1⟩) n ⟨false,[],0,J,rfl,rfl⟩ ?_ ?_;rintro _ _ ⟨HT,wU,J,rfl,rfl⟩;unfold mp at J;apply(gr);refine dJ (fun tm X=>∃l24 nL,Qo (MR p1 n m1) HT l24=some r/\tm=fr 52 [(0,.iM bV p1),(3,.vl 0 nL 0 l24.length),(4,.bool HT)]/\X=⟨nB l24 nL,1⟩) ?_ ?_;rintro _ _ ⟨l24,nL,J,rfl,rfl⟩;unfold Qo at J;apply(go);exact lC ⟨HT,l24,nL,J,rfl,rfl⟩;refine cF J ?_ ?_<;>intro nF J;obtain⟨mL,J⟩:=d7 J;apply(go);refine bN ?_;refine bN ?_;apply(go);exact xC ⟨(l7++[wU]),(t8+1),J,rfl,rfl⟩;apply(go);exact xC ⟨l7,t8,J,rfl,rfl⟩;rintro(_|m2) _ _ ⟨EM,DJ,dG,J,rfl,rfl⟩;cases J;refine gF J ?_ ?_<;>intro uP J;apply(go);apply aU;obtain⟨Dr,kZ,J⟩:=aN J;apply(gn);refine dJ (fun tm X=>tm=fr 52 [(0,.iM bV p1),(3,.vl 0 t8 0 l7.length),(4,.bool EM),(5,.str DJ),(6,.i6 dG),(29,.bool Dr)]/\X=⟨nB l7 t8,1⟩) ?_ ?_;rintro _ _ ⟨rfl,rfl⟩;refine gF J ?_ ?_<;>intro tZ J;apply(go);exact lC ⟨EM,DJ,(IntKind.i64.wrap (dG+1)),J,rfl,rfl⟩;obtain⟨y7,eV,J⟩:=aN J;apply(gn);refine dJ (fun tm X=>tm=fr 52 [(0,.iM bV p1),(3,.vl 0 t8 0 l7.length),(5,.str DJ),(6,.i6 dG),(40,.bool y7)]/\X=⟨nB l7 t8,1⟩) ?_ ?_;rintro _ _ ⟨rfl,rfl⟩;apply(gn);refine dJ (fun tm X=>∃Er,Qn dG (OO p1 n l7 (MR p1 n m1) m2) Er=some r/\tm=fr 52 [(0,.iM bV p1),(3,.vl 0 t8 0 l7.length),(5,.str Er),(6,.i6 dG)]/\X=⟨nB l7 t8,1⟩) ?_ ?_;rintro _ _ ⟨Er,J,rfl,rfl⟩;unfold Qn at J;apply(go);exact lC ⟨true,Er,(IntKind.i64.wrap (dG+1)),J,rfl,rfl⟩;refine cF J ?_ ?_<;>intro pQ J;obtain⟨x47,EG,J⟩:=aN J;refine go ?_;refine aY EG ?_;refine go ?_;exact xC ⟨x47.Name,J,rfl,rfl⟩;refine go ?_;exact xC ⟨DJ,J,rfl,rfl⟩;refine go ?_;rcases gB eV with⟨sN,eV⟩|⟨sN,eV⟩;exact gy eV;obtain⟨uS,pR,eV⟩:=aN eV;obtain rfl:=sI eV;refine go ?_;refine aY pR ?_;refine go ?_;refine RS.wq (u:=.bool (kX uS.Name DJ)) rfl (H3 rfl rfl rfl rfl) ?_;refine go ?_;exact xC ⟨rfl,rfl⟩;obtain⟨y9,pF,kZ⟩:=aN kZ;obtain⟨fX,uO,kZ⟩:=aN kZ;refine go ?_;refine aY pF ?_;refine go ?_;refine aR rfl (vw (OG n l7 y9.Name fX uO) (lQ 0 1)) nG ?_;refine go ?_;rcases gB kZ with⟨nE,kZ⟩|⟨nE,kZ⟩;exact gy kZ;obtain⟨qV,mW,kZ⟩:=aN kZ;obtain⟨iR,vK,kZ⟩:=aN kZ;obtain rfl:=sI kZ;refine go ?_;refine aY mW ?_;refine go ?_;refine aR rfl (vw (que n qV l7 iR vK) (lQ 0 1)) UH ?_;refine go ?_;exact xC ⟨rfl,rfl⟩;refine go ?_;exact xC ⟨EM,DJ,J,rfl,rfl⟩;refine go ?_;exact xC ⟨l7,t8,J,rfl,rfl⟩
def Px(gX:Int)(cA:Int->Int->M (Int))(sP:Int):M (Int):=
 cA sP (IntKind.i64.wrap (gX+1))
def C_(p1:V bL)(n:Nat)(iU:Int):M (Int):=
 cond (iU != 1) (some 1) (a8 (ye n p1) fun fN=>cond (decide ((fN.length:Int)<(p1.length:Int))) (some 6) (some 0))
def SH(p1:V bL)(n:Nat):Nat->Int->Int->M (Int)
 |0,_,_=>none|m1+1,eD,gX=>cond (decide (gX<(p1.length:Int))) (a8 (aC p1 gX) fun kJ=>cond ((kJ.Supers.length:Int)==0) (Px gX (SH p1 n m1) (IntKind.i64.wrap (eD+1))) (Px gX (SH p1 n m1) eD)) (C_ p1 n eD)
def yl(n:Nat)(p1:V bL):M (Int):=
 a8 (yk n p1) fun r2=>cond (r2 != 0) (some r2) (a8 (kx n p1) fun r5=>cond (r5 != 0) (some r5) (a8 (yd n p1) fun r8=>cond (r8 != 0) (some r8) (SH p1 n n 0 0)))
theorem quc(n:Nat)(p1:V bL)(r:Int)(J:yl n p1=some r):cV prog 93 [.isl false (p1.map bV)] (.int .i64 r):=by apply jO 46 Xm;have⟨r2,h3,J⟩:=aN J;apply(go);apply aR rfl (pC (quf n p1 r2 h3) _) UW;refine gF J ?_ ?_<;>intro h4 J;exact gx J;have⟨r5,h6,J⟩:=aN J;apply(go);apply aR rfl (pC (qud n p1 r5 h6) _) UV;refine gF J ?_ ?_<;>intro h7 J;exact gx J;have⟨r8,h9,J⟩:=aN J;apply(go);apply aR rfl (pC (qs3 n p1 r8 h9) _) UU;refine gF J ?_ ?_<;>intro eW J;exact gx J;apply(go);refine gL (fun m tm X=>∃eD gX,SH p1 n m eD gX=some r/\tm=fr 46 [(0,.iM bV p1),(6,.i6 eD),(7,.i6 gX)]/\X=⟨[],0⟩) (fun tm X=>∃iU,C_ p1 n iU=some r/\tm=fr 46 [(0,.iM bV p1),(6,.i6 iU)]/\X=⟨[],0⟩) n ⟨0,0,J,rfl,rfl⟩ ?_ ?_;rintro _ _ ⟨iU,J,rfl,rfl⟩;refine gF J ?_ ?_<;>intro fI J;exact gx J;have⟨fN,j8,J⟩:=aN J;apply(go);apply aR rfl (pC (qs2 n p1 fN j8) _) UT;refine gF J ?_ ?_<;>intro pG J;exact gx J;exact gx J;rintro(_|m1) _ _ ⟨eD,gX,J,rfl,rfl⟩;cases J;refine gF J ?_ ?_<;>intro mM J;apply(go);apply aU;have⟨kJ,nF,J⟩:=aN J;apply(go);apply aY nF;apply(gn);refine dJ (fun tm X=>∃sP,Px gX (SH p1 n m1) sP=some r/\tm=fr 46 [(0,.iM bV p1),(6,.i6 sP),(7,.i6 gX)]/\X=⟨[],0⟩) ?_ ?_;rintro _ _ ⟨sP,J,rfl,rfl⟩;unfold Px at J;apply(go);exact lC ⟨sP,(IntKind.i64.wrap (gX+1)),J,rfl,rfl⟩;refine cF J ?_ ?_<;>intro oR J;apply(go);exact xC ⟨(IntKind.i64.wrap (eD+1)),J,rfl,rfl⟩;apply(go);exact xC ⟨eD,J,rfl,rfl⟩;apply(go);exact xC ⟨eD,J,rfl,rfl⟩
def ld(p1:V (V Xv))(p2:V Xv)(z7:Int):M ((V (V Xv))):=
 a8 (cond (decide (z7<(p1.length:Int))) (a8 (aC p1 z7) fun x9=>some (lW x9 p2)) (some false)) fun D3=>cond D3 (some p1) (a8 (qD p1 0 z7) fun gO=>
  aH (gO.length*16<=140737488355328/\gO.length<=140737488355328) (
  aH ((gO.length+1)*16<=140737488355328/\gO.length+1<=140737488355328) (
  a8 (qD p1 z7 (p1.length:Int)) fun eB=>
  aH (((gO++[p2]).length+eB.length)*16<=140737488355328/\(gO++[p2]).length+eB.length<=140737488355328) (some ((gO++[p2])++eB)))))
def Pm(p1:V (V Xv))(p2:V Xv):Nat->Int->M ((V (V Xv)))
 |0,_=>none|m1+1,z6=>a8 (cond (decide (z6<(p1.length:Int))) (a8 (aC p1 z6) fun IA=>some (kX IA p2)) (some false)) fun LF=>cond LF ((Pm p1 p2 m1) (IntKind.i64.wrap (z6+1))) (ld p1 p2 z6)
def OA(n:Nat)(p1:V (V Xv))(p2:V Xv):M ((V (V Xv))):=
 Pm p1 p2 n 0
theorem Gs(n:Nat)(p1:V (V Xv))(p2:V Xv)(r:(V (V Xv)))(J:OA n p1 p2=some r):cV prog 117 [.isl false (p1.map cS),.str p2] (.isl false (r.map cS)):=by unfold OA at J;refine fQ 48 u7 ?_;apply(go);refine gL (fun m tm X=>∃z6,Pm p1 p2 m z6=some r/\tm=fr 48 [(0,.iM cS p1),(1,.str p2),(5,.nils),(6,.i6 z6)]/\X=⟨[],0⟩) (fun tm X=>∃z7,ld p1 p2 z7=some r/\tm=fr 48 [(0,.iM cS p1),(1,.str p2),(5,.nils),(6,.i6 z7)]/\X=⟨[],0⟩) n ⟨0,J,rfl,rfl⟩ ?_ ?_;rintro _ _ ⟨z7,J,rfl,rfl⟩;obtain⟨D3,dK,J⟩:=aN J;apply(gn);refine dJ (fun tm X=>tm=fr 48 [(0,.iM cS p1),(1,.str p2),(5,.nils),(6,.i6 z7),(32,.bool D3)]/\X=⟨[],0⟩) ?_ ?_;rintro _ _ ⟨rfl,rfl⟩;refine gF J ?_ ?_<;>intro dC J;exact gx J;obtain⟨gO,eM,J⟩:=aN J;obtain⟨pH,fI⟩:=XN cS .i64 eM;obtain⟨dB,J⟩:=d7 J;apply(go);refine aO (u:=.iM cS gO) rfl (yX rfl mI (yN rfl) mI (RE cS kR.h (aX JU.h) NW pH fI)) (aO (u:=.vl 0 0 0 gO.length) (X':=⟨[(0,.bv cS gO 9 1 0)],1⟩) rfl (uZ rfl rfl rfl rfl (ai cS gO kR.h kR.h JU.h rfl (H6 cS NW) dB)) ?_);obtain⟨j8,J⟩:=d7 J;apply(go);refine bN ?_;refine bN ?_;obtain⟨eB,mM,J⟩:=aN J;obtain⟨oA,nF⟩:=Cw cS .i64 mM;obtain⟨oR,J⟩:=d7 J;apply(go);refine aO (u:=.iM cS eB) rfl (yX rfl (yN rfl) mI mI (RE cS kR.h (aX JU.h) NW oA nF)) ?_;refine bN ?_;apply(go);obtain rfl:=sI J;exact rT (us:=[.vl 0 2 0 (((gO++[p2])++eB).length)]) (u:=.iM cS ((gO++[p2])++eB)) (dS rfl (d9)) (fR 0 1);refine go ?_;rcases gB dK with⟨h8,dK⟩|⟨h8,dK⟩;obtain⟨x9,eW,dK⟩:=aN dK;obtain rfl:=sI dK;refine go ?_;refine aY eW ?_;refine go ?_;refine RS.wq (u:=.bool (lW x9 p2)) rfl (H3 rfl rfl rfl rfl) ?_;refine go ?_;exact xC ⟨rfl,rfl⟩;exact gy dK;rintro(_|m1) _ _ ⟨z6,J,rfl,rfl⟩;cases J;obtain⟨LF,pF,J⟩:=aN J;refine gn ?_;refine dJ (fun tm X=>tm=fr 48 [(0,.iM cS p1),(1,.str p2),(5,.nils),(6,.i6 z6),(18,.bool LF)]/\X=⟨[],0⟩) ?_ ?_;rintro _ _ ⟨rfl,rfl⟩;refine gF J ?_ ?_<;>intro pS J;refine go ?_;apply aU;refine go ?_;exact lC ⟨_,J,rfl,rfl⟩;refine go ?_;exact xC ⟨z6,J,rfl,rfl⟩;refine go ?_;rcases gB pF with⟨qR,pF⟩|⟨qR,pF⟩;obtain⟨IA,uP,pF⟩:=aN pF;obtain rfl:=sI pF;refine go ?_;refine aY uP ?_;refine go ?_;refine RS.wq (u:=.bool (kX IA p2)) rfl (H3 rfl rfl rfl rfl) ?_;refine go ?_;exact xC ⟨rfl,rfl⟩;exact gy pF
def B_  (l7:V (V Xv)):M ((V (V Xv))):=
 some l7
def Hv(p1:V bL)(n:Nat):Nat->(V (V Xv))->Int->M ((V (V Xv)))
 |0,_,_=>none|m1+1,l5,z6=>cond (decide (z6<(p1.length:Int))) (a8 (aC p1 z6) fun x9=>a8 (OA n l5 x9.Name) fun rC=>(Hv p1 n m1) rC (IntKind.i64.wrap (z6+1))) (B_ l5)
def Ox(n:Nat)(p1:V bL):M ((V (V Xv))):=
 Hv p1 n n [] 0
theorem qmw(n:Nat)(p1:V bL)(r:(V (V Xv)))(J:Ox n p1=some r):cV prog 94 [.isl false (p1.map bV)] (.isl false (r.map cS)):=by unfold Ox at J;apply jO 19 Bv;apply(gr);apply(gr);apply(gr);apply c9 (tm':=fr 19 [(0,.iM bV p1),(3,.iM cS []),(4,.i6 0)]) (Gh.trans (Gh.sub (l':=[(0,.iM bV p1),(3,.nils),(4,.i6 0)]) ⟨rfl,rfl,rfl,trivial⟩) (Gh.wkS (l':=[(0,.iM bV p1),(3,.iM cS []),(4,.i6 0)]) (.cons (.refl _) (.cons (.nil false) (.cons (.refl _) .nil))))) NZ;refine gL (fun m tm X=>∃l5 z6,Hv p1 n m l5 z6=some r/\tm=fr 19 [(0,.iM bV p1),(3,.iM cS l5),(4,.i6 z6)]/\X=⟨[],0⟩) (fun tm X=>∃l7,B_ l7=some r/\tm=fr 19 [(3,.iM cS l7)]/\X=⟨[],0⟩) n ⟨[],0,J,rfl,rfl⟩ ?_ ?_;rintro _ _ ⟨l7,J,rfl,rfl⟩;exact gx J;rintro(_|m1) _ _ ⟨l5,z6,J,rfl,rfl⟩;cases J;refine gF J ?_ ?_<;>intro h8 J;apply(go);apply aU;have⟨x9,eW,rC,dK,J⟩:=bS J;apply(go);apply aY eW;apply(go);apply aR rfl (pC (Gs n l5 x9.Name rC dK) _) u7;apply(go);exact lC ⟨rC,(IntKind.i64.wrap (z6+1)),J,rfl,rfl⟩;apply(go);exact xC ⟨l5,J,rfl,rfl⟩
def D_  (iN:V (V Xv)):M ((V (V Xv))):=
 some iN
def YP(n:Nat)(c7:V (V Xv)):Nat->(V (V Xv))->Int->M ((V (V Xv)))
 |0,_,_=>none|m2+1,eK,dG=>cond (decide (dG<(c7.length:Int))) (a8 (aC c7 dG) fun BT=>a8 (OA n eK BT) fun jR=>(YP n c7 m2) jR (IntKind.i64.wrap (dG+1))) (D_ eK)
def Py(wM:Int)(X4:Int->(V (V Xv))->M ((V (V Xv))))(sJ:V (V Xv)):M ((V (V Xv))):=
 X4 (IntKind.i64.wrap (wM+1)) sJ
def ll(dL:Int)(cA:Int->(V (V Xv))->M ((V (V Xv))))(mK:V (V Xv)):M ((V (V Xv))):=
 cA (IntKind.i64.wrap (dL+1)) mK
def SI(p1:V bL)(n:Nat)(dL:Int)(cA:Int->(V (V Xv))->M ((V (V Xv)))):Nat->Int->(V (V Xv))->M ((V (V Xv)))
 |0,_,_=>none|m3+1,wM,jT=>
  cond (decide (wM<(p1.length:Int))) (a8 (a8 (aC p1 wM) fun x39=>
   a8 (aC jT dL) fun uS=>
   a8 (HF n x39.Supers uS) fun f'=>cond f' (a8 (aC p1 wM) fun QE=>
    a8 (HF n jT QE.Name) fun R0=>some (!R0)) (some false)) fun b50=>cond b50 (a8 (aC p1 wM) fun QC=>
    aH ((jT.length+1)*16<=140737488355328/\jT.length+1<=140737488355328) (
    Py wM (SI p1 n dL cA m3) (jT++[QC.Name]))) (Py wM (SI p1 n dL cA m3) jT)) (ll dL cA jT)
def lu(n:Nat)(c7:V (V Xv)):M ((V (V Xv))):=
 YP n c7 n [] 0
def OK(p1:V bL)(n:Nat):Nat->Int->(V (V Xv))->M ((V (V Xv)))
 |0,_,_=>none|m1+1,dL,dF=>cond (decide (dL<(dF.length:Int))) (SI p1 n dL (OK p1 n m1) n 0 dF) (lu n dF)
def ym(n:Nat)(p1:V bL)(p2:V Xv):M ((V (V Xv))):=
 a8 (JA n p1 p2) fun r3=>cond (decide (r3<0)) (some []) (OK p1 n n 0 ([p2]))
theorem qub(n:Nat)(p1:V bL)(p2:V Xv)(r:(V (V Xv)))(J:ym n p1 p2=some r):cV prog 126 [.isl false (p1.map bV),.str p2] (.isl false (r.map cS)):=by refine fQ 69 US ?_;obtain⟨r3,h4,J⟩:=aN J;apply(go);refine aR rfl (pC (Gx n p1 p2 r3 h4) _) u6 ?_;refine gF J ?_ ?_<;>intro h5 J;apply(go);obtain rfl:=sI J;exact rT (us:=[.nils]) (u:=.isl false []) (dS rfl (d9)) wR;apply(go);refine RS.step (u:=.vl 0 0 0 ([p2].length)) (X':=⟨[(0,.bv cS ([p2]) 9 1 0)],1⟩) rfl (DP.bslv (cs:=(List.map cS [p2]).flatten) tb_ok rfl kR.h JU.h rfl rfl rfl rfl rfl rfl rfl rfl) rfl rfl ?_;apply(go);refine gL (fun m tm X=>∃dL dF gD,OK p1 n m dL dF=some r/\tm=fr 69 [(0,.iM bV p1),(5,.vl 0 gD 0 dF.length),(6,.i6 dL)]/\X=⟨nB dF gD,1⟩) (fun tm X=>∃c7 fA,lu n c7=some r/\tm=fr 69 [(5,.vl 0 fA 0 c7.length)]/\X=⟨nB c7 fA,1⟩) n ⟨0,[p2],0,J,rfl,rfl⟩ ?_ ?_;rintro _ _ ⟨c7,fA,J,rfl,rfl⟩;unfold lu at J;apply(gr);apply(gr);refine c9 (tm':=fr 69 [(5,.vl 0 fA 0 c7.length),(8,.iM cS []),(9,.i6 0)]) (Gh.trans (Gh.sub (l':=[(5,.vl 0 fA 0 c7.length),(8,.nils),(9,.i6 0)]) ⟨rfl,rfl,rfl,trivial⟩) (Gh.wkS (l':=[(5,.vl 0 fA 0 c7.length),(8,.iM cS []),(9,.i6 0)]) (.cons (.refl _) (.cons (.nil false) (.cons (.refl _) .nil))))) NZ ?_;refine gL (fun m tm X=>∃eK dG,YP n c7 m eK dG=some r/\tm=fr 69 [(5,.vl 0 fA 0 c7.length),(8,.iM cS eK),(9,.i6 dG)]/\X=⟨nB c7 fA,1⟩) (fun tm X=>∃iN,D_ iN=some r/\tm=fr 69 [(8,.iM cS iN)]/\X=⟨nB c7 fA,1⟩) n ⟨[],0,J,rfl,rfl⟩ ?_ ?_;rintro _ _ ⟨iN,J,rfl,rfl⟩;exact gx J;rintro(_|m2) _ _ ⟨eK,dG,J,rfl,rfl⟩;cases J;refine gF J ?_ ?_<;>intro oA J;apply(go);apply aU;obtain⟨BT,oR,jR,mL,J⟩:=bS J;apply(go);refine aO rfl (dO rfl rfl (gR cS kR.h (aX JU.h) (by decide) NW (vo rfl) oR)) ?_;refine aO rfl (yW cS (fun x=>.str x) M2.h rfl (fun _=>rfl) rfl rfl oR) (aR rfl (pC (Gs n eK BT jR mL) _) u7 ?_);apply(go);exact lC ⟨jR,(IntKind.i64.wrap (dG+1)),J,rfl,rfl⟩;apply(go);exact xC ⟨eK,J,rfl,rfl⟩;rintro(_|m1) _ _ ⟨dL,dF,gD,J,rfl,rfl⟩;cases J;refine gF J ?_ ?_<;>intro uP J;apply(go);apply aU;apply(go);refine gL (fun m tm X=>∃wM jT BX,SI p1 n dL (OK p1 n m1) m wM jT=some r/\tm=fr 69 [(0,.iM bV p1),(5,.vl 0 BX 0 jT.length),(6,.i6 dL),(7,.i6 wM)]/\X=⟨nB jT BX,1⟩) (fun tm X=>∃mK QT,ll dL (OK p1 n m1) mK=some r/\tm=fr 69 [(0,.iM bV p1),(5,.vl 0 QT 0 mK.length),(6,.i6 dL)]/\X=⟨nB mK QT,1⟩) n ⟨0,dF,gD,J,rfl,rfl⟩ ?_ ?_;rintro _ _ ⟨mK,QT,J,rfl,rfl⟩;unfold ll at J;apply(go);exact lC ⟨_,mK,QT,J,rfl,rfl⟩;rintro(_|m3) _ _ ⟨wM,jT,BX,J,rfl,rfl⟩;cases J;refine gF J ?_ ?_<;>intro kZ J;apply(go);apply aU;obtain⟨b50,tY,J⟩:=aN J;apply(gn);refine dJ (fun tm X=>tm=fr 69 [(0,.iM bV p1),(5,.vl 0 BX 0 jT.length),(6,.i6 dL),(7,.i6 wM),(47,.bool b50)]/\X=⟨nB jT BX,1⟩) ?_ ?_;rintro _ _ ⟨rfl,rfl⟩;apply(gn);refine dJ (fun tm X=>∃sJ Lv,Py wM (SI p1 n dL (OK p1 n m1) m3) sJ=some r/\tm=fr 69 [(0,.iM bV p1),(5,.vl 0 Lv 0 sJ.length),(6,.i6 dL),(7,.i6 wM)]/\X=⟨nB sJ Lv,1⟩) ?_ ?_;rintro _ _ ⟨sJ,Lv,J,rfl,rfl⟩;unfold Py at J;apply(go);exact lC ⟨_,sJ,Lv,J,rfl,rfl⟩;refine cF J ?_ ?_<;>intro G4 J;obtain⟨QC,KO,J⟩:=aN J;obtain⟨Ws,J⟩:=d7 J;apply(go);refine aY KO ?_;apply(go);refine bN ?_;refine bN ?_;apply(go);exact xC ⟨(jT++[QC.Name]),(BX+1),J,rfl,rfl⟩;apply(go);exact xC ⟨jT,BX,J,rfl,rfl⟩;obtain⟨x39,sN,tY⟩:=aN tY;obtain⟨uS,pR,tY⟩:=aN tY;obtain⟨f',eV,tY⟩:=aN tY;refine dE [] ?_;apply(gd);refine c8 sN ?_;apply(gd);refine aQ rfl (dO rfl rfl (gR cS kR.h (aX JU.h) (by decide) NW (vo rfl) pR)) ?_;refine aQ rfl (yW cS (fun x=>.str x) M2.h rfl (fun _=>rfl) rfl rfl pR) (fC rfl (pC (OG n x39.Supers uS f' eV)) nG ?_);refine gd ?_;rcases gB tY with⟨pQ,tY⟩|⟨pQ,tY⟩;obtain⟨QE,Jq,tY⟩:=aN tY;obtain⟨R0,Wu,tY⟩:=aN tY;obtain rfl:=sI tY;refine gd ?_;refine c8 Jq ?_;refine gd ?_;refine RD.call (u:=.bool R0) (args:=[.vl 0 BX 0 jT.length,.str QE.Name]) (yP rfl rfl rfl pQ) (fH rfl rfl nG rfl rfl rfl) (vw (OG n jT QE.Name R0 Wu) (lQ 0 1)) rfl rfl ?_;refine gd ?_;refine bC ⟨by kernel_rfl,trivial,?_⟩;refine go ?_;exact xC ⟨rfl,rfl⟩;obtain rfl:=sI tY;refine gd ?_;refine bC ⟨by kernel_rfl,trivial,?_⟩;refine go ?_;exact xC ⟨rfl,rfl⟩;refine go ?_;exact xC ⟨jT,BX,J,rfl,rfl⟩;refine go ?_;exact xC ⟨dF,gD,J,rfl,rfl⟩
def uk(p1:V Int)(z5:Int):M ((V Int)):=
 a8 (qD p1 0 z5) fun l6=>
 aH (l6.length*8<=140737488355328/\l6.length<=140737488355328) (some l6)
def YT(p1:V Int):Nat->Int->M ((V Int))
 |0,_=>none|m1+1,z4=>a8 (cond (decide (z4>0)) (a8 (aC p1 (IntKind.i64.wrap (z4-1))) fun iJ=>some (iJ==0)) (some false)) fun vN=>cond vN ((YT p1 m1) (IntKind.i64.wrap (z4-1))) (uk p1 z4)
def MO(n:Nat)(p1:V Int):M ((V Int)):=
 YT p1 n (p1.length:Int)
theorem ly(n:Nat)(p1:V Int)(r:(V Int))(J:MO n p1=some r):cV prog 120 [.isl false (p1.map (cI .u64))] (.isl false (r.map (cI .u64))):=by unfold MO at J;refine jO 23 AK ?_;apply(go);refine gL (fun m tm X=>∃z4,YT p1 m z4=some r/\tm=fr 23 [(0,.iM (cI .u64) p1),(3,.i6 z4)]/\X=⟨[],0⟩) (fun tm X=>∃z5,uk p1 z5=some r/\tm=fr 23 [(0,.iM (cI .u64) p1),(3,.i6 z5)]/\X=⟨[],0⟩) n ⟨(p1.length:Int),J,rfl,rfl⟩ ?_ ?_;rintro _ _ ⟨z5,J,rfl,rfl⟩;obtain⟨l6,h7,J⟩:=aN J;obtain⟨h8,h9⟩:=XN (cI .u64) .i64 h7;obtain⟨eW,J⟩:=d7 J;apply(go);refine aO (u:=.sl 0 0 0 0) (X':=⟨[(0,.row [] 191)],1⟩) rfl (tH gY.h mC.h rfl rfl rfl rfl rfl rfl rfl) ?_;apply(go);refine aO (u:=.iM (cI .u64) l6) rfl (yX rfl mI (yN rfl) mI (RE (cI .u64) gY.h (aX mC.h) (m9 .u64) h8 h9)) (aO (u:=.vl 1 0 0 l6.length) (X':=⟨[(1,.bv (cI .u64) l6 191 1 0),(0,.row [] 191)],2⟩) rfl (uZ rfl rfl rfl rfl (MF (cI .u64) l6 gY.h gY.h mC.h rfl rfl rfl (H6 (cI .u64) (m9 .u64)) eW)) ?_);apply(go);obtain rfl:=sI J;exact rT (us:=[.vl 1 0 0 l6.length]) (u:=.iM (cI .u64) l6) (dS rfl (d9)) (fR 1 1);rintro(_|m1) _ _ ⟨z4,J,rfl,rfl⟩;cases J;have⟨vN,eM,J⟩:=aN J;apply(gn);refine dJ (fun tm X=>tm=fr 23 [(0,.iM (cI .u64) p1),(3,.i6 z4),(15,.bool vN)]/\X=⟨[],0⟩) ?_ ?_;rintro _ _ ⟨rfl,rfl⟩;refine gF J ?_ ?_<;>intro pH J;refine go ?_;apply aU;refine go ?_;exact lC ⟨_,J,rfl,rfl⟩;refine go ?_;exact xC ⟨z4,J,rfl,rfl⟩;refine go ?_;rcases gB eM with⟨iT,eM⟩|⟨iT,eM⟩;have⟨iJ,dC,eM⟩:=aN eM;cases eM;refine go ?_;apply aY dC;refine go ?_;exact xC ⟨rfl,rfl⟩;exact gy eM
def ol(n:Nat)(l8:V Int):M ((V Int)×Int):=
 aH ((64:Int).toNat=l8.length) (
 a8 (MO n l8) fun lT=>some (lT,0))
def Gz(p1:V Int)(n:Nat):Nat->Int->(V Int)->M ((V Int)×Int)
 |0,_,_=>none|m1+1,z6,l7=>
  cond (decide (z6<(p1.length:Int))) (a8 (a8 (aC p1 z6) fun uT=>cond (decide (uT<0)) (some true) (a8 (aC p1 z6) fun lA=>some (decide (lA>4095)))) fun EM=>cond EM (some ([],2)) (a8 (aC p1 z6) fun pV=>
    a8 (aC p1 z6) fun oW=>
    a8 (m6 l7 0 ((64:Int).toNat) (IntKind.i64.wrap (oW.tdiv 64))) fun rW=>
    a8 (aC p1 z6) fun jC=>
    aH (¬ (IntKind.u64.wrap (jC.tmod 64))<0) (
    a8 (m6 l7 0 ((64:Int).toNat) (IntKind.i64.wrap (pV.tdiv 64))) fun qV=>(Gz p1 n m1) (IntKind.i64.wrap (z6+1)) (l7.set (IntKind.i64.wrap (pV.tdiv 64)).toNat (In .u64 rW (IntKind.u64.wrap (1*(2^(min (IntKind.u64.wrap (jC.tmod 64)).toNat IntKind.u64.bits))))))))) (ol n l7)
def jf(n:Nat)(p1:V Int):M ((V Int)×Int):=
 aH (0<=(64:Int)/\8*(64:Int).toNat<=281474976710656/\(64:Int)<=281474976710656) (
 Gz p1 n n 0 (List.replicate (64:Int).toNat 0))
theorem z32(n:Nat)(p1:V Int)(r:(V Int)×Int)(J:jf n p1=some r):cV prog 128 [.isl false (p1.map (cI .i64))] (.tup [.isl false (r.1.map (cI .u64)),.int .i64 r.2]):=by apply jO 50 UR;have⟨h2,J⟩:=d7 J;apply(go);apply aO (u:=.sl 0 0 ((64:Int).toNat) ((64:Int).toNat)) (X':=⟨[(0,.row (List.map (cI .u64) (List.replicate (64:Int).toNat 0)).flatten 191)],1⟩) rfl (Ml (cI .u64) 0 rfl rfl gY.h mC.h rfl rfl rfl rfl h2);apply(go);refine gL (fun m tm X=>∃z6 l7,Gz p1 n m z6 l7=some r/\tm=fr 50 [(0,.iM (cI .i64) p1),(4,.sl 0 0 ((64:Int).toNat) ((64:Int).toNat)),(5,.i6 z6)]/\X=⟨[(0,.row (l7.map (cI .u64)).flatten 191)],1⟩) (fun tm X=>∃l8,ol n l8=some r/\tm=fr 50 [(4,.sl 0 0 ((64:Int).toNat) ((64:Int).toNat))]/\X=⟨[(0,.row (l8.map (cI .u64)).flatten 191)],1⟩) n ⟨0,(List.replicate (64:Int).toNat 0),J,rfl,rfl⟩ ?_ ?_;rintro _ _ ⟨l8,J,rfl,rfl⟩;have⟨h9,J⟩:=d7 J;apply(gn);apply c9 (tm':=fr 50 [(4,.iM (cI .u64) l8)]) (X':=⟨[],1⟩) (Gh.trans (Gh.sub (l':=[(4,.sl 0 0 ((64:Int).toNat) ((64:Int).toNat))]) ⟨rfl,trivial⟩) (Gh.fzS (l':=[(4,.iM (cI .u64) l8)]) (h':=[]) 0 (.row (l8.map (cI .u64)).flatten 191) 1 rfl (by simp) (by simp only[fzS,nM,v6,sG,C4,FE,F7,DV,H8,H9,HA,FD,F8,H4,DS,F6,DO,B4,XA (m9 .u64) h9]) (by simp only[fzH,fzB,ug,Nat.beq,zC,zD,nM,v6,sG,C4,FE,F7,DV,H8,H9,HA,FD,F8,H4,DS,F6,DO,B4,XA (m9 .u64) h9]))) NZ;have⟨lT,iT,J⟩:=aN J;apply(go);apply aR rfl (pC (ly n l8 lT iT) _) AK;apply(go);cases J;exact yI rfl rfl rfl rfl rfl;rintro(_|m1) _ _ ⟨z6,l7,J,rfl,rfl⟩;cases J;refine gF J ?_ ?_<;>intro dK J;apply(go);apply aU;have⟨EM,j8,J⟩:=aN J;apply(gn);refine dJ (fun tm X=>tm=fr 50 [(0,.iM (cI .i64) p1),(4,.sl 0 0 ((64:Int).toNat) ((64:Int).toNat)),(5,.i6 z6),(24,.bool EM)]/\X=⟨[(0,.row (l7.map (cI .u64)).flatten 191)],1⟩) ?_ ?_;rintro _ _ ⟨rfl,rfl⟩;refine gF J ?_ ?_<;>intro pG J;apply(go);cases J;exact rT (us:=[.nils,.i6 2]) (u:=.tup [.isl false [],.i6 2]) (dS rfl (dS rfl (d9))) wR;have⟨pV,oA,oW,qR,rW,oQ,jC,pS,J⟩:=rF J;have⟨nE,J⟩:=d7 J;have⟨qV,mW,J⟩:=aN J;apply(go);apply dE [];apply(gd);apply c8 oA;apply(gd);apply aQ rfl (tG rfl rfl (qz _ (by decide)) rfl);apply(gd);apply c8 qR;apply(gd);apply aQ rfl (tG rfl rfl (qz _ (by decide)) rfl);refine aQ rfl (dO rfl rfl (DN gY.h (aX mC.h) rfl oQ)) (aQ (u:=.int .u64 rW) rfl (XJ (cI .u64) (fun x=>.int .u64 x) Lp.h rfl (fun _=>rfl) rfl rfl oQ) ?_);apply(gd);apply c8 pS;apply(gd);apply aQ rfl (tG rfl rfl (zbn _ (by decide)) rfl);refine aQ (u:=.int .u64 (IntKind.u64.wrap (jC.tmod 64))) rfl (Nd rfl rfl (by simp only[convX,kC.h,yF.h]<;>rfl) rfl) ?_;refine aQ rfl (tG rfl rfl (ZN _ nE) rfl) (aQ rfl (tG rfl rfl (Th _ _ _) rfl) (aQ rfl (dO rfl rfl (DN gY.h (aX mC.h) rfl mW)) (HX (u:=.junk) (X':=⟨[(0,.row (List.map (cI .u64) (l7.set (IntKind.i64.wrap (pV.tdiv 64)).toNat (In .u64 rW (IntKind.u64.wrap (1*(2^(min (IntKind.u64.wrap (jC.tmod 64)).toNat IntKind.u64.bits))))))).flatten 191)],1⟩) rfl (X7 (cI .u64) (aX mC.h) (m9 .u64) rfl rfl rfl rfl rfl rfl mW rfl) rfl ?_)));refine bC ⟨by kernel_rfl,trivial,?_⟩;apply(go);exact lC ⟨_,(l7.set (IntKind.i64.wrap (pV.tdiv 64)).toNat (In .u64 rW (IntKind.u64.wrap (1*(2^(min (IntKind.u64.wrap (jC.tmod 64)).toNat IntKind.u64.bits)))))),J,rfl,rfl⟩;have⟨uT,i4,j8⟩:=aN j8;refine go ?_;apply aY i4;refine go ?_;rcases gB j8 with⟨eM,j8⟩|⟨eM,j8⟩;exact gy j8;have⟨lA,fI,j8⟩:=aN j8;cases j8;refine go ?_;apply aY fI;refine go ?_;exact xC ⟨rfl,rfl⟩;refine go ?_;exact xC ⟨l7,J,rfl,rfl⟩
def Pj(jX:Int)(cA:Int->(V Int)->M ((V Int)))(l24:V Int):M ((V Int)):=
 cA (IntKind.i64.wrap (jX+1)) l24
def g_(n:Nat)(gO:V Int):M ((V Int)):=
 a8 (jf n gO) fun bU=>some bU.1
def SB(p2:V (V Xv))(n:Nat)(r4:(V (V Xv))):Nat->Int->(V Int)->M ((V Int))
 |0,_,_=>none|m1+1,jX,hZ=>
  cond (decide (jX<(p2.length:Int))) (a8 (aC p2 jX) fun pW=>
   a8 (HF n r4 pW) fun IT=>cond IT (aH ((hZ.length+1)*8<=140737488355328/\hZ.length+1<=140737488355328) (
    Pj jX (SB p2 n r4 m1) (hZ++[jX]))) (Pj jX (SB p2 n r4 m1) hZ)) (g_ n hZ)
def vp(n:Nat)(p1:V bL)(p2:V (V Xv))(p3:V Xv):M ((V Int)):=
 a8 (ym n p1 p3) fun r4=>
 SB p2 n r4 n 0 ([]:V Int)
theorem qwy(n:Nat)(p1:V bL)(p2:V (V Xv))(p3:V Xv)(r:(V Int))(J:vp n p1 p2 p3=some r):cV prog 95 [.isl false (p1.map bV),.isl false (p2.map cS),.str p3] (.isl false (r.map (cI .u64))):=by apply D2 37 Xl;have⟨r4,h5,J⟩:=aN J;apply(go);apply aR rfl (pC (qub n p1 p3 r4 h5) _) US;apply(gr);apply(gr);apply gV 8 3 1 1;refine gL (fun m tm X=>∃jX hZ mP,SB p2 n r4 m jX hZ=some r/\tm=fr 37 [(1,.iM cS p2),(7,.iM cS r4),(8,.vl 0 mP 0 hZ.length),(9,.i6 jX)]/\X=⟨FG hZ mP,1⟩) (fun tm X=>∃gO IN,g_ n gO=some r/\tm=fr 37 [(8,.vl 0 IN 0 gO.length)]/\X=⟨FG gO IN,1⟩) n ⟨0,([]:V Int),0,J,rfl,rfl⟩ ?_ ?_;rintro _ _ ⟨gO,IN,J,rfl,rfl⟩;apply(gn);apply c9 (tm':=fr 37 [(8,.iM (cI .i64) gO)]) (X':=⟨[],1⟩) (Gh.trans (Gh.sub (l':=[(8,.vl 0 IN 0 gO.length)]) ⟨rfl,trivial⟩) (HW 0 1)) NZ;obtain⟨bU,fI,J⟩:=aN J;apply(go);refine aR rfl (pC (z32 n gO bU fI) _) UR ?_;exact gx J;rintro(_|m1) _ _ ⟨jX,hZ,mP,J,rfl,rfl⟩;cases J;refine gF J ?_ ?_<;>intro dB J;apply(go);apply aU;obtain⟨pW,pG,IT,oA,J⟩:=bS J;apply(go);refine aY pG ?_;apply(go);refine aR rfl (pC (OG n r4 pW IT oA) _) nG ?_;apply(gn);refine dJ (fun tm X=>∃l24 nL,Pj jX (SB p2 n r4 m1) l24=some r/\tm=fr 37 [(1,.iM cS p2),(7,.iM cS r4),(8,.vl 0 nL 0 l24.length),(9,.i6 jX)]/\X=⟨FG l24 nL,1⟩) ?_ ?_;rintro _ _ ⟨l24,nL,J,rfl,rfl⟩;unfold Pj at J;apply(go);exact lC ⟨_,l24,nL,J,rfl,rfl⟩;refine cF J ?_ ?_<;>intro nF J;obtain⟨mL,J⟩:=d7 J;apply(go);refine bN ?_;refine bN ?_;apply(go);exact xC ⟨(hZ++[jX]),(mP+1),J,rfl,rfl⟩;apply(go);exact xC ⟨hZ,mP,J,rfl,rfl⟩;apply(go);exact xC ⟨hZ,mP,J,rfl,rfl⟩
def YD(n:Nat)(p1:V Int)(p2:Int):M (Int):=
 cond (decide (p2<(p1.length:Int))) (a8 (aC p1 p2) fun x4=>some x4) (some 0)
theorem qow(n:Nat)(p1:V Int)(p2:Int)(r:Int)(J:YD n p1 p2=some r):cV prog 146 [.isl false (p1.map (cI .u64)),.int .i64 p2] (.int .u64 r):=by apply fQ 13 KV;refine gF J ?_ ?_<;>intro h3 J;have⟨x4,h5,J⟩:=aN J;apply(go);apply aY h5;exact gx J;exact gx J
def S5(n:Nat)(dF:V Int):M ((V Int)):=
 a8 (MO n dF) fun gG=>some gG
def Pn(p1:V Int)(p2:V Int)(n:Nat):Nat->Int->(V Int)->M ((V Int))
 |0,_,_=>none|m1+1,z8,l9=>
  cond (decide (z8<(p1.length:Int))) (a8 (aC p1 z8) fun lA=>
   a8 (YD n p2 z8) fun fN=>
   aH ((l9.length+1)*8<=140737488355328/\l9.length+1<=140737488355328) ((Pn p1 p2 n m1) (IntKind.i64.wrap (z8+1)) (l9++[(GM .u64 lA fN)]))) (S5 n l9)
def J8(n:Nat)(p1:V Int)(p2:V Int):M ((V Int)):=
 Pn p1 p2 n n 0 ([]:V Int)
theorem nn(n:Nat)(p1:V Int)(p2:V Int)(r:(V Int))(J:J8 n p1 p2=some r):cV prog 119 [.isl false (p1.map (cI .u64)),.isl false (p2.map (cI .u64))] (.isl false (r.map (cI .u64))):=by unfold J8 at J;apply fQ 26 EJ;apply(gr);apply(gr);apply(gr);apply gV 5 191 1 1;refine gL (fun m tm X=>∃z8 l9 cN,Pn p1 p2 n m z8 l9=some r/\tm=fr 26 [(0,.iM (cI .u64) p1),(1,.iM (cI .u64) p2),(5,.vl 0 cN 0 l9.length),(6,.i6 z8)]/\X=⟨[(0,.bv (cI .u64) l9 191 1 cN)],1⟩) (fun tm X=>∃dF gD,S5 n dF=some r/\tm=fr 26 [(5,.vl 0 gD 0 dF.length)]/\X=⟨[(0,.bv (cI .u64) dF 191 1 gD)],1⟩) n ⟨0,([]:V Int),0,J,rfl,rfl⟩ ?_ ?_;rintro _ _ ⟨dF,gD,J,rfl,rfl⟩;apply(gn);apply c9 (tm':=fr 26 [(5,.iM (cI .u64) dF)]) (X':=⟨[],1⟩) (Gh.trans (Gh.sub (l':=[(5,.vl 0 gD 0 dF.length)]) ⟨rfl,trivial⟩) (HW 0 1)) NZ;obtain⟨gG,i4,J⟩:=aN J;apply(go);refine aR rfl (pC (ly n dF gG i4) _) AK ?_;exact gx J;rintro(_|m1) _ _ ⟨z8,l9,cN,J,rfl,rfl⟩;cases J;refine gF J ?_ ?_<;>intro eM J;apply(go);apply aU;obtain⟨lA,fI,fN,j8,J⟩:=bS J;obtain⟨pG,J⟩:=d7 J;apply(go);refine dE [(0,9)] ?_;apply(gd);refine c8 fI ?_;apply(gd);refine fC rfl (pC (qow n p2 z8 fN j8)) KV (aQ rfl (tG rfl rfl (ce _ _ _) rfl) ?_);refine dZ ?_;refine dZ ?_;apply(gd);refine bC ⟨by kernel_rfl,⟨i7 rfl,trivial⟩,?_⟩;apply(go);exact lC ⟨_,(l9++[(GM .u64 lA fN)]),(cN+1),J,rfl,rfl⟩;apply(go);exact xC ⟨l9,cN,J,rfl,rfl⟩
def qi7: M (D1):=
 some true
def j_(p1:V Int)(p2:V Int):Nat->Int->M (D1)
 |0,_=>none|m1+1,z7=>cond (decide (z7<(p1.length:Int))) (a8 (aC p1 z7) fun x9=>a8 (aC p2 z7) fun gQ=>cond (x9 != gQ) (some false) ((j_ p1 p2 m1) (IntKind.i64.wrap (z7+1)))) (qi7)
def S2(n:Nat)(p1:V Int)(p2:V Int):M (D1):=
 cond ((p1.length:Int) != (p2.length:Int)) (some false) (j_ p1 p2 n 0)
theorem oe(n:Nat)(p1:V Int)(p2:V Int)(r:D1)(J:S2 n p1 p2=some r):cV prog 121 [.isl false (p1.map (cI .u64)),.isl false (p2.map (cI .u64))] (.bool r):=by apply fQ 26 EI;refine gF J ?_ ?_<;>intro h3 J;exact gx J;apply(go);refine gL (fun m tm X=>∃z7,j_ p1 p2 m z7=some r/\tm=fr 26 [(0,.iM (cI .u64) p1),(1,.iM (cI .u64) p2),(5,.i6 z7)]/\X=⟨[],0⟩) (fun tm X=>qi7=some r/\tm=fr 26 []/\X=⟨[],0⟩) n ⟨0,J,rfl,rfl⟩ ?_ ?_;rintro _ _ ⟨J,rfl,rfl⟩;exact gx J;rintro(_|m1) _ _ ⟨z7,J,rfl,rfl⟩;cases J;refine gF J ?_ ?_<;>intro h8 J;apply(go);apply aU;have⟨x9,eW,gQ,dK,J⟩:=bS J;apply(go);apply dE [];apply(gd);apply c8 eW;apply(gd);apply c8 dK;apply(gd);refine bC ⟨by kernel_rfl,trivial,?_⟩;refine gF J ?_ ?_<;>intro dC J;exact gx J;apply(go);exact lC ⟨_,J,rfl,rfl⟩;apply(go);exact xC ⟨J,rfl,rfl⟩
def oj: M (D1):=
 some false
def Gy(p1:V (V Int))(p2:V Int)(n:Nat):Nat->Int->M (D1)
 |0,_=>none|m1+1,z6=>cond (decide (z6<(p1.length:Int))) (a8 (aC p1 z6) fun x8=>a8 (S2 n x8 p2) fun lT=>cond lT (some true) ((Gy p1 p2 n m1) (IntKind.i64.wrap (z6+1)))) (oj)
def xk(n:Nat)(p1:V (V Int))(p2:V Int):M (D1):=
 Gy p1 p2 n n 0
theorem z34(n:Nat)(p1:V (V Int))(p2:V Int)(r:D1)(J:xk n p1 p2=some r):cV prog 129 [.isl false (List.map (cL (cI .u64)) p1),.isl false (p2.map (cI .u64))] (.bool r):=by unfold xk at J;apply fQ 18 UQ;apply(go);refine gL (fun m tm X=>∃z6,Gy p1 p2 n m z6=some r/\tm=fr 18 [(0,.iM (cL (cI .u64)) p1),(1,.iM (cI .u64) p2),(5,.i6 z6)]/\X=⟨[],0⟩) (fun tm X=>oj=some r/\tm=fr 18 []/\X=⟨[],0⟩) n ⟨0,J,rfl,rfl⟩ ?_ ?_;rintro _ _ ⟨J,rfl,rfl⟩;exact gx J;rintro(_|m1) _ _ ⟨z6,J,rfl,rfl⟩;cases J;refine gF J ?_ ?_<;>intro h7 J;apply(go);apply aU;have⟨x8,h9,lT,iT,J⟩:=bS J;apply(go);apply aY h9;apply(go);apply aR rfl (pC (oe n x8 p2 lT iT) _) EI;refine gF J ?_ ?_<;>intro dK J;exact gx J;apply(go);exact lC ⟨_,J,rfl,rfl⟩;apply(go);exact xC ⟨J,rfl,rfl⟩
def Ql(sQ:Int)(iW:Int->(V (V Int))->M ((V (V Int))))(zE:V (V Int)):M ((V (V Int))):=
 iW (IntKind.i64.wrap (sQ+1)) zE
def Qk(z6:Int)(cA:Int->(V (V Int))->M ((V (V Int))))(rJ:V (V Int)):M ((V (V Int))):=
 cA (IntKind.i64.wrap (z6+1)) rJ
def YR(n:Nat)(z6:Int)(cA:Int->(V (V Int))->M ((V (V Int)))):Nat->Int->(V (V Int))->M ((V (V Int)))
 |0,_,_=>none|m2+1,sQ,eB=>
  a8 (cond (decide (sQ<z6)) (some (decide ((eB.length:Int)<=256))) (some false)) fun b25=>cond b25 (a8 (aC eB z6) fun y9=>
   a8 (aC eB sQ) fun VR=>
   a8 (J8 n y9 VR) fun oD=>
   a8 (cond (decide ((oD.length:Int)>0)) (a8 (xk n eB oD) fun iR=>some (!iR)) (some false)) fun Dr=>cond Dr (aH ((eB.length+1)*24<=140737488355328/\eB.length+1<=140737488355328) (
    Ql sQ (YR n z6 cA m2) (eB++[oD]))) (Ql sQ (YR n z6 cA m2) eB)) (Qk z6 cA eB)
def uj  (l9:V (V Int)):M ((V (V Int))):=
 some l9
def OM(n:Nat):Nat->Int->(V (V Int))->M ((V (V Int)))
 |0,_,_=>none|m1+1,z6,l7=>a8 (cond (decide (z6<(l7.length:Int))) (some (decide ((l7.length:Int)<=256))) (some false)) fun LG=>cond LG (YR n z6 (OM n m1) n 0 l7) (uj l7)
def yy(n:Nat)(p1:V (V Int)):M ((V (V Int))):=
 aH (p1.length*24<=140737488355328/\p1.length<=140737488355328) (
 OM n n 0 p1)
theorem qs6(n:Nat)(p1:V (V Int))(r:(V (V Int)))(J:yy n p1=some r):cV prog 96 [.isl false (List.map (cL (cI .u64)) p1)] (.isl false (List.map (cL (cI .u64)) r)):=by refine jO 54 Xk ?_;obtain⟨h2,J⟩:=d7 J;apply(go);refine aO (u:=.sl 0 0 0 0) (X':=⟨[(0,.row [] 126)],1⟩) rfl (tH sU.h qJ.h rfl rfl rfl rfl rfl rfl rfl) ?_;apply(go);refine aO (u:=.vl 1 0 0 p1.length) (X':=⟨[(1,.bv (cL (cI .u64)) p1 126 1 0),(0,.row [] 126)],2⟩) rfl (uZ rfl rfl rfl rfl (MF (cL (cI .u64)) p1 sU.h sU.h qJ.h rfl rfl rfl (H6 (cL (cI .u64)) (RL (cI .u64))) h2)) ?_;apply(go);refine gL (fun m tm X=>∃z6 l7 t8,OM n m z6 l7=some r/\tm=fr 54 [(3,.vl 1 t8 0 l7.length),(4,.i6 z6)]/\X=⟨RV l7 t8,2⟩) (fun tm X=>∃l9 cN,uj l9=some r/\tm=fr 54 [(3,.vl 1 cN 0 l9.length)]/\X=⟨RV l9 cN,2⟩) n ⟨0,p1,0,J,rfl,rfl⟩ ?_ ?_;rintro _ _ ⟨l9,cN,J,rfl,rfl⟩;apply(go);obtain rfl:=sI J;exact rT (us:=[.vl 1 cN 0 l9.length]) (u:=.iM (cL (cI .u64)) l9) (dS rfl (d9)) (fR 1 1);rintro(_|m1) _ _ ⟨z6,l7,t8,J,rfl,rfl⟩;cases J;obtain⟨LG,dC,J⟩:=aN J;apply(gn);refine dJ (fun tm X=>tm=fr 54 [(3,.vl 1 t8 0 l7.length),(4,.i6 z6),(18,.bool LG)]/\X=⟨RV l7 t8,2⟩) ?_ ?_;rintro _ _ ⟨rfl,rfl⟩;refine gF J ?_ ?_<;>intro i4 J;apply(go);apply aU;apply(go);refine gL (fun m tm X=>∃sQ eB IM,YR n z6 (OM n m1) m sQ eB=some r/\tm=fr 54 [(3,.vl 1 IM 0 eB.length),(4,.i6 z6),(5,.i6 sQ)]/\X=⟨RV eB IM,2⟩) (fun tm X=>∃rJ zq,Qk z6 (OM n m1) rJ=some r/\tm=fr 54 [(3,.vl 1 zq 0 rJ.length),(4,.i6 z6)]/\X=⟨RV rJ zq,2⟩) n ⟨0,l7,t8,J,rfl,rfl⟩ ?_ ?_;rintro _ _ ⟨rJ,zq,J,rfl,rfl⟩;unfold Qk at J;apply(go);exact lC ⟨_,rJ,zq,J,rfl,rfl⟩;rintro(_|m2) _ _ ⟨sQ,eB,IM,J,rfl,rfl⟩;cases J;obtain⟨b25,mL,J⟩:=aN J;apply(gn);refine dJ (fun tm X=>tm=fr 54 [(3,.vl 1 IM 0 eB.length),(4,.i6 z6),(5,.i6 sQ),(28,.bool b25)]/\X=⟨RV eB IM,2⟩) ?_ ?_;rintro _ _ ⟨rfl,rfl⟩;refine gF J ?_ ?_<;>intro uP J;apply(go);apply aU;obtain⟨y9,pF,VR,uO,oD,qQ,J⟩:=lG J;apply(go);refine dE [] ?_;apply(gd);refine aQ rfl (dO rfl rfl (gR (cL (cI .u64)) sU.h (aX qJ.h) (by decide) (RL (cI .u64)) (vo rfl) pF)) ?_;refine aQ rfl (yW (cL (cI .u64)) (fun x=>.iM (cI .u64) x) gY.h rfl (fun _=>rfl) rfl rfl pF) ?_;apply(gd);refine aQ rfl (dO rfl rfl (gR (cL (cI .u64)) sU.h (aX qJ.h) (by decide) (RL (cI .u64)) (vo rfl) uO)) ?_;refine aQ rfl (yW (cL (cI .u64)) (fun x=>.iM (cI .u64) x) gY.h rfl (fun _=>rfl) rfl rfl uO) (fC rfl (pC (nn n y9 VR oD qQ)) EJ ?_);apply(gd);refine bC ⟨by kernel_rfl,trivial,?_⟩;obtain⟨Dr,kZ,J⟩:=aN J;apply(gn);refine dJ (fun tm X=>tm=fr 54 [(3,.vl 1 IM 0 eB.length),(4,.i6 z6),(5,.i6 sQ),(6,.iM (cI .u64) oD),(48,.bool Dr)]/\X=⟨RV eB IM,2⟩) ?_ ?_;rintro _ _ ⟨rfl,rfl⟩;apply(gn);refine dJ (fun tm X=>∃zE IJ,Ql sQ (YR n z6 (OM n m1) m2) zE=some r/\tm=fr 54 [(3,.vl 1 IJ 0 zE.length),(4,.i6 z6),(5,.i6 sQ)]/\X=⟨RV zE IJ,2⟩) ?_ ?_;rintro _ _ ⟨zE,IJ,J,rfl,rfl⟩;unfold Ql at J;apply(go);exact lC ⟨_,zE,IJ,J,rfl,rfl⟩;refine cF J ?_ ?_<;>intro tZ J;obtain⟨pR,J⟩:=d7 J;refine go ?_;refine bN ?_;refine bN ?_;refine go ?_;exact xC ⟨(eB++[oD]),(IM+1),J,rfl,rfl⟩;refine go ?_;exact xC ⟨eB,IM,J,rfl,rfl⟩;refine go ?_;rcases gB kZ with⟨mW,kZ⟩|⟨mW,kZ⟩;obtain⟨iR,vK,kZ⟩:=aN kZ;obtain rfl:=sI kZ;refine go ?_;refine aR rfl (vw (z34 n eB oD iR vK) (lQ 1 1)) UQ ?_;refine go ?_;exact xC ⟨rfl,rfl⟩;exact gy kZ;refine go ?_;exact xC ⟨eB,IM,J,rfl,rfl⟩;refine go ?_;rcases gB mL with⟨oR,mL⟩|⟨oR,mL⟩;exact gy mL;exact gy mL;refine go ?_;exact xC ⟨l7,t8,J,rfl,rfl⟩;refine go ?_;rcases gB dC with⟨iT,dC⟩|⟨iT,dC⟩;exact gy dC;exact gy dC
def Qy(n:Nat)(dF:V Int):M ((V Int)):=
 a8 (MO n dF) fun gG=>some gG
def uf(p1:V Int)(p2:V Int)(n:Nat):Nat->Int->(V Int)->M ((V Int))
 |0,_,_=>none|m1+1,z8,l9=>
  cond (decide (z8<(p1.length:Int))) (a8 (aC p1 z8) fun lA=>
   a8 (YD n p2 z8) fun fN=>
   aH ((l9.length+1)*8<=140737488355328/\l9.length+1<=140737488355328) ((uf p1 p2 n m1) (IntKind.i64.wrap (z8+1)) (l9++[(RT .u64 lA fN)]))) (Qy n l9)
def Gt(n:Nat)(p1:V Int)(p2:V Int):M ((V Int)):=
 uf p1 p2 n n 0 ([]:V Int)
theorem qu9(n:Nat)(p1:V Int)(p2:V Int)(r:(V Int))(J:Gt n p1 p2=some r):cV prog 153 [.isl false (p1.map (cI .u64)),.isl false (p2.map (cI .u64))] (.isl false (r.map (cI .u64))):=by unfold Gt at J;apply fQ 26 UD;apply(gr);apply(gr);apply(gr);apply gV 5 191 1 1;refine gL (fun m tm X=>∃z8 l9 cN,uf p1 p2 n m z8 l9=some r/\tm=fr 26 [(0,.iM (cI .u64) p1),(1,.iM (cI .u64) p2),(5,.vl 0 cN 0 l9.length),(6,.i6 z8)]/\X=⟨[(0,.bv (cI .u64) l9 191 1 cN)],1⟩) (fun tm X=>∃dF gD,Qy n dF=some r/\tm=fr 26 [(5,.vl 0 gD 0 dF.length)]/\X=⟨[(0,.bv (cI .u64) dF 191 1 gD)],1⟩) n ⟨0,([]:V Int),0,J,rfl,rfl⟩ ?_ ?_;rintro _ _ ⟨dF,gD,J,rfl,rfl⟩;apply(gn);apply c9 (tm':=fr 26 [(5,.iM (cI .u64) dF)]) (X':=⟨[],1⟩) (Gh.trans (Gh.sub (l':=[(5,.vl 0 gD 0 dF.length)]) ⟨rfl,trivial⟩) (HW 0 1)) NZ;obtain⟨gG,i4,J⟩:=aN J;apply(go);refine aR rfl (pC (ly n dF gG i4) _) AK ?_;exact gx J;rintro(_|m1) _ _ ⟨z8,l9,cN,J,rfl,rfl⟩;cases J;refine gF J ?_ ?_<;>intro eM J;apply(go);apply aU;obtain⟨lA,fI,fN,j8,J⟩:=bS J;obtain⟨pG,J⟩:=d7 J;apply(go);refine dE [(0,9)] ?_;apply(gd);refine c8 fI ?_;apply(gd);refine fC rfl (pC (qow n p2 z8 fN j8)) KV (aQ rfl (tG rfl rfl (qw7 _ _ _) rfl) ?_);refine dZ ?_;refine dZ ?_;apply(gd);refine bC ⟨by kernel_rfl,⟨i7 rfl,trivial⟩,?_⟩;apply(go);exact lC ⟨_,(l9++[(RT .u64 lA fN)]),(cN+1),J,rfl,rfl⟩;apply(go);exact xC ⟨l9,cN,J,rfl,rfl⟩
def He(n:Nat)(p1:V Int)(p2:V Int):M (D1):=
 a8 (Gt n p1 p2) fun r3=>some ((r3.length:Int)==0)
theorem rf(n:Nat)(p1:V Int)(p2:V Int)(r:D1)(J:He n p1 p2=some r):cV prog 134 [.isl false (p1.map (cI .u64)),.isl false (p2.map (cI .u64))] (.bool r):=by apply fQ 10 EH;have⟨r3,h4,J⟩:=aN J;apply(go);apply aR rfl (pC (qu9 n p1 p2 r3 h4) _) UD;exact gx J
def yp(n:Nat)(p1:V Int)(p2:V Int):M (D1):=
 a8 (a8 (He n p1 p2) fun r3=>cond r3 (a8 (He n p2 p1) fun r6=>some r6) (some false)) fun b8=>some b8
theorem qu8(n:Nat)(p1:V Int)(p2:V Int)(r:D1)(J:yp n p1 p2=some r):cV prog 130 [.isl false (p1.map (cI .u64)),.isl false (p2.map (cI .u64))] (.bool r):=by refine fQ 13 UP ?_;obtain⟨b8,h9,J⟩:=aN J;refine gr ?_;refine dJ (fun tm X=>tm=fr 13 [(4,.bool b8)]/\X=⟨[],0⟩) ?_ ?_;rintro _ _ ⟨rfl,rfl⟩;exact gx J;obtain⟨r3,h4,h9⟩:=aN h9;refine go ?_;refine aR rfl (pC (rf n p1 p2 r3 h4) _) EH ?_;refine go ?_;rcases gB h9 with⟨h5,h9⟩|⟨h5,h9⟩;obtain⟨r6,h7,h9⟩:=aN h9;obtain rfl:=sI h9;refine go ?_;refine aR rfl (pC (rf n p2 p1 r6 h7) _) EH ?_;refine go ?_;exact xC ⟨rfl,rfl⟩;exact gy h9
def Oo(n:Nat)(p1:V Int)(p2:Int):M (D1):=
 a8 (cond (decide (p2<0)) (some true) (some (decide ((IntKind.i64.wrap (p2.tdiv 64))>=(p1.length:Int))))) fun b5=>cond b5 (some false) (a8 (aC p1 (IntKind.i64.wrap (p2.tdiv 64))) fun x9=>aH (¬ (IntKind.u64.wrap (p2.tmod 64))<0) (some ((GM .u64 (x9.fdiv (2^(min (IntKind.u64.wrap (p2.tmod 64)).toNat IntKind.u64.bits))) 1)==1)))
theorem qrc(n:Nat)(p1:V Int)(p2:Int)(r:D1)(J:Oo n p1 p2=some r):cV prog 131 [.isl false (p1.map (cI .u64)),.int .i64 p2] (.bool r):=by apply fQ 25 L2;have⟨b5,h6,J⟩:=aN J;apply(gr);refine dJ (fun tm X=>tm=fr 25 [(0,.iM (cI .u64) p1),(1,.i6 p2),(13,.bool b5)]/\X=⟨[],0⟩) ?_ ?_;rintro _ _ ⟨rfl,rfl⟩;refine gF J ?_ ?_<;>intro h7 J;exact gx J;have⟨x9,eW,J⟩:=aN J;have⟨dK,J⟩:=d7 J;apply(go);apply aO rfl (tG rfl rfl (qz _ (by decide)) rfl);apply aY eW;apply(go);apply aO rfl (tG rfl rfl (zbn _ (by decide)) rfl);refine aO (u:=.int .u64 (IntKind.u64.wrap (p2.tmod 64))) rfl (Nd rfl rfl (by simp only[convX,kC.h,yF.h]<;>rfl) rfl) ?_;refine aO rfl (tG rfl rfl (zbo _ dK) rfl) (aO rfl (tG rfl rfl (ce _ _ _) rfl) ?_);exact gx J;refine go ?_;rcases gB h6 with⟨h3,h6⟩|⟨h3,h6⟩;exact gy h6;cases h6;refine go ?_;apply RS.wq rfl (tG rfl rfl (qz _ (by decide)) rfl);refine go ?_;exact xC ⟨rfl,rfl⟩
def Ri(z8:Int)(cA:(V (V Xv))->Int->M ((V (V Xv))))(eR:V (V Xv)):M ((V (V Xv))):=
 cA eR (IntKind.i64.wrap (z8+1))
def c?  (l9:V (V Xv)):M ((V (V Xv))):=
 some l9
def SP(p1:V bL)(p2:V (V Xv))(n:Nat):Nat->(V (V Xv))->Int->M ((V (V Xv)))
 |0,_,_=>none|m1+1,l7,z8=>
  cond (decide (z8<(p2.length:Int))) (a8 (aC p2 z8) fun gQ=>
   a8 (JA n p1 gQ) fun gG=>cond (decide (gG>=0)) (a8 (aC p2 z8) fun rX=>
    a8 (OA n l7 rX) fun xT=>
    Ri z8 (SP p1 p2 n m1) xT) (Ri z8 (SP p1 p2 n m1) l7)) (c? l7)
def lj(n:Nat)(p1:V bL)(p2:V (V Xv)):M ((V (V Xv))):=
 SP p1 p2 n n [] 0
theorem qp8(n:Nat)(p1:V bL)(p2:V (V Xv))(r:(V (V Xv)))(J:lj n p1 p2=some r):cV prog 150 [.isl false (p1.map bV),.isl false (p2.map cS)] (.isl false (r.map cS)):=by unfold lj at J;apply fQ 27 UG;apply(gr);apply(gr);apply(gr);apply c9 (tm':=fr 27 [(0,.iM bV p1),(1,.iM cS p2),(5,.iM cS []),(6,.i6 0)]) (Gh.trans (Gh.sub (l':=[(0,.iM bV p1),(1,.iM cS p2),(5,.nils),(6,.i6 0)]) ⟨rfl,rfl,rfl,rfl,trivial⟩) (Gh.wkS (l':=[(0,.iM bV p1),(1,.iM cS p2),(5,.iM cS []),(6,.i6 0)]) (.cons (.refl _) (.cons (.refl _) (.cons (.nil false) (.cons (.refl _) .nil)))))) NZ;refine gL (fun m tm X=>∃l7 z8,SP p1 p2 n m l7 z8=some r/\tm=fr 27 [(0,.iM bV p1),(1,.iM cS p2),(5,.iM cS l7),(6,.i6 z8)]/\X=⟨[],0⟩) (fun tm X=>∃l9,c? l9=some r/\tm=fr 27 [(5,.iM cS l9)]/\X=⟨[],0⟩) n ⟨[],0,J,rfl,rfl⟩ ?_ ?_;rintro _ _ ⟨l9,J,rfl,rfl⟩;exact gx J;rintro(_|m1) _ _ ⟨l7,z8,J,rfl,rfl⟩;cases J;refine gF J ?_ ?_<;>intro eW J;apply(go);apply aU;have⟨gQ,dK,gG,i4,J⟩:=bS J;apply(go);apply aY dK;apply(go);apply aR rfl (pC (Gx n p1 gQ gG i4) _) u6;apply(gn);refine dJ (fun tm X=>∃eR,Ri z8 (SP p1 p2 n m1) eR=some r/\tm=fr 27 [(0,.iM bV p1),(1,.iM cS p2),(5,.iM cS eR),(6,.i6 z8)]/\X=⟨[],0⟩) ?_ ?_;rintro _ _ ⟨eR,J,rfl,rfl⟩;unfold Ri at J;apply(go);exact lC ⟨eR,(IntKind.i64.wrap (z8+1)),J,rfl,rfl⟩;refine cF J ?_ ?_<;>intro eM J;have⟨rX,dB,xT,pG,J⟩:=bS J;apply(go);apply aY dB;apply(go);apply aR rfl (pC (Gs n l7 rX xT pG) _) u7;apply(go);exact xC ⟨xT,J,rfl,rfl⟩;apply(go);exact xC ⟨l7,J,rfl,rfl⟩;apply(go);exact xC ⟨l7,J,rfl,rfl⟩
def F_  (iN:V (V Xv)):M ((V (V Xv))):=
 some iN
def YQ(n:Nat)(c7:V (V Xv)):Nat->(V (V Xv))->Int->M ((V (V Xv)))
 |0,_,_=>none|m2+1,eK,dG=>cond (decide (dG<(c7.length:Int))) (a8 (aC c7 dG) fun BT=>a8 (OA n eK BT) fun jR=>(YQ n c7 m2) jR (IntKind.i64.wrap (dG+1))) (F_ eK)
def Pz(uR:Int)(X4:Int->(V (V Xv))->M ((V (V Xv))))(T2:V (V Xv)):M ((V (V Xv))):=
 X4 (IntKind.i64.wrap (uR+1)) T2
def lw(dL:Int)(cA:Int->(V (V Xv))->M ((V (V Xv))))(kG:V (V Xv)):M ((V (V Xv))):=
 cA (IntKind.i64.wrap (dL+1)) kG
def SJ(n:Nat)(dL:Int)(cA:Int->(V (V Xv))->M ((V (V Xv))))(mY:bL):Nat->Int->(V (V Xv))->M ((V (V Xv)))
 |0,_,_=>none|m3+1,uR,nT=>
  cond (decide (uR<(mY.Supers.length:Int))) (a8 (aC mY.Supers uR) fun QE=>
   a8 (HF n nT QE) fun R0=>cond (!R0) (a8 (aC mY.Supers uR) fun QD=>
    aH ((nT.length+1)*16<=140737488355328/\nT.length+1<=140737488355328) (
    Pz uR (SJ n dL cA mY m3) (nT++[QD]))) (Pz uR (SJ n dL cA mY m3) nT)) (lw dL cA nT)
def lx(n:Nat)(c7:V (V Xv)):M ((V (V Xv))):=
 YQ n c7 n [] 0
def OL(p1:V bL)(n:Nat):Nat->Int->(V (V Xv))->M ((V (V Xv)))
 |0,_,_=>none|m1+1,dL,dF=>
  cond (decide (dL<(dF.length:Int))) (a8 (aC dF dL) fun y9=>
   a8 (JA n p1 y9) fun fX=>
   a8 (aC p1 fX) fun mY=>
   SJ n dL (OL p1 n m1) mY n 0 dF) (lx n dF)
def yn(n:Nat)(p1:V bL)(p2:V Xv):M ((V (V Xv))):=
 a8 (JA n p1 p2) fun r3=>cond (decide (r3<0)) (some []) (OL p1 n n 0 ([p2]))
theorem qua(n:Nat)(p1:V bL)(p2:V Xv)(r:(V (V Xv)))(J:yn n p1 p2=some r):cV prog 151 [.isl false (p1.map bV),.str p2] (.isl false (r.map cS)):=by apply fQ 66 UF;have⟨r3,h4,J⟩:=aN J;apply(go);apply aR rfl (pC (Gx n p1 p2 r3 h4) _) u6;refine gF J ?_ ?_<;>intro h5 J;apply(go);cases J;exact rT (us:=[.nils]) (u:=.isl false []) (dS rfl (d9)) wR;apply(go);apply RS.step (u:=.vl 0 0 0 ([p2].length)) (X':=⟨[(0,.bv cS ([p2]) 9 1 0)],1⟩) rfl (DP.bslv (cs:=(List.map cS [p2]).flatten) tb_ok rfl kR.h JU.h rfl rfl rfl rfl rfl rfl rfl rfl) rfl rfl;apply(go);refine gL (fun m tm X=>∃dL dF gD,OL p1 n m dL dF=some r/\tm=fr 66 [(0,.iM bV p1),(5,.vl 0 gD 0 dF.length),(6,.i6 dL)]/\X=⟨nB dF gD,1⟩) (fun tm X=>∃c7 fA,lx n c7=some r/\tm=fr 66 [(5,.vl 0 fA 0 c7.length)]/\X=⟨nB c7 fA,1⟩) n ⟨0,[p2],0,J,rfl,rfl⟩ ?_ ?_;rintro _ _ ⟨c7,fA,J,rfl,rfl⟩;unfold lx at J;apply(gr);apply(gr);apply c9 (tm':=fr 66 [(5,.vl 0 fA 0 c7.length),(9,.iM cS []),(10,.i6 0)]) (Gh.trans (Gh.sub (l':=[(5,.vl 0 fA 0 c7.length),(9,.nils),(10,.i6 0)]) ⟨rfl,rfl,rfl,trivial⟩) (Gh.wkS (l':=[(5,.vl 0 fA 0 c7.length),(9,.iM cS []),(10,.i6 0)]) (.cons (.refl _) (.cons (.nil false) (.cons (.refl _) .nil))))) NZ;refine gL (fun m tm X=>∃eK dG,YQ n c7 m eK dG=some r/\tm=fr 66 [(5,.vl 0 fA 0 c7.length),(9,.iM cS eK),(10,.i6 dG)]/\X=⟨nB c7 fA,1⟩) (fun tm X=>∃iN,F_ iN=some r/\tm=fr 66 [(9,.iM cS iN)]/\X=⟨nB c7 fA,1⟩) n ⟨[],0,J,rfl,rfl⟩ ?_ ?_;rintro _ _ ⟨iN,J,rfl,rfl⟩;exact gx J;rintro(_|m2) _ _ ⟨eK,dG,J,rfl,rfl⟩;cases J;refine gF J ?_ ?_<;>intro oA J;apply(go);apply aU;have⟨BT,oR,jR,mL,J⟩:=bS J;apply(go);apply aO rfl (dO rfl rfl (gR cS kR.h (aX JU.h) (by decide) NW (vo rfl) oR));refine aO rfl (yW cS (fun x=>.str x) M2.h rfl (fun _=>rfl) rfl rfl oR) (aR rfl (pC (Gs n eK BT jR mL) _) u7 ?_);apply(go);exact lC ⟨jR,(IntKind.i64.wrap (dG+1)),J,rfl,rfl⟩;apply(go);exact xC ⟨eK,J,rfl,rfl⟩;rintro(_|m1) _ _ ⟨dL,dF,gD,J,rfl,rfl⟩;cases J;refine gF J ?_ ?_<;>intro uP J;apply(go);apply aU;have⟨y9,pF,fX,uO,mY,qQ,J⟩:=lG J;apply(go);apply aO rfl (dO rfl rfl (gR cS kR.h (aX JU.h) (by decide) NW (vo rfl) pF));refine aO rfl (yW cS (fun x=>.str x) M2.h rfl (fun _=>rfl) rfl rfl pF) (aR rfl (pC (Gx n p1 y9 fX uO) _) u6 ?_);apply aY qQ;apply(go);refine gL (fun m tm X=>∃uR nT EV,SJ n dL (OL p1 n m1) mY m uR nT=some r/\tm=fr 66 [(0,.iM bV p1),(5,.vl 0 EV 0 nT.length),(6,.i6 dL),(7,.iM cS mY.Supers),(8,.i6 uR)]/\X=⟨nB nT EV,1⟩) (fun tm X=>∃kG ND,lw dL (OL p1 n m1) kG=some r/\tm=fr 66 [(0,.iM bV p1),(5,.vl 0 ND 0 kG.length),(6,.i6 dL)]/\X=⟨nB kG ND,1⟩) n ⟨0,dF,gD,J,rfl,rfl⟩ ?_ ?_;rintro _ _ ⟨kG,ND,J,rfl,rfl⟩;unfold lw at J;apply(go);exact lC ⟨_,kG,ND,J,rfl,rfl⟩;rintro(_|m3) _ _ ⟨uR,nT,EV,J,rfl,rfl⟩;cases J;refine gF J ?_ ?_<;>intro pQ J;apply(go);apply aU;obtain⟨QE,Jq,R0,Wu,J⟩:=bS J;apply(go);refine aY Jq ?_;apply(go);refine aR rfl (vw (OG n nT QE R0 Wu) (lQ 0 1)) nG ?_;apply(gn);refine dJ (fun tm X=>∃T2 zm,Pz uR (SJ n dL (OL p1 n m1) mY m3) T2=some r/\tm=fr 66 [(0,.iM bV p1),(5,.vl 0 zm 0 T2.length),(6,.i6 dL),(7,.iM cS mY.Supers),(8,.i6 uR)]/\X=⟨nB T2 zm,1⟩) ?_ ?_;rintro _ _ ⟨T2,zm,J,rfl,rfl⟩;unfold Pz at J;apply(go);exact lC ⟨_,T2,zm,J,rfl,rfl⟩;refine cF J ?_ ?_<;>intro U4 J;obtain⟨QD,Wt,J⟩:=aN J;obtain⟨Jp,J⟩:=d7 J;apply(go);refine aY Wt ?_;apply(go);refine bN ?_;refine bN ?_;apply(go);exact xC ⟨(nT++[QD]),(EV+1),J,rfl,rfl⟩;apply(go);exact xC ⟨nT,EV,J,rfl,rfl⟩;apply(go);exact xC ⟨nT,EV,J,rfl,rfl⟩;apply(go);exact xC ⟨dF,gD,J,rfl,rfl⟩
def Rb(dL:Int)(cA:Int->(V (V Xv))->M ((V (V Xv))))(jU:V (V Xv)):M ((V (V Xv))):=
 cA (IntKind.i64.wrap (dL+1)) jU
def my(r3:(V (V Xv)))(dL:Int)(dF:V (V Xv))(cA:Int->(V (V Xv))->M ((V (V Xv))))(Zn:D1):M ((V (V Xv))):=
 cond Zn (a8 (aC r3 dL) fun oV=>
  aH ((dF.length+1)*16<=140737488355328/\dF.length+1<=140737488355328) (
  Rb dL cA (dF++[oV]))) (Rb dL cA dF)
def Ic(n:Nat)(r3:(V (V Xv)))(dL:Int)(dF:V (V Xv))(cA:Int->(V (V Xv))->M ((V (V Xv))))(fN:(V (V Xv))):Nat->D1->Int->M ((V (V Xv)))
 |0,_,_=>none|m2+1,LF,pI=>cond (decide (pI<(r3.length:Int))) (a8 (cond LF (cond (pI==dL) (some true) (a8 (aC r3 pI) fun wO=>a8 (HF n fN wO) fun A'=>some (!A'))) (some false)) fun gl=>(Ic n r3 dL dF cA fN m2) gl (IntKind.i64.wrap (pI+1))) (my r3 dL dF cA LF)
def U_  (c7:V (V Xv)):M ((V (V Xv))):=
 some c7
def MT(p1:V bL)(n:Nat)(r3:(V (V Xv))):Nat->Int->(V (V Xv))->M ((V (V Xv)))
 |0,_,_=>none|m1+1,dL,dF=>
  cond (decide (dL<(r3.length:Int))) (a8 (aC r3 dL) fun lA=>
   a8 (yn n p1 lA) fun fN=>
   Ic n r3 dL dF (MT p1 n r3 m1) fN n true 0) (U_ dF)
def Qg(n:Nat)(p1:V bL)(p2:V (V Xv)):M ((V (V Xv))):=
 a8 (lj n p1 p2) fun r3=>
 MT p1 n r3 n 0 ([]:V (V Xv))
theorem qja(n:Nat)(p1:V bL)(p2:V (V Xv))(r:(V (V Xv)))(J:Qg n p1 p2=some r):cV prog 132 [.isl false (p1.map bV),.isl false (p2.map cS)] (.isl false (r.map cS)):=by
 refine fQ 56 L1 ?_;obtain⟨r3,h4,J⟩:=aN J;apply(go);refine aR rfl (pC (qp8 n p1 p2 r3 h4) _) UG ?_;apply(gr);refine gV 5 9 1 1 ?_;refine gL (fun m tm X=>∃dL dF gD,MT p1 n r3 m dL dF=some r/\tm=fr 56 [(0,.iM bV p1),(5,.vl 0 gD 0 dF.length),(6,.iM cS r3),(7,.i6 dL)]/\X=⟨nB dF gD,1⟩) (fun tm X=>∃c7 fA,U_ c7=some r/\tm=fr 56 [(5,.vl 0 fA 0 c7.length)]/\X=⟨nB c7 fA,1⟩) n ⟨0,([]:V (V Xv)),0,J,rfl,rfl⟩ ?_ ?_;rintro _ _ ⟨c7,fA,J,rfl,rfl⟩;apply(go);obtain rfl:=sI J;exact rT (us:=[.vl 0 fA 0 c7.length]) (u:=.iM cS c7) (dS rfl (d9)) (fR 0 1);rintro(_|m1) _ _ ⟨dL,dF,gD,J,rfl,rfl⟩;cases J;refine gF J ?_ ?_<;>intro eM J;apply(go);apply aU;obtain⟨lA,fI,fN,j8,J⟩:=bS J;apply(go);refine aY fI ?_;apply(go);refine aR rfl (pC (qua n p1 lA fN j8) _) UF ?_;apply(go);refine gL (fun m tm X=>∃LF pI,Ic n r3 dL dF (MT p1 n r3 m1) fN m LF pI=some r/\tm=fr 56 [(0,.iM bV p1),(5,.vl 0 gD 0 dF.length),(6,.iM cS r3),(7,.i6 dL),(8,.iM cS fN),(9,.bool LF),(10,.i6 pI)]/\X=⟨nB dF gD,1⟩) (fun tm X=>∃Zn,my r3 dL dF (MT p1 n r3 m1) Zn=some r/\tm=fr 56 [(0,.iM bV p1),(5,.vl 0 gD 0 dF.length),(6,.iM cS r3),(7,.i6 dL),(9,.bool Zn)]/\X=⟨nB dF gD,1⟩) n ⟨true,0,J,rfl,rfl⟩ ?_ ?_;rintro _ _ ⟨Zn,J,rfl,rfl⟩;unfold my at J;apply(gr);refine dJ (fun tm X=>∃jU nK,Rb dL (MT p1 n r3 m1) jU=some r/\tm=fr 56 [(0,.iM bV p1),(5,.vl 0 nK 0 jU.length),(6,.iM cS r3),(7,.i6 dL)]/\X=⟨nB jU nK,1⟩) ?_ ?_;rintro _ _ ⟨jU,nK,J,rfl,rfl⟩;unfold Rb at J;apply(go);exact lC ⟨_,jU,nK,J,rfl,rfl⟩;refine cF J ?_ ?_<;>intro uO J;obtain⟨oV,rO,J⟩:=aN J;obtain⟨vK,J⟩:=d7 J;apply(go);refine aY rO ?_;apply(go);refine bN ?_;refine bN ?_;apply(go);exact xC ⟨(dF++[oV]),(gD+1),J,rfl,rfl⟩;apply(go);exact xC ⟨dF,gD,J,rfl,rfl⟩;rintro(_|m2) _ _ ⟨LF,pI,J,rfl,rfl⟩;cases J;refine gF J ?_ ?_<;>intro HO J;apply(go);apply aU;obtain⟨gl,pQ,J⟩:=aN J;apply(gn);refine dJ (fun tm X=>tm=fr 56 [(0,.iM bV p1),(5,.vl 0 gD 0 dF.length),(6,.iM cS r3),(7,.i6 dL),(8,.iM cS fN),(9,.bool gl),(10,.i6 pI)]/\X=⟨nB dF gD,1⟩) ?_ ?_;rintro _ _ ⟨rfl,rfl⟩;refine go ?_;exact lC ⟨gl,(IntKind.i64.wrap (pI+1)),J,rfl,rfl⟩;refine go ?_;rcases gB pQ with⟨kZ,pQ⟩|⟨kZ,pQ⟩;refine go ?_;rcases gB pQ with⟨tZ,pQ⟩|⟨tZ,pQ⟩;exact gy pQ;obtain⟨wO,PP,pQ⟩:=aN pQ;obtain⟨A',Wv,pQ⟩:=aN pQ;obtain rfl:=sI pQ;refine go ?_;refine aY PP ?_;refine go ?_;refine aR rfl (pC (OG n fN wO A' Wv) _) nG ?_;refine go ?_;exact xC ⟨rfl,rfl⟩;obtain rfl:=sI pQ;refine go ?_
 repeat refine RS.no (IU rfl rfl rfl) rfl rfl ?_
 refine go ?_;exact xC ⟨rfl,rfl⟩;refine go ?_;exact xC ⟨LF,J,rfl,rfl⟩;refine go ?_;exact xC ⟨dF,gD,J,rfl,rfl⟩
def mj(jK:(V (V Xv)))(dQ:Int)(iW:(V Xv)->Int->M ((V Xv)))(QW:V Xv):M ((V Xv)):=
 a8 (aC jK dQ) fun y9=>
 aH (QW.length+y9.length<=9223372036854775807) (
 iW (QW++y9) (IntKind.i64.wrap (dQ+1)))
def e_  (Ma:V Xv):M ((V Xv)):=
 some Ma
def OH(jK:(V (V Xv))):Nat->(V Xv)->Int->M ((V Xv))
 |0,_,_=>none|m2+1,wU,dQ=>
  cond (decide (dQ<(jK.length:Int))) (cond (decide (dQ>0)) (aH (wU.length+([38]).length<=9223372036854775807) (
    mj jK dQ (OH jK m2) (wU++[38]))) (mj jK dQ (OH jK m2) wU)) (e_ wU)
def Pi(dY:Int)(cA:Int->(V (V Xv))->M ((V Xv)))(kG:V (V Xv)):M ((V Xv)):=
 cA (IntKind.i64.wrap (dY+1)) kG
def f_(p1:V bL)(n:Nat)(l15:V (V Xv)):M ((V Xv)):=
 a8 (Qg n p1 l15) fun jK=>
 OH jK n [] 0
def SA(p1:V bL)(p2:V (V Xv))(p3:V (V Int))(p4:V Int)(n:Nat):Nat->Int->(V (V Xv))->M ((V Xv))
 |0,_,_=>none|m1+1,dY,c7=>
  cond (decide (dY<(p2.length:Int))) (a8 (aC p3 dY) fun qV=>
   a8 (yp n qV p4) fun iR=>cond iR (a8 (aC p2 dY) fun M1=>some M1) (a8 (Oo n p4 dY) fun NK=>cond NK (a8 (aC p2 dY) fun GQ=>
     aH ((c7.length+1)*16<=140737488355328/\c7.length+1<=140737488355328) (
     Pi dY (SA p1 p2 p3 p4 n m1) (c7++[GQ]))) (Pi dY (SA p1 p2 p3 p4 n m1) c7))) (f_ p1 n c7)
def On(n:Nat)(p1:V bL)(p2:V (V Xv))(p3:V (V Int))(p4:V Int):M ((V Xv)):=
 SA p1 p2 p3 p4 n n 0 ([]:V (V Xv))
theorem qwz(n:Nat)(p1:V bL)(p2:V (V Xv))(p3:V (V Int))(p4:V Int)(r:(V Xv))(J:On n p1 p2 p3 p4=some r):cV prog 97 [.isl false (p1.map bV),.isl false (p2.map cS),.isl false (List.map (cL (cI .u64)) p3),.isl false (p4.map (cI .u64))] (.str r):=by unfold On at J;apply gk 59 Xj;apply(gr);apply(gr);apply(gr);apply gV 9 9 1 1;refine gL (fun m tm X=>∃dY c7 fA,SA p1 p2 p3 p4 n m dY c7=some r/\tm=fr 59 [(0,.iM bV p1),(1,.iM cS p2),(2,.iM (cL (cI .u64)) p3),(3,.iM (cI .u64) p4),(9,.vl 0 fA 0 c7.length),(10,.i6 dY)]/\X=⟨nB c7 fA,1⟩) (fun tm X=>∃l15 fE,f_ p1 n l15=some r/\tm=fr 59 [(0,.iM bV p1),(9,.vl 0 fE 0 l15.length)]/\X=⟨nB l15 fE,1⟩) n ⟨0,([]:V (V Xv)),0,J,rfl,rfl⟩ ?_ ?_;rintro _ _ ⟨l15,fE,J,rfl,rfl⟩;apply(gn);apply c9 (tm':=fr 59 [(0,.iM bV p1),(9,.iM cS l15)]) (X':=⟨[],1⟩) (Gh.trans (Gh.sub (l':=[(0,.iM bV p1),(9,.vl 0 fE 0 l15.length)]) ⟨rfl,rfl,trivial⟩) (HW 0 1)) NZ;have⟨jK,dB,J⟩:=aN J;apply(go);apply aR rfl (pC (qja n p1 l15 jK dB) _) L1;apply(go);refine gL (fun m tm X=>∃wU dQ,OH jK m wU dQ=some r/\tm=fr 59 [(9,.iM cS jK),(11,.str wU),(12,.i6 dQ)]/\X=⟨[],1⟩) (fun tm X=>∃Ma,e_ Ma=some r/\tm=fr 59 [(11,.str Ma)]/\X=⟨[],1⟩) n ⟨[],0,J,rfl,rfl⟩ ?_ ?_;rintro _ _ ⟨Ma,J,rfl,rfl⟩;exact gx J;rintro(_|m2) _ _ ⟨wU,dQ,J,rfl,rfl⟩;cases J;refine gF J ?_ ?_<;>intro qR J;apply(go);apply aU;apply(gr);refine dJ (fun tm X=>∃QW,mj jK dQ (OH jK m2) QW=some r/\tm=fr 59 [(9,.iM cS jK),(11,.str QW),(12,.i6 dQ)]/\X=⟨[],1⟩) ?_ ?_;rintro _ _ ⟨QW,J,rfl,rfl⟩;have⟨y9,pF,J⟩:=aN J;have⟨pS,J⟩:=d7 J;apply(go);apply aY pF;apply(go);apply aO (u:=.str (QW++y9)) rfl (H3 rfl rfl (zca pS) rfl);apply(go);exact lC ⟨(QW++y9),(IntKind.i64.wrap (dQ+1)),J,rfl,rfl⟩;refine cF J ?_ ?_<;>intro mL J;have⟨uO,J⟩:=d7 J;apply(go);apply aO (u:=.str (wU++[38])) rfl (H3 rfl rfl (zca uO) rfl);apply(go);exact xC ⟨(wU++[38]),J,rfl,rfl⟩;apply(go);exact xC ⟨wU,J,rfl,rfl⟩;apply(go);exact xC ⟨wU,J,rfl,rfl⟩;rintro(_|m1) _ _ ⟨dY,c7,fA,J,rfl,rfl⟩;cases J;refine gF J ?_ ?_<;>intro nE J;apply(go);apply aU;have⟨qV,mW,iR,vK,J⟩:=bS J;apply(go);apply aY mW;apply(go);apply aR rfl (pC (qu8 n qV p4 iR vK) _) UP;refine gF J ?_ ?_<;>intro HO J;have⟨M1,tZ,J⟩:=aN J;apply(go);refine aY tZ ?_;exact gx J;obtain⟨NK,PP,J⟩:=aN J;apply(go);refine aR rfl (pC (qrc n p4 dY NK PP) _) L2 ?_;apply(gn);refine dJ (fun tm X=>∃kG ND,Pi dY (SA p1 p2 p3 p4 n m1) kG=some r/\tm=fr 59 [(0,.iM bV p1),(1,.iM cS p2),(2,.iM (cL (cI .u64)) p3),(3,.iM (cI .u64) p4),(9,.vl 0 ND 0 kG.length),(10,.i6 dY)]/\X=⟨nB kG ND,1⟩) ?_ ?_;rintro _ _ ⟨kG,ND,J,rfl,rfl⟩;unfold Pi at J;apply(go);exact lC ⟨_,kG,ND,J,rfl,rfl⟩;refine cF J ?_ ?_<;>intro pR J;obtain⟨GQ,U5,J⟩:=aN J;obtain⟨Jq,J⟩:=d7 J;apply(go);refine aY U5 ?_;apply(go);refine bN ?_;refine bN ?_;apply(go);exact xC ⟨(c7++[GQ]),(fA+1),J,rfl,rfl⟩;apply(go);exact xC ⟨c7,fA,J,rfl,rfl⟩;apply(go);exact xC ⟨c7,fA,J,rfl,rfl⟩
def Pk(z6:Int)(cA:Int->(V Int)->M ((V Int)))(l15:V Int):M ((V Int)):=
 cA (IntKind.i64.wrap (z6+1)) l15
def k_  (l9:V Int):M ((V Int)):=
 some l9
def SC(p1:V Int)(n:Nat):Nat->Int->(V Int)->M ((V Int))
 |0,_,_=>none|m1+1,z6,l7=>
  cond (decide (z6<(IntKind.i64.wrap (64*(p1.length:Int))))) (a8 (Oo n p1 z6) fun dD=>cond dD (aH ((l7.length+1)*8<=140737488355328/\l7.length+1<=140737488355328) (
    Pk z6 (SC p1 n m1) (l7++[z6]))) (Pk z6 (SC p1 n m1) l7)) (k_ l7)
def jx(n:Nat)(p1:V Int):M ((V Int)):=
 SC p1 n n 0 ([]:V Int)
theorem qww(n:Nat)(p1:V Int)(r:(V Int))(J:jx n p1=some r):cV prog 152 [.isl false (p1.map (cI .u64))] (.isl false (r.map (cI .i64))):=by unfold jx at J;refine jO 20 UE ?_;apply(gr);apply(gr);apply(gr);refine gV 3 3 1 1 ?_;refine gL (fun m tm X=>∃z6 l7 t8,SC p1 n m z6 l7=some r/\tm=fr 20 [(0,.iM (cI .u64) p1),(3,.vl 0 t8 0 l7.length),(4,.i6 z6)]/\X=⟨FG l7 t8,1⟩) (fun tm X=>∃l9 cN,k_ l9=some r/\tm=fr 20 [(3,.vl 0 cN 0 l9.length)]/\X=⟨FG l9 cN,1⟩) n ⟨0,([]:V Int),0,J,rfl,rfl⟩ ?_ ?_;rintro _ _ ⟨l9,cN,J,rfl,rfl⟩;apply(go);obtain rfl:=sI J;exact rT (us:=[.vl 0 cN 0 l9.length]) (u:=.iM (cI .i64) l9) (dS rfl (d9)) (fR 0 1);rintro(_|m1) _ _ ⟨z6,l7,t8,J,rfl,rfl⟩;cases J;refine gF J ?_ ?_<;>intro iT J;apply(go);apply aU;obtain⟨dD,dC,J⟩:=aN J;apply(go);refine aR rfl (pC (qrc n p1 z6 dD dC) _) L2 ?_;apply(gn);refine dJ (fun tm X=>∃l15 fE,Pk z6 (SC p1 n m1) l15=some r/\tm=fr 20 [(0,.iM (cI .u64) p1),(3,.vl 0 fE 0 l15.length),(4,.i6 z6)]/\X=⟨FG l15 fE,1⟩) ?_ ?_;rintro _ _ ⟨l15,fE,J,rfl,rfl⟩;unfold Pk at J;apply(go);exact lC ⟨_,l15,fE,J,rfl,rfl⟩;refine cF J ?_ ?_<;>intro i4 J;obtain⟨fI,J⟩:=d7 J;apply(go);refine bN ?_;refine bN ?_;apply(go);exact xC ⟨(l7++[z6]),(t8+1),J,rfl,rfl⟩;apply(go);exact xC ⟨l7,t8,J,rfl,rfl⟩;apply(go);exact xC ⟨l7,t8,J,rfl,rfl⟩
def Pf(n:Nat)(p1:V Int):M (Int):=
 a8 (jx n p1) fun r2=>some (r2.length:Int)
theorem qmu(n:Nat)(p1:V Int)(r:Int)(J:Pf n p1=some r):cV prog 133 [.isl false (p1.map (cI .u64))] (.int .i64 r):=by apply jO 6 KZ;have⟨r2,h3,J⟩:=aN J;apply(go);apply aR rfl (pC (qww n p1 r2 h3) _) UE;exact gx J
def yz(n:Nat)(p1:dN)(p2:dN):M (D1):=
 a8 (Pf n p1.Code) fun r3=>
 a8 (Pf n p2.Code) fun r5=>
 a8 (cond (decide (r3>r5)) (some true) (cond (r3==r5) (some (kX p1.Name p2.Name)) (some false))) fun b9=>some b9
theorem qs5(n:Nat)(p1:dN)(p2:dN)(r:D1)(J:yz n p1 p2=some r):cV prog 98 [.agg (gE p1),.agg (gE p2)] (.bool r):=by
 apply fQ 28 Xi;have⟨r3,h4,J⟩:=aN J;apply(go);apply aR rfl (pC (qmu n p1.Code r3 h4) _) KZ;have⟨r5,h6,J⟩:=aN J;apply(go);apply aR rfl (pC (qmu n p2.Code r5 h6) _) KZ;have⟨b9,eW,J⟩:=aN J;refine gn ?_;refine dJ (fun tm X=>tm=fr 28 [(4,.bool b9)]/\X=⟨[(1,.row (gE p2) 128),(0,.row (gE p1) 128)],2⟩) ?_ ?_;rintro _ _ ⟨rfl,rfl⟩;exact gx J;refine go ?_;rcases gB eW with⟨h7,eW⟩|⟨h7,eW⟩;cases eW;refine go ?_
 repeat apply RS.no (IU rfl rfl rfl) rfl rfl
 refine go ?_;exact xC ⟨rfl,rfl⟩;refine go ?_;rcases gB eW with⟨h8,eW⟩|⟨h8,eW⟩;cases eW;refine go ?_;apply RS.wq (u:=.bool (kX p1.Name p2.Name)) rfl (H3 rfl rfl rfl rfl);refine go ?_;exact xC ⟨rfl,rfl⟩;exact gy eW
def ue(dP:Int)(c6:V dN)(iW:Int->(V dN)->M ((V dN)×Int))(iR:(V Xv))(jF:V Int)(i9:Int):M ((V dN)×Int):=
 aH ((0:Int)<=i9/\i9<=((c6.length:Nat):Int)) (
 aH (0+i9.toNat<=c6.length) (
 aH (((c6.drop 0).take i9.toNat).length*40<=140737488355328/\((c6.drop 0).take i9.toNat).length<=140737488355328) (
 aH ((((c6.drop 0).take i9.toNat).length+1)*40<=140737488355328/\((c6.drop 0).take i9.toNat).length+1<=140737488355328) (
 aH ((0:Int)<=i9/\i9<=((c6.length:Nat):Int)) (
 aH ((0+i9.toNat)+(c6.length-i9.toNat)<=c6.length) (
 aH (((((c6.drop 0).take i9.toNat)++[(dN.mk iR jF)]).length+((c6.drop (0+i9.toNat)).take (c6.length-i9.toNat)).length)*40<=140737488355328/\(((c6.drop 0).take i9.toNat)++[(dN.mk iR jF)]).length+((c6.drop (0+i9.toNat)).take (c6.length-i9.toNat)).length<=140737488355328) (
 iW (IntKind.i64.wrap (dP+1)) ((((c6.drop 0).take i9.toNat)++[(dN.mk iR jF)])++((c6.drop (0+i9.toNat)).take (c6.length-i9.toNat))))))))))
def Qw(n:Nat)(dP:Int)(c6:V dN)(iW:Int->(V dN)->M ((V dN)×Int))(iR:(V Xv))(jF:V Int):Nat->Int->M ((V dN)×Int)
 |0,_=>none|m3+1,LX=>a8 (cond (decide (LX>0)) (a8 (aC c6 (IntKind.i64.wrap (LX-1))) fun DB=>a8 (yz n (dN.mk iR jF) DB) fun oC=>some oC) (some false)) fun b63=>cond b63 ((Qw n dP c6 iW iR jF m3) (IntKind.i64.wrap (LX-1))) (ue dP c6 iW iR jF LX)
def w_  (eU:V dN):M ((V dN)×Int):=
 some (eU,0)
def SG(p1:V bL)(n:Nat)(r5:(V (V Xv)))(l15:V (V Int))(jK:(V (V Int))):Nat->Int->(V dN)->M ((V dN)×Int)
 |0,_,_=>none|m2+1,dP,c6=>
  cond (decide (dP<(jK.length:Int))) (a8 (aC jK dP) fun qV=>
   a8 (On n p1 r5 l15 qV) fun iR=>
   a8 (aC jK dP) fun jF=>
   Qw n dP c6 (SG p1 n r5 l15 jK m2) iR jF n (c6.length:Int)) (w_ c6)
def x_(p1:V bL)(n:Nat)(r5:(V (V Xv)))(l15:V (V Int)):M ((V dN)×Int):=
 a8 (yy n l15) fun jK=>cond (decide ((jK.length:Int)>256)) (some ([],7)) (SG p1 n r5 l15 jK n 0 ([]:V dN))
def Hr(p1:V bL)(n:Nat)(r5:(V (V Xv))):Nat->Int->(V (V Int))->M ((V dN)×Int)
 |0,_,_=>none|m1+1,dY,c7=>
  cond (decide (dY<(r5.length:Int))) (a8 (aC r5 dY) fun er=>
   a8 (vp n p1 r5 er) fun QZ=>
   aH ((c7.length+1)*24<=140737488355328/\c7.length+1<=140737488355328) ((Hr p1 n r5 m1) (IntKind.i64.wrap (dY+1)) (c7++[QZ]))) (x_ p1 n r5 c7)
def S4(n:Nat)(p1:V bL):M ((V dN)×Int):=
 a8 (yl n p1) fun r2=>cond (r2 != 0) (some ([],r2)) (a8 (Ox n p1) fun r5=>Hr p1 n r5 n 0 ([]:V (V Int)))
theorem yu(n:Nat)(p1:V bL)(r:(V dN)×Int)(J:S4 n p1=some r):cV prog 60 [.isl false (p1.map bV)] (.tup [.isl false (r.1.map gE),.int .i64 r.2]):=by refine jO 92 KQ ?_;obtain⟨r2,h3,J⟩:=aN J;refine go ?_;refine aR rfl (pC (quc n p1 r2 h3) _) Xm ?_;refine gF J ?_ ?_<;>intro h4 J;refine go ?_;obtain rfl:=sI J;exact rT (us:=[.nils,.i6 r2]) (u:=.tup [.isl false [],.i6 r2]) (dS rfl (dS rfl (d9))) wR;obtain⟨r5,h6,J⟩:=aN J;refine go ?_;refine aR rfl (pC (qmw n p1 r5 h6) _) Bv ?_;refine gr ?_;refine gr ?_;refine gV 6 126 1 1 ?_;refine gL (fun m tm X=>∃dY c7 fA,Hr p1 n r5 m dY c7=some r/\tm=fr 92 [(0,.iM bV p1),(5,.iM cS r5),(6,.vl 0 fA 0 c7.length),(7,.i6 dY)]/\X=⟨[(0,.bv (cL (cI .u64)) c7 126 1 fA)],1⟩) (fun tm X=>∃l15 fE,x_ p1 n r5 l15=some r/\tm=fr 92 [(0,.iM bV p1),(5,.iM cS r5),(6,.vl 0 fE 0 l15.length)]/\X=⟨[(0,.bv (cL (cI .u64)) l15 126 1 fE)],1⟩) n ⟨0,([]:V (V Int)),0,J,rfl,rfl⟩ ?_ ?_;rintro _ _ ⟨l15,fE,J,rfl,rfl⟩;refine gn ?_;refine c9 (tm':=fr 92 [(0,.iM bV p1),(5,.iM cS r5),(6,.iM (cL (cI .u64)) l15)]) (X':=⟨[],1⟩) (Gh.trans (Gh.sub (l':=[(0,.iM bV p1),(5,.iM cS r5),(6,.vl 0 fE 0 l15.length)]) ⟨rfl,rfl,rfl,trivial⟩) (HW 0 1)) NZ ?_;obtain⟨jK,dB,J⟩:=aN J;refine go ?_;refine aR rfl (pC (qs6 n l15 jK dB) _) Xk ?_;refine gF J ?_ ?_<;>intro j8 J;refine go ?_;obtain rfl:=sI J;exact rT (us:=[.nils,.i6 7]) (u:=.tup [.isl false [],.i6 7]) (dS rfl (dS rfl (d9))) wR;refine gr ?_;refine gr ?_;refine gV 9 128 2 2 ?_;refine gL (fun m tm X=>∃dP c6 iV,SG p1 n r5 l15 jK m dP c6=some r/\tm=fr 92 [(0,.iM bV p1),(5,.iM cS r5),(6,.iM (cL (cI .u64)) l15),(8,.iM (cL (cI .u64)) jK),(9,.vl 1 iV 0 c6.length),(10,.i6 dP)]/\X=⟨[(1,.bv gE c6 128 2 iV)],2⟩) (fun tm X=>∃eU IK,w_ eU=some r/\tm=fr 92 [(9,.vl 1 IK 0 eU.length)]/\X=⟨[(1,.bv gE eU 128 2 IK)],2⟩) n ⟨0,([]:V dN),0,J,rfl,rfl⟩ ?_ ?_;rintro _ _ ⟨eU,IK,J,rfl,rfl⟩;refine go ?_;obtain rfl:=sI J;exact rT (us:=[.vl 1 IK 0 eU.length,.i6 0]) (u:=.tup [.iM gE eU,.i6 0]) (dS rfl (dS rfl (d9))) (fR 1 2);rintro(_|m2) _ _ ⟨dP,c6,iV,J,rfl,rfl⟩;cases J;refine gF J ?_ ?_<;>intro nE J;refine go ?_;apply aU;obtain⟨qV,mW,iR,vK,jF,kZ,J⟩:=lG J;refine go ?_;refine dE [(0,13),(1,13),(2,13),(3,13),(4,13),(5,13),(6,13),(8,13),(9,13),(10,13),(11,13),(12,13)] ?_;refine gd ?_;refine c8 mW ?_;refine gd ?_;refine fC rfl (pC (qwz n p1 r5 l15 qV iR vK)) Xj ?_;refine gd ?_;refine c8 kZ ?_;refine gd ?_;refine dZ ?_;refine qU ?_;refine bC ⟨by kernel_rfl,⟨i7 rfl,⟨i7 rfl,⟨i7 rfl,⟨i7 rfl,⟨i7 rfl,⟨dO rfl rfl (Fc (cL (cI .u64)) sU.h (aX qJ.h) (RL (cI .u64)) mW rfl),⟨Mp gY.h rfl rfl rfl,⟨i7 rfl,⟨i7 rfl,⟨dO rfl rfl (Fc (cL (cI .u64)) sU.h (aX qJ.h) (RL (cI .u64)) kZ rfl),⟨Mp gY.h rfl rfl rfl,⟨qp Zm.h rfl rfl rfl,trivial⟩⟩⟩⟩⟩⟩⟩⟩⟩⟩⟩⟩,?_⟩;refine go ?_;refine gL (fun m tm X=>∃LX,Qw n dP c6 (SG p1 n r5 l15 jK m2) iR jF m LX=some r/\tm=fr 92 [(0,.iM bV p1),(5,.iM cS r5),(6,.iM (cL (cI .u64)) l15),(8,.iM (cL (cI .u64)) jK),(9,.vl 1 iV 0 c6.length),(10,.i6 dP),(11,.ptr 2 0 0),(12,.i6 LX)]/\X=⟨Nv (.str iR) jF c6 iV,3⟩) (fun tm X=>∃i9,ue dP c6 (SG p1 n r5 l15 jK m2) iR jF i9=some r/\tm=fr 92 [(0,.iM bV p1),(5,.iM cS r5),(6,.iM (cL (cI .u64)) l15),(8,.iM (cL (cI .u64)) jK),(9,.vl 1 iV 0 c6.length),(10,.i6 dP),(11,.ptr 2 0 0),(12,.i6 i9)]/\X=⟨Nv (.str iR) jF c6 iV,3⟩) n ⟨(c6.length:Int),J,rfl,rfl⟩ ?_ ?_;rintro _ _ ⟨i9,J,rfl,rfl⟩;obtain⟨tY,J⟩:=d7 J;obtain⟨G4,J⟩:=d7 J;obtain⟨PO,J⟩:=d7 J;refine go ?_;refine aO (u:=.vl 1 iV 0 i9.toNat) rfl (yX rfl mI (yN rfl) mI (NQ gE sV.h (aX tJ.h) S3 (vo rfl) (Nat.le_of_eq (Nat.zero_add _)) (XP tY.1 tY.2))) (aO (u:=.vl 3 0 0 (((c6.drop 0).take i9.toNat).length)) (X':=⟨(3,.bv gE ((c6.drop 0).take i9.toNat) 128 2 0)::Nv (.str iR) jF c6 iV,4⟩) rfl (uZ rfl rfl rfl rfl (ai gE ((c6.drop 0).take i9.toNat) sV.h sV.h tJ.h rfl (qo gE S3 (vo rfl) G4) PO)) ?_);obtain⟨Wt,J⟩:=d7 J;refine go ?_;refine bN ?_;refine bN ?_;obtain⟨Jp,J⟩:=d7 J;obtain⟨KO,J⟩:=d7 J;obtain⟨Ws,J⟩:=d7 J;refine go ?_;refine aO (u:=.vl 1 iV (0+i9.toNat) (c6.length-i9.toNat)) rfl (yX rfl (yN rfl) mI mI (NQ gE sV.h (aX tJ.h) S3 (vo rfl) (Nat.le_of_eq (Nat.zero_add _)) (wa Jp.1 Jp.2))) (aO (u:=.vl 3 2 0 (((((c6.drop 0).take i9.toNat)++[(dN.mk iR jF)])++((c6.drop (0+i9.toNat)).take (c6.length-i9.toNat))).length)) (X':=⟨(4,.row [.str iR,.iM (cI .u64) jF] 128)::(3,.bv gE ((((c6.drop 0).take i9.toNat)++[(dN.mk iR jF)])++((c6.drop (0+i9.toNat)).take (c6.length-i9.toNat))) 128 2 2)::Nv (.str iR) jF c6 iV,5⟩) rfl (uZ rfl rfl rfl rfl (RN gE ((c6.drop (0+i9.toNat)).take (c6.length-i9.toNat)) sV.h sV.h tJ.h rfl S3 rfl (qo gE S3 (vo rfl) KO) Ws)) ?_);refine go ?_;exact⟨m2,_,_,zN _,⟨(IntKind.i64.wrap (dP+1)),((((c6.drop 0).take i9.toNat)++[(dN.mk iR jF)])++((c6.drop (0+i9.toNat)).take (c6.length-i9.toNat))),2,J,rfl,rfl⟩,NZ,Gh.trans (Gh.sub (l':=[(0,.iM bV p1),(5,.iM cS r5),(6,.iM (cL (cI .u64)) l15),(8,.iM (cL (cI .u64)) jK),(9,.vl 3 2 0 (((((c6.drop 0).take i9.toNat)++[(dN.mk iR jF)])++((c6.drop (0+i9.toNat)).take (c6.length-i9.toNat))).length)),(10,.i6 (IntKind.i64.wrap (dP+1)))]) ⟨rfl,rfl,rfl,rfl,rfl,rfl,trivial⟩) (Gh.trans (Gh.mv (l':=[(0,.iM bV p1),(5,.iM cS r5),(6,.iM (cL (cI .u64)) l15),(8,.iM (cL (cI .u64)) jK),(9,.vl 1 2 0 (((((c6.drop 0).take i9.toNat)++[(dN.mk iR jF)])++((c6.drop (0+i9.toNat)).take (c6.length-i9.toNat))).length)),(10,.i6 (IntKind.i64.wrap (dP+1)))]) (h':=[(4,.row [.str iR,.iM (cI .u64) jF] 128),(1,.bv gE ((((c6.drop 0).take i9.toNat)++[(dN.mk iR jF)])++((c6.drop (0+i9.toNat)).take (c6.length-i9.toNat))) 128 2 2),(2,.row [.str iR,.iM (cI .u64) jF] 128)]) 1 3 NZ rfl rfl (by simp only[rS,rU,iQ,H7,BC,Nat.beq,zC,zD]) rfl (by simp only[Q0,rB,RG,iQ,rU,H7,Ez,BC,Nat.beq,zC,zD,and_self])) (Gh.toC (n1:=2) ⟨rfl,rfl,rfl,rfl,rfl,rfl,trivial⟩ rfl NZ (by simp)))⟩;rintro(_|m3) _ _ ⟨LX,J,rfl,rfl⟩;cases J;obtain⟨b63,sM,J⟩:=aN J;refine gn ?_;refine dJ (fun tm X=>tm=fr 92 [(0,.iM bV p1),(5,.iM cS r5),(6,.iM (cL (cI .u64)) l15),(8,.iM (cL (cI .u64)) jK),(9,.vl 1 iV 0 c6.length),(10,.i6 dP),(11,.ptr 2 0 0),(12,.i6 LX),(73,.bool b63)]/\X=⟨Nv (.str iR) jF c6 iV,3⟩) ?_ ?_;rintro _ _ ⟨rfl,rfl⟩;refine gF J ?_ ?_<;>intro Wq J;refine go ?_;apply aU;refine go ?_;exact lC ⟨_,J,rfl,rfl⟩;refine go ?_;exact xC ⟨LX,J,rfl,rfl⟩;refine dE [] ?_;refine gd ?_;rcases gB sM with⟨PN,sM⟩|⟨PN,sM⟩;obtain⟨DB,Bo,sM⟩:=aN sM;obtain⟨oC,KN,sM⟩:=aN sM;obtain rfl:=sI sM;refine gd ?_;refine RD.wq rfl (dO rfl rfl (gR gE sV.h (aX tJ.h) (by decide) S3 (vo rfl) Bo)) ?_;refine RD.wq (u:=.agg (gE DB)) rfl (RM gE QO.h rfl (aX tJ.h) S3 rfl rfl Bo rfl) (fC rfl (pC (qs5 n (dN.mk iR jF) DB oC KN)) Xi ?_);refine gd ?_;refine bC ⟨by kernel_rfl,trivial,?_⟩;refine go ?_;exact xC ⟨rfl,rfl⟩;obtain rfl:=sI sM;refine gd ?_;refine bC ⟨by kernel_rfl,trivial,?_⟩;refine go ?_;exact xC ⟨rfl,rfl⟩;refine go ?_;exact xC ⟨c6,iV,J,rfl,rfl⟩;rintro(_|m1) _ _ ⟨dY,c7,fA,J,rfl,rfl⟩;cases J;refine gF J ?_ ?_<;>intro gh J;refine go ?_;apply aU;obtain⟨er,Bn,QZ,h70,J⟩:=bS J;obtain⟨Wp,J⟩:=d7 J;refine go ?_;refine aY Bn ?_;refine go ?_;refine aR rfl (pC (qwy n p1 r5 er QZ h70) _) Xl ?_;refine bN ?_;refine bN ?_;refine go ?_;exact lC ⟨_,(c7++[QZ]),(fA+1),J,rfl,rfl⟩;refine go ?_;exact xC ⟨c7,fA,J,rfl,rfl⟩
def s_: M ((V Xv)×D1):=
 some ([],false)
def Hm(p1:bL)(p2:V Xv):Nat->Int->M ((V Xv)×D1)
 |0,_=>none|m1+1,z8=>cond (decide (z8<(p1.Feats.length:Int))) (a8 (aC p1.Feats z8) fun x10=>cond (lW x10.Feat p2) (a8 (aC p1.Feats z8) fun uT=>some (uT.Value,true)) ((Hm p1 p2 m1) (IntKind.i64.wrap (z8+1)))) (s_)
def Ov(n:Nat)(p1:bL)(p2:V Xv):M ((V Xv)×D1):=
 Hm p1 p2 n 0
theorem qmz(n:Nat)(p1:bL)(p2:V Xv)(r:(V Xv)×D1)(J:Ov n p1 p2=some r):cV prog 118 [.agg (bV p1),.str p2] (.tup [.str r.1,.bool r.2]):=by unfold Ov at J;apply fQ 28 L3;apply(go);refine gL (fun m tm X=>∃z8,Hm p1 p2 m z8=some r/\tm=fr 28 [(1,.str p2),(2,.ptr 0 0 0),(6,.i6 z8)]/\X=⟨[(0,.row (bV p1) 138)],1⟩) (fun tm X=>s_=some r/\tm=fr 28 []/\X=⟨[(0,.row (bV p1) 138)],1⟩) n ⟨0,J,rfl,rfl⟩ ?_ ?_;rintro _ _ ⟨J,rfl,rfl⟩;apply(go);cases J;exact yI rfl rfl rfl rfl rfl;rintro(_|m1) _ _ ⟨z8,J,rfl,rfl⟩;cases J;refine gF J ?_ ?_<;>intro h9 J;apply(go);apply aU;have⟨x10,iT,J⟩:=aN J;apply(go);apply aY iT;apply(go);apply aO (u:=.bool (lW x10.Feat p2)) rfl (H3 rfl rfl rfl rfl);refine gF J ?_ ?_<;>intro dK J;have⟨uT,i4,J⟩:=aN J;apply(go);apply aY i4;apply(go);cases J;exact yI rfl rfl rfl rfl rfl;apply(go);exact lC ⟨_,J,rfl,rfl⟩;apply(go);exact xC ⟨J,rfl,rfl⟩
def Pw(z8:Int)(cA:(V (V Xv))->Int->M ((V Xv)×D1))(iN:V (V Xv)):M ((V Xv)×D1):=
 cA iN (IntKind.i64.wrap (z8+1))
def t_(p1:V bL)(n:Nat)(l9:V (V Xv)):M ((V Xv)×D1):=
 a8 (Qg n p1 l9) fun lT=>cond ((lT.length:Int) != 1) (some ([],false)) (a8 (aC lT 0) fun uT=>some (uT,true))
def SF(p1:V bL)(p2:V Xv)(n:Nat):Nat->(V (V Xv))->Int->M ((V Xv)×D1)
 |0,_,_=>none|m1+1,l7,z8=>
  cond (decide (z8<(p1.length:Int))) (a8 (aC p1 z8) fun lA=>
   a8 (Ov n lA p2) fun fN=>cond fN.2 (a8 (aC p1 z8) fun kJ=>
    a8 (OA n l7 kJ.Name) fun pZ=>
    Pw z8 (SF p1 p2 n m1) pZ) (Pw z8 (SF p1 p2 n m1) l7)) (t_ p1 n l7)
def Ow(n:Nat)(p1:V bL)(p2:V Xv):M ((V Xv)×D1):=
 SF p1 p2 n n [] 0
theorem qmy(n:Nat)(p1:V bL)(p2:V Xv)(r:(V Xv)×D1)(J:Ow n p1 p2=some r):cV prog 100 [.isl false (p1.map bV),.str p2] (.tup [.str r.1,.bool r.2]):=by unfold Ow at J;apply fQ 43 L6;apply(gr);apply(gr);apply(gr);apply c9 (tm':=fr 43 [(0,.iM bV p1),(1,.str p2),(6,.iM cS []),(7,.i6 0)]) (Gh.trans (Gh.sub (l':=[(0,.iM bV p1),(1,.str p2),(6,.nils),(7,.i6 0)]) ⟨rfl,rfl,rfl,rfl,trivial⟩) (Gh.wkS (l':=[(0,.iM bV p1),(1,.str p2),(6,.iM cS []),(7,.i6 0)]) (.cons (.refl _) (.cons (.refl _) (.cons (.nil false) (.cons (.refl _) .nil)))))) NZ;refine gL (fun m tm X=>∃l7 z8,SF p1 p2 n m l7 z8=some r/\tm=fr 43 [(0,.iM bV p1),(1,.str p2),(6,.iM cS l7),(7,.i6 z8)]/\X=⟨[],0⟩) (fun tm X=>∃l9,t_ p1 n l9=some r/\tm=fr 43 [(0,.iM bV p1),(6,.iM cS l9)]/\X=⟨[],0⟩) n ⟨[],0,J,rfl,rfl⟩ ?_ ?_;rintro _ _ ⟨l9,J,rfl,rfl⟩;have⟨lT,iT,J⟩:=aN J;apply(go);apply aR rfl (pC (qja n p1 l9 lT iT) _) L1;refine gF J ?_ ?_<;>intro dK J;apply(go);cases J;exact yI rfl rfl rfl rfl rfl;have⟨uT,i4,J⟩:=aN J;apply(go);apply aY i4;apply(go);cases J;exact yI rfl rfl rfl rfl rfl;rintro(_|m1) _ _ ⟨l7,z8,J,rfl,rfl⟩;cases J;refine gF J ?_ ?_<;>intro eM J;apply(go);apply aU;have⟨lA,fI,fN,j8,J⟩:=bS J;apply(go);apply aY fI;apply(go);apply aR rfl (pC (qmz n lA p2 fN j8) _) L3;apply(gr);refine dJ (fun tm X=>∃iN,Pw z8 (SF p1 p2 n m1) iN=some r/\tm=fr 43 [(0,.iM bV p1),(1,.str p2),(6,.iM cS iN),(7,.i6 z8)]/\X=⟨[],0⟩) ?_ ?_;rintro _ _ ⟨iN,J,rfl,rfl⟩;unfold Pw at J;apply(go);exact lC ⟨iN,(IntKind.i64.wrap (z8+1)),J,rfl,rfl⟩;refine cF J ?_ ?_<;>intro pG J;have⟨kJ,nF,pZ,qR,J⟩:=bS J;apply(go);apply aY nF;apply(go);apply aR rfl (pC (Gs n l7 kJ.Name pZ qR) _) u7;apply(go);exact xC ⟨pZ,J,rfl,rfl⟩;apply(go);exact xC ⟨l7,J,rfl,rfl⟩;apply(go);exact xC ⟨l7,J,rfl,rfl⟩
def Hj(n:Nat)(p1:V Xv):M (D1):=
 a8 (Pg n p1 true) fun r2=>some r2
theorem qrb(n:Nat)(p1:V Xv)(r:D1)(J:Hj n p1=some r):cV prog 145 [.str p1] (.bool r):=by apply jO 5 UJ;have⟨r2,h3,J⟩:=aN J;apply(go);apply aR rfl (pC (qmt n p1 true r2 h3) _) KU;exact gx J
def n?(n:Nat)(r2:(V (V Xv)))(x9:bL)(iU:Int)(iW:Int->M (Int)): M (Int):=
 a8 (aC x9.Feats iU) fun VR=>
 a8 (HF n r2 VR.Value) fun oD=>cond (!oD) (some 5) (iW (IntKind.i64.wrap (iU+1)))
def Sb(n:Nat)(r2:(V (V Xv)))(x9:bL)(iU:Int)(iW:Int->M (Int)):Nat->Int->M (Int)
 |0,_=>none|m3+1,pI=>cond (decide (pI<iU)) (a8 (aC x9.Feats pI) fun I9=>a8 (aC x9.Feats iU) fun M1=>cond (lW I9.Feat M1.Feat) (some 4) ((Sb n r2 x9 iU iW m3) (IntKind.i64.wrap (pI+1)))) (n? n r2 x9 iU iW)
def uu(z7:Int)(cA:Int->M (Int)): M (Int):=
 cA (IntKind.i64.wrap (z7+1))
def OT(n:Nat)(r2:(V (V Xv)))(z7:Int)(cA:Int->M (Int))(x9:bL):Nat->Int->M (Int)
 |0,_=>none|m2+1,iU=>cond (decide (iU<(x9.Feats.length:Int))) (a8 (aC x9.Feats iU) fun GR=>a8 (Hj n GR.Feat) fun qA=>cond (!qA) (some 1) (Sb n r2 x9 iU (OT n r2 z7 cA x9 m2) n 0)) (uu z7 cA)
def o?: M (Int):=
 some 0
def HH(p1:V bL)(n:Nat)(r2:(V (V Xv))):Nat->Int->M (Int)
 |0,_=>none|m1+1,z7=>cond (decide (z7<(p1.length:Int))) (a8 (aC p1 z7) fun x9=>OT n r2 z7 (HH p1 n r2 m1) x9 n 0) (o?)
def uw(n:Nat)(p1:V bL):M (Int):=
 a8 (Ox n p1) fun r2=>
 HH p1 n r2 n 0
theorem qkg(n:Nat)(p1:V bL)(r:Int)(J:uw n p1=some r):cV prog 116 [.isl false (p1.map bV)] (.int .i64 r):=by apply jO 58 UX;have⟨r2,h3,J⟩:=aN J;apply(go);apply aR rfl (pC (qmw n p1 r2 h3) _) Bv;apply(go);refine gL (fun m tm X=>∃z7,HH p1 n r2 m z7=some r/\tm=fr 58 [(0,.iM bV p1),(3,.iM cS r2),(4,.i6 z7)]/\X=⟨[],0⟩) (fun tm X=>o?=some r/\tm=fr 58 []/\X=⟨[],0⟩) n ⟨0,J,rfl,rfl⟩ ?_ ?_;rintro _ _ ⟨J,rfl,rfl⟩;exact gx J;rintro(_|m1) _ _ ⟨z7,J,rfl,rfl⟩;cases J;refine gF J ?_ ?_<;>intro h8 J;apply(go);apply aU;have⟨x9,eW,J⟩:=aN J;apply(go);apply aY eW;apply(go);refine gL (fun m tm X=>∃iU,OT n r2 z7 (HH p1 n r2 m1) x9 m iU=some r/\tm=fr 58 [(0,.iM bV p1),(3,.iM cS r2),(4,.i6 z7),(5,.iM lX x9.Feats),(6,.i6 iU)]/\X=⟨[],0⟩) (fun tm X=>uu z7 (HH p1 n r2 m1)=some r/\tm=fr 58 [(0,.iM bV p1),(3,.iM cS r2),(4,.i6 z7)]/\X=⟨[],0⟩) n ⟨0,J,rfl,rfl⟩ ?_ ?_;rintro _ _ ⟨J,rfl,rfl⟩;unfold uu at J;apply(go);exact lC ⟨_,J,rfl,rfl⟩;rintro(_|m2) _ _ ⟨iU,J,rfl,rfl⟩;cases J;refine gF J ?_ ?_<;>intro fI J;apply(go);apply aU;have⟨GR,j8,qA,mM,J⟩:=bS J;apply(go);apply aY j8;apply(go);apply aR rfl (pC (qrb n GR.Feat qA mM) _) UJ;refine gF J ?_ ?_<;>intro oA J;exact gx J;apply(go);refine gL (fun m tm X=>∃pI,Sb n r2 x9 iU (OT n r2 z7 (HH p1 n r2 m1) x9 m2) m pI=some r/\tm=fr 58 [(0,.iM bV p1),(3,.iM cS r2),(4,.i6 z7),(5,.iM lX x9.Feats),(6,.i6 iU),(7,.i6 pI)]/\X=⟨[],0⟩) (fun tm X=>n? n r2 x9 iU (OT n r2 z7 (HH p1 n r2 m1) x9 m2)=some r/\tm=fr 58 [(0,.iM bV p1),(3,.iM cS r2),(4,.i6 z7),(5,.iM lX x9.Feats),(6,.i6 iU)]/\X=⟨[],0⟩) n ⟨0,J,rfl,rfl⟩ ?_ ?_;rintro _ _ ⟨J,rfl,rfl⟩;have⟨VR,uO,oD,qQ,J⟩:=bS J;apply(go);apply aY uO;apply(go);apply aR rfl (pC (OG n r2 VR.Value oD qQ) _) nG;refine gF J ?_ ?_<;>intro mW J;exact gx J;apply(go);exact lC ⟨_,J,rfl,rfl⟩;rintro(_|m3) _ _ ⟨pI,J,rfl,rfl⟩;cases J;refine gF J ?_ ?_<;>intro rO J;apply(go);apply aU;have⟨I9,HO,M1,tZ,J⟩:=bS J;apply(go);apply dE [];apply(gd);apply c8 HO;apply(gd);apply c8 tZ;apply(gd);apply aQ (u:=.bool (lW I9.Feat M1.Feat)) rfl (H3 rfl rfl rfl rfl);refine bC ⟨by kernel_rfl,trivial,?_⟩;refine gF J ?_ ?_<;>intro sN J;exact gx J;apply(go);exact lC ⟨_,J,rfl,rfl⟩;apply(go);exact xC ⟨J,rfl,rfl⟩;apply(go);exact xC ⟨J,rfl,rfl⟩;apply(go);exact xC ⟨J,rfl,rfl⟩
def lg(z6:Int)(cA:(V (V Xv))->Int->M ((V (V Xv))))(l15:V (V Xv)):M ((V (V Xv))):=
 cA l15 (IntKind.i64.wrap (z6+1))
def Hn(p1:V bL)(n:Nat)(z6:Int)(cA:(V (V Xv))->Int->M ((V (V Xv)))):Nat->(V (V Xv))->Int->M ((V (V Xv)))
 |0,_,_=>none|m2+1,c7,eD=>
  a8 (aC p1 z6) fun lA=>cond (decide (eD<(lA.Feats.length:Int))) (a8 (aC p1 z6) fun pW=>
   a8 (aC pW.Feats eD) fun pV=>
   a8 (OA n c7 pV.Feat) fun sZ=>(Hn p1 n z6 cA m2) sZ (IntKind.i64.wrap (eD+1))) (lg z6 cA c7)
def u_  (l7:V (V Xv)):M ((V (V Xv))):=
 some l7
def OI(p1:V bL)(n:Nat):Nat->(V (V Xv))->Int->M ((V (V Xv)))
 |0,_,_=>none|m1+1,l5,z6=>cond (decide (z6<(p1.length:Int))) (Hn p1 n z6 (OI p1 n m1) n l5 0) (u_ l5)
def YE(n:Nat)(p1:V bL):M ((V (V Xv))):=
 OI p1 n n [] 0
theorem oi(n:Nat)(p1:V bL)(r:(V (V Xv)))(J:YE n p1=some r):cV prog 90 [.isl false (p1.map bV)] (.isl false (r.map cS)):=by unfold YE at J;apply jO 34 PQ;apply(gr);apply(gr);apply(gr);apply c9 (tm':=fr 34 [(0,.iM bV p1),(3,.iM cS []),(4,.i6 0)]) (Gh.trans (Gh.sub (l':=[(0,.iM bV p1),(3,.nils),(4,.i6 0)]) ⟨rfl,rfl,rfl,trivial⟩) (Gh.wkS (l':=[(0,.iM bV p1),(3,.iM cS []),(4,.i6 0)]) (.cons (.refl _) (.cons (.nil false) (.cons (.refl _) .nil))))) NZ;refine gL (fun m tm X=>∃l5 z6,OI p1 n m l5 z6=some r/\tm=fr 34 [(0,.iM bV p1),(3,.iM cS l5),(4,.i6 z6)]/\X=⟨[],0⟩) (fun tm X=>∃l7,u_ l7=some r/\tm=fr 34 [(3,.iM cS l7)]/\X=⟨[],0⟩) n ⟨[],0,J,rfl,rfl⟩ ?_ ?_;rintro _ _ ⟨l7,J,rfl,rfl⟩;exact gx J;rintro(_|m1) _ _ ⟨l5,z6,J,rfl,rfl⟩;cases J;refine gF J ?_ ?_<;>intro h8 J;apply(go);apply aU;apply(go);refine gL (fun m tm X=>∃c7 eD,Hn p1 n z6 (OI p1 n m1) m c7 eD=some r/\tm=fr 34 [(0,.iM bV p1),(3,.iM cS c7),(4,.i6 z6),(5,.i6 eD)]/\X=⟨[],0⟩) (fun tm X=>∃l15,lg z6 (OI p1 n m1) l15=some r/\tm=fr 34 [(0,.iM bV p1),(3,.iM cS l15),(4,.i6 z6)]/\X=⟨[],0⟩) n ⟨l5,0,J,rfl,rfl⟩ ?_ ?_;rintro _ _ ⟨l15,J,rfl,rfl⟩;unfold lg at J;apply(go);exact lC ⟨l15,(IntKind.i64.wrap (z6+1)),J,rfl,rfl⟩;rintro(_|m2) _ _ ⟨c7,eD,J,rfl,rfl⟩;cases J;have⟨lA,fI,J⟩:=aN J;apply(go);apply aY fI;refine gF J ?_ ?_<;>intro dB J;apply(go);apply aU;have⟨pW,pG,pV,oA,sZ,oR,J⟩:=lG J;apply(go);apply aY pG;apply(go);apply aY oA;apply(go);apply aR rfl (pC (Gs n c7 pV.Feat sZ oR) _) u7;apply(go);exact lC ⟨sZ,(IntKind.i64.wrap (eD+1)),J,rfl,rfl⟩;apply(go);exact xC ⟨c7,J,rfl,rfl⟩;apply(go);exact xC ⟨l5,J,rfl,rfl⟩
def M_: M (Int):=
 some (-1)
def Hz(p1:V dN)(p2:V Xv):Nat->Int->M (Int)
 |0,_=>none|m1+1,z6=>cond (decide (z6<(p1.length:Int))) (a8 (aC p1 z6) fun x8=>cond (lW x8.Name p2) (some z6) ((Hz p1 p2 m1) (IntKind.i64.wrap (z6+1)))) (M_)
def Gw(n:Nat)(p1:V dN)(p2:V Xv):M (Int):=
 Hz p1 p2 n 0
theorem re(n:Nat)(p1:V dN)(p2:V Xv)(r:Int)(J:Gw n p1 p2=some r):cV prog 101 [.isl false (p1.map gE),.str p2] (.int .i64 r):=by unfold Gw at J;apply fQ 20 EK;apply(go);refine gL (fun m tm X=>∃z6,Hz p1 p2 m z6=some r/\tm=fr 20 [(0,.iM gE p1),(1,.str p2),(5,.i6 z6)]/\X=⟨[],0⟩) (fun tm X=>M_=some r/\tm=fr 20 []/\X=⟨[],0⟩) n ⟨0,J,rfl,rfl⟩ ?_ ?_;rintro _ _ ⟨J,rfl,rfl⟩;exact gx J;rintro(_|m1) _ _ ⟨z6,J,rfl,rfl⟩;cases J;refine gF J ?_ ?_<;>intro h7 J;apply(go);apply aU;have⟨x8,h9,J⟩:=aN J;apply(go);apply aY h9;apply(go);apply aO (u:=.bool (lW x8.Name p2)) rfl (H3 rfl rfl rfl rfl);refine gF J ?_ ?_<;>intro eW J;exact gx J;apply(go);exact lC ⟨_,J,rfl,rfl⟩;apply(go);exact xC ⟨J,rfl,rfl⟩
def YO(n:Nat)(p1:V dN)(p2:Int)(p3:Int):M (D1):=
 a8 (aC p1 p3) fun x4=>
 a8 (aC p1 p2) fun x6=>
 a8 (He n x4.Code x6.Code) fun r8=>some r8
theorem mw(n:Nat)(p1:V dN)(p2:Int)(p3:Int)(r:D1)(J:YO n p1 p2 p3=some r):cV prog 99 [.isl false (p1.map gE),.int .i64 p2,.int .i64 p3] (.bool r):=by apply D2 18 KP;have⟨x4,h5,x6,h7,r8,h9,J⟩:=lG J;apply(go);apply dE [];apply(gd);apply c8 h5;apply(gd);apply c8 h7;apply(gd);apply fC rfl (pC (rf n x4.Code x6.Code r8 h9)) EH;apply(gd);refine bC ⟨by kernel_rfl,trivial,?_⟩;exact gx J
def e?  (vM:D1) (nU:V Int):M ((V Int)×D1):=
 some (nU,vM)
def YW(p1:V bL)(p2:V dN)(p3:Int)(p4:V Xv)(n:Nat):Nat->D1->(V Int)->Int->M ((V Int)×D1)
 |0,_,_,_=>none|m1+1,vN,l15,iU=>
  cond (decide (iU<(p1.length:Int))) (a8 (aC p1 iU) fun nI=>
   a8 (Ov n nI p4) fun fG=>
   a8 (cond (!fG.2) (some true) (a8 (aC p1 iU) fun ER=>
    a8 (Gw n p2 ER.Name) fun NN=>
    a8 (YO n p2 NN p3) fun BY=>some (!BY))) fun b31=>cond b31 ((YW p1 p2 p3 p4 n m1) vN l15 (IntKind.i64.wrap (iU+1))) (a8 (Gw n p2 fG.1) fun M5=>
    a8 (aC p2 M5) fun I9=>
    a8 (J8 n l15 I9.Code) fun nY=>(YW p1 p2 p3 p4 n m1) true nY (IntKind.i64.wrap (iU+1)))) (e? vN l15)
def Rh(n:Nat)(p1:V bL)(p2:V dN)(p3:Int)(p4:V Xv):M ((V Int)×D1):=
 a8 (aC p2 0) fun x5=>
 YW p1 p2 p3 p4 n n false x5.Code 0
theorem qh9(n:Nat)(p1:V bL)(p2:V dN)(p3:Int)(p4:V Xv)(r:(V Int)×D1)(J:Rh n p1 p2 p3 p4=some r):cV prog 91 [.isl false (p1.map bV),.isl false (p2.map gE),.int .i64 p3,.str p4] (.tup [.isl false (r.1.map (cI .u64)),.bool r.2]):=by apply gk 60 Bw;have⟨x5,h6,J⟩:=aN J;refine go ?_;apply aY h6;refine go ?_;refine gL (fun m tm X=>∃vN l15 iU,YW p1 p2 p3 p4 n m vN l15 iU=some r/\tm=fr 60 [(0,.iM bV p1),(1,.iM gE p2),(2,.i6 p3),(3,.str p4),(10,.bool vN),(11,.iM (cI .u64) l15),(12,.i6 iU)]/\X=⟨[],0⟩) (fun tm X=>∃vM nU,e? vM nU=some r/\tm=fr 60 [(10,.bool vM),(11,.iM (cI .u64) nU)]/\X=⟨[],0⟩) n ⟨false,x5.Code,0,J,rfl,rfl⟩ ?_ ?_;rintro _ _ ⟨vM,nU,J,rfl,rfl⟩;refine go ?_;cases J;exact yI rfl rfl rfl rfl rfl;rintro(_|m1) _ _ ⟨vN,l15,iU,J,rfl,rfl⟩;cases J;refine gF J ?_ ?_<;>intro j8 J;refine go ?_;apply aU;have⟨nI,mM,fG,nF,J⟩:=bS J;refine go ?_;apply aY mM;refine go ?_;apply aR rfl (pC (qmz n nI p4 fG nF) _) L3;have⟨b31,nE,J⟩:=aN J;refine gn ?_;refine dJ (fun tm X=>tm=fr 60 [(0,.iM bV p1),(1,.iM gE p2),(2,.i6 p3),(3,.str p4),(10,.bool vN),(11,.iM (cI .u64) l15),(12,.i6 iU),(13,.str fG.1),(48,.bool b31)]/\X=⟨[],0⟩) ?_ ?_;rintro _ _ ⟨rfl,rfl⟩;refine gF J ?_ ?_<;>intro qQ J;refine go ?_;exact lC ⟨vN,l15,(IntKind.i64.wrap (iU+1)),J,rfl,rfl⟩;have⟨M5,rO,I9,HO,nY,tZ,J⟩:=lG J;refine go ?_;apply aR rfl (pC (re n p2 fG.1 M5 rO) _) EK;apply aY HO;refine go ?_;apply aR rfl (pC (nn n l15 I9.Code nY tZ) _) EJ;refine go ?_;exact lC ⟨true,nY,(IntKind.i64.wrap (iU+1)),J,rfl,rfl⟩;refine go ?_;rcases gB nE with⟨oR,nE⟩|⟨oR,nE⟩;exact gy nE;have⟨ER,mL,nE⟩:=aN nE;have⟨NN,oQ,nE⟩:=aN nE;have⟨BY,pS,nE⟩:=aN nE;cases nE;refine go ?_;apply aY mL;refine go ?_;apply aR rfl (pC (re n p2 ER.Name NN oQ) _) EK;refine go ?_;apply aR rfl (pC (mw n p2 NN p3 BY pS) _) KP;refine go ?_;exact xC ⟨rfl,rfl⟩;refine go ?_;exact xC ⟨vN,l15,J,rfl,rfl⟩
def lh(dG:Int)(iW:Int->M (Int)): M (Int):=
 iW (IntKind.i64.wrap (dG+1))
def Ho(p1:V bL)(n:Nat)(r2:(V dN)×Int)(r5:(V (V Xv)))(dG:Int)(iW:Int->M (Int)):Nat->Int->M (Int)
 |0,_=>none|m3+1,dP=>
  cond (decide (dP<(r5.length:Int))) (a8 (aC r5 dP) fun jC=>
   a8 (Rh n p1 r2.1 dG jC) fun Ev=>
   a8 (cond Ev.2 (some ((Ev.1.length:Int)==0)) (some false)) fun b34=>cond b34 (some 11) ((Ho p1 n r2 r5 dG iW m3) (IntKind.i64.wrap (dP+1)))) (lh dG iW)
def v_: M (Int):=
 some 0
def OJ(p1:V bL)(n:Nat)(r2:(V dN)×Int)(r5:(V (V Xv))):Nat->Int->M (Int)
 |0,_=>none|m2+1,dG=>cond (decide (dG<(r2.1.length:Int))) (Ho p1 n r2 r5 dG (OJ p1 n r2 r5 m2) n 0) (v_)
def li(p1:V bL)(n:Nat)(r2:(V dN)×Int)(r5:(V (V Xv))): M (Int):=
 OJ p1 n r2 r5 n 0
def Hq(p1:V bL)(n:Nat)(r2:(V dN)×Int)(r5:(V (V Xv))):Nat->Int->M (Int)
 |0,_=>none|m1+1,gX=>cond (decide (gX<(r5.length:Int))) (a8 (aC r5 gX) fun M1=>a8 (Ow n p1 M1) fun NK=>cond (!NK.2) (some 10) ((Hq p1 n r2 r5 m1) (IntKind.i64.wrap (gX+1)))) (li p1 n r2 r5)
def YH(n:Nat)(p1:V bL):M (Int):=
 a8 (S4 n p1) fun r2=>cond (r2.2 != 0) (some r2.2) (a8 (YE n p1) fun r5=>cond (decide ((r5.length:Int)>64)) (some 7) (a8 (uw n p1) fun r8=>cond (r8 != 0) (some r8) (Hq p1 n r2 r5 n 0)))
theorem qmx(n:Nat)(p1:V bL)(r:Int)(J:YH n p1=some r):cV prog 89 [.isl false (p1.map bV)] (.int .i64 r):=by apply jO 78 Bx;have⟨r2,h3,J⟩:=aN J;refine go ?_;apply aR rfl (pC (yu n p1 r2 h3) _) KQ;refine gF J ?_ ?_<;>intro h4 J;exact gx J;have⟨r5,h6,J⟩:=aN J;refine go ?_;apply aR rfl (pC (oi n p1 r5 h6) _) PQ;refine gF J ?_ ?_<;>intro h7 J;exact gx J;have⟨r8,h9,J⟩:=aN J;refine go ?_;apply aR rfl (pC (qkg n p1 r8 h9) _) UX;refine gF J ?_ ?_<;>intro eW J;exact gx J;refine go ?_;refine gL (fun m tm X=>∃gX,Hq p1 n r2 r5 m gX=some r/\tm=fr 78 [(0,.iM bV p1),(3,.iM gE r2.1),(5,.iM cS r5),(7,.i6 gX)]/\X=⟨[],0⟩) (fun tm X=>li p1 n r2 r5=some r/\tm=fr 78 [(0,.iM bV p1),(3,.iM gE r2.1),(5,.iM cS r5)]/\X=⟨[],0⟩) n ⟨0,J,rfl,rfl⟩ ?_ ?_;rintro _ _ ⟨J,rfl,rfl⟩;unfold li at J;refine go ?_;refine gL (fun m tm X=>∃dG,OJ p1 n r2 r5 m dG=some r/\tm=fr 78 [(0,.iM bV p1),(3,.iM gE r2.1),(5,.iM cS r5),(10,.i6 dG)]/\X=⟨[],0⟩) (fun tm X=>v_=some r/\tm=fr 78 []/\X=⟨[],0⟩) n ⟨0,J,rfl,rfl⟩ ?_ ?_;rintro _ _ ⟨J,rfl,rfl⟩;exact gx J;rintro(_|m2) _ _ ⟨dG,J,rfl,rfl⟩;cases J;refine gF J ?_ ?_<;>intro mM J;refine go ?_;apply aU;refine go ?_;refine gL (fun m tm X=>∃dP,Ho p1 n r2 r5 dG (OJ p1 n r2 r5 m2) m dP=some r/\tm=fr 78 [(0,.iM bV p1),(3,.iM gE r2.1),(5,.iM cS r5),(10,.i6 dG),(11,.i6 dP)]/\X=⟨[],0⟩) (fun tm X=>lh dG (OJ p1 n r2 r5 m2)=some r/\tm=fr 78 [(0,.iM bV p1),(3,.iM gE r2.1),(5,.iM cS r5),(10,.i6 dG)]/\X=⟨[],0⟩) n ⟨0,J,rfl,rfl⟩ ?_ ?_;rintro _ _ ⟨J,rfl,rfl⟩;unfold lh at J;refine go ?_;exact lC ⟨_,J,rfl,rfl⟩;rintro(_|m3) _ _ ⟨dP,J,rfl,rfl⟩;cases J;refine gF J ?_ ?_<;>intro oQ J;refine go ?_;apply aU;have⟨jC,pS,Ev,nE,J⟩:=bS J;refine go ?_;apply aY pS;refine go ?_;apply aR rfl (pC (qh9 n p1 r2.1 dG jC Ev nE) _) Bw;have⟨b34,rO,J⟩:=aN J;refine gn ?_;refine dJ (fun tm X=>tm=fr 78 [(0,.iM bV p1),(3,.iM gE r2.1),(5,.iM cS r5),(10,.i6 dG),(11,.i6 dP),(77,.bool b34)]/\X=⟨[],0⟩) ?_ ?_;rintro _ _ ⟨rfl,rfl⟩;refine gF J ?_ ?_<;>intro vK J;exact gx J;refine go ?_;exact lC ⟨_,J,rfl,rfl⟩;refine go ?_;rcases gB rO with⟨qQ,rO⟩|⟨qQ,rO⟩;exact gy rO;exact gy rO;refine go ?_;exact xC ⟨J,rfl,rfl⟩;refine go ?_;exact xC ⟨J,rfl,rfl⟩;rintro(_|m1) _ _ ⟨gX,J,rfl,rfl⟩;cases J;refine gF J ?_ ?_<;>intro HO J;refine go ?_;apply aU;have⟨M1,tZ,NK,PP,J⟩:=bS J;refine go ?_;apply aY tZ;refine go ?_;apply aR rfl (pC (qmy n p1 M1 NK PP) _) L6;refine gF J ?_ ?_<;>intro pR J;exact gx J;refine go ?_;exact lC ⟨_,J,rfl,rfl⟩;refine go ?_;exact xC ⟨J,rfl,rfl⟩
def h_: M (Int):=
 some (-1)
def Hh(p1:V dN)(n:Nat)(r3:(V Int)):Nat->Int->M (Int)
 |0,_=>none|m1+1,z8=>cond (decide (z8<(p1.length:Int))) (a8 (aC p1 z8) fun x10=>a8 (S2 n x10.Code r3) fun dD=>cond dD (some z8) ((Hh p1 n r3 m1) (IntKind.i64.wrap (z8+1)))) (h_)
def vq(n:Nat)(p1:V dN)(p2:V Int):M (Int):=
 a8 (MO n p2) fun r3=>
 Hh p1 n r3 n 0
theorem qwx(n:Nat)(p1:V dN)(p2:V Int)(r:Int)(J:vq n p1 p2=some r):cV prog 92 [.isl false (p1.map gE),.isl false (p2.map (cI .u64))] (.int .i64 r):=by apply fQ 23 Xn;have⟨r3,h4,J⟩:=aN J;apply(go);apply aR rfl (pC (ly n p2 r3 h4) _) AK;apply(go);refine gL (fun m tm X=>∃z8,Hh p1 n r3 m z8=some r/\tm=fr 23 [(0,.iM gE p1),(5,.iM (cI .u64) r3),(6,.i6 z8)]/\X=⟨[],0⟩) (fun tm X=>h_=some r/\tm=fr 23 []/\X=⟨[],0⟩) n ⟨0,J,rfl,rfl⟩ ?_ ?_;rintro _ _ ⟨J,rfl,rfl⟩;exact gx J;rintro(_|m1) _ _ ⟨z8,J,rfl,rfl⟩;cases J;refine gF J ?_ ?_<;>intro h9 J;apply(go);apply aU;have⟨x10,iT,dD,dC,J⟩:=bS J;apply(go);apply aY iT;apply(go);apply aR rfl (pC (oe n x10.Code r3 dD dC) _) EI;refine gF J ?_ ?_<;>intro i4 J;exact gx J;apply(go);exact lC ⟨_,J,rfl,rfl⟩;apply(go);exact xC ⟨J,rfl,rfl⟩
def Qj(wN:Int)(iW:Int->(V mS)->M ((V (V mS))×Int))(nC:V mS):M ((V (V mS))×Int):=
 iW (IntKind.i64.wrap (wN+1)) nC
def N_(gX:Int)(eR:V (V mS))(cA:Int->(V (V mS))->M ((V (V mS))×Int))(xB:V mS):M ((V (V mS))×Int):=
 aH ((eR.length+1)*24<=140737488355328/\eR.length+1<=140737488355328) (
 cA (IntKind.i64.wrap (gX+1)) (eR++[xB]))
def SL(p1:V bL)(n:Nat)(r5:(V dN)×Int)(r7:(V (V Xv)))(gX:Int)(eR:V (V mS))(cA:Int->(V (V mS))->M ((V (V mS))×Int)):Nat->Int->(V mS)->M ((V (V mS))×Int)
 |0,_,_=>none|m2+1,wN,eO=>
  cond (decide (wN<(r7.length:Int))) (a8 (aC r7 wN) fun jF=>
   a8 (Rh n p1 r5.1 gX jF) fun Mf=>cond Mf.2 (a8 (vq n r5.1 Mf.1) fun gZ=>
    aH ((eO.length+1)*16<=140737488355328/\eO.length+1<=140737488355328) (
    Qj wN (SL p1 n r5 r7 gX eR cA m2) (eO++[(mS.mk wN gZ)]))) (Qj wN (SL p1 n r5 r7 gX eR cA m2) eO)) (N_ gX eR cA eO)
def O_  (nU:V (V mS)):M ((V (V mS))×Int):=
 some (nU,0)
def MQ(p1:V bL)(n:Nat)(r5:(V dN)×Int)(r7:(V (V Xv))):Nat->Int->(V (V mS))->M ((V (V mS))×Int)
 |0,_,_=>none|m1+1,gX,eR=>cond (decide (gX<(r5.1.length:Int))) (SL p1 n r5 r7 gX eR (MQ p1 n r5 r7 m1) n 0 ([]:V mS)) (O_ eR)
def Pl(n:Nat)(p1:V bL):M ((V (V mS))×Int):=
 a8 (YH n p1) fun r2=>cond (r2 != 0) (some ([],r2)) (a8 (S4 n p1) fun r5=>
  a8 (YE n p1) fun r7=>
  MQ p1 n r5 r7 n 0 ([]:V (V mS)))
theorem qs7(n:Nat)(p1:V bL)(r:(V (V mS))×Int)(J:Pl n p1=some r):cV prog 59 [.isl false (p1.map bV)] (.tup [.isl false (r.1.map (cL uG)),.int .i64 r.2]):=by refine jO 63 Yc ?_;obtain⟨r2,h3,J⟩:=aN J;apply(go);refine aR rfl (pC (qmx n p1 r2 h3) _) Bx ?_;refine gF J ?_ ?_<;>intro h4 J;apply(go);obtain rfl:=sI J;exact rT (us:=[.nils,.i6 r2]) (u:=.tup [.isl false [],.i6 r2]) (dS rfl (dS rfl (d9))) wR;obtain⟨r5,h6,J⟩:=aN J;apply(go);refine aR rfl (pC (yu n p1 r5 h6) _) KQ ?_;obtain⟨r7,h8,J⟩:=aN J;apply(go);refine aR rfl (pC (oi n p1 r7 h8) _) PQ ?_;apply(gr);apply(gr);refine gV 8 130 1 1 ?_;refine gL (fun m tm X=>∃gX eR qY,MQ p1 n r5 r7 m gX eR=some r/\tm=fr 63 [(0,.iM bV p1),(5,.iM gE r5.1),(7,.iM cS r7),(8,.vl 0 qY 0 eR.length),(9,.i6 gX)]/\X=⟨[(0,.bv (cL uG) eR 130 1 qY)],1⟩) (fun tm X=>∃nU DH,O_ nU=some r/\tm=fr 63 [(8,.vl 0 DH 0 nU.length)]/\X=⟨[(0,.bv (cL uG) nU 130 1 DH)],1⟩) n ⟨0,([]:V (V mS)),0,J,rfl,rfl⟩ ?_ ?_;rintro _ _ ⟨nU,DH,J,rfl,rfl⟩;apply(go);obtain rfl:=sI J;exact rT (us:=[.vl 0 DH 0 nU.length,.i6 0]) (u:=.tup [.iM (cL uG) nU,.i6 0]) (dS rfl (dS rfl (d9))) (fR 0 1);rintro(_|m1) _ _ ⟨gX,eR,qY,J,rfl,rfl⟩;cases J;refine gF J ?_ ?_<;>intro pG J;apply(go);apply aU;apply(gr);apply(gr);refine gV 10 176 2 2 ?_;refine gL (fun m tm X=>∃wN eO sY,SL p1 n r5 r7 gX eR (MQ p1 n r5 r7 m1) m wN eO=some r/\tm=fr 63 [(0,.iM bV p1),(5,.iM gE r5.1),(7,.iM cS r7),(8,.vl 0 qY 0 eR.length),(9,.i6 gX),(10,.vl 1 sY 0 eO.length),(11,.i6 wN)]/\X=⟨[(1,.bv uG eO 176 2 sY),(0,.bv (cL uG) eR 130 1 qY)],2⟩) (fun tm X=>∃xB zp,N_ gX eR (MQ p1 n r5 r7 m1) xB=some r/\tm=fr 63 [(0,.iM bV p1),(5,.iM gE r5.1),(7,.iM cS r7),(8,.vl 0 qY 0 eR.length),(9,.i6 gX),(10,.vl 1 zp 0 xB.length)]/\X=⟨[(1,.bv uG xB 176 2 zp),(0,.bv (cL uG) eR 130 1 qY)],2⟩) n ⟨0,([]:V mS),0,J,rfl,rfl⟩ ?_ ?_;rintro _ _ ⟨xB,zp,J,rfl,rfl⟩;apply(gn);refine c9 (tm':=fr 63 [(0,.iM bV p1),(5,.iM gE r5.1),(7,.iM cS r7),(8,.vl 0 qY 0 eR.length),(9,.i6 gX),(10,.iM uG xB)]) (X':=⟨[(0,.bv (cL uG) eR 130 1 qY)],2⟩) (Gh.trans (Gh.sub (l':=[(0,.iM bV p1),(5,.iM gE r5.1),(7,.iM cS r7),(8,.vl 0 qY 0 eR.length),(9,.i6 gX),(10,.vl 1 zp 0 xB.length)]) ⟨rfl,rfl,rfl,rfl,rfl,rfl,trivial⟩) (HW 1 2)) NZ ?_;obtain⟨rO,J⟩:=d7 J;apply(go);refine bN ?_;refine bN ?_;apply(go);exact lC ⟨_,(eR++[xB]),(qY+1),J,rfl,rfl⟩;rintro(_|m2) _ _ ⟨wN,eO,sY,J,rfl,rfl⟩;cases J;refine gF J ?_ ?_<;>intro vK J;apply(go);apply aU;obtain⟨jF,kZ,Mf,sN,J⟩:=bS J;apply(go);refine aY kZ ?_;apply(go);refine aR rfl (pC (qh9 n p1 r5.1 gX jF Mf sN) _) Bw ?_;apply(gr);refine dJ (fun tm X=>∃nC DG,Qj wN (SL p1 n r5 r7 gX eR (MQ p1 n r5 r7 m1) m2) nC=some r/\tm=fr 63 [(0,.iM bV p1),(5,.iM gE r5.1),(7,.iM cS r7),(8,.vl 0 qY 0 eR.length),(9,.i6 gX),(10,.vl 1 DG 0 nC.length),(11,.i6 wN)]/\X=⟨[(1,.bv uG nC 176 2 DG),(0,.bv (cL uG) eR 130 1 qY)],2⟩) ?_ ?_;rintro _ _ ⟨nC,DG,J,rfl,rfl⟩;unfold Qj at J;apply(go);exact lC ⟨_,nC,DG,J,rfl,rfl⟩;refine cF J ?_ ?_<;>intro PP J;obtain⟨gZ,pQ,J⟩:=aN J;obtain⟨U5,J⟩:=d7 J;apply(go);refine aR rfl (pC (qwx n r5.1 Mf.1 gZ pQ) _) Xn ?_;apply(go);refine bN ?_;refine bN ?_;apply(go);exact xC ⟨(eO++[(mS.mk wN gZ)]),(sY+1),J,rfl,rfl⟩;apply(go);exact xC ⟨eO,sY,J,rfl,rfl⟩;apply(go);exact xC ⟨eO,sY,J,rfl,rfl⟩;apply(go);exact xC ⟨eR,qY,J,rfl,rfl⟩
def Qm(z8:Int)(cA:Int->(V Int)->M ((V Int)))(eO:V Int):M ((V Int)):=
 cA (IntKind.i64.wrap (z8+1)) eO
def ml(z8:Int)(l9:V Int)(cA:Int->(V Int)->M ((V Int)))(Zo:D1):M ((V Int)):=
 cond Zo (aH ((l9.length+1)*8<=140737488355328/\l9.length+1<=140737488355328) (
  Qm z8 cA (l9++[z8]))) (Qm z8 cA l9)
def YS(p1:V dN)(p2:Int)(n:Nat)(z8:Int)(l9:V Int)(cA:Int->(V Int)->M ((V Int))):Nat->D1->Int->M ((V Int))
 |0,_,_=>none|m2+1,Ds,D8=>cond (decide (D8<(p1.length:Int))) (a8 (cond Ds (cond (D8==p2) (some true) (cond (D8==z8) (some true) (a8 (YO n p1 z8 D8) fun nY=>cond (!nY) (some true) (a8 (YO n p1 D8 p2) fun pY=>some (!pY))))) (some false)) fun y7=>(YS p1 p2 n z8 l9 cA m2) y7 (IntKind.i64.wrap (D8+1))) (ml z8 l9 cA Ds)
def P_  (dF:V Int):M ((V Int)):=
 some dF
def HG(p1:V dN)(p2:Int)(n:Nat):Nat->Int->(V Int)->M ((V Int))
 |0,_,_=>none|m1+1,z8,l9=>cond (decide (z8<(p1.length:Int))) (a8 (cond (z8==p2) (some true) (a8 (YO n p1 z8 p2) fun tC=>some (!tC))) fun vM=>cond vM ((HG p1 p2 n m1) (IntKind.i64.wrap (z8+1)) l9) (YS p1 p2 n z8 l9 (HG p1 p2 n m1) n true 0)) (P_ l9)
def yb(n:Nat)(p1:V dN)(p2:Int):M ((V Int)):=
 HG p1 p2 n n 0 ([]:V Int)
theorem qs4(n:Nat)(p1:V dN)(p2:Int)(r:(V Int))(J:yb n p1 p2=some r):cV prog 61 [.isl false (p1.map gE),.int .i64 p2] (.isl false (r.map (cI .i64))):=by
 unfold yb at J;refine fQ 62 Yb ?_;refine gr ?_;refine gr ?_;refine gr ?_;refine gV 5 3 1 1 ?_;refine gL (fun m tm X=>∃z8 l9 cN,HG p1 p2 n m z8 l9=some r/\tm=fr 62 [(0,.iM gE p1),(1,.i6 p2),(5,.vl 0 cN 0 l9.length),(6,.i6 z8)]/\X=⟨FG l9 cN,1⟩) (fun tm X=>∃dF gD,P_ dF=some r/\tm=fr 62 [(5,.vl 0 gD 0 dF.length)]/\X=⟨FG dF gD,1⟩) n ⟨0,([]:V Int),0,J,rfl,rfl⟩ ?_ ?_;rintro _ _ ⟨dF,gD,J,rfl,rfl⟩;refine go ?_;obtain rfl:=sI J;exact rT (us:=[.vl 0 gD 0 dF.length]) (u:=.iM (cI .i64) dF) (dS rfl (d9)) (fR 0 1);rintro(_|m1) _ _ ⟨z8,l9,cN,J,rfl,rfl⟩;cases J;refine gF J ?_ ?_<;>intro dC J;refine go ?_;apply aU;obtain⟨vM,dB,J⟩:=aN J;refine gn ?_;refine dJ (fun tm X=>tm=fr 62 [(0,.iM gE p1),(1,.i6 p2),(5,.vl 0 cN 0 l9.length),(6,.i6 z8),(24,.bool vM)]/\X=⟨FG l9 cN,1⟩) ?_ ?_;rintro _ _ ⟨rfl,rfl⟩;refine gF J ?_ ?_<;>intro j8 J;refine go ?_;exact lC ⟨_,l9,cN,J,rfl,rfl⟩;refine go ?_;refine gL (fun m tm X=>∃Ds D8,YS p1 p2 n z8 l9 (HG p1 p2 n m1) m Ds D8=some r/\tm=fr 62 [(0,.iM gE p1),(1,.i6 p2),(5,.vl 0 cN 0 l9.length),(6,.i6 z8),(7,.bool Ds),(8,.i6 D8)]/\X=⟨FG l9 cN,1⟩) (fun tm X=>∃Zo,ml z8 l9 (HG p1 p2 n m1) Zo=some r/\tm=fr 62 [(0,.iM gE p1),(1,.i6 p2),(5,.vl 0 cN 0 l9.length),(6,.i6 z8),(7,.bool Zo)]/\X=⟨FG l9 cN,1⟩) n ⟨true,0,J,rfl,rfl⟩ ?_ ?_;rintro _ _ ⟨Zo,J,rfl,rfl⟩;unfold ml at J;refine gr ?_;refine dJ (fun tm X=>∃eO sY,Qm z8 (HG p1 p2 n m1) eO=some r/\tm=fr 62 [(0,.iM gE p1),(1,.i6 p2),(5,.vl 0 sY 0 eO.length),(6,.i6 z8)]/\X=⟨FG eO sY,1⟩) ?_ ?_;rintro _ _ ⟨eO,sY,J,rfl,rfl⟩;unfold Qm at J;refine go ?_;exact lC ⟨_,eO,sY,J,rfl,rfl⟩;refine cF J ?_ ?_<;>intro pS J;obtain⟨qQ,J⟩:=d7 J;refine go ?_;refine bN ?_;refine bN ?_;refine go ?_;exact xC ⟨(l9++[z8]),(cN+1),J,rfl,rfl⟩;refine go ?_;exact xC ⟨l9,cN,J,rfl,rfl⟩;rintro(_|m2) _ _ ⟨Ds,D8,J,rfl,rfl⟩;cases J;refine gF J ?_ ?_<;>intro mW J;refine go ?_;apply aU;obtain⟨y7,eV,J⟩:=aN J;refine gn ?_;refine dJ (fun tm X=>tm=fr 62 [(0,.iM gE p1),(1,.i6 p2),(5,.vl 0 cN 0 l9.length),(6,.i6 z8),(7,.bool y7),(8,.i6 D8)]/\X=⟨FG l9 cN,1⟩) ?_ ?_;rintro _ _ ⟨rfl,rfl⟩;refine go ?_;exact lC ⟨y7,(IntKind.i64.wrap (D8+1)),J,rfl,rfl⟩;refine go ?_;rcases gB eV with⟨rO,eV⟩|⟨rO,eV⟩;refine go ?_;rcases gB eV with⟨vK,eV⟩|⟨vK,eV⟩;exact gy eV;refine go ?_;rcases gB eV with⟨HO,eV⟩|⟨HO,eV⟩;exact gy eV;obtain⟨nY,tZ,eV⟩:=aN eV;refine go ?_;refine aR rfl (pC (mw n p1 z8 D8 nY tZ) _) KP ?_;refine go ?_;rcases gB eV with⟨sN,eV⟩|⟨sN,eV⟩;exact gy eV;obtain⟨pY,pR,eV⟩:=aN eV;obtain rfl:=sI eV;refine go ?_;refine aR rfl (pC (mw n p1 D8 p2 pY pR) _) KP ?_;refine go ?_;exact xC ⟨rfl,rfl⟩;obtain rfl:=sI eV;refine go ?_
 repeat refine RS.no (IU rfl rfl rfl) rfl rfl ?_
 refine go ?_
 repeat refine RS.no (IU rfl rfl rfl) rfl rfl ?_
 refine go ?_
 repeat refine RS.no (IU rfl rfl rfl) rfl rfl ?_
 refine go ?_;exact xC ⟨rfl,rfl⟩;refine go ?_;exact xC ⟨Ds,J,rfl,rfl⟩;refine go ?_;rcases gB dB with⟨i4,dB⟩|⟨i4,dB⟩;exact gy dB;obtain⟨tC,pH,dB⟩:=aN dB;obtain rfl:=sI dB;refine go ?_;refine aR rfl (pC (mw n p1 z8 p2 tC pH) _) KP ?_;refine go ?_;exact xC ⟨rfl,rfl⟩;refine go ?_;exact xC ⟨l9,cN,J,rfl,rfl⟩
def b?  (nU:V eJ):M ((V eJ)×Int):=
 some (nU,0)
def Ig(p1:V bL)(n:Nat)(r5:(V dN)×Int)(r7:(V (V Xv))):Nat->Int->(V eJ)->M ((V eJ)×Int)
 |0,_,_=>none|m1+1,gX,eR=>
  cond (decide (gX<(r7.length:Int))) (a8 (aC r7 gX) fun pV=>
   a8 (Ow n p1 pV) fun sZ=>
   a8 (aC r7 gX) fun ER=>
   a8 (Gw n r5.1 sZ.1) fun NN=>
   aH ((eR.length+1)*24<=140737488355328/\eR.length+1<=140737488355328) ((Ig p1 n r5 r7 m1) (IntKind.i64.wrap (gX+1)) (eR++[(eJ.mk ER NN)]))) (b? eR)
def ud(n:Nat)(p1:V bL):M ((V eJ)×Int):=
 a8 (YH n p1) fun r2=>cond (r2 != 0) (some ([],r2)) (a8 (S4 n p1) fun r5=>
  a8 (YE n p1) fun r7=>
  Ig p1 n r5 r7 n 0 ([]:V eJ))
theorem qp9(n:Nat)(p1:V bL)(r:(V eJ)×Int)(J:ud n p1=some r):cV prog 62 [.isl false (p1.map bV)] (.tup [.isl false (r.1.map gN),.int .i64 r.2]):=by apply jO 51 Ya;have⟨r2,h3,J⟩:=aN J;apply(go);apply aR rfl (pC (qmx n p1 r2 h3) _) Bx;refine gF J ?_ ?_<;>intro h4 J;apply(go);cases J;exact rT (us:=[.nils,.i6 r2]) (u:=.tup [.isl false [],.i6 r2]) (dS rfl (dS rfl (d9))) wR;have⟨r5,h6,J⟩:=aN J;apply(go);apply aR rfl (pC (yu n p1 r5 h6) _) KQ;have⟨r7,h8,J⟩:=aN J;apply(go);apply aR rfl (pC (oi n p1 r7 h8) _) PQ;apply(gr);apply(gr);apply gV 8 187 2 1;refine gL (fun m tm X=>∃gX eR qY,Ig p1 n r5 r7 m gX eR=some r/\tm=fr 51 [(0,.iM bV p1),(5,.iM gE r5.1),(7,.iM cS r7),(8,.vl 0 qY 0 eR.length),(9,.i6 gX)]/\X=⟨[(0,.bv gN eR 187 2 qY)],1⟩) (fun tm X=>∃nU DH,b? nU=some r/\tm=fr 51 [(8,.vl 0 DH 0 nU.length)]/\X=⟨[(0,.bv gN nU 187 2 DH)],1⟩) n ⟨0,([]:V eJ),0,J,rfl,rfl⟩ ?_ ?_;rintro _ _ ⟨nU,DH,J,rfl,rfl⟩;apply(go);cases J;exact rT (us:=[.vl 0 DH 0 nU.length,.i6 0]) (u:=.tup [.iM gN nU,.i6 0]) (dS rfl (dS rfl (d9))) (fR 0 2);rintro(_|m1) _ _ ⟨gX,eR,qY,J,rfl,rfl⟩;cases J;refine gF J ?_ ?_<;>intro pG J;apply(go);apply aU;have⟨pV,oA,sZ,oR,J⟩:=bS J;apply(go);apply aY oA;apply(go);refine aR rfl (pC (qmy n p1 pV sZ oR) _) L6 ?_;obtain⟨ER,mL,NN,oQ,J⟩:=bS J;obtain⟨pF,J⟩:=d7 J;apply(go);refine dE [(0,9)] ?_;apply(gd);refine c8 mL ?_;apply(gd);refine fC rfl (pC (re n r5.1 sZ.1 NN oQ)) EK ?_;apply(gd);refine dZ ?_;refine dZ ?_;apply(gd);refine bC ⟨by kernel_rfl,⟨i7 rfl,trivial⟩,?_⟩;apply(go);exact lC ⟨_,(eR++[(eJ.mk ER NN)]),(qY+1),J,rfl,rfl⟩;apply(go);exact xC ⟨eR,qY,J,rfl,rfl⟩
def T_(p1:V bL)(n:Nat)(eR:V dM):M (cZ×Int):=
 a8 (ud n p1) fun fN=>some ((cZ.mk eR fN.1),0)
def Ib(p1:V bL)(n:Nat)(r2:(V (V mS))×Int)(r5:(V dN)×Int):Nat->Int->(V dM)->M (cZ×Int)
 |0,_,_=>none|m1+1,I7,gO=>
  cond (decide (I7<(r5.1.length:Int))) (a8 (aC r5.1 I7) fun pV=>
   a8 (aC r5.1 I7) fun BT=>
   a8 (yb n r5.1 I7) fun jR=>
   a8 (aC r2.1 I7) fun rW=>
   aH ((gO.length+1)*88<=140737488355328/\gO.length+1<=140737488355328) ((Ib p1 n r2 r5 m1) (IntKind.i64.wrap (I7+1)) (gO++[(dM.mk pV.Name BT.Code jR rW)]))) (T_ p1 n gO)
def S9(n:Nat)(p1:V bL):M (cZ×Int):=
 a8 (Pl n p1) fun r2=>cond (r2.2 != 0) (some ((cZ.mk [] []),r2.2)) (a8 (S4 n p1) fun r5=>Ib p1 n r2 r5 n 0 ([]:V dM))
theorem rh(n:Nat)(p1:V bL)(r:cZ×Int)(J:S9 n p1=some r):cV prog 31 [.isl false (p1.map bV)] (.tup [.agg (g7 r.1),.int .i64 r.2]):=by apply jO 63 PW;have⟨r2,h3,J⟩:=aN J;apply(go);apply aR rfl (pC (qs7 n p1 r2 h3) _) Yc;refine gF J ?_ ?_<;>intro h4 J;apply(go);cases J;exact rT (us:=[.agg [.nils,.nils],.i6 r2.2]) (u:=.tup [.agg [.isl false [],.isl false []],.i6 r2.2]) (lV (jA uU.h rfl (aX CC.h) rfl rfl rfl) (dS rfl (d9))) wR;have⟨r5,h6,J⟩:=aN J;apply(go);apply aR rfl (pC (yu n p1 r5 h6) _) KQ;apply(gr);apply(gr);apply c9 (tm':=fr 63 [(0,.iM bV p1),(2,.ptr 0 0 0),(4,.iM (cL uG) r2.1),(6,.iM gE r5.1),(8,.ptr 1 0 0),(9,.i6 0)]) (X':=⟨[(2,.bv fK ([]:V dM) 132 4 0),(1,.row [.vl 2 0 0 (([]:V dM).length),.nils] 27),(0,.row [.nils,.nils] 27)],3⟩) (Gh.trans (vP 1 0 132 4 (by decide) NZ rfl rfl) (mX ⟨rfl,rfl,rfl,rfl,rfl,rfl,trivial⟩ rfl)) NZ;refine gL (fun m tm X=>∃I7 gO IN,Ib p1 n r2 r5 m I7 gO=some r/\tm=fr 63 [(0,.iM bV p1),(2,.ptr 0 0 0),(4,.iM (cL uG) r2.1),(6,.iM gE r5.1),(8,.ptr 1 0 0),(9,.i6 I7)]/\X=⟨[(2,.bv fK gO 132 4 IN),(1,.row [.vl 2 IN 0 gO.length,.nils] 27),(0,.row [.nils,.nils] 27)],3⟩) (fun tm X=>∃eR qY,T_ p1 n eR=some r/\tm=fr 63 [(0,.iM bV p1),(2,.ptr 0 0 0),(8,.ptr 1 0 0)]/\X=⟨[(2,.bv fK eR 132 4 qY),(1,.row [.vl 2 qY 0 eR.length,.nils] 27),(0,.row [.nils,.nils] 27)],3⟩) n ⟨0,([]:V dM),0,J,rfl,rfl⟩ ?_ ?_;rintro _ _ ⟨eR,qY,J,rfl,rfl⟩;have⟨fN,j8,J⟩:=aN J;apply(go);apply aR rfl (pC (qp9 n p1 fN j8) _) Ya;apply(go);cases J;exact rT (us:=[.agg [.vl 2 qY 0 eR.length,.iM gN fN.1],.i6 0]) (u:=.tup [.agg [.iM fK eR,.iM gN fN.1],.i6 0]) (lV (jA uU.h rfl (aX CC.h) rfl rfl rfl) (dS rfl (d9))) (fR 2 4);rintro(_|m1) _ _ ⟨I7,gO,IN,J,rfl,rfl⟩;cases J;refine gF J ?_ ?_<;>intro pG J;apply(go);apply aU;have⟨pV,oA,BT,oR,jR,mL,rW,oQ,J⟩:=rF J;have⟨pF,J⟩:=d7 J;apply(go);refine dE [(0,20),(1,20)] ?_;apply(gd);refine c8 oA ?_;apply(gd);refine c8 oR ?_;apply(gd);refine fC rfl (pC (qs4 n r5.1 I7 jR mL)) Yb ?_;apply(gd);refine c8 oQ ?_;apply(gd);refine dZ ?_;refine dZ ?_;apply(gd);refine qU ?_;refine bC ⟨by kernel_rfl,⟨j5 uU.h rfl (aX ZY.h) rfl rfl rfl,⟨nQ IC.h rfl rfl rfl rfl,trivial⟩⟩,?_⟩;apply(go);exact lC ⟨_,(gO++[(dM.mk pV.Name BT.Code jR rW)]),(IN+1),J,rfl,rfl⟩;apply(go);exact xC ⟨gO,IN,J,rfl,rfl⟩
def ql6(n:Nat): M (cZ):=
 a8 (S9 n ([(bL.mk ([116,111,112]) [] ([(oZ.mk ([70]) ([116,111,112])),(oZ.mk ([71]) ([116,111,112]))])),(bL.mk ([120]) ([[116,111,112]]) []),(bL.mk ([121]) ([[116,111,112]]) [])])) fun r1=>some (cZ.mk r1.1.Types r1.1.Feats)
theorem qtu(n:Nat)(r:cZ)(J:ql6 n  = some r):cV prog 33 [] (.agg (g7 r)):=by refine bg0 17 Yo ?_;obtain⟨r1,h2,J⟩:=aN J;apply(go);refine aO (u:=.sl 1 0 2 2) (X':=⟨z02,2⟩) rfl (tH IF.h TG.h rfl rfl rfl rfl rfl rfl rfl) ?_;apply(go);refine bN ?_;apply(go);refine bN ?_;apply(go);refine aO (u:=.sl 4 0 3 3) (X':=⟨(4,.row [.str ([116,111,112]),.nils,.sl 1 0 2 2,.str ([120]),.sl 2 0 1 1,.nils,.str ([121]),.sl 3 0 1 1,.nils] 138)::(3,.row [.str ([116,111,112])] 9)::(2,.row [.str ([116,111,112])] 9)::z02,5⟩) rfl (tH Lo.h zP.h rfl rfl rfl rfl rfl rfl rfl) (GH rfl (Gh.trans (lQ 1 2) (Gh.trans (lQ 2 1) (Gh.trans (lQ 3 1) (Gh.trans (Gh.rowC 4) (lQ 4 3))))) (pC (rh n ([(bL.mk ([116,111,112]) [] ([(oZ.mk ([70]) ([116,111,112])),(oZ.mk ([71]) ([116,111,112]))])),(bL.mk ([120]) ([[116,111,112]]) []),(bL.mk ([121]) ([[116,111,112]]) [])]) r1 h2) _) PW ?_);apply(go);cases J;exact rT (lV (jA uU.h rfl (aX CC.h) rfl rfl rfl) (d9)) (pU _ rfl)
def qic(p1:V Xv)(p2:V Xv)(l15:V oZ):M (bL):=
 some (bL.mk p1 ([p2]) l15)
def d_(p1:V Xv)(p2:V Xv)(p3:V (V Xv)):Nat->Int->(V oZ)->M (bL)
 |0,_,_=>none|m1+1,dY,c7=>
  cond (decide ((IntKind.i64.wrap (dY+1))<(p3.length:Int))) (a8 (aC p3 dY) fun GR=>
   a8 (aC p3 (IntKind.i64.wrap (dY+1))) fun nI=>
   aH ((c7.length+1)*32<=140737488355328/\c7.length+1<=140737488355328) ((d_ p1 p2 p3 m1) (IntKind.i64.wrap (dY+2)) (c7++[(oZ.mk GR nI)]))) (qic p1 p2 c7)
def qid(p1:V Xv)(jU:V oZ):M (bL):=
 some (bL.mk p1 [] jU)
def c_(p1:V Xv)(p3:V (V Xv)):Nat->Int->(V oZ)->M (bL)
 |0,_,_=>none|m2+1,pI,eU=>
  cond (decide ((IntKind.i64.wrap (pI+1))<(p3.length:Int))) (a8 (aC p3 pI) fun Ek=>
   a8 (aC p3 (IntKind.i64.wrap (pI+1))) fun jF=>
   aH ((eU.length+1)*32<=140737488355328/\eU.length+1<=140737488355328) ((c_ p1 p3 m2) (IntKind.i64.wrap (pI+2)) (eU++[(oZ.mk Ek jF)]))) (qid p1 eU)
def DX(n:Nat)(p1:V Xv)(p2:V Xv)(p3:V (V Xv)):M (bL):=
 cond (!lW p2 []) (d_ p1 p2 p3 n 0 ([]:V oZ)) (c_ p1 p3 n 0 ([]:V oZ))
theorem FL(n:Nat)(p1:V Xv)(p2:V Xv)(p3:V (V Xv))(r:bL)(J:DX n p1 p2 p3=some r):cV prog 63 [.str p1,.str p2,.isl false (p3.map cS)] (.agg (bV r)):=by refine D2 39 oS ?_;apply(go);refine aO (u:=.bool (!lW p2 [])) rfl (H3 rfl rfl rfl rfl) ?_;refine gF J ?_ ?_<;>intro h4 J;apply(go);refine bN ?_;apply(gr);refine c9 (tm':=fr 39 [(2,.iM cS p3),(6,.ptr 0 0 0),(7,.ptr 1 0 0),(8,.i6 0)]) (X':=⟨(3,.bv lX ([]:V oZ) 141 2 0)::(2,.row [.str p2] 9)::(1,.row [.str p1,.sl 2 0 1 1,.vl 3 0 0 (([]:V oZ).length)] 138)::Gb,4⟩) (Gh.trans (vP 1 2 141 2 (by decide) NZ rfl rfl) (mX ⟨rfl,rfl,rfl,rfl,trivial⟩ rfl)) NZ ?_;refine gL (fun m tm X=>∃dY c7 fA,d_ p1 p2 p3 m dY c7=some r/\tm=fr 39 [(2,.iM cS p3),(6,.ptr 0 0 0),(7,.ptr 1 0 0),(8,.i6 dY)]/\X=⟨(3,.bv lX c7 141 2 fA)::(2,.row [.str p2] 9)::(1,.row [.str p1,.sl 2 0 1 1,.vl 3 fA 0 c7.length] 138)::Gb,4⟩) (fun tm X=>∃l15 fE,qic p1 p2 l15=some r/\tm=fr 39 [(6,.ptr 0 0 0),(7,.ptr 1 0 0)]/\X=⟨(3,.bv lX l15 141 2 fE)::(2,.row [.str p2] 9)::(1,.row [.str p1,.sl 2 0 1 1,.vl 3 fE 0 l15.length] 138)::Gb,4⟩) n ⟨0,([]:V oZ),0,J,rfl,rfl⟩ ?_ ?_;rintro _ _ ⟨l15,fE,J,rfl,rfl⟩;apply(go);obtain rfl:=sI J;exact⟨.inr rfl,[.agg [.str p1,.sl 2 0 1 1,.vl 3 fE 0 l15.length]],lV (jA yG.h rfl (aX zP.h) rfl rfl rfl) (d9),.agg [.str p1,.iM cS ([p2]),.iM lX l15],⟨[],0⟩,zF _,Gh.trans (lQ 2 1) (Gh.trans (lQ 3 2) (pU (.agg [.str p1,.iM cS ([p2]),.iM lX l15]) rfl)),rfl,BU.h⟩;rintro(_|m1) _ _ ⟨dY,c7,fA,J,rfl,rfl⟩;cases J;refine gF J ?_ ?_<;>intro fI J;apply(go);apply aU;obtain⟨GR,j8,nI,mM,J⟩:=bS J;obtain⟨oA,J⟩:=d7 J;apply(go);refine dE [(0,12),(1,12)] ?_;apply(gd);refine c8 j8 ?_;apply(gd);refine c8 mM ?_;apply(gd);refine dZ ?_;refine dZ ?_;apply(gd);refine qU ?_;refine bC ⟨by kernel_rfl,⟨j5 yG.h rfl (aX TH.h) rfl rfl rfl,⟨nQ IF.h rfl rfl rfl rfl,trivial⟩⟩,?_⟩;apply(go);exact lC ⟨_,(c7++[(oZ.mk GR nI)]),(fA+1),J,rfl,rfl⟩;apply(go);exact xC ⟨c7,fA,J,rfl,rfl⟩;apply(gr);refine c9 (tm':=fr 39 [(2,.iM cS p3),(6,.ptr 0 0 0),(7,.ptr 1 0 0),(8,.i6 0)]) (X':=⟨(2,.bv lX ([]:V oZ) 141 2 0)::(1,.row [.str p1,.nils,.vl 2 0 0 (([]:V oZ).length)] 138)::Gb,3⟩) (Gh.trans (vP 1 2 141 2 (by decide) NZ rfl rfl) (mX ⟨rfl,rfl,rfl,rfl,trivial⟩ rfl)) NZ ?_;refine gL (fun m tm X=>∃pI eU IK,c_ p1 p3 m pI eU=some r/\tm=fr 39 [(2,.iM cS p3),(6,.ptr 0 0 0),(7,.ptr 1 0 0),(8,.i6 pI)]/\X=⟨(2,.bv lX eU 141 2 IK)::(1,.row [.str p1,.nils,.vl 2 IK 0 eU.length] 138)::Gb,3⟩) (fun tm X=>∃jU nK,qid p1 jU=some r/\tm=fr 39 [(6,.ptr 0 0 0),(7,.ptr 1 0 0)]/\X=⟨(2,.bv lX jU 141 2 nK)::(1,.row [.str p1,.nils,.vl 2 nK 0 jU.length] 138)::Gb,3⟩) n ⟨0,([]:V oZ),0,J,rfl,rfl⟩ ?_ ?_;rintro _ _ ⟨jU,nK,J,rfl,rfl⟩;apply(go);obtain rfl:=sI J;exact⟨.inr rfl,[.agg [.str p1,.nils,.vl 2 nK 0 jU.length]],lV (jA yG.h rfl (aX zP.h) rfl rfl rfl) (d9),.agg [.str p1,.isl false [],.iM lX jU],⟨[],0⟩,zF _,Gh.trans (lQ 2 2) (Gh.trans (Gh.wk (.cons (.agg (.cons (.refl _) (.cons (.nil false) (.cons (.refl _) .nil)))) .nil)) (pU (.agg [.str p1,.isl false [],.iM lX jU]) rfl)),rfl,BU.h⟩;rintro(_|m2) _ _ ⟨pI,eU,IK,J,rfl,rfl⟩;cases J;refine gF J ?_ ?_<;>intro mW J;apply(go);apply aU;obtain⟨Ek,vK,jF,kZ,J⟩:=bS J;obtain⟨tZ,J⟩:=d7 J;apply(go);refine dE [(0,12),(1,12)] ?_;apply(gd);refine c8 vK ?_;apply(gd);refine c8 kZ ?_;apply(gd);refine dZ ?_;refine dZ ?_;apply(gd);refine qU ?_;refine bC ⟨by kernel_rfl,⟨j5 yG.h rfl (aX TH.h) rfl rfl rfl,⟨nQ IF.h rfl rfl rfl rfl,trivial⟩⟩,?_⟩;apply(go);exact lC ⟨_,(eU++[(oZ.mk Ek jF)]),(IK+1),J,rfl,rfl⟩;apply(go);exact xC ⟨eU,IK,J,rfl,rfl⟩
def mh(n:Nat): M ((V bL)):=
 a8 (DX n ([116,111,112]) [] []) fun r1=>
 a8 (DX n ([108,105,115,116]) ([116,111,112]) []) fun r3=>
 a8 (DX n ([99,111,110,115]) ([108,105,115,116]) ([[70,73,82,83,84],[116,111,112],[82,69,83,84],[108,105,115,116]])) fun r5=>
 a8 (DX n ([110,117,108,108]) ([108,105,115,116]) []) fun r7=>
 a8 (DX n ([100,108,105,115,116]) ([116,111,112]) ([[76,73,83,84],[108,105,115,116],[76,65,83,84],[108,105,115,116]])) fun r9=>
 a8 (DX n ([105,110,100,101,120]) ([116,111,112]) []) fun rC=>
 a8 (DX n ([104,97,110,100,108,101]) ([105,110,100,101,120]) []) fun gG=>
 a8 (DX n ([101,118,101,110,116]) ([105,110,100,101,120]) []) fun tC=>
 a8 (DX n ([101,110,116,105,116,121]) ([105,110,100,101,120]) []) fun jK=>
 a8 (DX n ([114,101,108]) ([116,111,112]) ([[76,65,66,69,76],[104,97,110,100,108,101]])) fun xT=>
 a8 (DX n ([113,101,113]) ([116,111,112]) ([[72,73,71,72],[104,97,110,100,108,101],[76,79,87],[104,97,110,100,108,101]])) fun IT=>
 a8 (DX n ([115,101,109]) ([116,111,112]) ([[84,79,80],[104,97,110,100,108,101],[73,78,68,69,88],[105,110,100,101,120],[82,69,76,83],[100,108,105,115,116],[67,79,78,83],[100,108,105,115,116]])) fun sZ=>
 a8 (DX n ([115,105,103,110]) ([116,111,112]) ([[83,69,77],[115,101,109],[65,82,71,83],[108,105,115,116]])) fun jR=>some ([r1,r3,r5,r7,r9,rC,gG,tC,jK,xT,IT,sZ,jR])
theorem qrd(n:Nat)(r:(V bL))(J:mh n  = some r):cV prog 32 [] (.isl false (r.map bV)):=by refine bg0 21 Yp ?_;obtain⟨r1,h2,r3,h4,r5,h6,r7,h8,J⟩:=rF J;obtain⟨r9,eW,rC,dK,gG,i4,tC,pH,J⟩:=rF J;obtain⟨jK,dB,xT,pG,IT,oA,sZ,oR,J⟩:=rF J;obtain⟨jR,mL,J⟩:=aN J;apply(go);refine aR rfl (LO (args':=[.str ([116,111,112]),.str [],.isl false []]) (.cons (.refl _) (.cons (.refl _) (.cons (.nil false) .nil))) (pC (FL n ([116,111,112]) [] [] r1 h2)) _) oS (aR rfl (LO (args':=[.str ([108,105,115,116]),.str ([116,111,112]),.isl false []]) (.cons (.refl _) (.cons (.refl _) (.cons (.nil false) .nil))) (pC (FL n ([108,105,115,116]) ([116,111,112]) [] r3 h4)) _) oS ?_);refine bN ?_;refine GH rfl (lQ 0 1) (pC (FL n ([99,111,110,115]) ([108,105,115,116]) ([[70,73,82,83,84],[116,111,112],[82,69,83,84],[108,105,115,116]]) r5 h6) _) oS (aR rfl (LO (args':=[.str ([110,117,108,108]),.str ([108,105,115,116]),.isl false []]) (.cons (.refl _) (.cons (.refl _) (.cons (.nil false) .nil))) (pC (FL n ([110,117,108,108]) ([108,105,115,116]) [] r7 h8)) _) oS ?_);refine bN ?_;refine GH rfl (lQ 1 1) (pC (FL n ([100,108,105,115,116]) ([116,111,112]) ([[76,73,83,84],[108,105,115,116],[76,65,83,84],[108,105,115,116]]) r9 eW) _) oS (aR rfl (LO (args':=[.str ([105,110,100,101,120]),.str ([116,111,112]),.isl false []]) (.cons (.refl _) (.cons (.refl _) (.cons (.nil false) .nil))) (pC (FL n ([105,110,100,101,120]) ([116,111,112]) [] rC dK)) _) oS (aR rfl (LO (args':=[.str ([104,97,110,100,108,101]),.str ([105,110,100,101,120]),.isl false []]) (.cons (.refl _) (.cons (.refl _) (.cons (.nil false) .nil))) (pC (FL n ([104,97,110,100,108,101]) ([105,110,100,101,120]) [] gG i4)) _) oS (aR rfl (LO (args':=[.str ([101,118,101,110,116]),.str ([105,110,100,101,120]),.isl false []]) (.cons (.refl _) (.cons (.refl _) (.cons (.nil false) .nil))) (pC (FL n ([101,118,101,110,116]) ([105,110,100,101,120]) [] tC pH)) _) oS (aR rfl (LO (args':=[.str ([101,110,116,105,116,121]),.str ([105,110,100,101,120]),.isl false []]) (.cons (.refl _) (.cons (.refl _) (.cons (.nil false) .nil))) (pC (FL n ([101,110,116,105,116,121]) ([105,110,100,101,120]) [] jK dB)) _) oS ?_))));refine bN ?_;refine GH rfl (lQ 2 1) (pC (FL n ([114,101,108]) ([116,111,112]) ([[76,65,66,69,76],[104,97,110,100,108,101]]) xT pG) _) oS ?_;refine bN ?_;refine GH rfl (lQ 3 1) (pC (FL n ([113,101,113]) ([116,111,112]) ([[72,73,71,72],[104,97,110,100,108,101],[76,79,87],[104,97,110,100,108,101]]) IT oA) _) oS (aO (u:=.sl 4 0 8 8) (X':=⟨[(4,.row [.str ([84,79,80]),.str ([104,97,110,100,108,101]),.str ([73,78,68,69,88]),.str ([105,110,100,101,120]),.str ([82,69,76,83]),.str ([100,108,105,115,116]),.str ([67,79,78,83]),.str ([100,108,105,115,116])] 9)],5⟩) rfl (tH kR.h JU.h rfl rfl rfl rfl rfl rfl rfl) (GH rfl (lQ 4 1) (pC (FL n ([115,101,109]) ([116,111,112]) ([[84,79,80],[104,97,110,100,108,101],[73,78,68,69,88],[105,110,100,101,120],[82,69,76,83],[100,108,105,115,116],[67,79,78,83],[100,108,105,115,116]]) sZ oR) _) oS ?_));refine bN ?_;refine GH rfl (lQ 5 1) (pC (FL n ([115,105,103,110]) ([116,111,112]) ([[83,69,77],[115,101,109],[65,82,71,83],[108,105,115,116]]) jR mL) _) oS (aO (u:=.sl 6 0 13 13) (X':=⟨[(6,.row [.str r1.Name,.iM cS r1.Supers,.iM lX r1.Feats,.str r3.Name,.iM cS r3.Supers,.iM lX r3.Feats,.str r5.Name,.iM cS r5.Supers,.iM lX r5.Feats,.str r7.Name,.iM cS r7.Supers,.iM lX r7.Feats,.str r9.Name,.iM cS r9.Supers,.iM lX r9.Feats,.str rC.Name,.iM cS rC.Supers,.iM lX rC.Feats,.str gG.Name,.iM cS gG.Supers,.iM lX gG.Feats,.str tC.Name,.iM cS tC.Supers,.iM lX tC.Feats,.str jK.Name,.iM cS jK.Supers,.iM lX jK.Feats,.str xT.Name,.iM cS xT.Supers,.iM lX xT.Feats,.str IT.Name,.iM cS IT.Supers,.iM lX IT.Feats,.str sZ.Name,.iM cS sZ.Supers,.iM lX sZ.Feats,.str jR.Name,.iM cS jR.Supers,.iM lX jR.Feats] 138)],7⟩) rfl (tH Lo.h zP.h rfl rfl rfl rfl rfl rfl rfl) ?_);apply(go);obtain rfl:=sI J;exact rT (us:=[.sl 6 0 13 13]) (u:=.iM bV ([r1,r3,r5,r7,r9,rC,gG,tC,jK,xT,IT,sZ,jR])) (dS rfl (d9)) (fR 6 3)
def vk(n:Nat)(p1:Int):M (GFS):=
 some (GFS.mk ([(aJ.mk p1 [])]))
theorem oc(n:Nat)(p1:Int)(r:GFS)(J:vk n p1=some r):cV prog 36 [.int .i64 p1] (.agg [.isl false (r.Nodes.map aW)]):=by refine jO 7 PU ?_;apply(go);refine bN ?_;apply(go);obtain rfl:=sI J;exact⟨.inr rfl,[.agg [.sl 1 0 1 1]],lV (jA iA.h rfl (aX mB.h) rfl rfl rfl) (d9),.agg [.iM aW ([(aJ.mk p1 [])])],⟨[],0⟩,zF _,Gh.trans (Gh.trans (Gh.rowC 1) (lQ 1 2)) (pU (.agg [.iM aW ([(aJ.mk p1 [])])]) rfl),rfl,BU.h⟩
def mq(z6:Int)(cA:Int->(V Int)->M ((V Int)))(c6:V Int):M ((V Int)):=
 cA (IntKind.i64.wrap (z6+1)) c6
def Rk(z6:Int)(cA:Int->(V Int)->M ((V Int)))(iJ:aJ):Nat->Int->(V Int)->M ((V Int))
 |0,_,_=>none|m2+1,sP,w8=>
  cond (decide (sP<(iJ.Arcs.length:Int))) (a8 (aC iJ.Arcs sP) fun lR=>
   a8 (aC iJ.Arcs sP) fun qV=>
   aH ((w8.length+2)*8<=140737488355328/\w8.length+2<=140737488355328) ((Rk z6 cA iJ m2) (IntKind.i64.wrap (sP+1)) (w8++[lR.Feat,qV.To]))) (mq z6 cA w8)
def S_  (l9:V Int):M ((V Int)):=
 some l9
def SM(p1:GFS)(n:Nat):Nat->Int->(V Int)->M ((V Int))
 |0,_,_=>none|m1+1,z6,l7=>
  cond (decide (z6<(p1.Nodes.length:Int))) (a8 (aC p1.Nodes z6) fun iJ=>
   a8 (aC p1.Nodes z6) fun lB=>
   aH ((l7.length+2)*8<=140737488355328/\l7.length+2<=140737488355328) (
   Rk z6 (SM p1 n m1) iJ n 0 (l7++[lB.Typex,(iJ.Arcs.length:Int)]))) (S_ l7)
def Hc(n:Nat)(p1:GFS):M ((V Int)):=
 SM p1 n n 0 ([(p1.Nodes.length:Int)])
theorem qjc(n:Nat)(p1:GFS)(r:(V Int))(J:Hc n p1=some r):cV prog 80 [.agg [.isl false (p1.Nodes.map aW)]] (.isl false (r.map (cI .i64))):=by unfold Hc at J;refine jO 55 Cb ?_;apply(go);refine RS.step (u:=.vl 1 0 0 ([(p1.Nodes.length:Int)].length)) (X':=⟨[(1,.bv (cI .i64) ([(p1.Nodes.length:Int)]) 3 1 0),(0,.row [.iM aW p1.Nodes] 40)],2⟩) rfl (DP.bslv (cs:=(List.map (cI .i64) [(p1.Nodes.length:Int)]).flatten) tb_ok rfl fJ.h gH.h rfl rfl rfl rfl rfl rfl rfl rfl) rfl rfl ?_;apply(go);refine gL (fun m tm X=>∃z6 l7 t8,SM p1 n m z6 l7=some r/\tm=fr 55 [(1,.ptr 0 0 0),(3,.vl 1 t8 0 l7.length),(4,.i6 z6)]/\X=⟨Gc l7 t8 p1.Nodes,2⟩) (fun tm X=>∃l9 cN,S_ l9=some r/\tm=fr 55 [(3,.vl 1 cN 0 l9.length)]/\X=⟨Gc l9 cN p1.Nodes,2⟩) n ⟨0,[(p1.Nodes.length:Int)],0,J,rfl,rfl⟩ ?_ ?_;rintro _ _ ⟨l9,cN,J,rfl,rfl⟩;apply(go);obtain rfl:=sI J;exact rT (us:=[.vl 1 cN 0 l9.length]) (u:=.iM (cI .i64) l9) (dS rfl (d9)) (fR 1 1);rintro(_|m1) _ _ ⟨z6,l7,t8,J,rfl,rfl⟩;cases J;refine gF J ?_ ?_<;>intro iT J;apply(go);apply aU;obtain⟨iJ,dC,J⟩:=aN J;apply(go);refine aY dC ?_;obtain⟨lB,eM,J⟩:=aN J;obtain⟨pH,J⟩:=d7 J;apply(go);refine aY eM ?_;apply(go);refine bN ?_;refine aO (u:=.vl 1 (t8+1) 0 ((l7++[lB.Typex,(iJ.Arcs.length:Int)]).length)) (X':=⟨(2,.row [.i6 lB.Typex,.i6 (iJ.Arcs.length:Int)] 3)::Gc (l7++[lB.Typex,(iJ.Arcs.length:Int)]) (t8+1) p1.Nodes,3⟩) rfl (uZ rfl rfl rfl rfl (RN (cI .i64) ([lB.Typex,(iJ.Arcs.length:Int)]) fJ.h fJ.h gH.h rfl (m9 .i64) rfl (Nb (cI .i64) [lB.Typex,(iJ.Arcs.length:Int)] rfl rfl rfl rfl) pH)) ?_;apply(go);refine gL (fun m tm X=>∃sP w8 AU,Rk z6 (SM p1 n m1) iJ m sP w8=some r/\tm=fr 55 [(1,.ptr 0 0 0),(3,.vl 1 AU 0 w8.length),(4,.i6 z6),(5,.iM aL iJ.Arcs),(6,.i6 sP)]/\X=⟨(2,.row [.i6 lB.Typex,.i6 (iJ.Arcs.length:Int)] 3)::Gc w8 AU p1.Nodes,3⟩) (fun tm X=>∃c6 iV,mq z6 (SM p1 n m1) c6=some r/\tm=fr 55 [(1,.ptr 0 0 0),(3,.vl 1 iV 0 c6.length),(4,.i6 z6)]/\X=⟨(2,.row [.i6 lB.Typex,.i6 (iJ.Arcs.length:Int)] 3)::Gc c6 iV p1.Nodes,3⟩) n ⟨0,(l7++[lB.Typex,(iJ.Arcs.length:Int)]),(t8+1),J,rfl,rfl⟩ ?_ ?_;rintro _ _ ⟨c6,iV,J,rfl,rfl⟩;unfold mq at J;apply(go);exact lC ⟨_,c6,iV,J,rfl,rfl⟩;rintro(_|m2) _ _ ⟨sP,w8,AU,J,rfl,rfl⟩;cases J;refine gF J ?_ ?_<;>intro pS J;apply(go);apply aU;obtain⟨lR,nE,qV,mW,J⟩:=bS J;obtain⟨rO,J⟩:=d7 J;apply(go);refine dE [(0,11)] ?_;apply(gd);refine c8 nE ?_;apply(gd);refine c8 mW ?_;apply(gd);refine dZ ?_;refine RD.act (u:=.vl 1 (AU+1) 0 ((w8++[lR.Feat,qV.To]).length)) (X':=⟨(3,.row [.i6 lR.Feat,.i6 qV.To] 3)::(2,.row [.i6 lB.Typex,.i6 (iJ.Arcs.length:Int)] 3)::Gc (w8++[lR.Feat,qV.To]) (AU+1) p1.Nodes,4⟩) rfl (uZ rfl rfl rfl rfl (RN (cI .i64) ([lR.Feat,qV.To]) fJ.h fJ.h gH.h rfl (m9 .i64) rfl (Nb (cI .i64) [lR.Feat,qV.To] rfl rfl rfl rfl) rO)) rfl rfl ?_;apply(gd);refine bC ⟨by kernel_rfl,⟨i7 rfl,trivial⟩,?_⟩;apply(go);exact lC ⟨_,(w8++[lR.Feat,qV.To]),(AU+1),J,rfl,rfl⟩;apply(go);exact xC ⟨w8,AU,J,rfl,rfl⟩;apply(go);exact xC ⟨l7,t8,J,rfl,rfl⟩
def uo: M (Int):=
 some 0
def Rl(r3:(V Int))(r5:(V Int)):Nat->Int->M (Int)
 |0,_=>none|m1+1,dY=>a8 (cond (decide (dY<(r3.length:Int))) (some (decide (dY<(r5.length:Int)))) (some false)) fun vN=>cond vN (a8 (aC r3 dY) fun rX=>a8 (aC r5 dY) fun pW=>cond (decide (rX<pW)) (some (-1)) (a8 (aC r3 dY) fun kJ=>a8 (aC r5 dY) fun oW=>cond (decide (kJ>oW)) (some 1) ((Rl r3 r5 m1) (IntKind.i64.wrap (dY+1))))) (uo)
def mf(n:Nat)(p1:GFS)(p2:GFS):M (Int):=
 a8 (Hc n p1) fun r3=>
 a8 (Hc n p2) fun r5=>
 Rl r3 r5 n 0
theorem qre(n:Nat)(p1:GFS)(p2:GFS)(r:Int)(J:mf n p1 p2=some r):cV prog 50 [.agg [.isl false (p1.Nodes.map aW)],.agg [.isl false (p2.Nodes.map aW)]] (.int .i64 r):=by apply fQ 42 Yg;have⟨r3,h4,J⟩:=aN J;refine go ?_;apply aR rfl (pC (qjc n p1 r3 h4) _) Cb;have⟨r5,h6,J⟩:=aN J;refine go ?_;apply aR rfl (pC (qjc n p2 r5 h6) _) Cb;refine go ?_;refine gL (fun m tm X=>∃dY,Rl r3 r5 m dY=some r/\tm=fr 42 [(5,.iM (cI .i64) r3),(6,.iM (cI .i64) r5),(7,.i6 dY)]/\X=⟨[(1,.row [.iM aW p2.Nodes] 40),(0,.row [.iM aW p1.Nodes] 40)],2⟩) (fun tm X=>uo=some r/\tm=fr 42 []/\X=⟨[(1,.row [.iM aW p2.Nodes] 40),(0,.row [.iM aW p1.Nodes] 40)],2⟩) n ⟨0,J,rfl,rfl⟩ ?_ ?_;rintro _ _ ⟨J,rfl,rfl⟩;exact gx J;rintro(_|m1) _ _ ⟨dY,J,rfl,rfl⟩;cases J;have⟨vN,eM,J⟩:=aN J;refine gn ?_;refine dJ (fun tm X=>tm=fr 42 [(5,.iM (cI .i64) r3),(6,.iM (cI .i64) r5),(7,.i6 dY),(21,.bool vN)]/\X=⟨[(1,.row [.iM aW p2.Nodes] 40),(0,.row [.iM aW p1.Nodes] 40)],2⟩) ?_ ?_;rintro _ _ ⟨rfl,rfl⟩;refine gF J ?_ ?_<;>intro pH J;refine go ?_;apply aU;have⟨rX,dB,pW,pG,J⟩:=bS J;refine go ?_;apply dE [];refine gd ?_;apply c8 dB;refine gd ?_;apply c8 pG;refine gd ?_;refine bC ⟨by kernel_rfl,trivial,?_⟩;refine gF J ?_ ?_<;>intro mM J;exact gx J;have⟨kJ,nF,oW,qR,J⟩:=bS J;refine go ?_;apply dE [];refine gd ?_;apply c8 nF;refine gd ?_;apply c8 qR;refine gd ?_;refine bC ⟨by kernel_rfl,trivial,?_⟩;refine gF J ?_ ?_<;>intro mL J;exact gx J;refine go ?_;exact lC ⟨_,J,rfl,rfl⟩;refine go ?_;exact xC ⟨J,rfl,rfl⟩;refine go ?_;rcases gB eM with⟨dC,eM⟩|⟨dC,eM⟩;exact gy eM;exact gy eM
def FK(n:Nat)(p1:GFS)(p2:GFS):M (D1):=
 a8 (mf n p1 p2) fun r3=>some (r3==0)
theorem YI(n:Nat)(p1:GFS)(p2:GFS)(r:D1)(J:FK n p1 p2=some r):cV prog 25 [.agg [.isl false (p1.Nodes.map aW)],.agg [.isl false (p2.Nodes.map aW)]] (.bool r):=by apply fQ 9 AJ;have⟨r3,h4,J⟩:=aN J;apply(go);apply aR rfl (pC (qre n p1 p2 r3 h4) _) Yg;exact gx J
def ji(n:Nat)(p1:V aJ):M (GFS):=
 some (GFS.mk p1)
theorem iy(n:Nat)(p1:V aJ)(r:GFS)(J:ji n p1=some r):cV prog 34 [.isl false (p1.map aW)] (.agg [.isl false (r.Nodes.map aW)]):=by apply jO 5 PV;apply(go);cases J;exact rT (lV (jA iA.h rfl (aX mB.h) rfl rfl rfl) (d9)) (pU _ rfl)
def qhw(p1:Int)(hZ:V aG):M (aJ):=
 some (aJ.mk p1 hZ)
def l_(p1:Int)(p2:V Int):Nat->Int->(V aG)->M (aJ)
 |0,_,_=>none|m1+1,z9,l10=>
  cond (decide ((IntKind.i64.wrap (z9+1))<(p2.length:Int))) (a8 (aC p2 z9) fun sR=>
   a8 (aC p2 (IntKind.i64.wrap (z9+1))) fun rX=>
   aH ((l10.length+1)*16<=140737488355328/\l10.length+1<=140737488355328) ((l_ p1 p2 m1) (IntKind.i64.wrap (z9+2)) (l10++[(aG.mk sR rX)]))) (qhw p1 l10)
def YA(n:Nat)(p1:Int)(p2:V Int):M (aJ):=
 l_ p1 p2 n 0 ([]:V aG)
theorem Pc(n:Nat)(p1:Int)(p2:V Int)(r:aJ)(J:YA n p1 p2=some r):cV prog 35 [.int .i64 p1,.isl false (p2.map (cI .i64))] (.agg (aW r)):=by unfold YA at J;apply fQ 32 G5;apply(gr);apply(gr);apply(gr);apply c9 (tm':=fr 32 [(1,.iM (cI .i64) p2),(4,.ptr 0 0 0),(5,.ptr 1 0 0),(6,.i6 0)]) (X':=⟨[(2,.bv aL ([]:V aG) 98 2 0),(1,.row [.i6 p1,.vl 2 0 0 (([]:V aG).length)] 78),(0,.row [.i6 0,.nils] 78)],3⟩) (Gh.trans (vP 1 1 98 2 (by decide) NZ rfl rfl) (mX ⟨rfl,rfl,rfl,rfl,trivial⟩ rfl)) NZ;refine gL (fun m tm X=>∃z9 l10 jH,l_ p1 p2 m z9 l10=some r/\tm=fr 32 [(1,.iM (cI .i64) p2),(4,.ptr 0 0 0),(5,.ptr 1 0 0),(6,.i6 z9)]/\X=⟨[(2,.bv aL l10 98 2 jH),(1,.row [.i6 p1,.vl 2 jH 0 l10.length] 78),(0,.row [.i6 0,.nils] 78)],3⟩) (fun tm X=>∃hZ mP,qhw p1 hZ=some r/\tm=fr 32 [(4,.ptr 0 0 0),(5,.ptr 1 0 0)]/\X=⟨[(2,.bv aL hZ 98 2 mP),(1,.row [.i6 p1,.vl 2 mP 0 hZ.length] 78),(0,.row [.i6 0,.nils] 78)],3⟩) n ⟨0,([]:V aG),0,J,rfl,rfl⟩ ?_ ?_;rintro _ _ ⟨hZ,mP,J,rfl,rfl⟩;apply(go);cases J;exact rT (us:=[.agg [.i6 p1,.vl 2 mP 0 hZ.length]]) (u:=.agg [.i6 p1,.iM aL hZ]) (lV (jA wQ.h rfl (aX kP.h) rfl rfl rfl) (d9)) (fR 2 2);rintro(_|m1) _ _ ⟨z9,l10,jH,J,rfl,rfl⟩;cases J;refine gF J ?_ ?_<;>intro i4 J;apply(go);apply aU;obtain⟨sR,pH,rX,dB,J⟩:=bS J;obtain⟨j8,J⟩:=d7 J;apply(go);refine dE [(0,12),(1,12)] ?_;apply(gd);refine c8 pH ?_;apply(gd);refine c8 dB ?_;apply(gd);refine dZ ?_;refine dZ ?_;apply(gd);refine qU ?_;refine bC ⟨by kernel_rfl,⟨j5 wQ.h rfl (aX jZ.h) rfl rfl rfl,⟨nQ dW.h rfl rfl rfl rfl,trivial⟩⟩,?_⟩;apply(go);exact lC ⟨_,(l10++[(aG.mk sR rX)]),(jH+1),J,rfl,rfl⟩;apply(go);exact xC ⟨l10,jH,J,rfl,rfl⟩
end Go.Proofs
