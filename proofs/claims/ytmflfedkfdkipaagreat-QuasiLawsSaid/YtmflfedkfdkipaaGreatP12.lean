import Derived.Test.YtmflfedkfdkipaaGreatP11
set_option linter.all false
namespace Go.Proofs
open Go Go.Rx Go.Vx Tryz
instance:TbP prog tb:=⟨tb_ok⟩
set_option maxRecDepth 20000
set_option maxHeartbeats 4000000
set_option synthInstance.maxSize 4000
set_option synthInstance.maxHeartbeats 200000
structure lE where
 Feat:Int
 Value:Int
def qW(x:lE):Z U:=[.int .i64 x.Feat,.int .i64 x.Value]
instance{a0:Int}{a1:Int}:DeC qW [.int .i64 a0,.int .i64 a1] (lE.mk a0 a1):=⟨rfl⟩
theorem qi9(n:Nat)(x:lE):aF n (qW x):=by simp only[qW,aF,aP,true_and,and_true]
theorem qpt(x:lE):(qW x).length=2:=rfl
instance:gR qW 2:=⟨qpt⟩
instance:BF qW:=⟨qi9⟩
structure mV where
 Name:Z O8
 Code:Z Int
 Supers:Z Int
 Feats:Z lE
def m4(x:mV):Z U:=[.str x.Name,.isl false (x.Code.map (cI .u64)),.isl false (x.Supers.map (cI .i64)),.isl false (x.Feats.map qW)]
instance{a0:Z O8}{a1:Z Int}{a2:Z Int}{a3:Z lE}:DeC m4 [.str a0,.isl false (a1.map (cI .u64)),.isl false (a2.map (cI .i64)),.isl false (a3.map qW)] (mV.mk a0 a1 a2 a3):=⟨rfl⟩
theorem Of(n:Nat)(x:mV):aF n (m4 x):=by simp only[m4,aF,aP,true_and,and_true];exact⟨uJ _ (fun q=>Ys _ .u64 q) _,uJ _ (fun q=>Ys _ .i64 q) _,uJ _ (fun q=>qi9 _ q) _⟩
theorem ir(x:mV):(m4 x).length=4:=rfl
instance:gR m4 4:=⟨ir⟩
instance:BF m4:=⟨Of⟩
instance(n:Nat)(x:mV):nE n (m4 x):=⟨Of n x⟩
structure tL where
 Name:Z O8
 Intro:Int
def pA(x:tL):Z U:=[.str x.Name,.int .i64 x.Intro]
instance{a0:Z O8}{a1:Int}:DeC pA [.str a0,.int .i64 a1] (tL.mk a0 a1):=⟨rfl⟩
theorem xd(n:Nat)(x:tL):aF n (pA x):=by simp only[pA,aF,aP,true_and,and_true]
theorem qne(x:tL):(pA x).length=2:=rfl
instance:gR pA 2:=⟨qne⟩
instance:BF pA:=⟨xd⟩
structure eD where
 Types:Z mV
 Feats:Z tL
def m5(x:eD):Z U:=[.isl false (x.Types.map m4),.isl false (x.Feats.map pA)]
theorem qjp(n:Nat)(x:eD):aF n (m5 x):=by simp only[m5,aF,aP,true_and,and_true];exact⟨uJ _ (fun q=>Of _ q) _,uJ _ (fun q=>xd _ q) _⟩
theorem qkc(x:eD):(m5 x).length=2:=rfl
instance:gR m5 2:=⟨qkc⟩
instance(n:Nat)(x:eD):nE n (m5 x):=⟨qjp n x⟩
structure nK where
 Feat:Z O8
 Value:Z O8
def k9(x:nK):Z U:=[.str x.Feat,.str x.Value]
instance{a0:Z O8}{a1:Z O8}:DeC k9 [.str a0,.str a1] (nK.mk a0 a1):=⟨rfl⟩
theorem qex(n:Nat)(x:nK):aF n (k9 x):=by simp only[k9,aF,aP,true_and,and_true]
theorem qld(x:nK):(k9 x).length=2:=rfl
instance:gR k9 2:=⟨qld⟩
instance:BF k9:=⟨qex⟩
structure bC where
 Name:Z O8
 Supers:Z (Z O8)
 Feats:Z nK
def bJ(x:bC):Z U:=[.str x.Name,.isl false (x.Supers.map cS),.isl false (x.Feats.map k9)]
theorem qey(n:Nat)(x:bC):aF n (bJ x):=by simp only[bJ,aF,aP,true_and,and_true];exact⟨uJ _ (fun q=>z4s _ q) _,uJ _ (fun q=>qex _ q) _⟩
theorem qle(x:bC):(bJ x).length=3:=rfl
instance:gR bJ 3:=⟨qle⟩
instance:BF bJ:=⟨qey⟩
instance(n:Nat)(x:bC):nE n (bJ x):=⟨qey n x⟩
structure dC where
 Name:Z O8
 Code:Z Int
instance:Inhabited dC:=⟨.mk default default⟩
def eP(x:dC):Z U:=[.str x.Name,.isl false (x.Code.map (cI .u64))]
instance{a0:Z O8}{a1:Z Int}:DeC eP [.str a0,.isl false (a1.map (cI .u64))] (dC.mk a0 a1):=⟨rfl⟩
theorem qjo(n:Nat)(x:dC):aF n (eP x):=by simp only[eP,aF,aP,true_and,and_true];exact uJ _ (fun q=>Ys _ .u64 q) _
theorem QO(x:dC):(eP x).length=2:=rfl
instance:gR eP 2:=⟨QO⟩
instance:BF eP:=⟨qjo⟩
instance(n:Nat)(x:dC):nE n (eP x):=⟨qjo n x⟩
structure aT where
 Feat:Int
 To:Int
def dA(x:aT):Z U:=[.int .i64 x.Feat,.int .i64 x.To]
instance{a0:Int}{a1:Int}:DeC dA [.int .i64 a0,.int .i64 a1] (aT.mk a0 a1):=⟨rfl⟩
theorem ii(n:Nat)(x:aT):aF n (dA x):=by simp only[dA,aF,aP,true_and,and_true]
theorem xD(x:aT):(dA x).length=2:=rfl
instance:gR dA 2:=⟨xD⟩
instance:BF dA:=⟨ii⟩
instance(n:Nat)(x:aT):nE n (dA x):=⟨ii n x⟩
structure aU where
 Typex:Int
 Arcs:Z aT
def bD(x:aU):Z U:=[.int .i64 x.Typex,.isl false (x.Arcs.map dA)]
instance{a0:Int}{a1:Z aT}:DeC bD [.int .i64 a0,.isl false (a1.map dA)] (aU.mk a0 a1):=⟨rfl⟩
theorem yK(n:Nat)(x:aU):aF n (bD x):=by simp only[bD,aF,aP,true_and,and_true];exact uJ _ (fun q=>ii _ q) _
theorem qmb(x:aU):(bD x).length=2:=rfl
instance:gR bD 2:=⟨qmb⟩
instance:BF bD:=⟨yK⟩
instance(n:Nat)(x:aU):nE n (bD x):=⟨yK n x⟩
structure GFS where
 Nodes:Z aU
def kH(x:GFS):Z U:=[.isl false (x.Nodes.map bD)]
theorem Nk(n:Nat)(x:GFS):aF n (kH x):=by simp only[kH,aF,aP,true_and,and_true];exact uJ _ (fun q=>yK _ q) _
theorem z32(x:GFS):(kH x).length=1:=rfl
instance:gR kH 1:=⟨z32⟩
instance:BF kH:=⟨Nk⟩
instance:uT tb 27 [.nils,.nils] [(0,1),(1,1)]:=⟨wG tD.h CK.h rfl (by kernel_rfl)⟩
instance:uT tb 39 [.nils] [(0,1)]:=⟨wG rH.h iU.h rfl (by kernel_rfl)⟩
instance:uT tb 79 [.int .i64 0,.nils] [(0,1),(1,1)]:=⟨wG EY.h rP.h rfl (by kernel_rfl)⟩
instance:uT tb 105 [.int .i64 0,.int .i64 0] [(0,1),(1,1)]:=⟨wG sD.h jI.h rfl (by kernel_rfl)⟩
instance Ws:uT tb 143 [.str [],.nils] [(0,1),(1,1)]:=⟨wG PD.h pZ.h rfl (by kernel_rfl)⟩
instance:uT tb 147 [.str [],.nils,.nils,.nils] [(0,1),(1,1),(2,1),(3,1)]:=⟨wG F3.h GS.h rfl (by kernel_rfl)⟩
instance:uT tb 153 [.str [],.nils,.nils] [(0,1),(1,1),(2,1)]:=⟨wG uY.h vK.h rfl (by kernel_rfl)⟩
instance:uT tb 156 [.str [],.str []] [(0,1),(1,1)]:=⟨wG Jv.h RZ.h rfl (by kernel_rfl)⟩
instance:uT tb 186 [.int .i64 0,.int .i64 0] [(0,1),(1,1)]:=⟨wG Ju.h Rw.h rfl (by kernel_rfl)⟩
instance:uT tb 197 [.str [],.int .i64 0] [(0,1),(1,1)]:=⟨wG Jt.h Rv.h rfl (by kernel_rfl)⟩
abbrev QE(a)(b:Nat):=([(1,.bv (cL (cI .u64)) a 141 1 b),(0,.row [] 141)]:Z (Nat×B))
abbrev lR(a)(b:Nat):=([(0,.bv cS a 9 1 b)]:Z (Nat×B))
abbrev Fm(a)(b:Nat)(c):=([(1,.bv (cI .i64) a 3 1 b),(0,.row [.iM bD c] 39)]:Z (Nat×B))
abbrev C4(a)(b:Nat):=([(0,.bv (cI .i64) a 3 1 b)]:Z (Nat×B))
abbrev Fl:=([(0,.row [.str [],.nils,.nils] 153)]:Z (Nat×B))
abbrev Mz(a:U)(b)(c)(d:Nat):=([(2,.row [a,.iM (cI .u64) b] 143),(1,.bv eP c 143 2 d)]:Z (Nat×B))
abbrev qtr:=([(1,.row [.str ([70]),.str ([116,111,112]),.str ([71]),.str ([116,111,112])] 156),(0,.row [.nils,.nils] 27)]:Z (Nat×B))
def xq: I (Int):=
 some 0
def XH(p1:Z bC):Nat->Int->I (Int)
 |0,_=>none|m1+1,z5=>cond (decide (z5<(p1.length:Int))) (a8 (a8 (aC p1 z5) fun x7=>cond (decide ((x7.Supers.length:Int)>256)) (some true) (a8 (aC p1 z5) fun mH=>some (decide ((mH.Feats.length:Int)>256)))) fun II=>cond II (some 7) ((XH p1 m1) (IntKind.i64.wrap (z5+1)))) (xq)
def Ok(n:Nat)(p1:Z bC):I (Int):=
 cond (decide ((p1.length:Int)>256)) (some 7) (XH p1 n 0)
theorem qo5(n:Nat)(p1:Z bC)(r:Int)(J:Ok n p1=some r):dJ prog 121 [.isl false (p1.map bJ)] (.int .i64 r):=by unfold Ok at J;refine kR 29 TB ?_;refine gF J ?_ ?_<;>intro h2 J;exact gx J;refine go ?_;refine gL (fun m tm X=>∃z5,XH p1 m z5=some r/\tm=fr 29 [(0,.iM bJ p1),(3,.i6 z5)]/\X=⟨[],0⟩) (fun tm X=>xq=some r/\tm=fr 29 []/\X=⟨[],0⟩) n ⟨0,J,rfl,rfl⟩ ?_ ?_;rintro _ _ ⟨J,rfl,rfl⟩;unfold xq at J;exact gx J;rintro(_|m1) _ _ ⟨z5,J,rfl,rfl⟩;cases J;unfold XH at J;refine gF J ?_ ?_<;>intro h6 J;refine go ?_;apply aR;obtain⟨II,eH,J⟩:=aL J;refine gn ?_;refine fK (fun tm X=>tm=fr 29 [(0,.iM bJ p1),(3,.i6 z5),(28,.bool II)]/\X=⟨[],0⟩) ?_ ?_;rintro _ _ ⟨rfl,rfl⟩;refine gF J ?_ ?_<;>intro iW J;exact gx J;refine go ?_;exact lC ⟨_,J,rfl,rfl⟩;obtain⟨x7,h8,eH⟩:=aL eH;refine go ?_;refine aW h8 ?_;refine go ?_;rcases gB eH with⟨h9,eH⟩|⟨h9,eH⟩;exact gy eH;obtain⟨mH,mF,eH⟩:=aL eH;obtain rfl:=sI eH;refine go ?_;refine aW mF ?_;refine go ?_;exact xC ⟨rfl,rfl⟩;refine go ?_;exact xC ⟨J,rfl,rfl⟩
def X6(n:Nat)(p1:Int):I (BQ):=
 a8 (cond (decide (p1>=48)) (some (decide (p1<=57))) (some false)) fun b3=>some b3
theorem qgs(n:Nat)(p1:Int)(r:BQ)(J:X6 n p1=some r):dJ prog 176 [.int .u8 p1] (.bool r):=by unfold X6 at J;refine kR 9 HW ?_;obtain⟨b3,h4,J⟩:=aL J;refine gr ?_;refine fK (fun tm X=>tm=fr 9 [(2,.bool b3)]/\X=⟨[],0⟩) ?_ ?_;rintro _ _ ⟨rfl,rfl⟩;exact gx J;refine go ?_;rcases gB h4 with⟨h2,h4⟩|⟨h2,h4⟩;exact gy h4;exact gy h4
def zk(n:Nat)(p1:Int):I (BQ):=
 a8 (cond (decide (p1>=65)) (some (decide (p1<=90))) (some false)) fun b3=>some b3
theorem qnx(n:Nat)(p1:Int)(r:BQ)(J:zk n p1=some r):dJ prog 178 [.int .u8 p1] (.bool r):=by unfold zk at J;refine kR 9 SP ?_;obtain⟨b3,h4,J⟩:=aL J;refine gr ?_;refine fK (fun tm X=>tm=fr 9 [(2,.bool b3)]/\X=⟨[],0⟩) ?_ ?_;rintro _ _ ⟨rfl,rfl⟩;exact gx J;refine go ?_;rcases gB h4 with⟨h2,h4⟩|⟨h2,h4⟩;exact gy h4;exact gy h4
def Ot(n:Nat)(p1:Int):I (BQ):=
 a8 (cond (decide (p1>=97)) (some (decide (p1<=122))) (some false)) fun b3=>some b3
theorem qgt(n:Nat)(p1:Int)(r:BQ)(J:Ot n p1=some r):dJ prog 179 [.int .u8 p1] (.bool r):=by unfold Ot at J;refine kR 9 HV ?_;obtain⟨b3,h4,J⟩:=aL J;refine gr ?_;refine fK (fun tm X=>tm=fr 9 [(2,.bool b3)]/\X=⟨[],0⟩) ?_ ?_;rintro _ _ ⟨rfl,rfl⟩;exact gx J;refine go ?_;rcases gB h4 with⟨h2,h4⟩|⟨h2,h4⟩;exact gy h4;exact gy h4
def Oc(n:Nat)(p1:Int)(p2:BQ):I (BQ):=
 a8 (a8 (X6 n p1) fun r3=>cond r3 (some true) (cond (p1==45) (some true) (cond p2 (a8 (zk n p1) fun r8=>cond r8 (some true) (cond (!p2) (a8 (Ot n p1) fun iJ=>some iJ) (some false))) (cond (!p2) (a8 (Ot n p1) fun tF=>some tF) (some false))))) fun wH=>some wH
theorem qqe(n:Nat)(p1:Int)(p2:BQ)(r:BQ)(J:Oc n p1 p2=some r):dJ prog 177 [.int .u8 p1,.bool p2] (.bool r):=by
 unfold Oc at J;refine eO 26 SQ ?_;obtain⟨wH,dU,J⟩:=aL J;refine gr ?_;refine fK (fun tm X=>tm=fr 26 [(4,.bool wH)]/\X=⟨[],0⟩) ?_ ?_;rintro _ _ ⟨rfl,rfl⟩;exact gx J;obtain⟨r3,h4,dU⟩:=aL dU;refine go ?_;refine aK rfl (pC (qgs n p1 r3 h4) _) HW ?_;refine go ?_;rcases gB dU with⟨h5,dU⟩|⟨h5,dU⟩;obtain rfl:=sI dU;refine go ?_
 repeat refine RS.no (JF rfl rfl rfl) rfl rfl ?_
 refine go ?_
 repeat refine RS.no (JF rfl rfl rfl) rfl rfl ?_
 refine go ?_;exact xC ⟨rfl,rfl⟩;refine go ?_;rcases gB dU with⟨h6,dU⟩|⟨h6,dU⟩;obtain rfl:=sI dU;refine go ?_
 repeat refine RS.no (JF rfl rfl rfl) rfl rfl ?_
 refine go ?_
 repeat refine RS.no (JF rfl rfl rfl) rfl rfl ?_
 refine go ?_;exact xC ⟨rfl,rfl⟩;refine go ?_;rcases gB dU with⟨h7,dU⟩|⟨h7,dU⟩;obtain⟨r8,h9,dU⟩:=aL dU;refine go ?_;refine aK rfl (pC (qnx n p1 r8 h9) _) SP ?_;refine go ?_;rcases gB dU with⟨iR,dU⟩|⟨iR,dU⟩;obtain rfl:=sI dU;refine go ?_
 repeat refine RS.no (JF rfl rfl rfl) rfl rfl ?_
 refine go ?_;exact xC ⟨rfl,rfl⟩;refine go ?_;rcases gB dU with⟨mF,dU⟩|⟨mF,dU⟩;obtain⟨iJ,eH,dU⟩:=aL dU;obtain rfl:=sI dU;refine go ?_;refine aK rfl (pC (qgt n p1 iJ eH) _) HV ?_;refine go ?_;exact xC ⟨rfl,rfl⟩;exact gy dU;refine go ?_;rcases gB dU with⟨iW,dU⟩|⟨iW,dU⟩;obtain⟨tF,zP,dU⟩:=aL dU;obtain rfl:=sI dU;refine go ?_;refine aK rfl (pC (qgt n p1 tF zP) _) HV ?_;refine go ?_;exact xC ⟨rfl,rfl⟩;exact gy dU
def jg: I (BQ):=
 some true
def XL(p1:Z O8)(p2:BQ)(n:Nat):Nat->Int->I (BQ)
 |0,_=>none|m1+1,eL=>cond (decide (eL<(p1.length:Int))) (a8 (W4 p1 eL) fun A6=>a8 (Oc n A6 p2) fun JE=>cond (!JE) (some false) ((XL p1 p2 n m1) (IntKind.i64.wrap (eL+1)))) (jg)
def Gd(n:Nat)(p1:Z O8)(p2:BQ):I (BQ):=
 a8 (cond (decide ((p1.length:Int)<1)) (some true) (cond (decide ((p1.length:Int)>32)) (some true) (a8 (W4 p1 0) fun x5=>a8 (X6 n x5) fun r7=>cond r7 (some true) (a8 (W4 p1 0) fun mH=>some (mH==45))))) fun II=>cond II (some false) (XL p1 p2 n n 0)
theorem qgu(n:Nat)(p1:Z O8)(p2:BQ)(r:BQ)(J:Gd n p1 p2=some r):dJ prog 173 [.str p1,.bool p2] (.bool r):=by unfold Gd at J;refine eO 36 HX ?_;obtain⟨II,eH,J⟩:=aL J;refine gr ?_;refine fK (fun tm X=>tm=fr 36 [(0,.str p1),(1,.bool p2),(23,.bool II)]/\X=⟨[],0⟩) ?_ ?_;rintro _ _ ⟨rfl,rfl⟩;refine gF J ?_ ?_<;>intro iW J;exact gx J;refine go ?_;refine gL (fun m tm X=>∃eL,XL p1 p2 n m eL=some r/\tm=fr 36 [(0,.str p1),(1,.bool p2),(5,.i6 eL)]/\X=⟨[],0⟩) (fun tm X=>jg=some r/\tm=fr 36 []/\X=⟨[],0⟩) n ⟨0,J,rfl,rfl⟩ ?_ ?_;rintro _ _ ⟨J,rfl,rfl⟩;unfold jg at J;exact gx J;rintro(_|m1) _ _ ⟨eL,J,rfl,rfl⟩;cases J;unfold XL at J;refine go ?_;refine bT (u:=.i6 (p1.length:Int)) rfl (JK rfl rfl rfl (by simp only[v7,J6.h])) ?_;refine gF J ?_ ?_<;>intro jU J;refine go ?_;apply aR;obtain⟨A6,tY,JE,zE,J⟩:=cB J;refine go ?_;refine bT (u:=.int .u8 A6) rfl (F' J6.h rfl rfl tY) ?_;refine go ?_;refine aK rfl (pC (qqe n A6 p2 JE zE) _) SQ ?_;refine gF J ?_ ?_<;>intro pH J;exact gx J;refine go ?_;exact lC ⟨_,J,rfl,rfl⟩;refine go ?_;exact xC ⟨J,rfl,rfl⟩;refine go ?_;refine bT (u:=.i6 (p1.length:Int)) rfl (JK rfl rfl rfl (by simp only[v7,J6.h])) ?_;refine go ?_;rcases gB eH with⟨h3,eH⟩|⟨h3,eH⟩;exact gy eH;refine go ?_;refine RS.w (u:=.i6 (p1.length:Int)) rfl (JK rfl rfl rfl (by simp only[v7,J6.h])) ?_;refine go ?_;rcases gB eH with⟨h4,eH⟩|⟨h4,eH⟩;exact gy eH;obtain⟨x5,h6,eH⟩:=aL eH;obtain⟨r7,h8,eH⟩:=aL eH;refine go ?_;refine RS.w (u:=.int .u8 x5) rfl (F' J6.h rfl rfl h6) (aK rfl (pC (qgs n x5 r7 h8) _) HW ?_);refine go ?_;rcases gB eH with⟨h9,eH⟩|⟨h9,eH⟩;exact gy eH;obtain⟨mH,mF,eH⟩:=aL eH;obtain rfl:=sI eH;refine go ?_;refine RS.w (u:=.int .u8 mH) rfl (F' J6.h rfl rfl mF) ?_;refine go ?_;exact xC ⟨rfl,rfl⟩
def Od(n:Nat)(p1:Z O8):I (BQ):=
 a8 (Gd n p1 false) fun r2=>some r2
theorem qqd(n:Nat)(p1:Z O8)(r:BQ)(J:Od n p1=some r):dJ prog 157 [.str p1] (.bool r):=by unfold Od at J;refine kR 5 SY ?_;obtain⟨r2,h3,J⟩:=aL J;refine go ?_;refine aK rfl (pC (qgu n p1 false r2 h3) _) HX ?_;exact gx J
def wq: I (Int):=
 some (-1)
def XA(p1:Z bC)(p2:Z O8):Nat->Int->I (Int)
 |0,_=>none|m1+1,z6=>cond (decide (z6<(p1.length:Int))) (a8 (aC p1 z6) fun x8=>cond (jZ x8.Name p2) (some z6) ((XA p1 p2 m1) (IntKind.i64.wrap (z6+1)))) (wq)
def G3(n:Nat)(p1:Z bC)(p2:Z O8):I (Int):=
 XA p1 p2 n 0
theorem Gk(n:Nat)(p1:Z bC)(p2:Z O8)(r:Int)(J:G3 n p1 p2=some r):dJ prog 158 [.isl false (p1.map bJ),.str p2] (.int .i64 r):=by unfold G3 at J;refine eO 20 qK ?_;refine go ?_;refine gL (fun m tm X=>∃z6,XA p1 p2 m z6=some r/\tm=fr 20 [(0,.iM bJ p1),(1,.str p2),(5,.i6 z6)]/\X=⟨[],0⟩) (fun tm X=>wq=some r/\tm=fr 20 []/\X=⟨[],0⟩) n ⟨0,J,rfl,rfl⟩ ?_ ?_;rintro _ _ ⟨J,rfl,rfl⟩;unfold wq at J;exact gx J;rintro(_|m1) _ _ ⟨z6,J,rfl,rfl⟩;cases J;unfold XA at J;refine gF J ?_ ?_<;>intro h7 J;refine go ?_;apply aR;obtain⟨x8,h9,J⟩:=aL J;refine go ?_;refine aW h9 ?_;refine go ?_;refine bT (u:=.bool (jZ x8.Name p2)) rfl (E6 rfl rfl rfl rfl) ?_;refine gF J ?_ ?_<;>intro iR J;exact gx J;refine go ?_;exact lC ⟨_,J,rfl,rfl⟩;refine go ?_;exact xC ⟨J,rfl,rfl⟩
def xu: I (Int):=
 some 0
def XJ(p1:Z bC)(n:Nat):Nat->Int->I (Int)
 |0,_=>none|m1+1,z4=>cond (decide (z4<(p1.length:Int))) (a8 (aC p1 z4) fun x6=>a8 (Od n x6.Name) fun r8=>cond (!r8) (some 1) (a8 (aC p1 z4) fun sC=>a8 (G3 n p1 sC.Name) fun lM=>cond (decide (lM<z4)) (some 4) ((XJ p1 n m1) (IntKind.i64.wrap (z4+1))))) (xu)
def zi(n:Nat)(p1:Z bC):I (Int):=
 XJ p1 n n 0
theorem qo3(n:Nat)(p1:Z bC)(r:Int)(J:zi n p1=some r):dJ prog 122 [.isl false (p1.map bJ)] (.int .i64 r):=by unfold zi at J;refine kR 26 TA ?_;refine go ?_;refine gL (fun m tm X=>∃z4,XJ p1 n m z4=some r/\tm=fr 26 [(0,.iM bJ p1),(3,.i6 z4)]/\X=⟨[],0⟩) (fun tm X=>xu=some r/\tm=fr 26 []/\X=⟨[],0⟩) n ⟨0,J,rfl,rfl⟩ ?_ ?_;rintro _ _ ⟨J,rfl,rfl⟩;unfold xu at J;exact gx J;rintro(_|m1) _ _ ⟨z4,J,rfl,rfl⟩;cases J;unfold XJ at J;refine gF J ?_ ?_<;>intro h5 J;refine go ?_;apply aR;obtain⟨x6,h7,r8,h9,J⟩:=cB J;refine go ?_;refine aW h7 ?_;refine go ?_;refine aK rfl (pC (qqd n x6.Name r8 h9) _) SY ?_;refine gF J ?_ ?_<;>intro iR J;exact gx J;obtain⟨sC,iH,lM,iW,J⟩:=cB J;refine go ?_;refine aW iH ?_;refine go ?_;refine aK rfl (pC (Gk n p1 sC.Name lM iW) _) qK ?_;refine gF J ?_ ?_<;>intro kQ J;exact gx J;refine go ?_;exact lC ⟨_,J,rfl,rfl⟩;refine go ?_;exact xC ⟨J,rfl,rfl⟩
def jb: I (BQ):=
 some false
def Gy(p1:Z (Z O8))(p2:Z O8):Nat->Int->I (BQ)
 |0,_=>none|m1+1,z6=>cond (decide (z6<(p1.length:Int))) (a8 (aC p1 z6) fun x8=>cond (jZ x8 p2) (some true) ((Gy p1 p2 m1) (IntKind.i64.wrap (z6+1)))) (jb)
def EB(n:Nat)(p1:Z (Z O8))(p2:Z O8):I (BQ):=
 Gy p1 p2 n 0
theorem MR(n:Nat)(p1:Z (Z O8))(p2:Z O8)(r:BQ)(J:EB n p1 p2=some r):dJ prog 126 [.isl false (p1.map cS),.str p2] (.bool r):=by unfold EB at J;refine eO 18 lW ?_;refine go ?_;refine gL (fun m tm X=>∃z6,Gy p1 p2 m z6=some r/\tm=fr 18 [(0,.iM cS p1),(1,.str p2),(5,.i6 z6)]/\X=⟨[],0⟩) (fun tm X=>jb=some r/\tm=fr 18 []/\X=⟨[],0⟩) n ⟨0,J,rfl,rfl⟩ ?_ ?_;rintro _ _ ⟨J,rfl,rfl⟩;unfold jb at J;exact gx J;rintro(_|m1) _ _ ⟨z6,J,rfl,rfl⟩;cases J;unfold Gy at J;refine gF J ?_ ?_<;>intro h7 J;refine go ?_;apply aR;obtain⟨x8,h9,J⟩:=aL J;refine go ?_;refine aW h9 ?_;refine go ?_;refine bT (u:=.bool (jZ x8 p2)) rfl (E6 rfl rfl rfl rfl) ?_;refine gF J ?_ ?_<;>intro iR J;exact gx J;refine go ?_;exact lC ⟨_,J,rfl,rfl⟩;refine go ?_;exact xC ⟨J,rfl,rfl⟩
def jp(z4:Int)(cM:Int->I (Int)): I (Int):=
 cM (IntKind.i64.wrap (z4+1))
def XO(p1:Z bC)(n:Nat)(z4:Int)(cM:Int->I (Int))(x6:bC):Nat->Int->I (Int)
 |0,_=>none|m2+1,eZ=>
  cond (decide (eZ<(x6.Supers.length:Int))) (a8 (aC x6.Supers eZ) fun u7=>
   a8 (G3 n p1 u7) fun W3=>cond (decide (W3<0)) (some 5) (a8 (v8 x6.Supers 0 eZ) fun qX=>
    a8 (aC x6.Supers eZ) fun xZ=>
    a8 (EB n qX xZ) fun o5=>cond o5 (some 4) ((XO p1 n z4 cM x6 m2) (IntKind.i64.wrap (eZ+1))))) (jp z4 cM)
def jq: I (Int):=
 some 0
def KE(p1:Z bC)(n:Nat):Nat->Int->I (Int)
 |0,_=>none|m1+1,z4=>cond (decide (z4<(p1.length:Int))) (a8 (aC p1 z4) fun x6=>XO p1 n z4 (KE p1 n m1) x6 n 0) (jq)
def zt(n:Nat)(p1:Z bC):I (Int):=
 KE p1 n n 0
theorem qlj(n:Nat)(p1:Z bC)(r:Int)(J:zt n p1=some r):dJ prog 123 [.isl false (p1.map bJ)] (.int .i64 r):=by unfold zt at J;refine kR 38 T9 ?_;refine go ?_;refine gL (fun m tm X=>∃z4,KE p1 n m z4=some r/\tm=fr 38 [(0,.iM bJ p1),(3,.i6 z4)]/\X=⟨[],0⟩) (fun tm X=>jq=some r/\tm=fr 38 []/\X=⟨[],0⟩) n ⟨0,J,rfl,rfl⟩ ?_ ?_;rintro _ _ ⟨J,rfl,rfl⟩;unfold jq at J;exact gx J;rintro(_|m1) _ _ ⟨z4,J,rfl,rfl⟩;cases J;unfold KE at J;refine gF J ?_ ?_<;>intro h5 J;refine go ?_;apply aR;obtain⟨x6,h7,J⟩:=aL J;refine go ?_;refine aW h7 ?_;refine go ?_;refine gL (fun m tm X=>∃eZ,XO p1 n z4 (KE p1 n m1) x6 m eZ=some r/\tm=fr 38 [(0,.iM bJ p1),(3,.i6 z4),(4,.iM cS x6.Supers),(5,.i6 eZ)]/\X=⟨[],0⟩) (fun tm X=>jp z4 (KE p1 n m1)=some r/\tm=fr 38 [(0,.iM bJ p1),(3,.i6 z4)]/\X=⟨[],0⟩) n ⟨0,J,rfl,rfl⟩ ?_ ?_;rintro _ _ ⟨J,rfl,rfl⟩;unfold jp at J;refine go ?_;exact lC ⟨_,J,rfl,rfl⟩;rintro(_|m2) _ _ ⟨eZ,J,rfl,rfl⟩;cases J;unfold XO at J;refine gF J ?_ ?_<;>intro eH J;refine go ?_;apply aR;obtain⟨u7,kQ,W3,iV,J⟩:=cB J;refine go ?_;refine aW kQ ?_;refine go ?_;refine aK rfl (pC (Gk n p1 u7 W3 iV) _) qK ?_;refine gF J ?_ ?_<;>intro dU J;exact gx J;obtain⟨qX,rZ,J⟩:=aL J;obtain⟨tY,tX⟩:=Yr cS .i64 rZ;obtain⟨xZ,pH,o5,nZ,J⟩:=cB J;refine go ?_;refine dE [] ?_;refine gd ?_;refine bM (u:=.iM cS qX) rfl (JW rfl uC (L5 rfl) uC (Lg cS jC.h (bZ GR.h) LR tY tX)) ?_;refine gd ?_;refine cY pH ?_;refine gd ?_;refine dV rfl (pC (MR n qX xZ o5 nZ)) lW ?_;refine bN ⟨by kernel_rfl,trivial,?_⟩;refine gF J ?_ ?_<;>intro SI J;exact gx J;refine go ?_;exact lC ⟨_,J,rfl,rfl⟩;refine go ?_;exact xC ⟨J,rfl,rfl⟩;refine go ?_;exact xC ⟨J,rfl,rfl⟩
def xr: I (BQ):=
 some true
def XI(p1:bC)(p2:Z (Z O8))(n:Nat):Nat->Int->I (BQ)
 |0,_=>none|m1+1,z8=>cond (decide (z8<(p1.Supers.length:Int))) (a8 (aC p1.Supers z8) fun mH=>a8 (EB n p2 mH) fun iJ=>cond (!iJ) (some false) ((XI p1 p2 n m1) (IntKind.i64.wrap (z8+1)))) (xr)
def zh(n:Nat)(p1:bC)(p2:Z (Z O8)):I (BQ):=
 XI p1 p2 n n 0
theorem qo4(n:Nat)(p1:bC)(p2:Z (Z O8))(r:BQ)(J:zh n p1 p2=some r):dJ prog 159 [.agg (bJ p1),.isl false (p2.map cS)] (.bool r):=by unfold zh at J;refine eO 21 SX ?_;refine go ?_;refine gL (fun m tm X=>∃z8,XI p1 p2 n m z8=some r/\tm=fr 21 [(1,.iM cS p2),(2,.ptr 0 0 0),(5,.i6 z8)]/\X=⟨[(0,.row (bJ p1) 153)],1⟩) (fun tm X=>xr=some r/\tm=fr 21 []/\X=⟨[(0,.row (bJ p1) 153)],1⟩) n ⟨0,J,rfl,rfl⟩ ?_ ?_;rintro _ _ ⟨J,rfl,rfl⟩;unfold xr at J;exact gx J;rintro(_|m1) _ _ ⟨z8,J,rfl,rfl⟩;cases J;unfold XI at J;refine gF J ?_ ?_<;>intro h9 J;refine go ?_;apply aR;obtain⟨mH,mF,iJ,eH,J⟩:=cB J;refine go ?_;refine aW mF ?_;refine go ?_;refine aK rfl (pC (MR n p2 mH iJ eH) _) lW ?_;refine gF J ?_ ?_<;>intro iW J;exact gx J;refine go ?_;exact lC ⟨_,J,rfl,rfl⟩;refine go ?_;exact xC ⟨J,rfl,rfl⟩
def Py(cM:BQ->(Z (Z O8))->I ((Z (Z O8))))(EO:BQ)(nV:Z (Z O8)):I ((Z (Z O8))):=
 cM EO nV
def Px(eS:Int)(nP:BQ->(Z O8)->Int->I ((Z (Z O8))))(Dh:Z O8):I ((Z (Z O8))):=
 nP true Dh (IntKind.i64.wrap (eS+1))
def jr(l7:Z (Z O8))(cM:BQ->(Z (Z O8))->I ((Z (Z O8))))(EO:BQ)(tE:Z O8):I ((Z (Z O8))):=
 cond EO (aG ((l7.length+1)*16<=140737488355328/\l7.length+1<=140737488355328) (
  Py cM EO (l7++[tE]))) (Py cM EO l7)
def KF(p1:Z bC)(n:Nat)(l7:Z (Z O8))(cM:BQ->(Z (Z O8))->I ((Z (Z O8)))):Nat->BQ->(Z O8)->Int->I ((Z (Z O8)))
 |0,_,_,_=>none|m2+1,BG,A8,eS=>cond (decide (eS<(p1.length:Int))) (a8 (a8 (aC p1 eS) fun uV=>a8 (EB n l7 uV.Name) fun W2=>cond W2 (some true) (a8 (aC p1 eS) fun oI=>a8 (zh n oI l7) fun iY=>some (!iY))) fun Cq=>cond Cq ((KF p1 n l7 cM m2) BG A8 (IntKind.i64.wrap (eS+1))) (a8 (cond (!BG) (some true) (a8 (aC p1 eS) fun UF=>some (jH UF.Name A8))) fun TT=>cond TT (a8 (aC p1 eS) fun se=>Px eS (KF p1 n l7 cM m2) se.Name) (Px eS (KF p1 n l7 cM m2) A8))) (jr l7 cM BG A8)
def js  (l9:Z (Z O8)):I ((Z (Z O8))):=
 some l9
def G6(p1:Z bC)(n:Nat):Nat->BQ->(Z (Z O8))->I ((Z (Z O8)))
 |0,_,_=>none|m1+1,b6,l7=>cond b6 (KF p1 n l7 (G6 p1 n m1) n false [] 0) (js l7)
def zw(n:Nat)(p1:Z bC):I ((Z (Z O8))):=
 G6 p1 n n true ([]:Z (Z O8))
theorem qli(n:Nat)(p1:Z bC)(r:(Z (Z O8)))(J:zw n p1=some r):dJ prog 124 [.isl false (p1.map bJ)] (.isl false (r.map cS)):=by unfold zw at J;refine kR 52 T8 ?_;refine gr ?_;refine gr ?_;refine gr ?_;refine gV 3 9 1 1 ?_;refine gL (fun m tm X=>∃b6 l7 t8,G6 p1 n m b6 l7=some r/\tm=fr 52 [(0,.iM bJ p1),(3,.vl 0 t8 0 l7.length),(4,.bool b6)]/\X=⟨lR l7 t8,1⟩) (fun tm X=>∃l9 fC,js l9=some r/\tm=fr 52 [(3,.vl 0 fC 0 l9.length)]/\X=⟨lR l9 fC,1⟩) n ⟨true,([]:Z (Z O8)),0,J,rfl,rfl⟩ ?_ ?_;rintro _ _ ⟨l9,fC,J,rfl,rfl⟩;unfold js at J;refine go ?_;obtain rfl:=sI J;exact rT (us:=[.vl 0 fC 0 l9.length]) (u:=.iM cS l9) (fH rfl (fW)) (fR 0 1);rintro(_|m1) _ _ ⟨b6,l7,t8,J,rfl,rfl⟩;cases J;unfold G6 at J;refine gF J ?_ ?_<;>intro mF J;refine go ?_;apply aR;refine go ?_;refine gL (fun m tm X=>∃BG A8 eS,KF p1 n l7 (G6 p1 n m1) m BG A8 eS=some r/\tm=fr 52 [(0,.iM bJ p1),(3,.vl 0 t8 0 l7.length),(4,.bool BG),(5,.str A8),(6,.i6 eS)]/\X=⟨lR l7 t8,1⟩) (fun tm X=>∃EO tE,jr l7 (G6 p1 n m1) EO tE=some r/\tm=fr 52 [(0,.iM bJ p1),(3,.vl 0 t8 0 l7.length),(4,.bool EO),(5,.str tE)]/\X=⟨lR l7 t8,1⟩) n ⟨false,[],0,J,rfl,rfl⟩ ?_ ?_;rintro _ _ ⟨EO,tE,J,rfl,rfl⟩;unfold jr at J;refine gr ?_;refine fK (fun tm X=>∃nV t25,Py (G6 p1 n m1) EO nV=some r/\tm=fr 52 [(0,.iM bJ p1),(3,.vl 0 t25 0 nV.length),(4,.bool EO)]/\X=⟨lR nV t25,1⟩) ?_ ?_;rintro _ _ ⟨nV,t25,J,rfl,rfl⟩;unfold Py at J;refine go ?_;exact lC ⟨EO,nV,t25,J,rfl,rfl⟩;refine cF J ?_ ?_<;>intro zE J;obtain⟨nZ,J⟩:=cQ J;refine go ?_;refine cP ?_;refine cP ?_;refine go ?_;exact xC ⟨(l7++[tE]),(t8+1),J,rfl,rfl⟩;refine go ?_;exact xC ⟨l7,t8,J,rfl,rfl⟩;rintro(_|m2) _ _ ⟨BG,A8,eS,J,rfl,rfl⟩;cases J;unfold KF at J;refine gF J ?_ ?_<;>intro SI J;refine go ?_;apply aR;obtain⟨Cq,mD,J⟩:=aL J;refine gn ?_;refine fK (fun tm X=>tm=fr 52 [(0,.iM bJ p1),(3,.vl 0 t8 0 l7.length),(4,.bool BG),(5,.str A8),(6,.i6 eS),(29,.bool Cq)]/\X=⟨lR l7 t8,1⟩) ?_ ?_;rintro _ _ ⟨rfl,rfl⟩;refine gF J ?_ ?_<;>intro B3 J;refine go ?_;exact lC ⟨BG,A8,(IntKind.i64.wrap (eS+1)),J,rfl,rfl⟩;obtain⟨TT,mC,J⟩:=aL J;refine gn ?_;refine fK (fun tm X=>tm=fr 52 [(0,.iM bJ p1),(3,.vl 0 t8 0 l7.length),(5,.str A8),(6,.i6 eS),(40,.bool TT)]/\X=⟨lR l7 t8,1⟩) ?_ ?_;rintro _ _ ⟨rfl,rfl⟩;refine gn ?_;refine fK (fun tm X=>∃Dh,Px eS (KF p1 n l7 (G6 p1 n m1) m2) Dh=some r/\tm=fr 52 [(0,.iM bJ p1),(3,.vl 0 t8 0 l7.length),(5,.str Dh),(6,.i6 eS)]/\X=⟨lR l7 t8,1⟩) ?_ ?_;rintro _ _ ⟨Dh,J,rfl,rfl⟩;unfold Px at J;refine go ?_;exact lC ⟨true,Dh,(IntKind.i64.wrap (eS+1)),J,rfl,rfl⟩;refine cF J ?_ ?_<;>intro sV J;obtain⟨se,h48,J⟩:=aL J;refine go ?_;refine aW h48 ?_;refine go ?_;exact xC ⟨se.Name,J,rfl,rfl⟩;refine go ?_;exact xC ⟨A8,J,rfl,rfl⟩;refine go ?_;rcases gB mC with⟨HP,mC⟩|⟨HP,mC⟩;exact gy mC;obtain⟨UF,HO,mC⟩:=aL mC;obtain rfl:=sI mC;refine go ?_;refine aW HO ?_;refine go ?_;refine RS.w (u:=.bool (jH UF.Name A8)) rfl (E6 rfl rfl rfl rfl) ?_;refine go ?_;exact xC ⟨rfl,rfl⟩;obtain⟨uV,sX,mD⟩:=aL mD;obtain⟨W2,D6,mD⟩:=aL mD;refine go ?_;refine aW sX ?_;refine go ?_;refine aK rfl (vw (MR n l7 uV.Name W2 D6) (rE 0 1)) lW ?_;refine go ?_;rcases gB mD with⟨oH,mD⟩|⟨oH,mD⟩;exact gy mD;obtain⟨oI,nB,mD⟩:=aL mD;obtain⟨iY,B4,mD⟩:=aL mD;obtain rfl:=sI mD;refine go ?_;refine aW nB ?_;refine go ?_;refine aK rfl (vw (qo4 n oI l7 iY B4) (rE 0 1)) SX ?_;refine go ?_;exact xC ⟨rfl,rfl⟩;refine go ?_;exact xC ⟨BG,A8,J,rfl,rfl⟩;refine go ?_;exact xC ⟨l7,t8,J,rfl,rfl⟩
def Pn(fL:Int)(cM:Int->Int->I (Int))(z25:Int):I (Int):=
 cM z25 (IntKind.i64.wrap (fL+1))
def xx(p1:Z bC)(n:Nat)(jB:Int):I (Int):=
 cond (jB != 1) (some 1) (a8 (zw n p1) fun jD=>cond (decide ((jD.length:Int)<(p1.length:Int))) (some 6) (some 0))
def MV(p1:Z bC)(n:Nat):Nat->Int->Int->I (Int)
 |0,_,_=>none|m1+1,tB,fL=>cond (decide (fL<(p1.length:Int))) (a8 (aC p1 fL) fun pK=>cond ((pK.Supers.length:Int)==0) (Pn fL (MV p1 n m1) (IntKind.i64.wrap (tB+1))) (Pn fL (MV p1 n m1) tB)) (xx p1 n tB)
def Om(n:Nat)(p1:Z bC):I (Int):=
 a8 (Ok n p1) fun r2=>cond (r2 != 0) (some r2) (a8 (zi n p1) fun r5=>cond (r5 != 0) (some r5) (a8 (zt n p1) fun r8=>cond (r8 != 0) (some r8) (MV p1 n n 0 0)))
theorem qo2(n:Nat)(p1:Z bC)(r:Int)(J:Om n p1=some r):dJ prog 90 [.isl false (p1.map bJ)] (.int .i64 r):=by unfold Om at J;refine kR 46 Vf ?_;obtain⟨r2,h3,J⟩:=aL J;refine go ?_;refine aK rfl (pC (qo5 n p1 r2 h3) _) TB ?_;refine gF J ?_ ?_<;>intro h4 J;exact gx J;obtain⟨r5,h6,J⟩:=aL J;refine go ?_;refine aK rfl (pC (qo3 n p1 r5 h6) _) TA ?_;refine gF J ?_ ?_<;>intro h7 J;exact gx J;obtain⟨r8,h9,J⟩:=aL J;refine go ?_;refine aK rfl (pC (qlj n p1 r8 h9) _) T9 ?_;refine gF J ?_ ?_<;>intro iR J;exact gx J;refine go ?_;refine gL (fun m tm X=>∃tB fL,MV p1 n m tB fL=some r/\tm=fr 46 [(0,.iM bJ p1),(6,.i6 tB),(7,.i6 fL)]/\X=⟨[],0⟩) (fun tm X=>∃jB,xx p1 n jB=some r/\tm=fr 46 [(0,.iM bJ p1),(6,.i6 jB)]/\X=⟨[],0⟩) n ⟨0,0,J,rfl,rfl⟩ ?_ ?_;rintro _ _ ⟨jB,J,rfl,rfl⟩;unfold xx at J;refine gF J ?_ ?_<;>intro iV J;exact gx J;obtain⟨jD,jU,J⟩:=aL J;refine go ?_;refine aK rfl (pC (qli n p1 jD jU) _) T8 ?_;refine gF J ?_ ?_<;>intro rZ J;exact gx J;exact gx J;rintro(_|m1) _ _ ⟨tB,fL,J,rfl,rfl⟩;cases J;unfold MV at J;refine gF J ?_ ?_<;>intro tY J;refine go ?_;apply aR;obtain⟨pK,zE,J⟩:=aL J;refine go ?_;refine aW zE ?_;refine gn ?_;refine fK (fun tm X=>∃z25,Pn fL (MV p1 n m1) z25=some r/\tm=fr 46 [(0,.iM bJ p1),(6,.i6 z25),(7,.i6 fL)]/\X=⟨[],0⟩) ?_ ?_;rintro _ _ ⟨z25,J,rfl,rfl⟩;unfold Pn at J;refine go ?_;exact lC ⟨z25,(IntKind.i64.wrap (fL+1)),J,rfl,rfl⟩;refine cF J ?_ ?_<;>intro pH J;refine go ?_;exact xC ⟨(IntKind.i64.wrap (tB+1)),J,rfl,rfl⟩;refine go ?_;exact xC ⟨tB,J,rfl,rfl⟩;refine go ?_;exact xC ⟨tB,J,rfl,rfl⟩
def Oz(p1:Z (Z O8))(p2:Z O8)(z7:Int):I ((Z (Z O8))):=
 a8 (cond (decide (z7<(p1.length:Int))) (a8 (aC p1 z7) fun x9=>some (jZ x9 p2)) (some false)) fun b11=>cond b11 (some p1) (a8 (v8 p1 0 z7) fun hJ=>
  aG (hJ.length*16<=140737488355328/\hJ.length<=140737488355328) (
  aG ((hJ.length+1)*16<=140737488355328/\hJ.length+1<=140737488355328) (
  a8 (v8 p1 z7 (p1.length:Int)) fun kW=>
  aG (((hJ++[p2]).length+kW.length)*16<=140737488355328/\(hJ++[p2]).length+kW.length<=140737488355328) (some ((hJ++[p2])++kW)))))
def Gl(p1:Z (Z O8))(p2:Z O8):Nat->Int->I ((Z (Z O8)))
 |0,_=>none|m1+1,z6=>a8 (cond (decide (z6<(p1.length:Int))) (a8 (aC p1 z6) fun sj=>some (jH sj p2)) (some false)) fun IH=>cond IH ((Gl p1 p2 m1) (IntKind.i64.wrap (z6+1))) (Oz p1 p2 z6)
def MG(n:Nat)(p1:Z (Z O8))(p2:Z O8):I ((Z (Z O8))):=
 Gl p1 p2 n 0
theorem Ga(n:Nat)(p1:Z (Z O8))(p2:Z O8)(r:(Z (Z O8)))(J:MG n p1 p2=some r):dJ prog 116 [.isl false (p1.map cS),.str p2] (.isl false (r.map cS)):=by unfold MG at J;refine eO 48 qL ?_;refine go ?_;refine gL (fun m tm X=>∃z6,Gl p1 p2 m z6=some r/\tm=fr 48 [(0,.iM cS p1),(1,.str p2),(5,.nils),(6,.i6 z6)]/\X=⟨[],0⟩) (fun tm X=>∃z7,Oz p1 p2 z7=some r/\tm=fr 48 [(0,.iM cS p1),(1,.str p2),(5,.nils),(6,.i6 z7)]/\X=⟨[],0⟩) n ⟨0,J,rfl,rfl⟩ ?_ ?_;rintro _ _ ⟨z7,J,rfl,rfl⟩;unfold Oz at J;obtain⟨b11,iH,J⟩:=aL J;refine gn ?_;refine fK (fun tm X=>tm=fr 48 [(0,.iM cS p1),(1,.str p2),(5,.nils),(6,.i6 z7),(32,.bool b11)]/\X=⟨[],0⟩) ?_ ?_;rintro _ _ ⟨rfl,rfl⟩;refine gF J ?_ ?_<;>intro eH J;exact gx J;obtain⟨hJ,kQ,J⟩:=aL J;obtain⟨zP,iV⟩:=Yr cS .i64 kQ;obtain⟨dU,J⟩:=cQ J;refine go ?_;refine bT (u:=.iM cS hJ) rfl (JW rfl uC (L5 rfl) uC (Lg cS jC.h (bZ GR.h) LR zP iV)) (bT (u:=.vl 0 0 0 hJ.length) (X':=⟨[(0,.bv cS hJ 9 1 0)],1⟩) rfl (rN rfl rfl rfl rfl (af cS hJ jC.h jC.h GR.h rfl (Ma cS LR) dU)) ?_);obtain⟨jU,J⟩:=cQ J;refine go ?_;refine cP ?_;refine cP ?_;obtain⟨kW,tY,J⟩:=aL J;obtain⟨tX,zE⟩:=Bw cS .i64 tY;obtain⟨pH,J⟩:=cQ J;refine go ?_;refine bT (u:=.iM cS kW) rfl (JW rfl (L5 rfl) uC uC (Lg cS jC.h (bZ GR.h) LR tX zE)) ?_;refine cP ?_;refine go ?_;obtain rfl:=sI J;exact rT (us:=[.vl 0 2 0 (((hJ++[p2])++kW).length)]) (u:=.iM cS ((hJ++[p2])++kW)) (fH rfl (fW)) (fR 0 1);refine go ?_;rcases gB iH with⟨h8,iH⟩|⟨h8,iH⟩;obtain⟨x9,iR,iH⟩:=aL iH;obtain rfl:=sI iH;refine go ?_;refine aW iR ?_;refine go ?_;refine RS.w (u:=.bool (jZ x9 p2)) rfl (E6 rfl rfl rfl rfl) ?_;refine go ?_;exact xC ⟨rfl,rfl⟩;exact gy iH;rintro(_|m1) _ _ ⟨z6,J,rfl,rfl⟩;cases J;unfold Gl at J;obtain⟨IH,sX,J⟩:=aL J;refine gn ?_;refine fK (fun tm X=>tm=fr 48 [(0,.iM cS p1),(1,.str p2),(5,.nils),(6,.i6 z6),(18,.bool IH)]/\X=⟨[],0⟩) ?_ ?_;rintro _ _ ⟨rfl,rfl⟩;refine gF J ?_ ?_<;>intro xS J;refine go ?_;apply aR;refine go ?_;exact lC ⟨_,J,rfl,rfl⟩;refine go ?_;exact xC ⟨z6,J,rfl,rfl⟩;refine go ?_;rcases gB sX with⟨HQ,sX⟩|⟨HQ,sX⟩;obtain⟨sj,SI,sX⟩:=aL sX;obtain rfl:=sI sX;refine go ?_;refine aW SI ?_;refine go ?_;refine RS.w (u:=.bool (jH sj p2)) rfl (E6 rfl rfl rfl rfl) ?_;refine go ?_;exact xC ⟨rfl,rfl⟩;exact gy sX
def xw  (l7:Z (Z O8)):I ((Z (Z O8))):=
 some l7
def XK(p1:Z bC)(n:Nat):Nat->(Z (Z O8))->Int->I ((Z (Z O8)))
 |0,_,_=>none|m1+1,l5,z6=>cond (decide (z6<(p1.length:Int))) (a8 (aC p1 z6) fun x9=>a8 (MG n l5 x9.Name) fun rJ=>(XK p1 n m1) rJ (IntKind.i64.wrap (z6+1))) (xw l5)
def Ol(n:Nat)(p1:Z bC):I ((Z (Z O8))):=
 XK p1 n n [] 0
theorem qgx(n:Nat)(p1:Z bC)(r:(Z (Z O8)))(J:Ol n p1=some r):dJ prog 91 [.isl false (p1.map bJ)] (.isl false (r.map cS)):=by unfold Ol at J;refine kR 19 Bf ?_;refine gr ?_;refine gr ?_;refine gr ?_;refine dY (tm':=fr 19 [(0,.iM bJ p1),(3,.iM cS []),(4,.i6 0)]) (Gh.trans (Gh.sub (l':=[(0,.iM bJ p1),(3,.nils),(4,.i6 0)]) ⟨rfl,rfl,rfl,trivial⟩) (Gh.wkS (l':=[(0,.iM bJ p1),(3,.iM cS []),(4,.i6 0)]) (.cons (.refl _) (.cons (.nil false) (.cons (.refl _) .nil))))) NZ ?_;refine gL (fun m tm X=>∃l5 z6,XK p1 n m l5 z6=some r/\tm=fr 19 [(0,.iM bJ p1),(3,.iM cS l5),(4,.i6 z6)]/\X=⟨[],0⟩) (fun tm X=>∃l7,xw l7=some r/\tm=fr 19 [(3,.iM cS l7)]/\X=⟨[],0⟩) n ⟨[],0,J,rfl,rfl⟩ ?_ ?_;rintro _ _ ⟨l7,J,rfl,rfl⟩;unfold xw at J;exact gx J;rintro(_|m1) _ _ ⟨l5,z6,J,rfl,rfl⟩;cases J;unfold XK at J;refine gF J ?_ ?_<;>intro h8 J;refine go ?_;apply aR;obtain⟨x9,iR,rJ,iH,J⟩:=cB J;refine go ?_;refine aW iR ?_;refine go ?_;refine aK rfl (pC (Ga n l5 x9.Name rJ iH) _) qL ?_;refine go ?_;exact lC ⟨rJ,(IntKind.i64.wrap (z6+1)),J,rfl,rfl⟩;refine go ?_;exact xC ⟨l5,J,rfl,rfl⟩
def xz  (uM:Z (Z O8)):I ((Z (Z O8))):=
 some uM
def QS(n:Nat)(cV:Z (Z O8)):Nat->(Z (Z O8))->Int->I ((Z (Z O8)))
 |0,_,_=>none|m2+1,qX,eS=>cond (decide (eS<(cV.length:Int))) (a8 (aC cV eS) fun xZ=>a8 (MG n qX xZ) fun o5=>(QS n cV m2) o5 (IntKind.i64.wrap (eS+1))) (xz qX)
def Po(xW:Int)(py:Int->(Z (Z O8))->I ((Z (Z O8))))(pV:Z (Z O8)):I ((Z (Z O8))):=
 py (IntKind.i64.wrap (xW+1)) pV
def xy(eC:Int)(cM:Int->(Z (Z O8))->I ((Z (Z O8))))(AJ:Z (Z O8)):I ((Z (Z O8))):=
 cM (IntKind.i64.wrap (eC+1)) AJ
def MW(p1:Z bC)(n:Nat)(eC:Int)(cM:Int->(Z (Z O8))->I ((Z (Z O8)))):Nat->Int->(Z (Z O8))->I ((Z (Z O8)))
 |0,_,_=>none|m3+1,xW,tM=>
  cond (decide (xW<(p1.length:Int))) (a8 (a8 (aC p1 xW) fun L9=>
   a8 (aC tM eC) fun UF=>
   a8 (EB n L9.Supers UF) fun gc=>cond gc (a8 (aC p1 xW) fun OV=>
    a8 (EB n tM OV.Name) fun PK=>some (!PK)) (some false)) fun b50=>cond b50 (a8 (aC p1 xW) fun sc=>
    aG ((tM.length+1)*16<=140737488355328/\tM.length+1<=140737488355328) (
    Po xW (MW p1 n eC cM m3) (tM++[sc.Name]))) (Po xW (MW p1 n eC cM m3) tM)) (xy eC cM tM)
def ja(n:Nat)(cV:Z (Z O8)):I ((Z (Z O8))):=
 QS n cV n [] 0
def KB(p1:Z bC)(n:Nat):Nat->Int->(Z (Z O8))->I ((Z (Z O8)))
 |0,_,_=>none|m1+1,eC,cZ=>cond (decide (eC<(cZ.length:Int))) (MW p1 n eC (KB p1 n m1) n 0 cZ) (ja n cZ)
def On(n:Nat)(p1:Z bC)(p2:Z O8):I ((Z (Z O8))):=
 a8 (G3 n p1 p2) fun r3=>cond (decide (r3<0)) (some []) (KB p1 n n 0 ([p2]))
theorem qo1(n:Nat)(p1:Z bC)(p2:Z O8)(r:(Z (Z O8)))(J:On n p1 p2=some r):dJ prog 125 [.isl false (p1.map bJ),.str p2] (.isl false (r.map cS)):=by unfold On at J;refine eO 69 T7 ?_;obtain⟨r3,h4,J⟩:=aL J;refine go ?_;refine aK rfl (pC (Gk n p1 p2 r3 h4) _) qK ?_;refine gF J ?_ ?_<;>intro h5 J;refine go ?_;obtain rfl:=sI J;exact rT (us:=[.nils]) (u:=.isl false []) (fH rfl (fW)) wR;refine go ?_;refine RS.step (u:=.vl 0 0 0 ([p2].length)) (X':=⟨[(0,.bv cS ([p2]) 9 1 0)],1⟩) rfl (eT.bslv (cs:=(List.map cS [p2]).flatten) tb_ok rfl jC.h GR.h rfl rfl rfl rfl rfl rfl rfl rfl) rfl rfl ?_;refine go ?_;refine gL (fun m tm X=>∃eC cZ j9,KB p1 n m eC cZ=some r/\tm=fr 69 [(0,.iM bJ p1),(5,.vl 0 j9 0 cZ.length),(6,.i6 eC)]/\X=⟨lR cZ j9,1⟩) (fun tm X=>∃cV hZ,ja n cV=some r/\tm=fr 69 [(5,.vl 0 hZ 0 cV.length)]/\X=⟨lR cV hZ,1⟩) n ⟨0,[p2],0,J,rfl,rfl⟩ ?_ ?_;rintro _ _ ⟨cV,hZ,J,rfl,rfl⟩;unfold ja at J;refine gr ?_;refine gr ?_;refine dY (tm':=fr 69 [(5,.vl 0 hZ 0 cV.length),(8,.iM cS []),(9,.i6 0)]) (Gh.trans (Gh.sub (l':=[(5,.vl 0 hZ 0 cV.length),(8,.nils),(9,.i6 0)]) ⟨rfl,rfl,rfl,trivial⟩) (Gh.wkS (l':=[(5,.vl 0 hZ 0 cV.length),(8,.iM cS []),(9,.i6 0)]) (.cons (.refl _) (.cons (.nil false) (.cons (.refl _) .nil))))) NZ ?_;refine gL (fun m tm X=>∃qX eS,QS n cV m qX eS=some r/\tm=fr 69 [(5,.vl 0 hZ 0 cV.length),(8,.iM cS qX),(9,.i6 eS)]/\X=⟨lR cV hZ,1⟩) (fun tm X=>∃uM,xz uM=some r/\tm=fr 69 [(8,.iM cS uM)]/\X=⟨lR cV hZ,1⟩) n ⟨[],0,J,rfl,rfl⟩ ?_ ?_;rintro _ _ ⟨uM,J,rfl,rfl⟩;unfold xz at J;exact gx J;rintro(_|m2) _ _ ⟨qX,eS,J,rfl,rfl⟩;cases J;unfold QS at J;refine gF J ?_ ?_<;>intro tX J;refine go ?_;apply aR;obtain⟨xZ,pH,o5,nZ,J⟩:=cB J;refine go ?_;refine bT rfl (fA rfl rfl (pS cS jC.h (bZ GR.h) (by decide) LR (vo rfl) pH)) ?_;refine bT rfl (yG cS (fun x=>.str x) J6.h rfl (fun _=>rfl) rfl rfl pH) (aK rfl (pC (Ga n qX xZ o5 nZ) _) qL ?_);refine go ?_;exact lC ⟨o5,(IntKind.i64.wrap (eS+1)),J,rfl,rfl⟩;refine go ?_;exact xC ⟨qX,J,rfl,rfl⟩;rintro(_|m1) _ _ ⟨eC,cZ,j9,J,rfl,rfl⟩;cases J;unfold KB at J;refine gF J ?_ ?_<;>intro SI J;refine go ?_;apply aR;refine go ?_;refine gL (fun m tm X=>∃xW tM LF,MW p1 n eC (KB p1 n m1) m xW tM=some r/\tm=fr 69 [(0,.iM bJ p1),(5,.vl 0 LF 0 tM.length),(6,.i6 eC),(7,.i6 xW)]/\X=⟨lR tM LF,1⟩) (fun tm X=>∃AJ Xy,xy eC (KB p1 n m1) AJ=some r/\tm=fr 69 [(0,.iM bJ p1),(5,.vl 0 Xy 0 AJ.length),(6,.i6 eC)]/\X=⟨lR AJ Xy,1⟩) n ⟨0,cZ,j9,J,rfl,rfl⟩ ?_ ?_;rintro _ _ ⟨AJ,Xy,J,rfl,rfl⟩;unfold xy at J;refine go ?_;exact lC ⟨_,AJ,Xy,J,rfl,rfl⟩;rintro(_|m3) _ _ ⟨xW,tM,LF,J,rfl,rfl⟩;cases J;unfold MW at J;refine gF J ?_ ?_<;>intro mD J;refine go ?_;apply aR;obtain⟨b50,uS,J⟩:=aL J;refine gn ?_;refine fK (fun tm X=>tm=fr 69 [(0,.iM bJ p1),(5,.vl 0 LF 0 tM.length),(6,.i6 eC),(7,.i6 xW),(47,.bool b50)]/\X=⟨lR tM LF,1⟩) ?_ ?_;rintro _ _ ⟨rfl,rfl⟩;refine gn ?_;refine fK (fun tm X=>∃pV Xv,Po xW (MW p1 n eC (KB p1 n m1) m3) pV=some r/\tm=fr 69 [(0,.iM bJ p1),(5,.vl 0 Xv 0 pV.length),(6,.i6 eC),(7,.i6 xW)]/\X=⟨lR pV Xv,1⟩) ?_ ?_;rintro _ _ ⟨pV,Xv,J,rfl,rfl⟩;unfold Po at J;refine go ?_;exact lC ⟨_,pV,Xv,J,rfl,rfl⟩;refine cF J ?_ ?_<;>intro h52 J;obtain⟨sc,lm,J⟩:=aL J;obtain⟨h57,J⟩:=cQ J;refine go ?_;refine aW lm ?_;refine go ?_;refine cP ?_;refine cP ?_;refine go ?_;exact xC ⟨(tM++[sc.Name]),(LF+1),J,rfl,rfl⟩;refine go ?_;exact xC ⟨tM,LF,J,rfl,rfl⟩;obtain⟨L9,HP,uS⟩:=aL uS;obtain⟨UF,HO,uS⟩:=aL uS;obtain⟨gc,mC,uS⟩:=aL uS;refine dE [] ?_;refine gd ?_;refine cY HP ?_;refine gd ?_;refine bM rfl (fA rfl rfl (pS cS jC.h (bZ GR.h) (by decide) LR (vo rfl) HO)) ?_;refine bM rfl (yG cS (fun x=>.str x) J6.h rfl (fun _=>rfl) rfl rfl HO) (dV rfl (pC (MR n L9.Supers UF gc mC)) lW ?_);refine gd ?_;rcases gB uS with⟨sV,uS⟩|⟨sV,uS⟩;obtain⟨OV,lp,uS⟩:=aL uS;obtain⟨PK,h49,uS⟩:=aL uS;obtain rfl:=sI uS;refine gd ?_;refine cY lp ?_;refine gd ?_;refine RD.call (u:=.bool PK) (args:=[.vl 0 LF 0 tM.length,.str OV.Name]) (ue rfl rfl rfl sV) (FY rfl rfl lW rfl rfl rfl) (vw (MR n tM OV.Name PK h49) (rE 0 1)) rfl rfl ?_;refine gd ?_;refine bN ⟨by kernel_rfl,trivial,?_⟩;refine go ?_;exact xC ⟨rfl,rfl⟩;obtain rfl:=sI uS;refine gd ?_;refine bN ⟨by kernel_rfl,trivial,?_⟩;refine go ?_;exact xC ⟨rfl,rfl⟩;refine go ?_;exact xC ⟨tM,LF,J,rfl,rfl⟩;refine go ?_;exact xC ⟨cZ,j9,J,rfl,rfl⟩
def Pz(p1:Z Int)(z5:Int):I ((Z Int)):=
 a8 (v8 p1 0 z5) fun l6=>
 aG (l6.length*8<=140737488355328/\l6.length<=140737488355328) (some l6)
def QW(p1:Z Int):Nat->Int->I ((Z Int))
 |0,_=>none|m1+1,z4=>a8 (cond (decide (z4>0)) (a8 (aC p1 (IntKind.i64.wrap (z4-1))) fun qQ=>some (qQ==0)) (some false)) fun wJ=>cond wJ ((QW p1 m1) (IntKind.i64.wrap (z4-1))) (Pz p1 z4)
def K4(n:Nat)(p1:Z Int):I ((Z Int)):=
 QW p1 n (p1.length:Int)
theorem jf(n:Nat)(p1:Z Int)(r:(Z Int))(J:K4 n p1=some r):dJ prog 119 [.isl false (p1.map (cI .u64))] (.isl false (r.map (cI .u64))):=by unfold K4 at J;refine kR 23 wD ?_;refine go ?_;refine gL (fun m tm X=>∃z4,QW p1 m z4=some r/\tm=fr 23 [(0,.iM (cI .u64) p1),(3,.i6 z4)]/\X=⟨[],0⟩) (fun tm X=>∃z5,Pz p1 z5=some r/\tm=fr 23 [(0,.iM (cI .u64) p1),(3,.i6 z5)]/\X=⟨[],0⟩) n ⟨(p1.length:Int),J,rfl,rfl⟩ ?_ ?_;rintro _ _ ⟨z5,J,rfl,rfl⟩;unfold Pz at J;obtain⟨l6,h7,J⟩:=aL J;obtain⟨h8,h9⟩:=Yr (cI .u64) .i64 h7;obtain⟨iR,J⟩:=cQ J;refine go ?_;refine bT (u:=.sl 0 0 0 0) (X':=⟨[(0,.row [] 213)],1⟩) rfl (FW fM.h kL.h rfl rfl rfl rfl rfl rfl rfl) ?_;refine go ?_;refine bT (u:=.iM (cI .u64) l6) rfl (JW rfl uC (L5 rfl) uC (Lg (cI .u64) fM.h (bZ kL.h) (uE .u64) h8 h9)) (bT (u:=.vl 1 0 0 l6.length) (X':=⟨[(1,.bv (cI .u64) l6 213 1 0),(0,.row [] 213)],2⟩) rfl (rN rfl rfl rfl rfl (ah (cI .u64) l6 fM.h fM.h kL.h rfl rfl rfl (Ma (cI .u64) (uE .u64)) iR)) ?_);refine go ?_;obtain rfl:=sI J;exact rT (us:=[.vl 1 0 0 l6.length]) (u:=.iM (cI .u64) l6) (fH rfl (fW)) (fR 1 1);rintro(_|m1) _ _ ⟨z4,J,rfl,rfl⟩;cases J;unfold QW at J;obtain⟨wJ,kQ,J⟩:=aL J;refine gn ?_;refine fK (fun tm X=>tm=fr 23 [(0,.iM (cI .u64) p1),(3,.i6 z4),(15,.bool wJ)]/\X=⟨[],0⟩) ?_ ?_;rintro _ _ ⟨rfl,rfl⟩;refine gF J ?_ ?_<;>intro zP J;refine go ?_;apply aR;refine go ?_;exact lC ⟨_,J,rfl,rfl⟩;refine go ?_;exact xC ⟨z4,J,rfl,rfl⟩;refine go ?_;rcases gB kQ with⟨mF,kQ⟩|⟨mF,kQ⟩;obtain⟨qQ,eH,kQ⟩:=aL kQ;obtain rfl:=sI kQ;refine go ?_;refine aW eH ?_;refine go ?_;exact xC ⟨rfl,rfl⟩;exact gy kQ
def zj(n:Nat)(l8:Z Int):I ((Z Int)×Int):=
 aG ((64:Int).toNat=l8.length) (
 a8 (K4 n l8) fun v6=>some (v6,0))
def X5(p1:Z Int)(n:Nat):Nat->Int->(Z Int)->I ((Z Int)×Int)
 |0,_,_=>none|m1+1,z6,l7=>
  cond (decide (z6<(p1.length:Int))) (a8 (a8 (aC p1 z6) fun OW=>cond (decide (OW<0)) (some true) (a8 (aC p1 z6) fun jM=>some (decide (jM>4095)))) fun BG=>cond BG (some ([],2)) (a8 (aC p1 z6) fun uW=>
    a8 (aC p1 z6) fun Ir=>
    a8 (nR l7 0 ((64:Int).toNat) (IntKind.i64.wrap (Ir.tdiv 64))) fun DL=>
    a8 (aC p1 z6) fun uU=>
    aG (¬ (IntKind.u64.wrap (uU.tmod 64))<0) (
    a8 (nR l7 0 ((64:Int).toNat) (IntKind.i64.wrap (uW.tdiv 64))) fun oI=>(X5 p1 n m1) (IntKind.i64.wrap (z6+1)) (l7.set (IntKind.i64.wrap (uW.tdiv 64)).toNat (Hl .u64 DL (IntKind.u64.wrap (1*(2^(min (IntKind.u64.wrap (uU.tmod 64)).toNat IntKind.u64.bits))))))))) (zj n l7)
def Ms(n:Nat)(p1:Z Int):I ((Z Int)×Int):=
 aG (0<=(64:Int)/\8*(64:Int).toNat<=281474976710656/\(64:Int)<=281474976710656) (
 X5 p1 n n 0 (List.replicate (64:Int).toNat 0))
theorem qw8(n:Nat)(p1:Z Int)(r:(Z Int)×Int)(J:Ms n p1=some r):dJ prog 127 [.isl false (p1.map (cI .i64))] (.tup [.isl false (r.1.map (cI .u64)),.int .i64 r.2]):=by unfold Ms at J;refine kR 50 T6 ?_;obtain⟨h2,J⟩:=cQ J;refine go ?_;refine bT (u:=.sl 0 0 ((64:Int).toNat) ((64:Int).toNat)) (X':=⟨[(0,.row (List.map (cI .u64) (List.replicate (64:Int).toNat 0)).flatten 213)],1⟩) rfl (ba (cI .u64) 0 rfl rfl fM.h kL.h rfl rfl rfl rfl h2) ?_;refine go ?_;refine gL (fun m tm X=>∃z6 l7,X5 p1 n m z6 l7=some r/\tm=fr 50 [(0,.iM (cI .i64) p1),(4,.sl 0 0 ((64:Int).toNat) ((64:Int).toNat)),(5,.i6 z6)]/\X=⟨[(0,.row (l7.map (cI .u64)).flatten 213)],1⟩) (fun tm X=>∃l8,zj n l8=some r/\tm=fr 50 [(4,.sl 0 0 ((64:Int).toNat) ((64:Int).toNat))]/\X=⟨[(0,.row (l8.map (cI .u64)).flatten 213)],1⟩) n ⟨0,(List.replicate (64:Int).toNat 0),J,rfl,rfl⟩ ?_ ?_;rintro _ _ ⟨l8,J,rfl,rfl⟩;unfold zj at J;obtain⟨h9,J⟩:=cQ J;refine gn ?_;refine dY (tm':=fr 50 [(4,.iM (cI .u64) l8)]) (X':=⟨[],1⟩) (Gh.trans (Gh.sub (l':=[(4,.sl 0 0 ((64:Int).toNat) ((64:Int).toNat))]) ⟨rfl,trivial⟩) (Gh.fzS (l':=[(4,.iM (cI .u64) l8)]) (h':=[]) 0 (.row (l8.map (cI .u64)).flatten 213) 1 rfl (by simp) (by simp only[fzS,lN,M8,G0,LV,Q6,Ej,Ev,Mh,Mi,Mj,Ew,LU,Ln,Ek,Ei,Dt,LM,Xp (uE .u64) h9]) (by simp only[fzH,fzB,ug,Nat.beq,zC,zD,lN,M8,G0,LV,Q6,Ej,Ev,Mh,Mi,Mj,Ew,LU,Ln,Ek,Ei,Dt,LM,Xp (uE .u64) h9]))) NZ ?_;obtain⟨v6,mF,J⟩:=aL J;refine go ?_;refine aK rfl (pC (jf n l8 v6 mF) _) wD ?_;refine go ?_;obtain rfl:=sI J;exact LJ rfl rfl rfl rfl rfl;rintro(_|m1) _ _ ⟨z6,l7,J,rfl,rfl⟩;cases J;unfold X5 at J;refine gF J ?_ ?_<;>intro iH J;refine go ?_;apply aR;obtain⟨BG,jU,J⟩:=aL J;refine gn ?_;refine fK (fun tm X=>tm=fr 50 [(0,.iM (cI .i64) p1),(4,.sl 0 0 ((64:Int).toNat) ((64:Int).toNat)),(5,.i6 z6),(24,.bool BG)]/\X=⟨[(0,.row (l7.map (cI .u64)).flatten 213)],1⟩) ?_ ?_;rintro _ _ ⟨rfl,rfl⟩;refine gF J ?_ ?_<;>intro rZ J;refine go ?_;obtain rfl:=sI J;exact rT (us:=[.nils,.i6 2]) (u:=.tup [.isl false [],.i6 2]) (fH rfl (fH rfl (fW))) wR;obtain⟨uW,tX,Ir,HQ,DL,BA,uU,xS,J⟩:=C1 J;obtain⟨oH,J⟩:=cQ J;obtain⟨oI,nB,J⟩:=aL J;refine go ?_;refine dE [] ?_;refine gd ?_;refine cY tX ?_;refine gd ?_;refine bM rfl (wX rfl rfl (Ym _ (by decide)) rfl) ?_;refine gd ?_;refine cY HQ ?_;refine gd ?_;refine bM rfl (wX rfl rfl (Ym _ (by decide)) rfl) ?_;refine bM rfl (fA rfl rfl (FQ fM.h (bZ kL.h) rfl BA)) (bM (u:=.int .u64 DL) rfl (Q0 (cI .u64) (fun x=>.int .u64 x) Js.h rfl (fun _=>rfl) rfl rfl BA) ?_);refine gd ?_;refine cY xS ?_;refine gd ?_;refine bM rfl (wX rfl rfl (z5i _ (by decide)) rfl) ?_;refine bM (u:=.int .u64 (IntKind.u64.wrap (uU.tmod 64))) rfl (qz1 rfl rfl (by simp only[WB,J7.h,PA.h]<;>rfl) rfl) ?_;refine bM rfl (wX rfl rfl (YQ _ oH) rfl) (bM rfl (wX rfl rfl (Re _ _ _) rfl) (bM rfl (fA rfl rfl (FQ fM.h (bZ kL.h) rfl nB)) (Ip (u:=.junk) (X':=⟨[(0,.row (List.map (cI .u64) (l7.set (IntKind.i64.wrap (uW.tdiv 64)).toNat (Hl .u64 DL (IntKind.u64.wrap (1*(2^(min (IntKind.u64.wrap (uU.tmod 64)).toNat IntKind.u64.bits))))))).flatten 213)],1⟩) rfl (uf (cI .u64) (bZ kL.h) (uE .u64) rfl rfl rfl rfl rfl rfl nB rfl) rfl ?_)));refine bN ⟨by kernel_rfl,trivial,?_⟩;refine go ?_;exact lC ⟨_,(l7.set (IntKind.i64.wrap (uW.tdiv 64)).toNat (Hl .u64 DL (IntKind.u64.wrap (1*(2^(min (IntKind.u64.wrap (uU.tmod 64)).toNat IntKind.u64.bits)))))),J,rfl,rfl⟩;obtain⟨OW,iW,jU⟩:=aL jU;refine go ?_;refine aW iW ?_;refine go ?_;rcases gB jU with⟨kQ,jU⟩|⟨kQ,jU⟩;exact gy jU;obtain⟨jM,iV,jU⟩:=aL jU;obtain rfl:=sI jU;refine go ?_;refine aW iV ?_;refine go ?_;exact xC ⟨rfl,rfl⟩;refine go ?_;exact xC ⟨l7,J,rfl,rfl⟩
def Pi(lY:Int)(cM:Int->(Z Int)->I ((Z Int)))(nV:Z Int):I ((Z Int)):=
 cM (IntKind.i64.wrap (lY+1)) nV
def wj(n:Nat)(hJ:Z Int):I ((Z Int)):=
 a8 (Ms n hJ) fun W3=>some W3.1
def MQ(p2:Z (Z O8))(n:Nat)(r4:(Z (Z O8))):Nat->Int->(Z Int)->I ((Z Int))
 |0,_,_=>none|m1+1,lY,lS=>
  cond (decide (lY<(p2.length:Int))) (a8 (aC p2 lY) fun LA=>
   a8 (EB n r4 LA) fun FE=>cond FE (aG ((lS.length+1)*8<=140737488355328/\lS.length+1<=140737488355328) (
    Pi lY (MQ p2 n r4 m1) (lS++[lY]))) (Pi lY (MQ p2 n r4 m1) lS)) (wj n lS)
def Oa(n:Nat)(p1:Z bC)(p2:Z (Z O8))(p3:Z O8):I ((Z Int)):=
 a8 (On n p1 p3) fun r4=>
 MQ p2 n r4 n 0 ([]:Z Int)
theorem qqh(n:Nat)(p1:Z bC)(p2:Z (Z O8))(p3:Z O8)(r:(Z Int))(J:Oa n p1 p2 p3=some r):dJ prog 92 [.isl false (p1.map bJ),.isl false (p2.map cS),.str p3] (.isl false (r.map (cI .u64))):=by unfold Oa at J;refine TR 37 Ve ?_;obtain⟨r4,h5,J⟩:=aL J;refine go ?_;refine aK rfl (pC (qo1 n p1 p3 r4 h5) _) T7 ?_;refine gr ?_;refine gr ?_;refine gV 8 3 1 1 ?_;refine gL (fun m tm X=>∃lY lS nG,MQ p2 n r4 m lY lS=some r/\tm=fr 37 [(1,.iM cS p2),(7,.iM cS r4),(8,.vl 0 nG 0 lS.length),(9,.i6 lY)]/\X=⟨C4 lS nG,1⟩) (fun tm X=>∃hJ JB,wj n hJ=some r/\tm=fr 37 [(8,.vl 0 JB 0 hJ.length)]/\X=⟨C4 hJ JB,1⟩) n ⟨0,([]:Z Int),0,J,rfl,rfl⟩ ?_ ?_;rintro _ _ ⟨hJ,JB,J,rfl,rfl⟩;unfold wj at J;refine gn ?_;refine dY (tm':=fr 37 [(8,.iM (cI .i64) hJ)]) (X':=⟨[],1⟩) (Gh.trans (Gh.sub (l':=[(8,.vl 0 JB 0 hJ.length)]) ⟨rfl,trivial⟩) (U4 0 1)) NZ ?_;obtain⟨W3,iV,J⟩:=aL J;refine go ?_;refine aK rfl (pC (qw8 n hJ W3 iV) _) T6 ?_;exact gx J;rintro(_|m1) _ _ ⟨lY,lS,nG,J,rfl,rfl⟩;cases J;unfold MQ at J;refine gF J ?_ ?_<;>intro dU J;refine go ?_;apply aR;obtain⟨LA,rZ,FE,tX,J⟩:=cB J;refine go ?_;refine aW rZ ?_;refine go ?_;refine aK rfl (pC (MR n r4 LA FE tX) _) lW ?_;refine gn ?_;refine fK (fun tm X=>∃nV t25,Pi lY (MQ p2 n r4 m1) nV=some r/\tm=fr 37 [(1,.iM cS p2),(7,.iM cS r4),(8,.vl 0 t25 0 nV.length),(9,.i6 lY)]/\X=⟨C4 nV t25,1⟩) ?_ ?_;rintro _ _ ⟨nV,t25,J,rfl,rfl⟩;unfold Pi at J;refine go ?_;exact lC ⟨_,nV,t25,J,rfl,rfl⟩;refine cF J ?_ ?_<;>intro zE J;obtain⟨nZ,J⟩:=cQ J;refine go ?_;refine cP ?_;refine cP ?_;refine go ?_;exact xC ⟨(lS++[lY]),(nG+1),J,rfl,rfl⟩;refine go ?_;exact xC ⟨lS,nG,J,rfl,rfl⟩;refine go ?_;exact xC ⟨lS,nG,J,rfl,rfl⟩
def WZ(n:Nat)(p1:Z Int)(p2:Int):I (Int):=
 cond (decide (p2<(p1.length:Int))) (a8 (aC p1 p2) fun x4=>some x4) (some 0)
theorem qin(n:Nat)(p1:Z Int)(p2:Int)(r:Int)(J:WZ n p1 p2=some r):dJ prog 156 [.isl false (p1.map (cI .u64)),.int .i64 p2] (.int .u64 r):=by unfold WZ at J;refine eO 13 HY ?_;refine gF J ?_ ?_<;>intro h3 J;obtain⟨x4,h5,J⟩:=aL J;refine go ?_;refine aW h5 ?_;exact gx J;exact gx J
def Gm(n:Nat)(cZ:Z Int):I ((Z Int)):=
 a8 (K4 n cZ) fun lM=>some lM
def Pa(p1:Z Int)(p2:Z Int)(n:Nat):Nat->Int->(Z Int)->I ((Z Int))
 |0,_,_=>none|m1+1,z8,l9=>
  cond (decide (z8<(p1.length:Int))) (a8 (aC p1 z8) fun jM=>
   a8 (WZ n p2 z8) fun jD=>
   aG ((l9.length+1)*8<=140737488355328/\l9.length+1<=140737488355328) ((Pa p1 p2 n m1) (IntKind.i64.wrap (z8+1)) (l9++[(FK .u64 jM jD)]))) (Gm n l9)
def WX(n:Nat)(p1:Z Int)(p2:Z Int):I ((Z Int)):=
 Pa p1 p2 n n 0 ([]:Z Int)
theorem qkr(n:Nat)(p1:Z Int)(p2:Z Int)(r:(Z Int))(J:WX n p1 p2=some r):dJ prog 118 [.isl false (p1.map (cI .u64)),.isl false (p2.map (cI .u64))] (.isl false (r.map (cI .u64))):=by unfold WX at J;refine eO 26 I5 ?_;refine gr ?_;refine gr ?_;refine gr ?_;refine gV 5 213 1 1 ?_;refine gL (fun m tm X=>∃z8 l9 fC,Pa p1 p2 n m z8 l9=some r/\tm=fr 26 [(0,.iM (cI .u64) p1),(1,.iM (cI .u64) p2),(5,.vl 0 fC 0 l9.length),(6,.i6 z8)]/\X=⟨[(0,.bv (cI .u64) l9 213 1 fC)],1⟩) (fun tm X=>∃cZ j9,Gm n cZ=some r/\tm=fr 26 [(5,.vl 0 j9 0 cZ.length)]/\X=⟨[(0,.bv (cI .u64) cZ 213 1 j9)],1⟩) n ⟨0,([]:Z Int),0,J,rfl,rfl⟩ ?_ ?_;rintro _ _ ⟨cZ,j9,J,rfl,rfl⟩;unfold Gm at J;refine gn ?_;refine dY (tm':=fr 26 [(5,.iM (cI .u64) cZ)]) (X':=⟨[],1⟩) (Gh.trans (Gh.sub (l':=[(5,.vl 0 j9 0 cZ.length)]) ⟨rfl,trivial⟩) (U4 0 1)) NZ ?_;obtain⟨lM,iW,J⟩:=aL J;refine go ?_;refine aK rfl (pC (jf n cZ lM iW) _) wD ?_;exact gx J;rintro(_|m1) _ _ ⟨z8,l9,fC,J,rfl,rfl⟩;cases J;unfold Pa at J;refine gF J ?_ ?_<;>intro kQ J;refine go ?_;apply aR;obtain⟨jM,iV,jD,jU,J⟩:=cB J;obtain⟨rZ,J⟩:=cQ J;refine go ?_;refine dE [(0,9)] ?_;refine gd ?_;refine cY iV ?_;refine gd ?_;refine dV rfl (pC (qin n p2 z8 jD jU)) HY (bM rfl (wX rfl rfl (bj _ _ _) rfl) ?_);refine fO ?_;refine fO ?_;refine gd ?_;refine bN ⟨by kernel_rfl,⟨mW rfl,trivial⟩,?_⟩;refine go ?_;exact lC ⟨_,(l9++[(FK .u64 jM jD)]),(fC+1),J,rfl,rfl⟩;refine go ?_;exact xC ⟨l9,fC,J,rfl,rfl⟩
def og: I (BQ):=
 some true
def wt(p1:Z Int)(p2:Z Int):Nat->Int->I (BQ)
 |0,_=>none|m1+1,z7=>cond (decide (z7<(p1.length:Int))) (a8 (aC p1 z7) fun x9=>a8 (aC p2 z7) fun sC=>cond (x9 != sC) (some false) ((wt p1 p2 m1) (IntKind.i64.wrap (z7+1)))) (og)
def QL(n:Nat)(p1:Z Int)(p2:Z Int):I (BQ):=
 cond ((p1.length:Int) != (p2.length:Int)) (some false) (wt p1 p2 n 0)
theorem qim(n:Nat)(p1:Z Int)(p2:Z Int)(r:BQ)(J:QL n p1 p2=some r):dJ prog 120 [.isl false (p1.map (cI .u64)),.isl false (p2.map (cI .u64))] (.bool r):=by unfold QL at J;refine eO 26 I4 ?_;refine gF J ?_ ?_<;>intro h3 J;exact gx J;refine go ?_;refine gL (fun m tm X=>∃z7,wt p1 p2 m z7=some r/\tm=fr 26 [(0,.iM (cI .u64) p1),(1,.iM (cI .u64) p2),(5,.i6 z7)]/\X=⟨[],0⟩) (fun tm X=>og=some r/\tm=fr 26 []/\X=⟨[],0⟩) n ⟨0,J,rfl,rfl⟩ ?_ ?_;rintro _ _ ⟨J,rfl,rfl⟩;unfold og at J;exact gx J;rintro(_|m1) _ _ ⟨z7,J,rfl,rfl⟩;cases J;unfold wt at J;refine gF J ?_ ?_<;>intro h8 J;refine go ?_;apply aR;obtain⟨x9,iR,sC,iH,J⟩:=cB J;refine go ?_;refine dE [] ?_;refine gd ?_;refine cY iR ?_;refine gd ?_;refine cY iH ?_;refine gd ?_;refine bN ⟨by kernel_rfl,trivial,?_⟩;refine gF J ?_ ?_<;>intro eH J;exact gx J;refine go ?_;exact lC ⟨_,J,rfl,rfl⟩;refine go ?_;exact xC ⟨J,rfl,rfl⟩
def zg: I (BQ):=
 some false
def X4(p1:Z (Z Int))(p2:Z Int)(n:Nat):Nat->Int->I (BQ)
 |0,_=>none|m1+1,z6=>cond (decide (z6<(p1.length:Int))) (a8 (aC p1 z6) fun x8=>a8 (QL n x8 p2) fun v6=>cond v6 (some true) ((X4 p1 p2 n m1) (IntKind.i64.wrap (z6+1)))) (zg)
def Zq(n:Nat)(p1:Z (Z Int))(p2:Z Int):I (BQ):=
 X4 p1 p2 n n 0
theorem qw9(n:Nat)(p1:Z (Z Int))(p2:Z Int)(r:BQ)(J:Zq n p1 p2=some r):dJ prog 128 [.isl false (List.map (cL (cI .u64)) p1),.isl false (p2.map (cI .u64))] (.bool r):=by unfold Zq at J;refine eO 18 T5 ?_;refine go ?_;refine gL (fun m tm X=>∃z6,X4 p1 p2 n m z6=some r/\tm=fr 18 [(0,.iM (cL (cI .u64)) p1),(1,.iM (cI .u64) p2),(5,.i6 z6)]/\X=⟨[],0⟩) (fun tm X=>zg=some r/\tm=fr 18 []/\X=⟨[],0⟩) n ⟨0,J,rfl,rfl⟩ ?_ ?_;rintro _ _ ⟨J,rfl,rfl⟩;unfold zg at J;exact gx J;rintro(_|m1) _ _ ⟨z6,J,rfl,rfl⟩;cases J;unfold X4 at J;refine gF J ?_ ?_<;>intro h7 J;refine go ?_;apply aR;obtain⟨x8,h9,v6,mF,J⟩:=cB J;refine go ?_;refine aW h9 ?_;refine go ?_;refine aK rfl (pC (qim n x8 p2 v6 mF) _) I4 ?_;refine gF J ?_ ?_<;>intro iH J;exact gx J;refine go ?_;exact lC ⟨_,J,rfl,rfl⟩;refine go ?_;exact xC ⟨J,rfl,rfl⟩
def Pv(A5:Int)(nP:Int->(Z (Z Int))->I ((Z (Z Int))))(YK:Z (Z Int)):I ((Z (Z Int))):=
 nP (IntKind.i64.wrap (A5+1)) YK
def Pt(z6:Int)(cM:Int->(Z (Z Int))->I ((Z (Z Int))))(YM:Z (Z Int)):I ((Z (Z Int))):=
 cM (IntKind.i64.wrap (z6+1)) YM
def QU(n:Nat)(z6:Int)(cM:Int->(Z (Z Int))->I ((Z (Z Int)))):Nat->Int->(Z (Z Int))->I ((Z (Z Int)))
 |0,_,_=>none|m2+1,A5,kW=>
  a8 (cond (decide (A5<z6)) (some (decide ((kW.length:Int)<=256))) (some false)) fun b25=>cond b25 (a8 (aC kW z6) fun uV=>
   a8 (aC kW A5) fun UH=>
   a8 (WX n uV UH) fun DP=>
   a8 (cond (decide ((DP.length:Int)>0)) (a8 (Zq n kW DP) fun iY=>some (!iY)) (some false)) fun Cq=>cond Cq (aG ((kW.length+1)*24<=140737488355328/\kW.length+1<=140737488355328) (
    Pv A5 (QU n z6 cM m2) (kW++[DP]))) (Pv A5 (QU n z6 cM m2) kW)) (Pt z6 cM kW)
def Pu  (l9:Z (Z Int)):I ((Z (Z Int))):=
 some l9
def KD(n:Nat):Nat->Int->(Z (Z Int))->I ((Z (Z Int)))
 |0,_,_=>none|m1+1,z6,l7=>a8 (cond (decide (z6<(l7.length:Int))) (some (decide ((l7.length:Int)<=256))) (some false)) fun II=>cond II (QU n z6 (KD n m1) n 0 l7) (Pu l7)
def Ox(n:Nat)(p1:Z (Z Int)):I ((Z (Z Int))):=
 aG (p1.length*24<=140737488355328/\p1.length<=140737488355328) (
 KD n n 0 p1)
theorem qlm(n:Nat)(p1:Z (Z Int))(r:(Z (Z Int)))(J:Ox n p1=some r):dJ prog 93 [.isl false (List.map (cL (cI .u64)) p1)] (.isl false (List.map (cL (cI .u64)) r)):=by unfold Ox at J;refine kR 54 Vd ?_;obtain⟨h2,J⟩:=cQ J;refine go ?_;refine bT (u:=.sl 0 0 0 0) (X':=⟨[(0,.row [] 141)],1⟩) rfl (FW pM.h oB.h rfl rfl rfl rfl rfl rfl rfl) ?_;refine go ?_;refine bT (u:=.vl 1 0 0 p1.length) (X':=⟨[(1,.bv (cL (cI .u64)) p1 141 1 0),(0,.row [] 141)],2⟩) rfl (rN rfl rfl rfl rfl (ah (cL (cI .u64)) p1 pM.h pM.h oB.h rfl rfl rfl (Ma (cL (cI .u64)) (Ec (cI .u64))) h2)) ?_;refine go ?_;refine gL (fun m tm X=>∃z6 l7 t8,KD n m z6 l7=some r/\tm=fr 54 [(3,.vl 1 t8 0 l7.length),(4,.i6 z6)]/\X=⟨QE l7 t8,2⟩) (fun tm X=>∃l9 fC,Pu l9=some r/\tm=fr 54 [(3,.vl 1 fC 0 l9.length)]/\X=⟨QE l9 fC,2⟩) n ⟨0,p1,0,J,rfl,rfl⟩ ?_ ?_;rintro _ _ ⟨l9,fC,J,rfl,rfl⟩;unfold Pu at J;refine go ?_;obtain rfl:=sI J;exact rT (us:=[.vl 1 fC 0 l9.length]) (u:=.iM (cL (cI .u64)) l9) (fH rfl (fW)) (fR 1 1);rintro(_|m1) _ _ ⟨z6,l7,t8,J,rfl,rfl⟩;cases J;unfold KD at J;obtain⟨II,eH,J⟩:=aL J;refine gn ?_;refine fK (fun tm X=>tm=fr 54 [(3,.vl 1 t8 0 l7.length),(4,.i6 z6),(18,.bool II)]/\X=⟨QE l7 t8,2⟩) ?_ ?_;rintro _ _ ⟨rfl,rfl⟩;refine gF J ?_ ?_<;>intro iW J;refine go ?_;apply aR;refine go ?_;refine gL (fun m tm X=>∃A5 kW JA,QU n z6 (KD n m1) m A5 kW=some r/\tm=fr 54 [(3,.vl 1 JA 0 kW.length),(4,.i6 z6),(5,.i6 A5)]/\X=⟨QE kW JA,2⟩) (fun tm X=>∃YM Ya,Pt z6 (KD n m1) YM=some r/\tm=fr 54 [(3,.vl 1 Ya 0 YM.length),(4,.i6 z6)]/\X=⟨QE YM Ya,2⟩) n ⟨0,l7,t8,J,rfl,rfl⟩ ?_ ?_;rintro _ _ ⟨YM,Ya,J,rfl,rfl⟩;unfold Pt at J;refine go ?_;exact lC ⟨_,YM,Ya,J,rfl,rfl⟩;rintro(_|m2) _ _ ⟨A5,kW,JA,J,rfl,rfl⟩;cases J;unfold QU at J;obtain⟨b25,nZ,J⟩:=aL J;refine gn ?_;refine fK (fun tm X=>tm=fr 54 [(3,.vl 1 JA 0 kW.length),(4,.i6 z6),(5,.i6 A5),(28,.bool b25)]/\X=⟨QE kW JA,2⟩) ?_ ?_;rintro _ _ ⟨rfl,rfl⟩;refine gF J ?_ ?_<;>intro SI J;refine go ?_;apply aR;obtain⟨uV,sX,UH,D6,DP,B9,J⟩:=pR J;refine go ?_;refine dE [] ?_;refine gd ?_;refine bM rfl (fA rfl rfl (pS (cL (cI .u64)) pM.h (bZ oB.h) (by decide) (Ec (cI .u64)) (vo rfl) sX)) ?_;refine bM rfl (yG (cL (cI .u64)) (fun x=>.iM (cI .u64) x) fM.h rfl (fun _=>rfl) rfl rfl sX) ?_;refine gd ?_;refine bM rfl (fA rfl rfl (pS (cL (cI .u64)) pM.h (bZ oB.h) (by decide) (Ec (cI .u64)) (vo rfl) D6)) ?_;refine bM rfl (yG (cL (cI .u64)) (fun x=>.iM (cI .u64) x) fM.h rfl (fun _=>rfl) rfl rfl D6) (dV rfl (pC (qkr n uV UH DP B9)) I5 ?_);refine gd ?_;refine bN ⟨by kernel_rfl,trivial,?_⟩;obtain⟨Cq,mD,J⟩:=aL J;refine gn ?_;refine fK (fun tm X=>tm=fr 54 [(3,.vl 1 JA 0 kW.length),(4,.i6 z6),(5,.i6 A5),(6,.iM (cI .u64) DP),(48,.bool Cq)]/\X=⟨QE kW JA,2⟩) ?_ ?_;rintro _ _ ⟨rfl,rfl⟩;refine gn ?_;refine fK (fun tm X=>∃YK Xx,Pv A5 (QU n z6 (KD n m1) m2) YK=some r/\tm=fr 54 [(3,.vl 1 Xx 0 YK.length),(4,.i6 z6),(5,.i6 A5)]/\X=⟨QE YK Xx,2⟩) ?_ ?_;rintro _ _ ⟨YK,Xx,J,rfl,rfl⟩;unfold Pv at J;refine go ?_;exact lC ⟨_,YK,Xx,J,rfl,rfl⟩;refine cF J ?_ ?_<;>intro B3 J;obtain⟨HO,J⟩:=cQ J;refine go ?_;refine cP ?_;refine cP ?_;refine go ?_;exact xC ⟨(kW++[DP]),(JA+1),J,rfl,rfl⟩;refine go ?_;exact xC ⟨kW,JA,J,rfl,rfl⟩;refine go ?_;rcases gB mD with⟨nB,mD⟩|⟨nB,mD⟩;obtain⟨iY,B4,mD⟩:=aL mD;obtain rfl:=sI mD;refine go ?_;refine aK rfl (vw (qw9 n kW DP iY B4) (rE 1 1)) T5 ?_;refine go ?_;exact xC ⟨rfl,rfl⟩;exact gy mD;refine go ?_;exact xC ⟨kW,JA,J,rfl,rfl⟩;refine go ?_;rcases gB nZ with⟨pH,nZ⟩|⟨pH,nZ⟩;exact gy nZ;exact gy nZ;refine go ?_;exact xC ⟨l7,t8,J,rfl,rfl⟩;refine go ?_;rcases gB eH with⟨mF,eH⟩|⟨mF,eH⟩;exact gy eH;exact gy eH
def Gz(n:Nat)(cZ:Z Int):I ((Z Int)):=
 a8 (K4 n cZ) fun lM=>some lM
def Pq(p1:Z Int)(p2:Z Int)(n:Nat):Nat->Int->(Z Int)->I ((Z Int))
 |0,_,_=>none|m1+1,z8,l9=>
  cond (decide (z8<(p1.length:Int))) (a8 (aC p1 z8) fun jM=>
   a8 (WZ n p2 z8) fun jD=>
   aG ((l9.length+1)*8<=140737488355328/\l9.length+1<=140737488355328) ((Pq p1 p2 n m1) (IntKind.i64.wrap (z8+1)) (l9++[(Q8 .u64 jM jD)]))) (Gz n l9)
def Gb(n:Nat)(p1:Z Int)(p2:Z Int):I ((Z Int)):=
 Pq p1 p2 n n 0 ([]:Z Int)
theorem qnz(n:Nat)(p1:Z Int)(p2:Z Int)(r:(Z Int))(J:Gb n p1 p2=some r):dJ prog 163 [.isl false (p1.map (cI .u64)),.isl false (p2.map (cI .u64))] (.isl false (r.map (cI .u64))):=by unfold Gb at J;refine eO 26 SR ?_;refine gr ?_;refine gr ?_;refine gr ?_;refine gV 5 213 1 1 ?_;refine gL (fun m tm X=>∃z8 l9 fC,Pq p1 p2 n m z8 l9=some r/\tm=fr 26 [(0,.iM (cI .u64) p1),(1,.iM (cI .u64) p2),(5,.vl 0 fC 0 l9.length),(6,.i6 z8)]/\X=⟨[(0,.bv (cI .u64) l9 213 1 fC)],1⟩) (fun tm X=>∃cZ j9,Gz n cZ=some r/\tm=fr 26 [(5,.vl 0 j9 0 cZ.length)]/\X=⟨[(0,.bv (cI .u64) cZ 213 1 j9)],1⟩) n ⟨0,([]:Z Int),0,J,rfl,rfl⟩ ?_ ?_;rintro _ _ ⟨cZ,j9,J,rfl,rfl⟩;unfold Gz at J;refine gn ?_;refine dY (tm':=fr 26 [(5,.iM (cI .u64) cZ)]) (X':=⟨[],1⟩) (Gh.trans (Gh.sub (l':=[(5,.vl 0 j9 0 cZ.length)]) ⟨rfl,trivial⟩) (U4 0 1)) NZ ?_;obtain⟨lM,iW,J⟩:=aL J;refine go ?_;refine aK rfl (pC (jf n cZ lM iW) _) wD ?_;exact gx J;rintro(_|m1) _ _ ⟨z8,l9,fC,J,rfl,rfl⟩;cases J;unfold Pq at J;refine gF J ?_ ?_<;>intro kQ J;refine go ?_;apply aR;obtain⟨jM,iV,jD,jU,J⟩:=cB J;obtain⟨rZ,J⟩:=cQ J;refine go ?_;refine dE [(0,9)] ?_;refine gd ?_;refine cY iV ?_;refine gd ?_;refine dV rfl (pC (qin n p2 z8 jD jU)) HY (bM rfl (wX rfl rfl (qpp _ _ _) rfl) ?_);refine fO ?_;refine fO ?_;refine gd ?_;refine bN ⟨by kernel_rfl,⟨mW rfl,trivial⟩,?_⟩;refine go ?_;exact lC ⟨_,(l9++[(Q8 .u64 jM jD)]),(fC+1),J,rfl,rfl⟩;refine go ?_;exact xC ⟨l9,fC,J,rfl,rfl⟩
def X7(n:Nat)(p1:Z Int)(p2:Z Int):I (BQ):=
 a8 (Gb n p1 p2) fun r3=>some ((r3.length:Int)==0)
theorem oj(n:Nat)(p1:Z Int)(p2:Z Int)(r:BQ)(J:X7 n p1 p2=some r):dJ prog 133 [.isl false (p1.map (cI .u64)),.isl false (p2.map (cI .u64))] (.bool r):=by unfold X7 at J;refine eO 10 BC ?_;obtain⟨r3,h4,J⟩:=aL J;refine go ?_;refine aK rfl (pC (qnz n p1 p2 r3 h4) _) SR ?_;exact gx J
def Oq(n:Nat)(p1:Z Int)(p2:Z Int):I (BQ):=
 a8 (a8 (X7 n p1 p2) fun r3=>cond r3 (a8 (X7 n p2 p1) fun r6=>some r6) (some false)) fun b8=>some b8
theorem qny(n:Nat)(p1:Z Int)(p2:Z Int)(r:BQ)(J:Oq n p1 p2=some r):dJ prog 129 [.isl false (p1.map (cI .u64)),.isl false (p2.map (cI .u64))] (.bool r):=by unfold Oq at J;refine eO 13 T4 ?_;obtain⟨b8,h9,J⟩:=aL J;refine gr ?_;refine fK (fun tm X=>tm=fr 13 [(4,.bool b8)]/\X=⟨[],0⟩) ?_ ?_;rintro _ _ ⟨rfl,rfl⟩;exact gx J;obtain⟨r3,h4,h9⟩:=aL h9;refine go ?_;refine aK rfl (pC (oj n p1 p2 r3 h4) _) BC ?_;refine go ?_;rcases gB h9 with⟨h5,h9⟩|⟨h5,h9⟩;obtain⟨r6,h7,h9⟩:=aL h9;obtain rfl:=sI h9;refine go ?_;refine aK rfl (pC (oj n p2 p1 r6 h7) _) BC ?_;refine go ?_;exact xC ⟨rfl,rfl⟩;exact gy h9
def Fu(n:Nat)(p1:Z Int)(p2:Int):I (BQ):=
 a8 (cond (decide (p2<0)) (some true) (some (decide ((IntKind.i64.wrap (p2.tdiv 64))>=(p1.length:Int))))) fun b5=>cond b5 (some false) (a8 (aC p1 (IntKind.i64.wrap (p2.tdiv 64))) fun x9=>aG (¬ (IntKind.u64.wrap (p2.tmod 64))<0) (some ((FK .u64 (x9.fdiv (2^(min (IntKind.u64.wrap (p2.tmod 64)).toNat IntKind.u64.bits))) 1)==1)))
theorem qks(n:Nat)(p1:Z Int)(p2:Int)(r:BQ)(J:Fu n p1 p2=some r):dJ prog 130 [.isl false (p1.map (cI .u64)),.int .i64 p2] (.bool r):=by unfold Fu at J;refine eO 25 I3 ?_;obtain⟨b5,h6,J⟩:=aL J;refine gr ?_;refine fK (fun tm X=>tm=fr 25 [(0,.iM (cI .u64) p1),(1,.i6 p2),(13,.bool b5)]/\X=⟨[],0⟩) ?_ ?_;rintro _ _ ⟨rfl,rfl⟩;refine gF J ?_ ?_<;>intro h7 J;exact gx J;obtain⟨x9,iR,J⟩:=aL J;obtain⟨iH,J⟩:=cQ J;refine go ?_;refine bT rfl (wX rfl rfl (Ym _ (by decide)) rfl) ?_;refine aW iR ?_;refine go ?_;refine bT rfl (wX rfl rfl (z5i _ (by decide)) rfl) ?_;refine bT (u:=.int .u64 (IntKind.u64.wrap (p2.tmod 64))) rfl (qz1 rfl rfl (by simp only[WB,J7.h,PA.h]<;>rfl) rfl) ?_;refine bT rfl (wX rfl rfl (YP _ iH) rfl) (bT rfl (wX rfl rfl (bj _ _ _) rfl) ?_);exact gx J;refine go ?_;rcases gB h6 with⟨h3,h6⟩|⟨h3,h6⟩;exact gy h6;obtain rfl:=sI h6;refine go ?_;refine RS.w rfl (wX rfl rfl (Ym _ (by decide)) rfl) ?_;refine go ?_;exact xC ⟨rfl,rfl⟩
def Qc(z8:Int)(cM:(Z (Z O8))->Int->I ((Z (Z O8))))(eV:Z (Z O8)):I ((Z (Z O8))):=
 cM eV (IntKind.i64.wrap (z8+1))
def kf  (l9:Z (Z O8)):I ((Z (Z O8))):=
 some l9
def N4(p1:Z bC)(p2:Z (Z O8))(n:Nat):Nat->(Z (Z O8))->Int->I ((Z (Z O8)))
 |0,_,_=>none|m1+1,l7,z8=>
  cond (decide (z8<(p2.length:Int))) (a8 (aC p2 z8) fun sC=>
   a8 (G3 n p1 sC) fun lM=>cond (decide (lM>=0)) (a8 (aC p2 z8) fun J4=>
    a8 (MG n l7 J4) fun DQ=>
    Qc z8 (N4 p1 p2 n m1) DQ) (Qc z8 (N4 p1 p2 n m1) l7)) (kf l7)
def xv(n:Nat)(p1:Z bC)(p2:Z (Z O8)):I ((Z (Z O8))):=
 N4 p1 p2 n n [] 0
theorem qiw(n:Nat)(p1:Z bC)(p2:Z (Z O8))(r:(Z (Z O8)))(J:xv n p1 p2=some r):dJ prog 160 [.isl false (p1.map bJ),.isl false (p2.map cS)] (.isl false (r.map cS)):=by unfold xv at J;refine eO 27 SV ?_;refine gr ?_;refine gr ?_;refine gr ?_;refine dY (tm':=fr 27 [(0,.iM bJ p1),(1,.iM cS p2),(5,.iM cS []),(6,.i6 0)]) (Gh.trans (Gh.sub (l':=[(0,.iM bJ p1),(1,.iM cS p2),(5,.nils),(6,.i6 0)]) ⟨rfl,rfl,rfl,rfl,trivial⟩) (Gh.wkS (l':=[(0,.iM bJ p1),(1,.iM cS p2),(5,.iM cS []),(6,.i6 0)]) (.cons (.refl _) (.cons (.refl _) (.cons (.nil false) (.cons (.refl _) .nil)))))) NZ ?_;refine gL (fun m tm X=>∃l7 z8,N4 p1 p2 n m l7 z8=some r/\tm=fr 27 [(0,.iM bJ p1),(1,.iM cS p2),(5,.iM cS l7),(6,.i6 z8)]/\X=⟨[],0⟩) (fun tm X=>∃l9,kf l9=some r/\tm=fr 27 [(5,.iM cS l9)]/\X=⟨[],0⟩) n ⟨[],0,J,rfl,rfl⟩ ?_ ?_;rintro _ _ ⟨l9,J,rfl,rfl⟩;unfold kf at J;exact gx J;rintro(_|m1) _ _ ⟨l7,z8,J,rfl,rfl⟩;cases J;unfold N4 at J;refine gF J ?_ ?_<;>intro iR J;refine go ?_;apply aR;obtain⟨sC,iH,lM,iW,J⟩:=cB J;refine go ?_;refine aW iH ?_;refine go ?_;refine aK rfl (pC (Gk n p1 sC lM iW) _) qK ?_;refine gn ?_;refine fK (fun tm X=>∃eV,Qc z8 (N4 p1 p2 n m1) eV=some r/\tm=fr 27 [(0,.iM bJ p1),(1,.iM cS p2),(5,.iM cS eV),(6,.i6 z8)]/\X=⟨[],0⟩) ?_ ?_;rintro _ _ ⟨eV,J,rfl,rfl⟩;unfold Qc at J;refine go ?_;exact lC ⟨eV,(IntKind.i64.wrap (z8+1)),J,rfl,rfl⟩;refine cF J ?_ ?_<;>intro kQ J;obtain⟨J4,dU,DQ,rZ,J⟩:=cB J;refine go ?_;refine aW dU ?_;refine go ?_;refine aK rfl (pC (Ga n l7 J4 DQ rZ) _) qL ?_;refine go ?_;exact xC ⟨DQ,J,rfl,rfl⟩;refine go ?_;exact xC ⟨l7,J,rfl,rfl⟩;refine go ?_;exact xC ⟨l7,J,rfl,rfl⟩
def jd  (uM:Z (Z O8)):I ((Z (Z O8))):=
 some uM
def QT(n:Nat)(cV:Z (Z O8)):Nat->(Z (Z O8))->Int->I ((Z (Z O8)))
 |0,_,_=>none|m2+1,qX,eS=>cond (decide (eS<(cV.length:Int))) (a8 (aC cV eS) fun xZ=>a8 (MG n qX xZ) fun o5=>(QT n cV m2) o5 (IntKind.i64.wrap (eS+1))) (jd qX)
def Pp(BL:Int)(py:Int->(Z (Z O8))->I ((Z (Z O8))))(YI:Z (Z O8)):I ((Z (Z O8))):=
 py (IntKind.i64.wrap (BL+1)) YI
def jc(eC:Int)(cM:Int->(Z (Z O8))->I ((Z (Z O8))))(yN:Z (Z O8)):I ((Z (Z O8))):=
 cM (IntKind.i64.wrap (eC+1)) yN
def MX(n:Nat)(eC:Int)(cM:Int->(Z (Z O8))->I ((Z (Z O8))))(xX:bC):Nat->Int->(Z (Z O8))->I ((Z (Z O8)))
 |0,_,_=>none|m3+1,BL,yO=>
  cond (decide (BL<(xX.Supers.length:Int))) (a8 (aC xX.Supers BL) fun OV=>
   a8 (EB n yO OV) fun PK=>cond (!PK) (a8 (aC xX.Supers BL) fun sd=>
    aG ((yO.length+1)*16<=140737488355328/\yO.length+1<=140737488355328) (
    Pp BL (MX n eC cM xX m3) (yO++[sd]))) (Pp BL (MX n eC cM xX m3) yO)) (jc eC cM yO)
def je(n:Nat)(cV:Z (Z O8)):I ((Z (Z O8))):=
 QT n cV n [] 0
def KC(p1:Z bC)(n:Nat):Nat->Int->(Z (Z O8))->I ((Z (Z O8)))
 |0,_,_=>none|m1+1,eC,cZ=>
  cond (decide (eC<(cZ.length:Int))) (a8 (aC cZ eC) fun uV=>
   a8 (G3 n p1 uV) fun W2=>
   a8 (aC p1 W2) fun xX=>
   MX n eC (KC p1 n m1) xX n 0 cZ) (je n cZ)
def Oo(n:Nat)(p1:Z bC)(p2:Z O8):I ((Z (Z O8))):=
 a8 (G3 n p1 p2) fun r3=>cond (decide (r3<0)) (some []) (KC p1 n n 0 ([p2]))
theorem qo0(n:Nat)(p1:Z bC)(p2:Z O8)(r:(Z (Z O8)))(J:Oo n p1 p2=some r):dJ prog 161 [.isl false (p1.map bJ),.str p2] (.isl false (r.map cS)):=by unfold Oo at J;refine eO 66 SU ?_;obtain⟨r3,h4,J⟩:=aL J;refine go ?_;refine aK rfl (pC (Gk n p1 p2 r3 h4) _) qK ?_;refine gF J ?_ ?_<;>intro h5 J;refine go ?_;obtain rfl:=sI J;exact rT (us:=[.nils]) (u:=.isl false []) (fH rfl (fW)) wR;refine go ?_;refine RS.step (u:=.vl 0 0 0 ([p2].length)) (X':=⟨[(0,.bv cS ([p2]) 9 1 0)],1⟩) rfl (eT.bslv (cs:=(List.map cS [p2]).flatten) tb_ok rfl jC.h GR.h rfl rfl rfl rfl rfl rfl rfl rfl) rfl rfl ?_;refine go ?_;refine gL (fun m tm X=>∃eC cZ j9,KC p1 n m eC cZ=some r/\tm=fr 66 [(0,.iM bJ p1),(5,.vl 0 j9 0 cZ.length),(6,.i6 eC)]/\X=⟨lR cZ j9,1⟩) (fun tm X=>∃cV hZ,je n cV=some r/\tm=fr 66 [(5,.vl 0 hZ 0 cV.length)]/\X=⟨lR cV hZ,1⟩) n ⟨0,[p2],0,J,rfl,rfl⟩ ?_ ?_;rintro _ _ ⟨cV,hZ,J,rfl,rfl⟩;unfold je at J;refine gr ?_;refine gr ?_;refine dY (tm':=fr 66 [(5,.vl 0 hZ 0 cV.length),(9,.iM cS []),(10,.i6 0)]) (Gh.trans (Gh.sub (l':=[(5,.vl 0 hZ 0 cV.length),(9,.nils),(10,.i6 0)]) ⟨rfl,rfl,rfl,trivial⟩) (Gh.wkS (l':=[(5,.vl 0 hZ 0 cV.length),(9,.iM cS []),(10,.i6 0)]) (.cons (.refl _) (.cons (.nil false) (.cons (.refl _) .nil))))) NZ ?_;refine gL (fun m tm X=>∃qX eS,QT n cV m qX eS=some r/\tm=fr 66 [(5,.vl 0 hZ 0 cV.length),(9,.iM cS qX),(10,.i6 eS)]/\X=⟨lR cV hZ,1⟩) (fun tm X=>∃uM,jd uM=some r/\tm=fr 66 [(9,.iM cS uM)]/\X=⟨lR cV hZ,1⟩) n ⟨[],0,J,rfl,rfl⟩ ?_ ?_;rintro _ _ ⟨uM,J,rfl,rfl⟩;unfold jd at J;exact gx J;rintro(_|m2) _ _ ⟨qX,eS,J,rfl,rfl⟩;cases J;unfold QT at J;refine gF J ?_ ?_<;>intro tX J;refine go ?_;apply aR;obtain⟨xZ,pH,o5,nZ,J⟩:=cB J;refine go ?_;refine bT rfl (fA rfl rfl (pS cS jC.h (bZ GR.h) (by decide) LR (vo rfl) pH)) ?_;refine bT rfl (yG cS (fun x=>.str x) J6.h rfl (fun _=>rfl) rfl rfl pH) (aK rfl (pC (Ga n qX xZ o5 nZ) _) qL ?_);refine go ?_;exact lC ⟨o5,(IntKind.i64.wrap (eS+1)),J,rfl,rfl⟩;refine go ?_;exact xC ⟨qX,J,rfl,rfl⟩;rintro(_|m1) _ _ ⟨eC,cZ,j9,J,rfl,rfl⟩;cases J;unfold KC at J;refine gF J ?_ ?_<;>intro SI J;refine go ?_;apply aR;obtain⟨uV,sX,W2,D6,xX,B9,J⟩:=pR J;refine go ?_;refine bT rfl (fA rfl rfl (pS cS jC.h (bZ GR.h) (by decide) LR (vo rfl) sX)) ?_;refine bT rfl (yG cS (fun x=>.str x) J6.h rfl (fun _=>rfl) rfl rfl sX) (aK rfl (pC (Gk n p1 uV W2 D6) _) qK ?_);refine aW B9 ?_;refine go ?_;refine gL (fun m tm X=>∃BL yO Dg,MX n eC (KC p1 n m1) xX m BL yO=some r/\tm=fr 66 [(0,.iM bJ p1),(5,.vl 0 Dg 0 yO.length),(6,.i6 eC),(7,.iM cS xX.Supers),(8,.i6 BL)]/\X=⟨lR yO Dg,1⟩) (fun tm X=>∃yN LD,jc eC (KC p1 n m1) yN=some r/\tm=fr 66 [(0,.iM bJ p1),(5,.vl 0 LD 0 yN.length),(6,.i6 eC)]/\X=⟨lR yN LD,1⟩) n ⟨0,cZ,j9,J,rfl,rfl⟩ ?_ ?_;rintro _ _ ⟨yN,LD,J,rfl,rfl⟩;unfold jc at J;refine go ?_;exact lC ⟨_,yN,LD,J,rfl,rfl⟩;rintro(_|m3) _ _ ⟨BL,yO,Dg,J,rfl,rfl⟩;cases J;unfold MX at J;refine gF J ?_ ?_<;>intro sV J;refine go ?_;apply aR;obtain⟨OV,lp,PK,h49,J⟩:=cB J;refine go ?_;refine aW lp ?_;refine go ?_;refine aK rfl (vw (MR n yO OV PK h49) (rE 0 1)) lW ?_;refine gn ?_;refine fK (fun tm X=>∃YI Xw,Pp BL (MX n eC (KC p1 n m1) xX m3) YI=some r/\tm=fr 66 [(0,.iM bJ p1),(5,.vl 0 Xw 0 YI.length),(6,.i6 eC),(7,.iM cS xX.Supers),(8,.i6 BL)]/\X=⟨lR YI Xw,1⟩) ?_ ?_;rintro _ _ ⟨YI,Xw,J,rfl,rfl⟩;unfold Pp at J;refine go ?_;exact lC ⟨_,YI,Xw,J,rfl,rfl⟩;refine cF J ?_ ?_<;>intro h50 J;obtain⟨sd,h54,J⟩:=aL J;obtain⟨ln,J⟩:=cQ J;refine go ?_;refine aW h54 ?_;refine go ?_;refine cP ?_;refine cP ?_;refine go ?_;exact xC ⟨(yO++[sd]),(Dg+1),J,rfl,rfl⟩;refine go ?_;exact xC ⟨yO,Dg,J,rfl,rfl⟩;refine go ?_;exact xC ⟨yO,Dg,J,rfl,rfl⟩;refine go ?_;exact xC ⟨cZ,j9,J,rfl,rfl⟩
def Qb(eC:Int)(cM:Int->(Z (Z O8))->I ((Z (Z O8))))(vJ:Z (Z O8)):I ((Z (Z O8))):=
 cM (IntKind.i64.wrap (eC+1)) vJ
def jy(r3:(Z (Z O8)))(eC:Int)(cZ:Z (Z O8))(cM:Int->(Z (Z O8))->I ((Z (Z O8))))(Wt:BQ):I ((Z (Z O8))):=
 cond Wt (a8 (aC r3 eC) fun pJ=>
  aG ((cZ.length+1)*16<=140737488355328/\cZ.length+1<=140737488355328) (
  Qb eC cM (cZ++[pJ]))) (Qb eC cM cZ)
def XQ(n:Nat)(r3:(Z (Z O8)))(eC:Int)(cZ:Z (Z O8))(cM:Int->(Z (Z O8))->I ((Z (Z O8))))(jD:(Z (Z O8))):Nat->BQ->Int->I ((Z (Z O8)))
 |0,_,_=>none|m2+1,IH,nO=>cond (decide (nO<(r3.length:Int))) (a8 (cond IH (cond (nO==eC) (some true) (a8 (aC r3 nO) fun sg=>a8 (EB n jD sg) fun gf=>some (!gf))) (some false)) fun mc=>(XQ n r3 eC cZ cM jD m2) mc (IntKind.i64.wrap (nO+1))) (jy r3 eC cZ cM IH)
def jz  (cV:Z (Z O8)):I ((Z (Z O8))):=
 some cV
def G7(p1:Z bC)(n:Nat)(r3:(Z (Z O8))):Nat->Int->(Z (Z O8))->I ((Z (Z O8)))
 |0,_,_=>none|m1+1,eC,cZ=>
  cond (decide (eC<(r3.length:Int))) (a8 (aC r3 eC) fun jM=>
   a8 (Oo n p1 jM) fun jD=>
   XQ n r3 eC cZ (G7 p1 n r3 m1) jD n true 0) (jz cZ)
def Gs(n:Nat)(p1:Z bC)(p2:Z (Z O8)):I ((Z (Z O8))):=
 a8 (xv n p1 p2) fun r3=>
 G7 p1 n r3 n 0 ([]:Z (Z O8))
theorem qdu(n:Nat)(p1:Z bC)(p2:Z (Z O8))(r:(Z (Z O8)))(J:Gs n p1 p2=some r):dJ prog 131 [.isl false (p1.map bJ),.isl false (p2.map cS)] (.isl false (r.map cS)):=by
 unfold Gs at J;refine eO 56 I2 ?_;obtain⟨r3,h4,J⟩:=aL J;refine go ?_;refine aK rfl (pC (qiw n p1 p2 r3 h4) _) SV ?_;refine gr ?_;refine gV 5 9 1 1 ?_;refine gL (fun m tm X=>∃eC cZ j9,G7 p1 n r3 m eC cZ=some r/\tm=fr 56 [(0,.iM bJ p1),(5,.vl 0 j9 0 cZ.length),(6,.iM cS r3),(7,.i6 eC)]/\X=⟨lR cZ j9,1⟩) (fun tm X=>∃cV hZ,jz cV=some r/\tm=fr 56 [(5,.vl 0 hZ 0 cV.length)]/\X=⟨lR cV hZ,1⟩) n ⟨0,([]:Z (Z O8)),0,J,rfl,rfl⟩ ?_ ?_;rintro _ _ ⟨cV,hZ,J,rfl,rfl⟩;unfold jz at J;refine go ?_;obtain rfl:=sI J;exact rT (us:=[.vl 0 hZ 0 cV.length]) (u:=.iM cS cV) (fH rfl (fW)) (fR 0 1);rintro(_|m1) _ _ ⟨eC,cZ,j9,J,rfl,rfl⟩;cases J;unfold G7 at J;refine gF J ?_ ?_<;>intro kQ J;refine go ?_;apply aR;obtain⟨jM,iV,jD,jU,J⟩:=cB J;refine go ?_;refine aW iV ?_;refine go ?_;refine aK rfl (pC (qo0 n p1 jM jD jU) _) SU ?_;refine go ?_;refine gL (fun m tm X=>∃IH nO,XQ n r3 eC cZ (G7 p1 n r3 m1) jD m IH nO=some r/\tm=fr 56 [(0,.iM bJ p1),(5,.vl 0 j9 0 cZ.length),(6,.iM cS r3),(7,.i6 eC),(8,.iM cS jD),(9,.bool IH),(10,.i6 nO)]/\X=⟨lR cZ j9,1⟩) (fun tm X=>∃Wt,jy r3 eC cZ (G7 p1 n r3 m1) Wt=some r/\tm=fr 56 [(0,.iM bJ p1),(5,.vl 0 j9 0 cZ.length),(6,.iM cS r3),(7,.i6 eC),(9,.bool Wt)]/\X=⟨lR cZ j9,1⟩) n ⟨true,0,J,rfl,rfl⟩ ?_ ?_;rintro _ _ ⟨Wt,J,rfl,rfl⟩;unfold jy at J;refine gr ?_;refine fK (fun tm X=>∃vJ LH,Qb eC (G7 p1 n r3 m1) vJ=some r/\tm=fr 56 [(0,.iM bJ p1),(5,.vl 0 LH 0 vJ.length),(6,.iM cS r3),(7,.i6 eC)]/\X=⟨lR vJ LH,1⟩) ?_ ?_;rintro _ _ ⟨vJ,LH,J,rfl,rfl⟩;unfold Qb at J;refine go ?_;exact lC ⟨_,vJ,LH,J,rfl,rfl⟩;refine cF J ?_ ?_<;>intro D6 J;obtain⟨pJ,sW,J⟩:=aL J;obtain⟨B4,J⟩:=cQ J;refine go ?_;refine aW sW ?_;refine go ?_;refine cP ?_;refine cP ?_;refine go ?_;exact xC ⟨(cZ++[pJ]),(j9+1),J,rfl,rfl⟩;refine go ?_;exact xC ⟨cZ,j9,J,rfl,rfl⟩;rintro(_|m2) _ _ ⟨IH,nO,J,rfl,rfl⟩;cases J;unfold XQ at J;refine gF J ?_ ?_<;>intro KX J;refine go ?_;apply aR;obtain⟨mc,sV,J⟩:=aL J;refine gn ?_;refine fK (fun tm X=>tm=fr 56 [(0,.iM bJ p1),(5,.vl 0 j9 0 cZ.length),(6,.iM cS r3),(7,.i6 eC),(8,.iM cS jD),(9,.bool mc),(10,.i6 nO)]/\X=⟨lR cZ j9,1⟩) ?_ ?_;rintro _ _ ⟨rfl,rfl⟩;refine go ?_;exact lC ⟨mc,(IntKind.i64.wrap (nO+1)),J,rfl,rfl⟩;refine go ?_;rcases gB sV with⟨mD,sV⟩|⟨mD,sV⟩;refine go ?_;rcases gB sV with⟨B3,sV⟩|⟨B3,sV⟩;exact gy sV;obtain⟨sg,Ih,sV⟩:=aL sV;obtain⟨gf,h43,sV⟩:=aL sV;obtain rfl:=sI sV;refine go ?_;refine aW Ih ?_;refine go ?_;refine aK rfl (pC (MR n jD sg gf h43) _) lW ?_;refine go ?_;exact xC ⟨rfl,rfl⟩;obtain rfl:=sI sV;refine go ?_
 repeat refine RS.no (JF rfl rfl rfl) rfl rfl ?_
 refine go ?_;exact xC ⟨rfl,rfl⟩;refine go ?_;exact xC ⟨IH,J,rfl,rfl⟩;refine go ?_;exact xC ⟨cZ,j9,J,rfl,rfl⟩
def Ph(i5:(Z (Z O8)))(jX:Int)(nP:(Z O8)->Int->I ((Z O8)))(PE:Z O8):I ((Z O8)):=
 a8 (aC i5 jX) fun uV=>
 aG (PE.length+uV.length<=9223372036854775807) (
 nP (PE++uV) (IntKind.i64.wrap (jX+1)))
def wh  (Kj:Z O8):I ((Z O8)):=
 some Kj
def K5(i5:(Z (Z O8))):Nat->(Z O8)->Int->I ((Z O8))
 |0,_,_=>none|m2+1,tE,jX=>
  cond (decide (jX<(i5.length:Int))) (cond (decide (jX>0)) (aG (tE.length+([38]).length<=9223372036854775807) (
    Ph i5 jX (K5 i5 m2) (tE++[38]))) (Ph i5 jX (K5 i5 m2) tE)) (wh tE)
def Pg(eZ:Int)(cM:Int->(Z (Z O8))->I ((Z O8)))(yN:Z (Z O8)):I ((Z O8)):=
 cM (IntKind.i64.wrap (eZ+1)) yN
def wi(p1:Z bC)(n:Nat)(dT:Z (Z O8)):I ((Z O8)):=
 a8 (Gs n p1 dT) fun i5=>
 K5 i5 n [] 0
def MP(p1:Z bC)(p2:Z (Z O8))(p3:Z (Z Int))(p4:Z Int)(n:Nat):Nat->Int->(Z (Z O8))->I ((Z O8))
 |0,_,_=>none|m1+1,eZ,cV=>
  cond (decide (eZ<(p2.length:Int))) (a8 (aC p3 eZ) fun oI=>
   a8 (Oq n oI p4) fun iY=>cond iY (a8 (aC p2 eZ) fun J2=>some J2) (a8 (Fu n p4 eZ) fun W0=>cond W0 (a8 (aC p2 eZ) fun sf=>
     aG ((cV.length+1)*16<=140737488355328/\cV.length+1<=140737488355328) (
     Pg eZ (MP p1 p2 p3 p4 n m1) (cV++[sf]))) (Pg eZ (MP p1 p2 p3 p4 n m1) cV))) (wi p1 n cV)
def Nz(n:Nat)(p1:Z bC)(p2:Z (Z O8))(p3:Z (Z Int))(p4:Z Int):I ((Z O8)):=
 MP p1 p2 p3 p4 n n 0 ([]:Z (Z O8))
theorem qqi(n:Nat)(p1:Z bC)(p2:Z (Z O8))(p3:Z (Z Int))(p4:Z Int)(r:(Z O8))(J:Nz n p1 p2 p3 p4=some r):dJ prog 94 [.isl false (p1.map bJ),.isl false (p2.map cS),.isl false (List.map (cL (cI .u64)) p3),.isl false (p4.map (cI .u64))] (.str r):=by unfold Nz at J;refine Wr 59 Vc ?_;refine gr ?_;refine gr ?_;refine gr ?_;refine gV 9 9 1 1 ?_;refine gL (fun m tm X=>∃eZ cV hZ,MP p1 p2 p3 p4 n m eZ cV=some r/\tm=fr 59 [(0,.iM bJ p1),(1,.iM cS p2),(2,.iM (cL (cI .u64)) p3),(3,.iM (cI .u64) p4),(9,.vl 0 hZ 0 cV.length),(10,.i6 eZ)]/\X=⟨lR cV hZ,1⟩) (fun tm X=>∃dT mI,wi p1 n dT=some r/\tm=fr 59 [(0,.iM bJ p1),(9,.vl 0 mI 0 dT.length)]/\X=⟨lR dT mI,1⟩) n ⟨0,([]:Z (Z O8)),0,J,rfl,rfl⟩ ?_ ?_;rintro _ _ ⟨dT,mI,J,rfl,rfl⟩;unfold wi at J;refine gn ?_;refine dY (tm':=fr 59 [(0,.iM bJ p1),(9,.iM cS dT)]) (X':=⟨[],1⟩) (Gh.trans (Gh.sub (l':=[(0,.iM bJ p1),(9,.vl 0 mI 0 dT.length)]) ⟨rfl,rfl,trivial⟩) (U4 0 1)) NZ ?_;obtain⟨i5,dU,J⟩:=aL J;refine go ?_;refine aK rfl (pC (qdu n p1 dT i5 dU) _) I2 ?_;refine go ?_;refine gL (fun m tm X=>∃tE jX,K5 i5 m tE jX=some r/\tm=fr 59 [(9,.iM cS i5),(11,.str tE),(12,.i6 jX)]/\X=⟨[],1⟩) (fun tm X=>∃Kj,wh Kj=some r/\tm=fr 59 [(11,.str Kj)]/\X=⟨[],1⟩) n ⟨[],0,J,rfl,rfl⟩ ?_ ?_;rintro _ _ ⟨Kj,J,rfl,rfl⟩;unfold wh at J;exact gx J;rintro(_|m2) _ _ ⟨tE,jX,J,rfl,rfl⟩;cases J;unfold K5 at J;refine gF J ?_ ?_<;>intro HQ J;refine go ?_;apply aR;refine gr ?_;refine fK (fun tm X=>∃PE,Ph i5 jX (K5 i5 m2) PE=some r/\tm=fr 59 [(9,.iM cS i5),(11,.str PE),(12,.i6 jX)]/\X=⟨[],1⟩) ?_ ?_;rintro _ _ ⟨PE,J,rfl,rfl⟩;unfold Ph at J;obtain⟨uV,sX,J⟩:=aL J;obtain⟨xS,J⟩:=cQ J;refine go ?_;refine aW sX ?_;refine go ?_;refine bT (u:=.str (PE++uV)) rfl (E6 rfl rfl (z6a xS) rfl) ?_;refine go ?_;exact lC ⟨(PE++uV),(IntKind.i64.wrap (jX+1)),J,rfl,rfl⟩;refine cF J ?_ ?_<;>intro nZ J;obtain⟨D6,J⟩:=cQ J;refine go ?_;refine bT (u:=.str (tE++[38])) rfl (E6 rfl rfl (z6a D6) rfl) ?_;refine go ?_;exact xC ⟨(tE++[38]),J,rfl,rfl⟩;refine go ?_;exact xC ⟨tE,J,rfl,rfl⟩;refine go ?_;exact xC ⟨tE,J,rfl,rfl⟩;rintro(_|m1) _ _ ⟨eZ,cV,hZ,J,rfl,rfl⟩;cases J;unfold MP at J;refine gF J ?_ ?_<;>intro oH J;refine go ?_;apply aR;obtain⟨oI,nB,iY,B4,J⟩:=cB J;refine go ?_;refine aW nB ?_;refine go ?_;refine aK rfl (pC (qny n oI p4 iY B4) _) T4 ?_;refine gF J ?_ ?_<;>intro KX J;obtain⟨J2,B3,J⟩:=aL J;refine go ?_;refine aW B3 ?_;exact gx J;obtain⟨W0,Ih,J⟩:=aL J;refine go ?_;refine aK rfl (pC (qks n p4 eZ W0 Ih) _) I3 ?_;refine gn ?_;refine fK (fun tm X=>∃yN LD,Pg eZ (MP p1 p2 p3 p4 n m1) yN=some r/\tm=fr 59 [(0,.iM bJ p1),(1,.iM cS p2),(2,.iM (cL (cI .u64)) p3),(3,.iM (cI .u64) p4),(9,.vl 0 LD 0 yN.length),(10,.i6 eZ)]/\X=⟨lR yN LD,1⟩) ?_ ?_;rintro _ _ ⟨yN,LD,J,rfl,rfl⟩;unfold Pg at J;refine go ?_;exact lC ⟨_,yN,LD,J,rfl,rfl⟩;refine cF J ?_ ?_<;>intro HO J;obtain⟨sf,h46,J⟩:=aL J;obtain⟨lp,J⟩:=cQ J;refine go ?_;refine aW h46 ?_;refine go ?_;refine cP ?_;refine cP ?_;refine go ?_;exact xC ⟨(cV++[sf]),(hZ+1),J,rfl,rfl⟩;refine go ?_;exact xC ⟨cV,hZ,J,rfl,rfl⟩;refine go ?_;exact xC ⟨cV,hZ,J,rfl,rfl⟩
def Pj(z6:Int)(cM:Int->(Z Int)->I ((Z Int)))(dT:Z Int):I ((Z Int)):=
 cM (IntKind.i64.wrap (z6+1)) dT
def wv  (l9:Z Int):I ((Z Int)):=
 some l9
def MS(p1:Z Int)(n:Nat):Nat->Int->(Z Int)->I ((Z Int))
 |0,_,_=>none|m1+1,z6,l7=>
  cond (decide (z6<(IntKind.i64.wrap (64*(p1.length:Int))))) (a8 (Fu n p1 z6) fun iJ=>cond iJ (aG ((l7.length+1)*8<=140737488355328/\l7.length+1<=140737488355328) (
    Pj z6 (MS p1 n m1) (l7++[z6]))) (Pj z6 (MS p1 n m1) l7)) (wv l7)
def qv(n:Nat)(p1:Z Int):I ((Z Int)):=
 MS p1 n n 0 ([]:Z Int)
theorem qqf(n:Nat)(p1:Z Int)(r:(Z Int))(J:qv n p1=some r):dJ prog 162 [.isl false (p1.map (cI .u64))] (.isl false (r.map (cI .i64))):=by unfold qv at J;refine kR 20 SS ?_;refine gr ?_;refine gr ?_;refine gr ?_;refine gV 3 3 1 1 ?_;refine gL (fun m tm X=>∃z6 l7 t8,MS p1 n m z6 l7=some r/\tm=fr 20 [(0,.iM (cI .u64) p1),(3,.vl 0 t8 0 l7.length),(4,.i6 z6)]/\X=⟨C4 l7 t8,1⟩) (fun tm X=>∃l9 fC,wv l9=some r/\tm=fr 20 [(3,.vl 0 fC 0 l9.length)]/\X=⟨C4 l9 fC,1⟩) n ⟨0,([]:Z Int),0,J,rfl,rfl⟩ ?_ ?_;rintro _ _ ⟨l9,fC,J,rfl,rfl⟩;unfold wv at J;refine go ?_;obtain rfl:=sI J;exact rT (us:=[.vl 0 fC 0 l9.length]) (u:=.iM (cI .i64) l9) (fH rfl (fW)) (fR 0 1);rintro(_|m1) _ _ ⟨z6,l7,t8,J,rfl,rfl⟩;cases J;unfold MS at J;refine gF J ?_ ?_<;>intro mF J;refine go ?_;apply aR;obtain⟨iJ,eH,J⟩:=aL J;refine go ?_;refine aK rfl (pC (qks n p1 z6 iJ eH) _) I3 ?_;refine gn ?_;refine fK (fun tm X=>∃dT mI,Pj z6 (MS p1 n m1) dT=some r/\tm=fr 20 [(0,.iM (cI .u64) p1),(3,.vl 0 mI 0 dT.length),(4,.i6 z6)]/\X=⟨C4 dT mI,1⟩) ?_ ?_;rintro _ _ ⟨dT,mI,J,rfl,rfl⟩;unfold Pj at J;refine go ?_;exact lC ⟨_,dT,mI,J,rfl,rfl⟩;refine cF J ?_ ?_<;>intro iW J;obtain⟨iV,J⟩:=cQ J;refine go ?_;refine cP ?_;refine cP ?_;refine go ?_;exact xC ⟨(l7++[z6]),(t8+1),J,rfl,rfl⟩;refine go ?_;exact xC ⟨l7,t8,J,rfl,rfl⟩;refine go ?_;exact xC ⟨l7,t8,J,rfl,rfl⟩
def Gc(n:Nat)(p1:Z Int):I (Int):=
 a8 (qv n p1) fun r2=>some (r2.length:Int)
theorem qgv(n:Nat)(p1:Z Int)(r:Int)(J:Gc n p1=some r):dJ prog 132 [.isl false (p1.map (cI .u64))] (.int .i64 r):=by unfold Gc at J;refine kR 6 I1 ?_;obtain⟨r2,h3,J⟩:=aL J;refine go ?_;refine aK rfl (pC (qqf n p1 r2 h3) _) SS ?_;exact gx J
def Oy(n:Nat)(p1:dC)(p2:dC):I (BQ):=
 a8 (Gc n p1.Code) fun r3=>
 a8 (Gc n p2.Code) fun r5=>
 a8 (cond (decide (r3>r5)) (some true) (cond (r3==r5) (some (jH p1.Name p2.Name)) (some false))) fun b9=>some b9
theorem qll(n:Nat)(p1:dC)(p2:dC)(r:BQ)(J:Oy n p1 p2=some r):dJ prog 95 [.agg (eP p1),.agg (eP p2)] (.bool r):=by
 unfold Oy at J;refine eO 28 Vb ?_;obtain⟨r3,h4,J⟩:=aL J;refine go ?_;refine aK rfl (pC (qgv n p1.Code r3 h4) _) I1 ?_;obtain⟨r5,h6,J⟩:=aL J;refine go ?_;refine aK rfl (pC (qgv n p2.Code r5 h6) _) I1 ?_;obtain⟨b9,iR,J⟩:=aL J;refine gn ?_;refine fK (fun tm X=>tm=fr 28 [(4,.bool b9)]/\X=⟨[(1,.row (eP p2) 143),(0,.row (eP p1) 143)],2⟩) ?_ ?_;rintro _ _ ⟨rfl,rfl⟩;exact gx J;refine go ?_;rcases gB iR with⟨h7,iR⟩|⟨h7,iR⟩;obtain rfl:=sI iR;refine go ?_
 repeat refine RS.no (JF rfl rfl rfl) rfl rfl ?_
 refine go ?_;exact xC ⟨rfl,rfl⟩;refine go ?_;rcases gB iR with⟨h8,iR⟩|⟨h8,iR⟩;obtain rfl:=sI iR;refine go ?_;refine RS.w (u:=.bool (jH p1.Name p2.Name)) rfl (E6 rfl rfl rfl rfl) ?_;refine go ?_;exact xC ⟨rfl,rfl⟩;exact gy iR
def Pm(iI:Int)(dF:Z dC)(nP:Int->(Z dC)->I ((Z dC)×Int))(iY:(Z O8))(kD:Z Int)(z50:Int):I ((Z dC)×Int):=
 aG ((0:Int)<=z50/\z50<=((dF.length:Nat):Int)) (
 aG (0+z50.toNat<=dF.length) (
 aG (((dF.drop 0).take z50.toNat).length*40<=140737488355328/\((dF.drop 0).take z50.toNat).length<=140737488355328) (
 aG ((((dF.drop 0).take z50.toNat).length+1)*40<=140737488355328/\((dF.drop 0).take z50.toNat).length+1<=140737488355328) (
 aG ((0:Int)<=z50/\z50<=((dF.length:Nat):Int)) (
 aG ((0+z50.toNat)+(dF.length-z50.toNat)<=dF.length) (
 aG (((((dF.drop 0).take z50.toNat)++[(dC.mk iY kD)]).length+((dF.drop (0+z50.toNat)).take (dF.length-z50.toNat)).length)*40<=140737488355328/\(((dF.drop 0).take z50.toNat)++[(dC.mk iY kD)]).length+((dF.drop (0+z50.toNat)).take (dF.length-z50.toNat)).length<=140737488355328) (
 nP (IntKind.i64.wrap (iI+1)) ((((dF.drop 0).take z50.toNat)++[(dC.mk iY kD)])++((dF.drop (0+z50.toNat)).take (dF.length-z50.toNat))))))))))
def Gx(n:Nat)(iI:Int)(dF:Z dC)(nP:Int->(Z dC)->I ((Z dC)×Int))(iY:(Z O8))(kD:Z Int):Nat->Int->I ((Z dC)×Int)
 |0,_=>none|m3+1,IP=>a8 (cond (decide (IP>0)) (a8 (aC dF (IntKind.i64.wrap (IP-1))) fun DK=>a8 (Oy n (dC.mk iY kD) DK) fun pz=>some pz) (some false)) fun b63=>cond b63 ((Gx n iI dF nP iY kD m3) (IntKind.i64.wrap (IP-1))) (Pm iI dF nP iY kD IP)
def xn  (sP:Z dC):I ((Z dC)×Int):=
 some (sP,0)
def MU(p1:Z bC)(n:Nat)(r5:(Z (Z O8)))(dT:Z (Z Int))(i5:(Z (Z Int))):Nat->Int->(Z dC)->I ((Z dC)×Int)
 |0,_,_=>none|m2+1,iI,dF=>
  cond (decide (iI<(i5.length:Int))) (a8 (aC i5 iI) fun oI=>
   a8 (Nz n p1 r5 dT oI) fun iY=>
   a8 (aC i5 iI) fun kD=>
   Gx n iI dF (MU p1 n r5 dT i5 m2) iY kD n (dF.length:Int)) (xn dF)
def xp(p1:Z bC)(n:Nat)(r5:(Z (Z O8)))(dT:Z (Z Int)):I ((Z dC)×Int):=
 a8 (Ox n dT) fun i5=>cond (decide ((i5.length:Int)>256)) (some ([],7)) (MU p1 n r5 dT i5 n 0 ([]:Z dC))
def XG(p1:Z bC)(n:Nat)(r5:(Z (Z O8))):Nat->Int->(Z (Z Int))->I ((Z dC)×Int)
 |0,_,_=>none|m1+1,eZ,cV=>
  cond (decide (eZ<(r5.length:Int))) (a8 (aC r5 eZ) fun sa=>
   a8 (Oa n p1 r5 sa) fun Yb=>
   aG ((cV.length+1)*24<=140737488355328/\cV.length+1<=140737488355328) ((XG p1 n r5 m1) (IntKind.i64.wrap (eZ+1)) (cV++[Yb]))) (xp p1 n r5 cV)
def MK(n:Nat)(p1:Z bC):I ((Z dC)×Int):=
 a8 (Om n p1) fun r2=>cond (r2 != 0) (some ([],r2)) (a8 (Ol n p1) fun r5=>XG p1 n r5 n 0 ([]:Z (Z Int)))
theorem wo(n:Nat)(p1:Z bC)(r:(Z dC)×Int)(J:MK n p1=some r):dJ prog 58 [.isl false (p1.map bJ)] (.tup [.isl false (r.1.map eP),.int .i64 r.2]):=by unfold MK at J;refine kR 92 HS ?_;obtain⟨r2,h3,J⟩:=aL J;refine go ?_;refine aK rfl (pC (qo2 n p1 r2 h3) _) Vf ?_;refine gF J ?_ ?_<;>intro h4 J;refine go ?_;obtain rfl:=sI J;exact rT (us:=[.nils,.i6 r2]) (u:=.tup [.isl false [],.i6 r2]) (fH rfl (fH rfl (fW))) wR;obtain⟨r5,h6,J⟩:=aL J;refine go ?_;refine aK rfl (pC (qgx n p1 r5 h6) _) Bf ?_;refine gr ?_;refine gr ?_;refine gV 6 141 1 1 ?_;refine gL (fun m tm X=>∃eZ cV hZ,XG p1 n r5 m eZ cV=some r/\tm=fr 92 [(0,.iM bJ p1),(5,.iM cS r5),(6,.vl 0 hZ 0 cV.length),(7,.i6 eZ)]/\X=⟨[(0,.bv (cL (cI .u64)) cV 141 1 hZ)],1⟩) (fun tm X=>∃dT mI,xp p1 n r5 dT=some r/\tm=fr 92 [(0,.iM bJ p1),(5,.iM cS r5),(6,.vl 0 mI 0 dT.length)]/\X=⟨[(0,.bv (cL (cI .u64)) dT 141 1 mI)],1⟩) n ⟨0,([]:Z (Z Int)),0,J,rfl,rfl⟩ ?_ ?_;rintro _ _ ⟨dT,mI,J,rfl,rfl⟩;unfold xp at J;refine gn ?_;refine dY (tm':=fr 92 [(0,.iM bJ p1),(5,.iM cS r5),(6,.iM (cL (cI .u64)) dT)]) (X':=⟨[],1⟩) (Gh.trans (Gh.sub (l':=[(0,.iM bJ p1),(5,.iM cS r5),(6,.vl 0 mI 0 dT.length)]) ⟨rfl,rfl,rfl,trivial⟩) (U4 0 1)) NZ ?_;obtain⟨i5,dU,J⟩:=aL J;refine go ?_;refine aK rfl (pC (qlm n dT i5 dU) _) Vd ?_;refine gF J ?_ ?_<;>intro jU J;refine go ?_;obtain rfl:=sI J;exact rT (us:=[.nils,.i6 7]) (u:=.tup [.isl false [],.i6 7]) (fH rfl (fH rfl (fW))) wR;refine gr ?_;refine gr ?_;refine gV 9 143 2 2 ?_;refine gL (fun m tm X=>∃iI dF oV,MU p1 n r5 dT i5 m iI dF=some r/\tm=fr 92 [(0,.iM bJ p1),(5,.iM cS r5),(6,.iM (cL (cI .u64)) dT),(8,.iM (cL (cI .u64)) i5),(9,.vl 1 oV 0 dF.length),(10,.i6 iI)]/\X=⟨[(1,.bv eP dF 143 2 oV)],2⟩) (fun tm X=>∃sP J8,xn sP=some r/\tm=fr 92 [(9,.vl 1 J8 0 sP.length)]/\X=⟨[(1,.bv eP sP 143 2 J8)],2⟩) n ⟨0,([]:Z dC),0,J,rfl,rfl⟩ ?_ ?_;rintro _ _ ⟨sP,J8,J,rfl,rfl⟩;unfold xn at J;refine go ?_;obtain rfl:=sI J;exact rT (us:=[.vl 1 J8 0 sP.length,.i6 0]) (u:=.tup [.iM eP sP,.i6 0]) (fH rfl (fH rfl (fW))) (fR 1 2);rintro(_|m2) _ _ ⟨iI,dF,oV,J,rfl,rfl⟩;cases J;unfold MU at J;refine gF J ?_ ?_<;>intro oH J;refine go ?_;apply aR;obtain⟨oI,nB,iY,B4,kD,mD,J⟩:=pR J;refine go ?_;refine dE [(0,13),(1,13),(2,13),(3,13),(4,13),(5,13),(6,13),(8,13),(9,13),(10,13),(11,13),(12,13)] ?_;refine gd ?_;refine cY nB ?_;refine gd ?_;refine dV rfl (pC (qqi n p1 r5 dT oI iY B4)) Vc ?_;refine gd ?_;refine cY mD ?_;refine gd ?_;refine fO ?_;refine wO ?_;refine bN ⟨by kernel_rfl,⟨mW rfl,⟨mW rfl,⟨mW rfl,⟨mW rfl,⟨mW rfl,⟨fA rfl rfl (Ee (cL (cI .u64)) pM.h (bZ oB.h) (Ec (cI .u64)) nB rfl),⟨Ll fM.h rfl rfl rfl,⟨mW rfl,⟨mW rfl,⟨fA rfl rfl (Ee (cL (cI .u64)) pM.h (bZ oB.h) (Ec (cI .u64)) mD rfl),⟨Ll fM.h rfl rfl rfl,⟨z5r Ws.h rfl rfl rfl,trivial⟩⟩⟩⟩⟩⟩⟩⟩⟩⟩⟩⟩,?_⟩;refine go ?_;refine gL (fun m tm X=>∃IP,Gx n iI dF (MU p1 n r5 dT i5 m2) iY kD m IP=some r/\tm=fr 92 [(0,.iM bJ p1),(5,.iM cS r5),(6,.iM (cL (cI .u64)) dT),(8,.iM (cL (cI .u64)) i5),(9,.vl 1 oV 0 dF.length),(10,.i6 iI),(11,.ptr 2 0 0),(12,.i6 IP)]/\X=⟨Mz (.str iY) kD dF oV,3⟩) (fun tm X=>∃z50,Pm iI dF (MU p1 n r5 dT i5 m2) iY kD z50=some r/\tm=fr 92 [(0,.iM bJ p1),(5,.iM cS r5),(6,.iM (cL (cI .u64)) dT),(8,.iM (cL (cI .u64)) i5),(9,.vl 1 oV 0 dF.length),(10,.i6 iI),(11,.ptr 2 0 0),(12,.i6 z50)]/\X=⟨Mz (.str iY) kD dF oV,3⟩) n ⟨(dF.length:Int),J,rfl,rfl⟩ ?_ ?_;rintro _ _ ⟨z50,J,rfl,rfl⟩;unfold Pm at J;obtain⟨uS,J⟩:=cQ J;obtain⟨h52,J⟩:=cQ J;obtain⟨h53,J⟩:=cQ J;refine go ?_;refine bT (u:=.vl 1 oV 0 z50.toNat) rfl (JW rfl uC (L5 rfl) uC (Iq eP pN.h (bZ pZ.h) QO (vo rfl) (Nat.le_of_eq (Nat.zero_add _)) (cr uS.1 uS.2))) (bT (u:=.vl 3 0 0 (((dF.drop 0).take z50.toNat).length)) (X':=⟨(3,.bv eP ((dF.drop 0).take z50.toNat) 143 2 0)::Mz (.str iY) kD dF oV,4⟩) rfl (rN rfl rfl rfl rfl (af eP ((dF.drop 0).take z50.toNat) pN.h pN.h pZ.h rfl (Yf eP QO (vo rfl) h52) h53)) ?_);obtain⟨h54,J⟩:=cQ J;refine go ?_;refine cP ?_;refine cP ?_;obtain⟨ln,J⟩:=cQ J;obtain⟨lm,J⟩:=cQ J;obtain⟨h57,J⟩:=cQ J;refine go ?_;refine bT (u:=.vl 1 oV (0+z50.toNat) (dF.length-z50.toNat)) rfl (JW rfl (L5 rfl) uC uC (Iq eP pN.h (bZ pZ.h) QO (vo rfl) (Nat.le_of_eq (Nat.zero_add _)) (cq ln.1 ln.2))) (bT (u:=.vl 3 2 0 (((((dF.drop 0).take z50.toNat)++[(dC.mk iY kD)])++((dF.drop (0+z50.toNat)).take (dF.length-z50.toNat))).length)) (X':=⟨(4,.row [.str iY,.iM (cI .u64) kD] 143)::(3,.bv eP ((((dF.drop 0).take z50.toNat)++[(dC.mk iY kD)])++((dF.drop (0+z50.toNat)).take (dF.length-z50.toNat))) 143 2 2)::Mz (.str iY) kD dF oV,5⟩) rfl (rN rfl rfl rfl rfl (C0 eP ((dF.drop (0+z50.toNat)).take (dF.length-z50.toNat)) pN.h pN.h pZ.h rfl QO rfl (Yf eP QO (vo rfl) lm) h57)) ?_);refine go ?_;exact⟨m2,_,_,zN _,⟨(IntKind.i64.wrap (iI+1)),((((dF.drop 0).take z50.toNat)++[(dC.mk iY kD)])++((dF.drop (0+z50.toNat)).take (dF.length-z50.toNat))),2,J,rfl,rfl⟩,NZ,Gh.trans (Gh.sub (l':=[(0,.iM bJ p1),(5,.iM cS r5),(6,.iM (cL (cI .u64)) dT),(8,.iM (cL (cI .u64)) i5),(9,.vl 3 2 0 (((((dF.drop 0).take z50.toNat)++[(dC.mk iY kD)])++((dF.drop (0+z50.toNat)).take (dF.length-z50.toNat))).length)),(10,.i6 (IntKind.i64.wrap (iI+1)))]) ⟨rfl,rfl,rfl,rfl,rfl,rfl,trivial⟩) (Gh.trans (Gh.mv (l':=[(0,.iM bJ p1),(5,.iM cS r5),(6,.iM (cL (cI .u64)) dT),(8,.iM (cL (cI .u64)) i5),(9,.vl 1 2 0 (((((dF.drop 0).take z50.toNat)++[(dC.mk iY kD)])++((dF.drop (0+z50.toNat)).take (dF.length-z50.toNat))).length)),(10,.i6 (IntKind.i64.wrap (iI+1)))]) (h':=[(4,.row [.str iY,.iM (cI .u64) kD] 143),(1,.bv eP ((((dF.drop 0).take z50.toNat)++[(dC.mk iY kD)])++((dF.drop (0+z50.toNat)).take (dF.length-z50.toNat))) 143 2 2),(2,.row [.str iY,.iM (cI .u64) kD] 143)]) 1 3 NZ rfl rfl (by simp only[rS,rU,eM,Q4,xH,Nat.beq,zC,zD]) rfl (by simp only[Wv,rB,Dy,eM,rU,Q4,Yh,xH,Nat.beq,zC,zD,and_self])) (Gh.toC (n1:=2) ⟨rfl,rfl,rfl,rfl,rfl,rfl,trivial⟩ rfl NZ (by simp)))⟩;rintro(_|m3) _ _ ⟨IP,J,rfl,rfl⟩;cases J;unfold Gx at J;obtain⟨b63,xR,J⟩:=aL J;refine gn ?_;refine fK (fun tm X=>tm=fr 92 [(0,.iM bJ p1),(5,.iM cS r5),(6,.iM (cL (cI .u64)) dT),(8,.iM (cL (cI .u64)) i5),(9,.vl 1 oV 0 dF.length),(10,.i6 iI),(11,.ptr 2 0 0),(12,.i6 IP),(73,.bool b63)]/\X=⟨Mz (.str iY) kD dF oV,3⟩) ?_ ?_;rintro _ _ ⟨rfl,rfl⟩;refine gF J ?_ ?_<;>intro h65 J;refine go ?_;apply aR;refine go ?_;exact lC ⟨_,J,rfl,rfl⟩;refine go ?_;exact xC ⟨IP,J,rfl,rfl⟩;refine dE [] ?_;refine gd ?_;rcases gB xR with⟨ll,xR⟩|⟨ll,xR⟩;obtain⟨DK,Uv,xR⟩:=aL xR;obtain⟨pz,lj,xR⟩:=aL xR;obtain rfl:=sI xR;refine gd ?_;refine RD.w rfl (fA rfl rfl (pS eP pN.h (bZ pZ.h) (by decide) QO (vo rfl) Uv)) ?_;refine RD.w (u:=.agg (eP DK)) rfl (YG eP PD.h rfl (bZ pZ.h) QO rfl rfl Uv rfl) (dV rfl (pC (qll n (dC.mk iY kD) DK pz lj)) Vb ?_);refine gd ?_;refine bN ⟨by kernel_rfl,trivial,?_⟩;refine go ?_;exact xC ⟨rfl,rfl⟩;obtain rfl:=sI xR;refine gd ?_;refine bN ⟨by kernel_rfl,trivial,?_⟩;refine go ?_;exact xC ⟨rfl,rfl⟩;refine go ?_;exact xC ⟨dF,oV,J,rfl,rfl⟩;rintro(_|m1) _ _ ⟨eZ,cV,hZ,J,rfl,rfl⟩;cases J;unfold XG at J;refine gF J ?_ ?_<;>intro h66 J;refine go ?_;apply aR;obtain⟨sa,h68,Yb,h70,J⟩:=cB J;obtain⟨h71,J⟩:=cQ J;refine go ?_;refine aW h68 ?_;refine go ?_;refine aK rfl (pC (qqh n p1 r5 sa Yb h70) _) Ve ?_;refine cP ?_;refine cP ?_;refine go ?_;exact lC ⟨_,(cV++[Yb]),(hZ+1),J,rfl,rfl⟩;refine go ?_;exact xC ⟨cV,hZ,J,rfl,rfl⟩
def XB(n:Nat)(p1:Z O8):I (BQ):=
 a8 (Gd n p1 true) fun r2=>some r2
theorem qkq(n:Nat)(p1:Z O8)(r:BQ)(J:XB n p1=some r):dJ prog 155 [.str p1] (.bool r):=by unfold XB at J;refine kR 5 SZ ?_;obtain⟨r2,h3,J⟩:=aL J;refine go ?_;refine aK rfl (pC (qgu n p1 true r2 h3) _) HX ?_;exact gx J
def kl(n:Nat)(r2:(Z (Z O8)))(x9:bC)(jB:Int)(nP:Int->I (Int)): I (Int):=
 a8 (aC x9.Feats jB) fun UH=>
 a8 (EB n r2 UH.Value) fun DP=>cond (!DP) (some 5) (nP (IntKind.i64.wrap (jB+1)))
def Hh(n:Nat)(r2:(Z (Z O8)))(x9:bC)(jB:Int)(nP:Int->I (Int)):Nat->Int->I (Int)
 |0,_=>none|m3+1,nO=>cond (decide (nO<jB)) (a8 (aC x9.Feats nO) fun UG=>a8 (aC x9.Feats jB) fun J2=>cond (jZ UG.Feat J2.Feat) (some 4) ((Hh n r2 x9 jB nP m3) (IntKind.i64.wrap (nO+1)))) (kl n r2 x9 jB nP)
def kn(z7:Int)(cM:Int->I (Int)): I (Int):=
 cM (IntKind.i64.wrap (z7+1))
def KH(n:Nat)(r2:(Z (Z O8)))(z7:Int)(cM:Int->I (Int))(x9:bC):Nat->Int->I (Int)
 |0,_=>none|m2+1,jB=>cond (decide (jB<(x9.Feats.length:Int))) (a8 (aC x9.Feats jB) fun DM=>a8 (XB n DM.Feat) fun gj=>cond (!gj) (some 1) (Hh n r2 x9 jB (KH n r2 z7 cM x9 m2) n 0)) (kn z7 cM)
def kq: I (Int):=
 some 0
def C9(p1:Z bC)(n:Nat)(r2:(Z (Z O8))):Nat->Int->I (Int)
 |0,_=>none|m1+1,z7=>cond (decide (z7<(p1.length:Int))) (a8 (aC p1 z7) fun x9=>KH n r2 z7 (C9 p1 n r2 m1) x9 n 0) (kq)
def Qd(n:Nat)(p1:Z bC):I (Int):=
 a8 (Ol n p1) fun r2=>
 C9 p1 n r2 n 0
theorem qeu(n:Nat)(p1:Z bC)(r:Int)(J:Qd n p1=some r):dJ prog 115 [.isl false (p1.map bJ)] (.int .i64 r):=by unfold Qd at J;refine kR 58 TD ?_;obtain⟨r2,h3,J⟩:=aL J;refine go ?_;refine aK rfl (pC (qgx n p1 r2 h3) _) Bf ?_;refine go ?_;refine gL (fun m tm X=>∃z7,C9 p1 n r2 m z7=some r/\tm=fr 58 [(0,.iM bJ p1),(3,.iM cS r2),(4,.i6 z7)]/\X=⟨[],0⟩) (fun tm X=>kq=some r/\tm=fr 58 []/\X=⟨[],0⟩) n ⟨0,J,rfl,rfl⟩ ?_ ?_;rintro _ _ ⟨J,rfl,rfl⟩;unfold kq at J;exact gx J;rintro(_|m1) _ _ ⟨z7,J,rfl,rfl⟩;cases J;unfold C9 at J;refine gF J ?_ ?_<;>intro h8 J;refine go ?_;apply aR;obtain⟨x9,iR,J⟩:=aL J;refine go ?_;refine aW iR ?_;refine go ?_;refine gL (fun m tm X=>∃jB,KH n r2 z7 (C9 p1 n r2 m1) x9 m jB=some r/\tm=fr 58 [(0,.iM bJ p1),(3,.iM cS r2),(4,.i6 z7),(5,.iM k9 x9.Feats),(6,.i6 jB)]/\X=⟨[],0⟩) (fun tm X=>kn z7 (C9 p1 n r2 m1)=some r/\tm=fr 58 [(0,.iM bJ p1),(3,.iM cS r2),(4,.i6 z7)]/\X=⟨[],0⟩) n ⟨0,J,rfl,rfl⟩ ?_ ?_;rintro _ _ ⟨J,rfl,rfl⟩;unfold kn at J;refine go ?_;exact lC ⟨_,J,rfl,rfl⟩;rintro(_|m2) _ _ ⟨jB,J,rfl,rfl⟩;cases J;unfold KH at J;refine gF J ?_ ?_<;>intro iV J;refine go ?_;apply aR;obtain⟨DM,jU,gj,tY,J⟩:=cB J;refine go ?_;refine aW jU ?_;refine go ?_;refine aK rfl (pC (qkq n DM.Feat gj tY) _) SZ ?_;refine gF J ?_ ?_<;>intro tX J;exact gx J;refine go ?_;refine gL (fun m tm X=>∃nO,Hh n r2 x9 jB (KH n r2 z7 (C9 p1 n r2 m1) x9 m2) m nO=some r/\tm=fr 58 [(0,.iM bJ p1),(3,.iM cS r2),(4,.i6 z7),(5,.iM k9 x9.Feats),(6,.i6 jB),(7,.i6 nO)]/\X=⟨[],0⟩) (fun tm X=>kl n r2 x9 jB (KH n r2 z7 (C9 p1 n r2 m1) x9 m2)=some r/\tm=fr 58 [(0,.iM bJ p1),(3,.iM cS r2),(4,.i6 z7),(5,.iM k9 x9.Feats),(6,.i6 jB)]/\X=⟨[],0⟩) n ⟨0,J,rfl,rfl⟩ ?_ ?_;rintro _ _ ⟨J,rfl,rfl⟩;unfold kl at J;obtain⟨UH,D6,DP,B9,J⟩:=cB J;refine go ?_;refine aW D6 ?_;refine go ?_;refine aK rfl (pC (MR n r2 UH.Value DP B9) _) lW ?_;refine gF J ?_ ?_<;>intro nB J;exact gx J;refine go ?_;exact lC ⟨_,J,rfl,rfl⟩;rintro(_|m3) _ _ ⟨nO,J,rfl,rfl⟩;cases J;unfold Hh at J;refine gF J ?_ ?_<;>intro sW J;refine go ?_;apply aR;obtain⟨UG,KX,J2,B3,J⟩:=cB J;refine go ?_;refine dE [] ?_;refine gd ?_;refine cY KX ?_;refine gd ?_;refine cY B3 ?_;refine gd ?_;refine bM (u:=.bool (jZ UG.Feat J2.Feat)) rfl (E6 rfl rfl rfl rfl) ?_;refine bN ⟨by kernel_rfl,trivial,?_⟩;refine gF J ?_ ?_<;>intro HP J;exact gx J;refine go ?_;exact lC ⟨_,J,rfl,rfl⟩;refine go ?_;exact xC ⟨J,rfl,rfl⟩;refine go ?_;exact xC ⟨J,rfl,rfl⟩;refine go ?_;exact xC ⟨J,rfl,rfl⟩
def xi(z6:Int)(cM:(Z (Z O8))->Int->I ((Z (Z O8))))(dT:Z (Z O8)):I ((Z (Z O8))):=
 cM dT (IntKind.i64.wrap (z6+1))
def XD(p1:Z bC)(n:Nat)(z6:Int)(cM:(Z (Z O8))->Int->I ((Z (Z O8)))):Nat->(Z (Z O8))->Int->I ((Z (Z O8)))
 |0,_,_=>none|m2+1,cV,tB=>
  a8 (aC p1 z6) fun jM=>cond (decide (tB<(jM.Feats.length:Int))) (a8 (aC p1 z6) fun LA=>
   a8 (aC LA.Feats tB) fun uW=>
   a8 (MG n cV uW.Feat) fun uZ=>(XD p1 n z6 cM m2) uZ (IntKind.i64.wrap (tB+1))) (xi z6 cM cV)
def xj  (l7:Z (Z O8)):I ((Z (Z O8))):=
 some l7
def K9(p1:Z bC)(n:Nat):Nat->(Z (Z O8))->Int->I ((Z (Z O8)))
 |0,_,_=>none|m1+1,l5,z6=>cond (decide (z6<(p1.length:Int))) (XD p1 n z6 (K9 p1 n m1) n l5 0) (xj l5)
def X3(n:Nat)(p1:Z bC):I ((Z (Z O8))):=
 K9 p1 n n [] 0
theorem oe(n:Nat)(p1:Z bC)(r:(Z (Z O8)))(J:X3 n p1=some r):dJ prog 87 [.isl false (p1.map bJ)] (.isl false (r.map cS)):=by unfold X3 at J;refine kR 34 OD ?_;refine gr ?_;refine gr ?_;refine gr ?_;refine dY (tm':=fr 34 [(0,.iM bJ p1),(3,.iM cS []),(4,.i6 0)]) (Gh.trans (Gh.sub (l':=[(0,.iM bJ p1),(3,.nils),(4,.i6 0)]) ⟨rfl,rfl,rfl,trivial⟩) (Gh.wkS (l':=[(0,.iM bJ p1),(3,.iM cS []),(4,.i6 0)]) (.cons (.refl _) (.cons (.nil false) (.cons (.refl _) .nil))))) NZ ?_;refine gL (fun m tm X=>∃l5 z6,K9 p1 n m l5 z6=some r/\tm=fr 34 [(0,.iM bJ p1),(3,.iM cS l5),(4,.i6 z6)]/\X=⟨[],0⟩) (fun tm X=>∃l7,xj l7=some r/\tm=fr 34 [(3,.iM cS l7)]/\X=⟨[],0⟩) n ⟨[],0,J,rfl,rfl⟩ ?_ ?_;rintro _ _ ⟨l7,J,rfl,rfl⟩;unfold xj at J;exact gx J;rintro(_|m1) _ _ ⟨l5,z6,J,rfl,rfl⟩;cases J;unfold K9 at J;refine gF J ?_ ?_<;>intro h8 J;refine go ?_;apply aR;refine go ?_;refine gL (fun m tm X=>∃cV tB,XD p1 n z6 (K9 p1 n m1) m cV tB=some r/\tm=fr 34 [(0,.iM bJ p1),(3,.iM cS cV),(4,.i6 z6),(5,.i6 tB)]/\X=⟨[],0⟩) (fun tm X=>∃dT,xi z6 (K9 p1 n m1) dT=some r/\tm=fr 34 [(0,.iM bJ p1),(3,.iM cS dT),(4,.i6 z6)]/\X=⟨[],0⟩) n ⟨l5,0,J,rfl,rfl⟩ ?_ ?_;rintro _ _ ⟨dT,J,rfl,rfl⟩;unfold xi at J;refine go ?_;exact lC ⟨dT,(IntKind.i64.wrap (z6+1)),J,rfl,rfl⟩;rintro(_|m2) _ _ ⟨cV,tB,J,rfl,rfl⟩;cases J;unfold XD at J;obtain⟨jM,iV,J⟩:=aL J;refine go ?_;refine aW iV ?_;refine gF J ?_ ?_<;>intro dU J;refine go ?_;apply aR;obtain⟨LA,rZ,uW,tX,uZ,pH,J⟩:=pR J;refine go ?_;refine aW rZ ?_;refine go ?_;refine aW tX ?_;refine go ?_;refine aK rfl (pC (Ga n cV uW.Feat uZ pH) _) qL ?_;refine go ?_;exact lC ⟨uZ,(IntKind.i64.wrap (tB+1)),J,rfl,rfl⟩;refine go ?_;exact xC ⟨cV,J,rfl,rfl⟩;refine go ?_;exact xC ⟨l5,J,rfl,rfl⟩
def xg: I ((Z O8)×BQ):=
 some ([],false)
def XC(p1:bC)(p2:Z O8):Nat->Int->I ((Z O8)×BQ)
 |0,_=>none|m1+1,z8=>cond (decide (z8<(p1.Feats.length:Int))) (a8 (aC p1.Feats z8) fun mH=>cond (jZ mH.Feat p2) (a8 (aC p1.Feats z8) fun OW=>some (OW.Value,true)) ((XC p1 p2 m1) (IntKind.i64.wrap (z8+1)))) (xg)
def Oi(n:Nat)(p1:bC)(p2:Z O8):I ((Z O8)×BQ):=
 XC p1 p2 n 0
theorem qh0(n:Nat)(p1:bC)(p2:Z O8)(r:(Z O8)×BQ)(J:Oi n p1 p2=some r):dJ prog 117 [.agg (bJ p1),.str p2] (.tup [.str r.1,.bool r.2]):=by unfold Oi at J;refine eO 28 I6 ?_;refine go ?_;refine gL (fun m tm X=>∃z8,XC p1 p2 m z8=some r/\tm=fr 28 [(1,.str p2),(2,.ptr 0 0 0),(6,.i6 z8)]/\X=⟨[(0,.row (bJ p1) 153)],1⟩) (fun tm X=>xg=some r/\tm=fr 28 []/\X=⟨[(0,.row (bJ p1) 153)],1⟩) n ⟨0,J,rfl,rfl⟩ ?_ ?_;rintro _ _ ⟨J,rfl,rfl⟩;unfold xg at J;refine go ?_;obtain rfl:=sI J;exact LJ rfl rfl rfl rfl rfl;rintro(_|m1) _ _ ⟨z8,J,rfl,rfl⟩;cases J;unfold XC at J;refine gF J ?_ ?_<;>intro h9 J;refine go ?_;apply aR;obtain⟨mH,mF,J⟩:=aL J;refine go ?_;refine aW mF ?_;refine go ?_;refine bT (u:=.bool (jZ mH.Feat p2)) rfl (E6 rfl rfl rfl rfl) ?_;refine gF J ?_ ?_<;>intro iH J;obtain⟨OW,iW,J⟩:=aL J;refine go ?_;refine aW iW ?_;refine go ?_;obtain rfl:=sI J;exact LJ rfl rfl rfl rfl rfl;refine go ?_;exact lC ⟨_,J,rfl,rfl⟩;refine go ?_;exact xC ⟨J,rfl,rfl⟩
def QR(n:Nat)(p1:Z dC)(p2:Int)(p3:Int):I (BQ):=
 a8 (aC p1 p3) fun x4=>
 a8 (aC p1 p2) fun x6=>
 a8 (X7 n x4.Code x6.Code) fun r8=>some r8
theorem jx(n:Nat)(p1:Z dC)(p2:Int)(p3:Int)(r:BQ)(J:QR n p1 p2 p3=some r):dJ prog 96 [.isl false (p1.map eP),.int .i64 p2,.int .i64 p3] (.bool r):=by unfold QR at J;refine TR 18 HR ?_;obtain⟨x4,h5,x6,h7,r8,h9,J⟩:=pR J;refine go ?_;refine dE [] ?_;refine gd ?_;refine cY h5 ?_;refine gd ?_;refine cY h7 ?_;refine gd ?_;refine dV rfl (pC (oj n x4.Code x6.Code r8 h9)) BC ?_;refine gd ?_;refine bN ⟨by kernel_rfl,trivial,?_⟩;exact gx J
def jj: I (Int):=
 some (-1)
def XN(p1:Z dC)(p2:Z O8):Nat->Int->I (Int)
 |0,_=>none|m1+1,z6=>cond (decide (z6<(p1.length:Int))) (a8 (aC p1 z6) fun x8=>cond (jZ x8.Name p2) (some z6) ((XN p1 p2 m1) (IntKind.i64.wrap (z6+1)))) (jj)
def Gi(n:Nat)(p1:Z dC)(p2:Z O8):I (Int):=
 XN p1 p2 n 0
theorem oi(n:Nat)(p1:Z dC)(p2:Z O8)(r:Int)(J:Gi n p1 p2=some r):dJ prog 98 [.isl false (p1.map eP),.str p2] (.int .i64 r):=by unfold Gi at J;refine eO 20 OC ?_;refine go ?_;refine gL (fun m tm X=>∃z6,XN p1 p2 m z6=some r/\tm=fr 20 [(0,.iM eP p1),(1,.str p2),(5,.i6 z6)]/\X=⟨[],0⟩) (fun tm X=>jj=some r/\tm=fr 20 []/\X=⟨[],0⟩) n ⟨0,J,rfl,rfl⟩ ?_ ?_;rintro _ _ ⟨J,rfl,rfl⟩;unfold jj at J;exact gx J;rintro(_|m1) _ _ ⟨z6,J,rfl,rfl⟩;cases J;unfold XN at J;refine gF J ?_ ?_<;>intro h7 J;refine go ?_;apply aR;obtain⟨x8,h9,J⟩:=aL J;refine go ?_;refine aW h9 ?_;refine go ?_;refine bT (u:=.bool (jZ x8.Name p2)) rfl (E6 rfl rfl rfl rfl) ?_;refine gF J ?_ ?_<;>intro iR J;exact gx J;refine go ?_;exact lC ⟨_,J,rfl,rfl⟩;refine go ?_;exact xC ⟨J,rfl,rfl⟩
def kh  (wH:BQ) (pW:Z Int):I ((Z Int)×BQ):=
 some (pW,wH)
def QX(p1:Z bC)(p2:Z dC)(p3:Int)(p4:Z O8)(n:Nat):Nat->BQ->(Z Int)->Int->I ((Z Int)×BQ)
 |0,_,_,_=>none|m1+1,wJ,dT,jB=>
  cond (decide (jB<(p1.length:Int))) (a8 (aC p1 jB) fun A6=>
   a8 (Oi n A6 p4) fun JE=>
   a8 (cond (!JE.2) (some true) (a8 (aC p1 jB) fun J3=>
    a8 (Gi n p2 J3.Name) fun LK=>
    a8 (QR n p2 LK p3) fun gi=>some (!gi))) fun b31=>cond b31 ((QX p1 p2 p3 p4 n m1) wJ dT (IntKind.i64.wrap (jB+1))) (a8 (Gi n p2 JE.1) fun gg=>
    a8 (aC p2 gg) fun UG=>
    a8 (WX n dT UG.Code) fun PM=>(QX p1 p2 p3 p4 n m1) true PM (IntKind.i64.wrap (jB+1)))) (kh wJ dT)
def Hc(n:Nat)(p1:Z bC)(p2:Z dC)(p3:Int)(p4:Z O8):I ((Z Int)×BQ):=
 a8 (aC p2 0) fun x5=>
 QX p1 p2 p3 p4 n n false x5.Code 0
theorem qc4(n:Nat)(p1:Z bC)(p2:Z dC)(p3:Int)(p4:Z O8)(r:(Z Int)×BQ)(J:Hc n p1 p2 p3 p4=some r):dJ prog 88 [.isl false (p1.map bJ),.isl false (p2.map eP),.int .i64 p3,.str p4] (.tup [.isl false (r.1.map (cI .u64)),.bool r.2]):=by unfold Hc at J;refine Wr 60 Bg ?_;obtain⟨x5,h6,J⟩:=aL J;refine go ?_;refine aW h6 ?_;refine go ?_;refine gL (fun m tm X=>∃wJ dT jB,QX p1 p2 p3 p4 n m wJ dT jB=some r/\tm=fr 60 [(0,.iM bJ p1),(1,.iM eP p2),(2,.i6 p3),(3,.str p4),(10,.bool wJ),(11,.iM (cI .u64) dT),(12,.i6 jB)]/\X=⟨[],0⟩) (fun tm X=>∃wH pW,kh wH pW=some r/\tm=fr 60 [(10,.bool wH),(11,.iM (cI .u64) pW)]/\X=⟨[],0⟩) n ⟨false,x5.Code,0,J,rfl,rfl⟩ ?_ ?_;rintro _ _ ⟨wH,pW,J,rfl,rfl⟩;unfold kh at J;refine go ?_;obtain rfl:=sI J;exact LJ rfl rfl rfl rfl rfl;rintro(_|m1) _ _ ⟨wJ,dT,jB,J,rfl,rfl⟩;cases J;unfold QX at J;refine gF J ?_ ?_<;>intro jU J;refine go ?_;apply aR;obtain⟨A6,tY,JE,zE,J⟩:=cB J;refine go ?_;refine aW tY ?_;refine go ?_;refine aK rfl (pC (qh0 n A6 p4 JE zE) _) I6 ?_;obtain⟨b31,oH,J⟩:=aL J;refine gn ?_;refine fK (fun tm X=>tm=fr 60 [(0,.iM bJ p1),(1,.iM eP p2),(2,.i6 p3),(3,.str p4),(10,.bool wJ),(11,.iM (cI .u64) dT),(12,.i6 jB),(13,.str JE.1),(48,.bool b31)]/\X=⟨[],0⟩) ?_ ?_;rintro _ _ ⟨rfl,rfl⟩;refine gF J ?_ ?_<;>intro B9 J;refine go ?_;exact lC ⟨wJ,dT,(IntKind.i64.wrap (jB+1)),J,rfl,rfl⟩;obtain⟨gg,sW,UG,KX,PM,B3,J⟩:=pR J;refine go ?_;refine aK rfl (pC (oi n p2 JE.1 gg sW) _) OC ?_;refine aW KX ?_;refine go ?_;refine aK rfl (pC (qkr n dT UG.Code PM B3) _) I5 ?_;refine go ?_;exact lC ⟨true,PM,(IntKind.i64.wrap (jB+1)),J,rfl,rfl⟩;refine go ?_;rcases gB oH with⟨pH,oH⟩|⟨pH,oH⟩;exact gy oH;obtain⟨J3,nZ,oH⟩:=aL oH;obtain⟨LK,BA,oH⟩:=aL oH;obtain⟨gi,xS,oH⟩:=aL oH;obtain rfl:=sI oH;refine go ?_;refine aW nZ ?_;refine go ?_;refine aK rfl (pC (oi n p2 J3.Name LK BA) _) OC ?_;refine go ?_;refine aK rfl (pC (jx n p2 LK p3 gi xS) _) HR ?_;refine go ?_;exact xC ⟨rfl,rfl⟩;refine go ?_;exact xC ⟨wJ,dT,J,rfl,rfl⟩
def Pk(z8:Int)(cM:(Z (Z O8))->Int->I ((Z O8)×BQ))(uM:Z (Z O8)):I ((Z O8)×BQ):=
 cM uM (IntKind.i64.wrap (z8+1))
def xh(p1:Z bC)(n:Nat)(l9:Z (Z O8)):I ((Z O8)×BQ):=
 a8 (Gs n p1 l9) fun v6=>cond ((v6.length:Int) != 1) (some ([],false)) (a8 (aC v6 0) fun OW=>some (OW,true))
def MT(p1:Z bC)(p2:Z O8)(n:Nat):Nat->(Z (Z O8))->Int->I ((Z O8)×BQ)
 |0,_,_=>none|m1+1,l7,z8=>
  cond (decide (z8<(p1.length:Int))) (a8 (aC p1 z8) fun jM=>
   a8 (Oi n jM p2) fun jD=>cond jD.2 (a8 (aC p1 z8) fun pK=>
    a8 (MG n l7 pK.Name) fun Ye=>
    Pk z8 (MT p1 p2 n m1) Ye) (Pk z8 (MT p1 p2 n m1) l7)) (xh p1 n l7)
def Oj(n:Nat)(p1:Z bC)(p2:Z O8):I ((Z O8)×BQ):=
 MT p1 p2 n n [] 0
theorem qgz(n:Nat)(p1:Z bC)(p2:Z O8)(r:(Z O8)×BQ)(J:Oj n p1 p2=some r):dJ prog 97 [.isl false (p1.map bJ),.str p2] (.tup [.str r.1,.bool r.2]):=by unfold Oj at J;refine eO 43 Be ?_;refine gr ?_;refine gr ?_;refine gr ?_;refine dY (tm':=fr 43 [(0,.iM bJ p1),(1,.str p2),(6,.iM cS []),(7,.i6 0)]) (Gh.trans (Gh.sub (l':=[(0,.iM bJ p1),(1,.str p2),(6,.nils),(7,.i6 0)]) ⟨rfl,rfl,rfl,rfl,trivial⟩) (Gh.wkS (l':=[(0,.iM bJ p1),(1,.str p2),(6,.iM cS []),(7,.i6 0)]) (.cons (.refl _) (.cons (.refl _) (.cons (.nil false) (.cons (.refl _) .nil)))))) NZ ?_;refine gL (fun m tm X=>∃l7 z8,MT p1 p2 n m l7 z8=some r/\tm=fr 43 [(0,.iM bJ p1),(1,.str p2),(6,.iM cS l7),(7,.i6 z8)]/\X=⟨[],0⟩) (fun tm X=>∃l9,xh p1 n l9=some r/\tm=fr 43 [(0,.iM bJ p1),(6,.iM cS l9)]/\X=⟨[],0⟩) n ⟨[],0,J,rfl,rfl⟩ ?_ ?_;rintro _ _ ⟨l9,J,rfl,rfl⟩;unfold xh at J;obtain⟨v6,mF,J⟩:=aL J;refine go ?_;refine aK rfl (pC (qdu n p1 l9 v6 mF) _) I2 ?_;refine gF J ?_ ?_<;>intro iH J;refine go ?_;obtain rfl:=sI J;exact LJ rfl rfl rfl rfl rfl;obtain⟨OW,iW,J⟩:=aL J;refine go ?_;refine aW iW ?_;refine go ?_;obtain rfl:=sI J;exact LJ rfl rfl rfl rfl rfl;rintro(_|m1) _ _ ⟨l7,z8,J,rfl,rfl⟩;cases J;unfold MT at J;refine gF J ?_ ?_<;>intro kQ J;refine go ?_;apply aR;obtain⟨jM,iV,jD,jU,J⟩:=cB J;refine go ?_;refine aW iV ?_;refine go ?_;refine aK rfl (pC (qh0 n jM p2 jD jU) _) I6 ?_;refine gr ?_;refine fK (fun tm X=>∃uM,Pk z8 (MT p1 p2 n m1) uM=some r/\tm=fr 43 [(0,.iM bJ p1),(1,.str p2),(6,.iM cS uM),(7,.i6 z8)]/\X=⟨[],0⟩) ?_ ?_;rintro _ _ ⟨uM,J,rfl,rfl⟩;unfold Pk at J;refine go ?_;exact lC ⟨uM,(IntKind.i64.wrap (z8+1)),J,rfl,rfl⟩;refine cF J ?_ ?_<;>intro rZ J;obtain⟨pK,zE,Ye,HQ,J⟩:=cB J;refine go ?_;refine aW zE ?_;refine go ?_;refine aK rfl (pC (Ga n l7 pK.Name Ye HQ) _) qL ?_;refine go ?_;exact xC ⟨Ye,J,rfl,rfl⟩;refine go ?_;exact xC ⟨l7,J,rfl,rfl⟩;refine go ?_;exact xC ⟨l7,J,rfl,rfl⟩
def xk(eS:Int)(nP:Int->I (Int)): I (Int):=
 nP (IntKind.i64.wrap (eS+1))
def XE(p1:Z bC)(n:Nat)(r2:(Z dC)×Int)(r5:(Z (Z O8)))(eS:Int)(nP:Int->I (Int)):Nat->Int->I (Int)
 |0,_=>none|m3+1,iI=>
  cond (decide (iI<(r5.length:Int))) (a8 (aC r5 iI) fun uU=>
   a8 (Hc n p1 r2.1 eS uU) fun Yd=>
   a8 (cond Yd.2 (some ((Yd.1.length:Int)==0)) (some false)) fun b34=>cond b34 (some 11) ((XE p1 n r2 r5 eS nP m3) (IntKind.i64.wrap (iI+1)))) (xk eS nP)
def xl: I (Int):=
 some 0
def KA(p1:Z bC)(n:Nat)(r2:(Z dC)×Int)(r5:(Z (Z O8))):Nat->Int->I (Int)
 |0,_=>none|m2+1,eS=>cond (decide (eS<(r2.1.length:Int))) (XE p1 n r2 r5 eS (KA p1 n r2 r5 m2) n 0) (xl)
def xm(p1:Z bC)(n:Nat)(r2:(Z dC)×Int)(r5:(Z (Z O8))): I (Int):=
 KA p1 n r2 r5 n 0
def v04(p1:Z bC)(n:Nat)(r2:(Z dC)×Int)(r5:(Z (Z O8))):Nat->Int->I (Int)
 |0,_=>none|m1+1,fL=>cond (decide (fL<(r5.length:Int))) (a8 (aC r5 fL) fun J2=>a8 (Oj n p1 J2) fun W0=>cond (!W0.2) (some 10) ((v04 p1 n r2 r5 m1) (IntKind.i64.wrap (fL+1)))) (xm p1 n r2 r5)
def QN(n:Nat)(p1:Z bC):I (Int):=
 a8 (MK n p1) fun r2=>cond (r2.2 != 0) (some r2.2) (a8 (X3 n p1) fun r5=>cond (decide ((r5.length:Int)>64)) (some 7) (a8 (Qd n p1) fun r8=>cond (r8 != 0) (some r8) (v04 p1 n r2 r5 n 0)))
theorem qgy(n:Nat)(p1:Z bC)(r:Int)(J:QN n p1=some r):dJ prog 86 [.isl false (p1.map bJ)] (.int .i64 r):=by unfold QN at J;refine kR 78 Bh ?_;obtain⟨r2,h3,J⟩:=aL J;refine go ?_;refine aK rfl (pC (wo n p1 r2 h3) _) HS ?_;refine gF J ?_ ?_<;>intro h4 J;exact gx J;obtain⟨r5,h6,J⟩:=aL J;refine go ?_;refine aK rfl (pC (oe n p1 r5 h6) _) OD ?_;refine gF J ?_ ?_<;>intro h7 J;exact gx J;obtain⟨r8,h9,J⟩:=aL J;refine go ?_;refine aK rfl (pC (qeu n p1 r8 h9) _) TD ?_;refine gF J ?_ ?_<;>intro iR J;exact gx J;refine go ?_;refine gL (fun m tm X=>∃fL,v04 p1 n r2 r5 m fL=some r/\tm=fr 78 [(0,.iM bJ p1),(3,.iM eP r2.1),(5,.iM cS r5),(7,.i6 fL)]/\X=⟨[],0⟩) (fun tm X=>xm p1 n r2 r5=some r/\tm=fr 78 [(0,.iM bJ p1),(3,.iM eP r2.1),(5,.iM cS r5)]/\X=⟨[],0⟩) n ⟨0,J,rfl,rfl⟩ ?_ ?_;rintro _ _ ⟨J,rfl,rfl⟩;unfold xm at J;refine go ?_;refine gL (fun m tm X=>∃eS,KA p1 n r2 r5 m eS=some r/\tm=fr 78 [(0,.iM bJ p1),(3,.iM eP r2.1),(5,.iM cS r5),(10,.i6 eS)]/\X=⟨[],0⟩) (fun tm X=>xl=some r/\tm=fr 78 []/\X=⟨[],0⟩) n ⟨0,J,rfl,rfl⟩ ?_ ?_;rintro _ _ ⟨J,rfl,rfl⟩;unfold xl at J;exact gx J;rintro(_|m2) _ _ ⟨eS,J,rfl,rfl⟩;cases J;unfold KA at J;refine gF J ?_ ?_<;>intro tY J;refine go ?_;apply aR;refine go ?_;refine gL (fun m tm X=>∃iI,XE p1 n r2 r5 eS (KA p1 n r2 r5 m2) m iI=some r/\tm=fr 78 [(0,.iM bJ p1),(3,.iM eP r2.1),(5,.iM cS r5),(10,.i6 eS),(11,.i6 iI)]/\X=⟨[],0⟩) (fun tm X=>xk eS (KA p1 n r2 r5 m2)=some r/\tm=fr 78 [(0,.iM bJ p1),(3,.iM eP r2.1),(5,.iM cS r5),(10,.i6 eS)]/\X=⟨[],0⟩) n ⟨0,J,rfl,rfl⟩ ?_ ?_;rintro _ _ ⟨J,rfl,rfl⟩;unfold xk at J;refine go ?_;exact lC ⟨_,J,rfl,rfl⟩;rintro(_|m3) _ _ ⟨iI,J,rfl,rfl⟩;cases J;unfold XE at J;refine gF J ?_ ?_<;>intro BA J;refine go ?_;apply aR;obtain⟨uU,xS,Yd,oH,J⟩:=cB J;refine go ?_;refine aW xS ?_;refine go ?_;refine aK rfl (pC (qc4 n p1 r2.1 eS uU Yd oH) _) Bg ?_;obtain⟨b34,sW,J⟩:=aL J;refine gn ?_;refine fK (fun tm X=>tm=fr 78 [(0,.iM bJ p1),(3,.iM eP r2.1),(5,.iM cS r5),(10,.i6 eS),(11,.i6 iI),(77,.bool b34)]/\X=⟨[],0⟩) ?_ ?_;rintro _ _ ⟨rfl,rfl⟩;refine gF J ?_ ?_<;>intro B4 J;exact gx J;refine go ?_;exact lC ⟨_,J,rfl,rfl⟩;refine go ?_;rcases gB sW with⟨B9,sW⟩|⟨B9,sW⟩;exact gy sW;exact gy sW;refine go ?_;exact xC ⟨J,rfl,rfl⟩;refine go ?_;exact xC ⟨J,rfl,rfl⟩;rintro(_|m1) _ _ ⟨fL,J,rfl,rfl⟩;cases J;unfold v04 at J;refine gF J ?_ ?_<;>intro KX J;refine go ?_;apply aR;obtain⟨J2,B3,W0,Ih,J⟩:=cB J;refine go ?_;refine aW B3 ?_;refine go ?_;refine aK rfl (pC (qgz n p1 J2 W0 Ih) _) Be ?_;refine gF J ?_ ?_<;>intro HO J;exact gx J;refine go ?_;exact lC ⟨_,J,rfl,rfl⟩;refine go ?_;exact xC ⟨J,rfl,rfl⟩
def wm: I (Int):=
 some (-1)
def X9(p1:Z dC)(n:Nat)(r3:(Z Int)):Nat->Int->I (Int)
 |0,_=>none|m1+1,z8=>cond (decide (z8<(p1.length:Int))) (a8 (aC p1 z8) fun mH=>a8 (QL n mH.Code r3) fun iJ=>cond iJ (some z8) ((X9 p1 n r3 m1) (IntKind.i64.wrap (z8+1)))) (wm)
def Ob(n:Nat)(p1:Z dC)(p2:Z Int):I (Int):=
 a8 (K4 n p2) fun r3=>
 X9 p1 n r3 n 0
theorem qqg(n:Nat)(p1:Z dC)(p2:Z Int)(r:Int)(J:Ob n p1 p2=some r):dJ prog 89 [.isl false (p1.map eP),.isl false (p2.map (cI .u64))] (.int .i64 r):=by unfold Ob at J;refine eO 23 Vg ?_;obtain⟨r3,h4,J⟩:=aL J;refine go ?_;refine aK rfl (pC (jf n p2 r3 h4) _) wD ?_;refine go ?_;refine gL (fun m tm X=>∃z8,X9 p1 n r3 m z8=some r/\tm=fr 23 [(0,.iM eP p1),(5,.iM (cI .u64) r3),(6,.i6 z8)]/\X=⟨[],0⟩) (fun tm X=>wm=some r/\tm=fr 23 []/\X=⟨[],0⟩) n ⟨0,J,rfl,rfl⟩ ?_ ?_;rintro _ _ ⟨J,rfl,rfl⟩;unfold wm at J;exact gx J;rintro(_|m1) _ _ ⟨z8,J,rfl,rfl⟩;cases J;unfold X9 at J;refine gF J ?_ ?_<;>intro h9 J;refine go ?_;apply aR;obtain⟨mH,mF,iJ,eH,J⟩:=cB J;refine go ?_;refine aW mF ?_;refine go ?_;refine aK rfl (pC (qim n mH.Code r3 iJ eH) _) I4 ?_;refine gF J ?_ ?_<;>intro iW J;exact gx J;refine go ?_;exact lC ⟨_,J,rfl,rfl⟩;refine go ?_;exact xC ⟨J,rfl,rfl⟩
def Ps(A3:Int)(nP:Int->(Z lE)->I ((Z (Z lE))×Int))(YJ:Z lE):I ((Z (Z lE))×Int):=
 nP (IntKind.i64.wrap (A3+1)) YJ
def jk(fL:Int)(eV:Z (Z lE))(cM:Int->(Z (Z lE))->I ((Z (Z lE))×Int))(NB:Z lE):I ((Z (Z lE))×Int):=
 aG ((eV.length+1)*24<=140737488355328/\eV.length+1<=140737488355328) (
 cM (IntKind.i64.wrap (fL+1)) (eV++[NB]))
def MZ(p1:Z bC)(n:Nat)(r5:(Z dC)×Int)(r7:(Z (Z O8)))(fL:Int)(eV:Z (Z lE))(cM:Int->(Z (Z lE))->I ((Z (Z lE))×Int)):Nat->Int->(Z lE)->I ((Z (Z lE))×Int)
 |0,_,_=>none|m2+1,A3,rO=>
  cond (decide (A3<(r7.length:Int))) (a8 (aC r7 A3) fun kD=>
   a8 (Hc n p1 r5.1 fL kD) fun Kr=>cond Kr.2 (a8 (Ob n r5.1 Kr.1) fun Yc=>
    aG ((rO.length+1)*16<=140737488355328/\rO.length+1<=140737488355328) (
    Ps A3 (MZ p1 n r5 r7 fL eV cM m2) (rO++[(lE.mk A3 Yc)]))) (Ps A3 (MZ p1 n r5 r7 fL eV cM m2) rO)) (jk fL eV cM rO)
def jm  (pW:Z (Z lE)):I ((Z (Z lE))×Int):=
 some (pW,0)
def G5(p1:Z bC)(n:Nat)(r5:(Z dC)×Int)(r7:(Z (Z O8))):Nat->Int->(Z (Z lE))->I ((Z (Z lE))×Int)
 |0,_,_=>none|m1+1,fL,eV=>cond (decide (fL<(r5.1.length:Int))) (MZ p1 n r5 r7 fL eV (G5 p1 n r5 r7 m1) n 0 ([]:Z lE)) (jm eV)
def Gj(n:Nat)(p1:Z bC):I ((Z (Z lE))×Int):=
 a8 (QN n p1) fun r2=>cond (r2 != 0) (some ([],r2)) (a8 (MK n p1) fun r5=>
  a8 (X3 n p1) fun r7=>
  G5 p1 n r5 r7 n 0 ([]:Z (Z lE)))
theorem qln(n:Nat)(p1:Z bC)(r:(Z (Z lE))×Int)(J:Gj n p1=some r):dJ prog 57 [.isl false (p1.map bJ)] (.tup [.isl false (r.1.map (cL qW)),.int .i64 r.2]):=by unfold Gj at J;refine kR 63 Vs ?_;obtain⟨r2,h3,J⟩:=aL J;refine go ?_;refine aK rfl (pC (qgy n p1 r2 h3) _) Bh ?_;refine gF J ?_ ?_<;>intro h4 J;refine go ?_;obtain rfl:=sI J;exact rT (us:=[.nils,.i6 r2]) (u:=.tup [.isl false [],.i6 r2]) (fH rfl (fH rfl (fW))) wR;obtain⟨r5,h6,J⟩:=aL J;refine go ?_;refine aK rfl (pC (wo n p1 r5 h6) _) HS ?_;obtain⟨r7,h8,J⟩:=aL J;refine go ?_;refine aK rfl (pC (oe n p1 r7 h8) _) OD ?_;refine gr ?_;refine gr ?_;refine gV 8 145 1 1 ?_;refine gL (fun m tm X=>∃fL eV oJ,G5 p1 n r5 r7 m fL eV=some r/\tm=fr 63 [(0,.iM bJ p1),(5,.iM eP r5.1),(7,.iM cS r7),(8,.vl 0 oJ 0 eV.length),(9,.i6 fL)]/\X=⟨[(0,.bv (cL qW) eV 145 1 oJ)],1⟩) (fun tm X=>∃pW LI,jm pW=some r/\tm=fr 63 [(8,.vl 0 LI 0 pW.length)]/\X=⟨[(0,.bv (cL qW) pW 145 1 LI)],1⟩) n ⟨0,([]:Z (Z lE)),0,J,rfl,rfl⟩ ?_ ?_;rintro _ _ ⟨pW,LI,J,rfl,rfl⟩;unfold jm at J;refine go ?_;obtain rfl:=sI J;exact rT (us:=[.vl 0 LI 0 pW.length,.i6 0]) (u:=.tup [.iM (cL qW) pW,.i6 0]) (fH rfl (fH rfl (fW))) (fR 0 1);rintro(_|m1) _ _ ⟨fL,eV,oJ,J,rfl,rfl⟩;cases J;unfold G5 at J;refine gF J ?_ ?_<;>intro rZ J;refine go ?_;apply aR;refine gr ?_;refine gr ?_;refine gV 10 186 2 2 ?_;refine gL (fun m tm X=>∃A3 rO F7,MZ p1 n r5 r7 fL eV (G5 p1 n r5 r7 m1) m A3 rO=some r/\tm=fr 63 [(0,.iM bJ p1),(5,.iM eP r5.1),(7,.iM cS r7),(8,.vl 0 oJ 0 eV.length),(9,.i6 fL),(10,.vl 1 F7 0 rO.length),(11,.i6 A3)]/\X=⟨[(1,.bv qW rO 186 2 F7),(0,.bv (cL qW) eV 145 1 oJ)],2⟩) (fun tm X=>∃NB Xz,jk fL eV (G5 p1 n r5 r7 m1) NB=some r/\tm=fr 63 [(0,.iM bJ p1),(5,.iM eP r5.1),(7,.iM cS r7),(8,.vl 0 oJ 0 eV.length),(9,.i6 fL),(10,.vl 1 Xz 0 NB.length)]/\X=⟨[(1,.bv qW NB 186 2 Xz),(0,.bv (cL qW) eV 145 1 oJ)],2⟩) n ⟨0,([]:Z lE),0,J,rfl,rfl⟩ ?_ ?_;rintro _ _ ⟨NB,Xz,J,rfl,rfl⟩;unfold jk at J;refine gn ?_;refine dY (tm':=fr 63 [(0,.iM bJ p1),(5,.iM eP r5.1),(7,.iM cS r7),(8,.vl 0 oJ 0 eV.length),(9,.i6 fL),(10,.iM qW NB)]) (X':=⟨[(0,.bv (cL qW) eV 145 1 oJ)],2⟩) (Gh.trans (Gh.sub (l':=[(0,.iM bJ p1),(5,.iM eP r5.1),(7,.iM cS r7),(8,.vl 0 oJ 0 eV.length),(9,.i6 fL),(10,.vl 1 Xz 0 NB.length)]) ⟨rfl,rfl,rfl,rfl,rfl,rfl,trivial⟩) (U4 1 2)) NZ ?_;obtain⟨sW,J⟩:=cQ J;refine go ?_;refine cP ?_;refine cP ?_;refine go ?_;exact lC ⟨_,(eV++[NB]),(oJ+1),J,rfl,rfl⟩;rintro(_|m2) _ _ ⟨A3,rO,F7,J,rfl,rfl⟩;cases J;unfold MZ at J;refine gF J ?_ ?_<;>intro B4 J;refine go ?_;apply aR;obtain⟨kD,mD,Kr,HP,J⟩:=cB J;refine go ?_;refine aW mD ?_;refine go ?_;refine aK rfl (pC (qc4 n p1 r5.1 fL kD Kr HP) _) Bg ?_;refine gr ?_;refine fK (fun tm X=>∃YJ Df,Ps A3 (MZ p1 n r5 r7 fL eV (G5 p1 n r5 r7 m1) m2) YJ=some r/\tm=fr 63 [(0,.iM bJ p1),(5,.iM eP r5.1),(7,.iM cS r7),(8,.vl 0 oJ 0 eV.length),(9,.i6 fL),(10,.vl 1 Df 0 YJ.length),(11,.i6 A3)]/\X=⟨[(1,.bv qW YJ 186 2 Df),(0,.bv (cL qW) eV 145 1 oJ)],2⟩) ?_ ?_;rintro _ _ ⟨YJ,Df,J,rfl,rfl⟩;unfold Ps at J;refine go ?_;exact lC ⟨_,YJ,Df,J,rfl,rfl⟩;refine cF J ?_ ?_<;>intro Ih J;obtain⟨Yc,sV,J⟩:=aL J;obtain⟨h46,J⟩:=cQ J;refine go ?_;refine aK rfl (pC (qqg n r5.1 Kr.1 Yc sV) _) Vg ?_;refine go ?_;refine cP ?_;refine cP ?_;refine go ?_;exact xC ⟨(rO++[(lE.mk A3 Yc)]),(F7+1),J,rfl,rfl⟩;refine go ?_;exact xC ⟨rO,F7,J,rfl,rfl⟩;refine go ?_;exact xC ⟨rO,F7,J,rfl,rfl⟩;refine go ?_;exact xC ⟨eV,oJ,J,rfl,rfl⟩
def Pw(z8:Int)(cM:Int->(Z Int)->I ((Z Int)))(rO:Z Int):I ((Z Int)):=
 cM (IntKind.i64.wrap (z8+1)) rO
def jn(z8:Int)(l9:Z Int)(cM:Int->(Z Int)->I ((Z Int)))(Wu:BQ):I ((Z Int)):=
 cond Wu (aG ((l9.length+1)*8<=140737488355328/\l9.length+1<=140737488355328) (
  Pw z8 cM (l9++[z8]))) (Pw z8 cM l9)
def QV(p1:Z dC)(p2:Int)(n:Nat)(z8:Int)(l9:Z Int)(cM:Int->(Z Int)->I ((Z Int))):Nat->BQ->Int->I ((Z Int))
 |0,_,_=>none|m2+1,Cr,A4=>cond (decide (A4<(p1.length:Int))) (a8 (cond Cr (cond (A4==p2) (some true) (cond (A4==z8) (some true) (a8 (QR n p1 z8 A4) fun PM=>cond (!PM) (some true) (a8 (QR n p1 A4 p2) fun JD=>some (!JD))))) (some false)) fun TT=>(QV p1 p2 n z8 l9 cM m2) TT (IntKind.i64.wrap (A4+1))) (jn z8 l9 cM Cr)
def jo  (cZ:Z Int):I ((Z Int)):=
 some cZ
def C8(p1:Z dC)(p2:Int)(n:Nat):Nat->Int->(Z Int)->I ((Z Int))
 |0,_,_=>none|m1+1,z8,l9=>cond (decide (z8<(p1.length:Int))) (a8 (cond (z8==p2) (some true) (a8 (QR n p1 z8 p2) fun tF=>some (!tF))) fun wH=>cond wH ((C8 p1 p2 n m1) (IntKind.i64.wrap (z8+1)) l9) (QV p1 p2 n z8 l9 (C8 p1 p2 n m1) n true 0)) (jo l9)
def zr(n:Nat)(p1:Z dC)(p2:Int):I ((Z Int)):=
 C8 p1 p2 n n 0 ([]:Z Int)
theorem qlk(n:Nat)(p1:Z dC)(p2:Int)(r:(Z Int))(J:zr n p1 p2=some r):dJ prog 59 [.isl false (p1.map eP),.int .i64 p2] (.isl false (r.map (cI .i64))):=by
 unfold zr at J;refine eO 62 Vr ?_;refine gr ?_;refine gr ?_;refine gr ?_;refine gV 5 3 1 1 ?_;refine gL (fun m tm X=>∃z8 l9 fC,C8 p1 p2 n m z8 l9=some r/\tm=fr 62 [(0,.iM eP p1),(1,.i6 p2),(5,.vl 0 fC 0 l9.length),(6,.i6 z8)]/\X=⟨C4 l9 fC,1⟩) (fun tm X=>∃cZ j9,jo cZ=some r/\tm=fr 62 [(5,.vl 0 j9 0 cZ.length)]/\X=⟨C4 cZ j9,1⟩) n ⟨0,([]:Z Int),0,J,rfl,rfl⟩ ?_ ?_;rintro _ _ ⟨cZ,j9,J,rfl,rfl⟩;unfold jo at J;refine go ?_;obtain rfl:=sI J;exact rT (us:=[.vl 0 j9 0 cZ.length]) (u:=.iM (cI .i64) cZ) (fH rfl (fW)) (fR 0 1);rintro(_|m1) _ _ ⟨z8,l9,fC,J,rfl,rfl⟩;cases J;unfold C8 at J;refine gF J ?_ ?_<;>intro eH J;refine go ?_;apply aR;obtain⟨wH,dU,J⟩:=aL J;refine gn ?_;refine fK (fun tm X=>tm=fr 62 [(0,.iM eP p1),(1,.i6 p2),(5,.vl 0 fC 0 l9.length),(6,.i6 z8),(24,.bool wH)]/\X=⟨C4 l9 fC,1⟩) ?_ ?_;rintro _ _ ⟨rfl,rfl⟩;refine gF J ?_ ?_<;>intro jU J;refine go ?_;exact lC ⟨_,l9,fC,J,rfl,rfl⟩;refine go ?_;refine gL (fun m tm X=>∃Cr A4,QV p1 p2 n z8 l9 (C8 p1 p2 n m1) m Cr A4=some r/\tm=fr 62 [(0,.iM eP p1),(1,.i6 p2),(5,.vl 0 fC 0 l9.length),(6,.i6 z8),(7,.bool Cr),(8,.i6 A4)]/\X=⟨C4 l9 fC,1⟩) (fun tm X=>∃Wu,jn z8 l9 (C8 p1 p2 n m1) Wu=some r/\tm=fr 62 [(0,.iM eP p1),(1,.i6 p2),(5,.vl 0 fC 0 l9.length),(6,.i6 z8),(7,.bool Wu)]/\X=⟨C4 l9 fC,1⟩) n ⟨true,0,J,rfl,rfl⟩ ?_ ?_;rintro _ _ ⟨Wu,J,rfl,rfl⟩;unfold jn at J;refine gr ?_;refine fK (fun tm X=>∃rO F7,Pw z8 (C8 p1 p2 n m1) rO=some r/\tm=fr 62 [(0,.iM eP p1),(1,.i6 p2),(5,.vl 0 F7 0 rO.length),(6,.i6 z8)]/\X=⟨C4 rO F7,1⟩) ?_ ?_;rintro _ _ ⟨rO,F7,J,rfl,rfl⟩;unfold Pw at J;refine go ?_;exact lC ⟨_,rO,F7,J,rfl,rfl⟩;refine cF J ?_ ?_<;>intro xS J;obtain⟨B9,J⟩:=cQ J;refine go ?_;refine cP ?_;refine cP ?_;refine go ?_;exact xC ⟨(l9++[z8]),(fC+1),J,rfl,rfl⟩;refine go ?_;exact xC ⟨l9,fC,J,rfl,rfl⟩;rintro(_|m2) _ _ ⟨Cr,A4,J,rfl,rfl⟩;cases J;unfold QV at J;refine gF J ?_ ?_<;>intro nB J;refine go ?_;apply aR;obtain⟨TT,mC,J⟩:=aL J;refine gn ?_;refine fK (fun tm X=>tm=fr 62 [(0,.iM eP p1),(1,.i6 p2),(5,.vl 0 fC 0 l9.length),(6,.i6 z8),(7,.bool TT),(8,.i6 A4)]/\X=⟨C4 l9 fC,1⟩) ?_ ?_;rintro _ _ ⟨rfl,rfl⟩;refine go ?_;exact lC ⟨TT,(IntKind.i64.wrap (A4+1)),J,rfl,rfl⟩;refine go ?_;rcases gB mC with⟨sW,mC⟩|⟨sW,mC⟩;refine go ?_;rcases gB mC with⟨B4,mC⟩|⟨B4,mC⟩;exact gy mC;refine go ?_;rcases gB mC with⟨KX,mC⟩|⟨KX,mC⟩;exact gy mC;obtain⟨PM,B3,mC⟩:=aL mC;refine go ?_;refine aK rfl (pC (jx n p1 z8 A4 PM B3) _) HR ?_;refine go ?_;rcases gB mC with⟨HP,mC⟩|⟨HP,mC⟩;exact gy mC;obtain⟨JD,HO,mC⟩:=aL mC;obtain rfl:=sI mC;refine go ?_;refine aK rfl (pC (jx n p1 A4 p2 JD HO) _) HR ?_;refine go ?_;exact xC ⟨rfl,rfl⟩;obtain rfl:=sI mC;refine go ?_
 repeat refine RS.no (JF rfl rfl rfl) rfl rfl ?_
 refine go ?_
 repeat refine RS.no (JF rfl rfl rfl) rfl rfl ?_
 refine go ?_
 repeat refine RS.no (JF rfl rfl rfl) rfl rfl ?_
 refine go ?_;exact xC ⟨rfl,rfl⟩;refine go ?_;exact xC ⟨Cr,J,rfl,rfl⟩;refine go ?_;rcases gB dU with⟨iW,dU⟩|⟨iW,dU⟩;exact gy dU;obtain⟨tF,zP,dU⟩:=aL dU;obtain rfl:=sI dU;refine go ?_;refine aK rfl (pC (jx n p1 z8 p2 tF zP) _) HR ?_;refine go ?_;exact xC ⟨rfl,rfl⟩;refine go ?_;exact xC ⟨l9,fC,J,rfl,rfl⟩
def kc  (pW:Z tL):I ((Z tL)×Int):=
 some (pW,0)
def XR(p1:Z bC)(n:Nat)(r5:(Z dC)×Int)(r7:(Z (Z O8))):Nat->Int->(Z tL)->I ((Z tL)×Int)
 |0,_,_=>none|m1+1,fL,eV=>
  cond (decide (fL<(r7.length:Int))) (a8 (aC r7 fL) fun uW=>
   a8 (Oj n p1 uW) fun uZ=>
   a8 (aC r7 fL) fun J3=>
   a8 (Gi n r5.1 uZ.1) fun LK=>
   aG ((eV.length+1)*24<=140737488355328/\eV.length+1<=140737488355328) ((XR p1 n r5 r7 m1) (IntKind.i64.wrap (fL+1)) (eV++[(tL.mk J3 LK)]))) (kc eV)
def Pl(n:Nat)(p1:Z bC):I ((Z tL)×Int):=
 a8 (QN n p1) fun r2=>cond (r2 != 0) (some ([],r2)) (a8 (MK n p1) fun r5=>
  a8 (X3 n p1) fun r7=>
  XR p1 n r5 r7 n 0 ([]:Z tL))
theorem qix(n:Nat)(p1:Z bC)(r:(Z tL)×Int)(J:Pl n p1=some r):dJ prog 60 [.isl false (p1.map bJ)] (.tup [.isl false (r.1.map pA),.int .i64 r.2]):=by unfold Pl at J;refine kR 51 Vq ?_;obtain⟨r2,h3,J⟩:=aL J;refine go ?_;refine aK rfl (pC (qgy n p1 r2 h3) _) Bh ?_;refine gF J ?_ ?_<;>intro h4 J;refine go ?_;obtain rfl:=sI J;exact rT (us:=[.nils,.i6 r2]) (u:=.tup [.isl false [],.i6 r2]) (fH rfl (fH rfl (fW))) wR;obtain⟨r5,h6,J⟩:=aL J;refine go ?_;refine aK rfl (pC (wo n p1 r5 h6) _) HS ?_;obtain⟨r7,h8,J⟩:=aL J;refine go ?_;refine aK rfl (pC (oe n p1 r7 h8) _) OD ?_;refine gr ?_;refine gr ?_;refine gV 8 197 2 1 ?_;refine gL (fun m tm X=>∃fL eV oJ,XR p1 n r5 r7 m fL eV=some r/\tm=fr 51 [(0,.iM bJ p1),(5,.iM eP r5.1),(7,.iM cS r7),(8,.vl 0 oJ 0 eV.length),(9,.i6 fL)]/\X=⟨[(0,.bv pA eV 197 2 oJ)],1⟩) (fun tm X=>∃pW LI,kc pW=some r/\tm=fr 51 [(8,.vl 0 LI 0 pW.length)]/\X=⟨[(0,.bv pA pW 197 2 LI)],1⟩) n ⟨0,([]:Z tL),0,J,rfl,rfl⟩ ?_ ?_;rintro _ _ ⟨pW,LI,J,rfl,rfl⟩;unfold kc at J;refine go ?_;obtain rfl:=sI J;exact rT (us:=[.vl 0 LI 0 pW.length,.i6 0]) (u:=.tup [.iM pA pW,.i6 0]) (fH rfl (fH rfl (fW))) (fR 0 2);rintro(_|m1) _ _ ⟨fL,eV,oJ,J,rfl,rfl⟩;cases J;unfold XR at J;refine gF J ?_ ?_<;>intro rZ J;refine go ?_;apply aR;obtain⟨uW,tX,uZ,pH,J⟩:=cB J;refine go ?_;refine aW tX ?_;refine go ?_;refine aK rfl (pC (qgz n p1 uW uZ pH) _) Be ?_;obtain⟨J3,nZ,LK,BA,J⟩:=cB J;obtain⟨sX,J⟩:=cQ J;refine go ?_;refine dE [(0,9)] ?_;refine gd ?_;refine cY nZ ?_;refine gd ?_;refine dV rfl (pC (oi n r5.1 uZ.1 LK BA)) OC ?_;refine gd ?_;refine fO ?_;refine fO ?_;refine gd ?_;refine bN ⟨by kernel_rfl,⟨mW rfl,trivial⟩,?_⟩;refine go ?_;exact lC ⟨_,(eV++[(tL.mk J3 LK)]),(oJ+1),J,rfl,rfl⟩;refine go ?_;exact xC ⟨eV,oJ,J,rfl,rfl⟩
def jw(p1:Z bC)(n:Nat)(eV:Z mV):I (eD×Int):=
 a8 (Pl n p1) fun jD=>some ((eD.mk eV jD.1),0)
def XP(p1:Z bC)(n:Nat)(r2:(Z (Z lE))×Int)(r5:(Z dC)×Int):Nat->Int->(Z mV)->I (eD×Int)
 |0,_,_=>none|m1+1,EU,hJ=>
  cond (decide (EU<(r5.1.length:Int))) (a8 (aC r5.1 EU) fun uW=>
   a8 (aC r5.1 EU) fun xZ=>
   a8 (zr n r5.1 EU) fun o5=>
   a8 (aC r2.1 EU) fun DL=>
   aG ((hJ.length+1)*88<=140737488355328/\hJ.length+1<=140737488355328) ((XP p1 n r2 r5 m1) (IntKind.i64.wrap (EU+1)) (hJ++[(mV.mk uW.Name xZ.Code o5 DL)]))) (jw p1 n hJ)
def MN(n:Nat)(p1:Z bC):I (eD×Int):=
 a8 (Gj n p1) fun r2=>cond (r2.2 != 0) (some ((eD.mk [] []),r2.2)) (a8 (MK n p1) fun r5=>XP p1 n r2 r5 n 0 ([]:Z mV))
theorem om(n:Nat)(p1:Z bC)(r:eD×Int)(J:MN n p1=some r):dJ prog 32 [.isl false (p1.map bJ)] (.tup [.agg (m5 r.1),.int .i64 r.2]):=by unfold MN at J;refine kR 63 OG ?_;obtain⟨r2,h3,J⟩:=aL J;refine go ?_;refine aK rfl (pC (qln n p1 r2 h3) _) Vs ?_;refine gF J ?_ ?_<;>intro h4 J;refine go ?_;obtain rfl:=sI J;exact rT (us:=[.agg [.nils,.nils],.i6 r2.2]) (u:=.tup [.agg [.isl false [],.isl false []],.i6 r2.2]) (wS (vD tD.h rfl (bZ CK.h) rfl rfl rfl) (fH rfl (fW))) wR;obtain⟨r5,h6,J⟩:=aL J;refine go ?_;refine aK rfl (pC (wo n p1 r5 h6) _) HS ?_;refine gr ?_;refine gr ?_;refine dY (tm':=fr 63 [(0,.iM bJ p1),(2,.ptr 0 0 0),(4,.iM (cL qW) r2.1),(6,.iM eP r5.1),(8,.ptr 1 0 0),(9,.i6 0)]) (X':=⟨[(2,.bv m4 ([]:Z mV) 147 4 0),(1,.row [.vl 2 0 0 (([]:Z mV).length),.nils] 27),(0,.row [.nils,.nils] 27)],3⟩) (Gh.trans (ES 1 0 147 4 (by decide) NZ rfl rfl) (L0 ⟨rfl,rfl,rfl,rfl,rfl,rfl,trivial⟩ rfl)) NZ ?_;refine gL (fun m tm X=>∃EU hJ JB,XP p1 n r2 r5 m EU hJ=some r/\tm=fr 63 [(0,.iM bJ p1),(2,.ptr 0 0 0),(4,.iM (cL qW) r2.1),(6,.iM eP r5.1),(8,.ptr 1 0 0),(9,.i6 EU)]/\X=⟨[(2,.bv m4 hJ 147 4 JB),(1,.row [.vl 2 JB 0 hJ.length,.nils] 27),(0,.row [.nils,.nils] 27)],3⟩) (fun tm X=>∃eV oJ,jw p1 n eV=some r/\tm=fr 63 [(0,.iM bJ p1),(2,.ptr 0 0 0),(8,.ptr 1 0 0)]/\X=⟨[(2,.bv m4 eV 147 4 oJ),(1,.row [.vl 2 oJ 0 eV.length,.nils] 27),(0,.row [.nils,.nils] 27)],3⟩) n ⟨0,([]:Z mV),0,J,rfl,rfl⟩ ?_ ?_;rintro _ _ ⟨eV,oJ,J,rfl,rfl⟩;unfold jw at J;obtain⟨jD,jU,J⟩:=aL J;refine go ?_;refine aK rfl (pC (qix n p1 jD jU) _) Vq ?_;refine go ?_;obtain rfl:=sI J;exact rT (us:=[.agg [.vl 2 oJ 0 eV.length,.iM pA jD.1],.i6 0]) (u:=.tup [.agg [.iM m4 eV,.iM pA jD.1],.i6 0]) (wS (vD tD.h rfl (bZ CK.h) rfl rfl rfl) (fH rfl (fW))) (fR 2 4);rintro(_|m1) _ _ ⟨EU,hJ,JB,J,rfl,rfl⟩;cases J;unfold XP at J;refine gF J ?_ ?_<;>intro rZ J;refine go ?_;apply aR;obtain⟨uW,tX,xZ,pH,o5,nZ,DL,BA,J⟩:=C1 J;obtain⟨sX,J⟩:=cQ J;refine go ?_;refine dE [(0,20),(1,20)] ?_;refine gd ?_;refine cY tX ?_;refine gd ?_;refine cY pH ?_;refine gd ?_;refine dV rfl (pC (qlk n r5.1 EU o5 nZ)) Vr ?_;refine gd ?_;refine cY BA ?_;refine gd ?_;refine fO ?_;refine fO ?_;refine gd ?_;refine wO ?_;refine bN ⟨by kernel_rfl,⟨y9 tD.h rfl (bZ Z7.h) rfl rfl rfl,⟨LS EZ.h rfl rfl rfl rfl,trivial⟩⟩,?_⟩;refine go ?_;exact lC ⟨_,(hJ++[(mV.mk uW.Name xZ.Code o5 DL)]),(JB+1),J,rfl,rfl⟩;refine go ?_;exact xC ⟨hJ,JB,J,rfl,rfl⟩
def zn(n:Nat): I (eD):=
 a8 (MN n ([(bC.mk ([116,111,112]) [] ([(nK.mk ([70]) ([116,111,112])),(nK.mk ([71]) ([116,111,112]))])),(bC.mk ([120]) ([[116,111,112]]) []),(bC.mk ([121]) ([[116,111,112]]) [])])) fun r1=>some (eD.mk r1.1.Types r1.1.Feats)
theorem qnc(n:Nat)(r:eD)(J:zn n  = some r):dJ prog 34 [] (.agg (m5 r)):=by unfold zn at J;refine bg0 17 Vz ?_;obtain⟨r1,h2,J⟩:=aL J;refine go ?_;refine bT (u:=.sl 1 0 2 2) (X':=⟨qtr,2⟩) rfl (FW F2.h RZ.h rfl rfl rfl rfl rfl rfl rfl) ?_;refine go ?_;refine cP ?_;refine go ?_;refine cP ?_;refine go ?_;refine bT (u:=.sl 4 0 3 3) (X':=⟨(4,.row [.str ([116,111,112]),.nils,.sl 1 0 2 2,.str ([120]),.sl 2 0 1 1,.nils,.str ([121]),.sl 3 0 1 1,.nils] 153)::(3,.row [.str ([116,111,112])] 9)::(2,.row [.str ([116,111,112])] 9)::qtr,5⟩) rfl (FW Jr.h vK.h rfl rfl rfl rfl rfl rfl rfl) (RS.fc rfl (Gh.trans (rE 1 2) (Gh.trans (rE 2 1) (Gh.trans (rE 3 1) (Gh.trans (Gh.rowC 4) (rE 4 3))))) (pC (om n ([(bC.mk ([116,111,112]) [] ([(nK.mk ([70]) ([116,111,112])),(nK.mk ([71]) ([116,111,112]))])),(bC.mk ([120]) ([[116,111,112]]) []),(bC.mk ([121]) ([[116,111,112]]) [])]) r1 h2) _) OG ?_);refine go ?_;obtain rfl:=sI J;exact rT (wS (vD tD.h rfl (bZ CK.h) rfl rfl rfl) (fW)) (DJ _ rfl)
def nz(p1:Z O8)(p2:Z O8)(dT:Z nK):I (bC):=
 some (bC.mk p1 ([p2]) dT)
def wg(p1:Z O8)(p2:Z O8)(p3:Z (Z O8)):Nat->Int->(Z nK)->I (bC)
 |0,_,_=>none|m1+1,eZ,cV=>
  cond (decide ((IntKind.i64.wrap (eZ+1))<(p3.length:Int))) (a8 (aC p3 eZ) fun DM=>
   a8 (aC p3 (IntKind.i64.wrap (eZ+1))) fun A6=>
   aG ((cV.length+1)*32<=140737488355328/\cV.length+1<=140737488355328) ((wg p1 p2 p3 m1) (IntKind.i64.wrap (eZ+2)) (cV++[(nK.mk DM A6)]))) (nz p1 p2 cV)
def ny(p1:Z O8)(vJ:Z nK):I (bC):=
 some (bC.mk p1 [] vJ)
def we(p1:Z O8)(p3:Z (Z O8)):Nat->Int->(Z nK)->I (bC)
 |0,_,_=>none|m2+1,nO,sP=>
  cond (decide ((IntKind.i64.wrap (nO+1))<(p3.length:Int))) (a8 (aC p3 nO) fun si=>
   a8 (aC p3 (IntKind.i64.wrap (nO+1))) fun kD=>
   aG ((sP.length+1)*32<=140737488355328/\sP.length+1<=140737488355328) ((we p1 p3 m2) (IntKind.i64.wrap (nO+2)) (sP++[(nK.mk si kD)]))) (ny p1 sP)
def yJ(n:Nat)(p1:Z O8)(p2:Z O8)(p3:Z (Z O8)):I (bC):=
 cond (!jZ p2 []) (wg p1 p2 p3 n 0 ([]:Z nK)) (we p1 p3 n 0 ([]:Z nK))
theorem C7(n:Nat)(p1:Z O8)(p2:Z O8)(p3:Z (Z O8))(r:bC)(J:yJ n p1 p2 p3=some r):dJ prog 61 [.str p1,.str p2,.isl false (p3.map cS)] (.agg (bJ r)):=by unfold yJ at J;refine TR 39 nC ?_;refine go ?_;refine bT (u:=.bool (!jZ p2 [])) rfl (E6 rfl rfl rfl rfl) ?_;refine gF J ?_ ?_<;>intro h4 J;refine go ?_;refine cP ?_;refine gr ?_;refine dY (tm':=fr 39 [(2,.iM cS p3),(6,.ptr 0 0 0),(7,.ptr 1 0 0),(8,.i6 0)]) (X':=⟨(3,.bv k9 ([]:Z nK) 156 2 0)::(2,.row [.str p2] 9)::(1,.row [.str p1,.sl 2 0 1 1,.vl 3 0 0 (([]:Z nK).length)] 153)::Fl,4⟩) (Gh.trans (ES 1 2 156 2 (by decide) NZ rfl rfl) (L0 ⟨rfl,rfl,rfl,rfl,trivial⟩ rfl)) NZ ?_;refine gL (fun m tm X=>∃eZ cV hZ,wg p1 p2 p3 m eZ cV=some r/\tm=fr 39 [(2,.iM cS p3),(6,.ptr 0 0 0),(7,.ptr 1 0 0),(8,.i6 eZ)]/\X=⟨(3,.bv k9 cV 156 2 hZ)::(2,.row [.str p2] 9)::(1,.row [.str p1,.sl 2 0 1 1,.vl 3 hZ 0 cV.length] 153)::Fl,4⟩) (fun tm X=>∃dT mI,nz p1 p2 dT=some r/\tm=fr 39 [(6,.ptr 0 0 0),(7,.ptr 1 0 0)]/\X=⟨(3,.bv k9 dT 156 2 mI)::(2,.row [.str p2] 9)::(1,.row [.str p1,.sl 2 0 1 1,.vl 3 mI 0 dT.length] 153)::Fl,4⟩) n ⟨0,([]:Z nK),0,J,rfl,rfl⟩ ?_ ?_;rintro _ _ ⟨dT,mI,J,rfl,rfl⟩;unfold nz at J;refine go ?_;obtain rfl:=sI J;exact⟨.inr rfl,[.agg [.str p1,.sl 2 0 1 1,.vl 3 mI 0 dT.length]],wS (vD uY.h rfl (bZ vK.h) rfl rfl rfl) (fW),.agg [.str p1,.iM cS ([p2]),.iM k9 dT],⟨[],0⟩,zF _,Gh.trans (rE 2 1) (Gh.trans (rE 3 2) (DJ (.agg [.str p1,.iM cS ([p2]),.iM k9 dT]) rfl)),rfl,BU.h⟩;rintro(_|m1) _ _ ⟨eZ,cV,hZ,J,rfl,rfl⟩;cases J;unfold wg at J;refine gF J ?_ ?_<;>intro iV J;refine go ?_;apply aR;obtain⟨DM,jU,A6,tY,J⟩:=cB J;obtain⟨tX,J⟩:=cQ J;refine go ?_;refine dE [(0,12),(1,12)] ?_;refine gd ?_;refine cY jU ?_;refine gd ?_;refine cY tY ?_;refine gd ?_;refine fO ?_;refine fO ?_;refine gd ?_;refine wO ?_;refine bN ⟨by kernel_rfl,⟨y9 uY.h rfl (bZ S0.h) rfl rfl rfl,⟨LS F2.h rfl rfl rfl rfl,trivial⟩⟩,?_⟩;refine go ?_;exact lC ⟨_,(cV++[(nK.mk DM A6)]),(hZ+1),J,rfl,rfl⟩;refine go ?_;exact xC ⟨cV,hZ,J,rfl,rfl⟩;refine gr ?_;refine dY (tm':=fr 39 [(2,.iM cS p3),(6,.ptr 0 0 0),(7,.ptr 1 0 0),(8,.i6 0)]) (X':=⟨(2,.bv k9 ([]:Z nK) 156 2 0)::(1,.row [.str p1,.nils,.vl 2 0 0 (([]:Z nK).length)] 153)::Fl,3⟩) (Gh.trans (ES 1 2 156 2 (by decide) NZ rfl rfl) (L0 ⟨rfl,rfl,rfl,rfl,trivial⟩ rfl)) NZ ?_;refine gL (fun m tm X=>∃nO sP J8,we p1 p3 m nO sP=some r/\tm=fr 39 [(2,.iM cS p3),(6,.ptr 0 0 0),(7,.ptr 1 0 0),(8,.i6 nO)]/\X=⟨(2,.bv k9 sP 156 2 J8)::(1,.row [.str p1,.nils,.vl 2 J8 0 sP.length] 153)::Fl,3⟩) (fun tm X=>∃vJ LH,ny p1 vJ=some r/\tm=fr 39 [(6,.ptr 0 0 0),(7,.ptr 1 0 0)]/\X=⟨(2,.bv k9 vJ 156 2 LH)::(1,.row [.str p1,.nils,.vl 2 LH 0 vJ.length] 153)::Fl,3⟩) n ⟨0,([]:Z nK),0,J,rfl,rfl⟩ ?_ ?_;rintro _ _ ⟨vJ,LH,J,rfl,rfl⟩;unfold ny at J;refine go ?_;obtain rfl:=sI J;exact⟨.inr rfl,[.agg [.str p1,.nils,.vl 2 LH 0 vJ.length]],wS (vD uY.h rfl (bZ vK.h) rfl rfl rfl) (fW),.agg [.str p1,.isl false [],.iM k9 vJ],⟨[],0⟩,zF _,Gh.trans (rE 2 2) (Gh.trans (Gh.wk (.cons (.agg (.cons (.refl _) (.cons (.nil false) (.cons (.refl _) .nil)))) .nil)) (DJ (.agg [.str p1,.isl false [],.iM k9 vJ]) rfl)),rfl,BU.h⟩;rintro(_|m2) _ _ ⟨nO,sP,J8,J,rfl,rfl⟩;cases J;unfold we at J;refine gF J ?_ ?_<;>intro nB J;refine go ?_;apply aR;obtain⟨si,B4,kD,mD,J⟩:=cB J;obtain⟨B3,J⟩:=cQ J;refine go ?_;refine dE [(0,12),(1,12)] ?_;refine gd ?_;refine cY B4 ?_;refine gd ?_;refine cY mD ?_;refine gd ?_;refine fO ?_;refine fO ?_;refine gd ?_;refine wO ?_;refine bN ⟨by kernel_rfl,⟨y9 uY.h rfl (bZ S0.h) rfl rfl rfl,⟨LS F2.h rfl rfl rfl rfl,trivial⟩⟩,?_⟩;refine go ?_;exact lC ⟨_,(sP++[(nK.mk si kD)]),(J8+1),J,rfl,rfl⟩;refine go ?_;exact xC ⟨sP,J8,J,rfl,rfl⟩
def Pf(n:Nat): I ((Z bC)):=
 a8 (yJ n ([116,111,112]) [] []) fun r1=>
 a8 (yJ n ([108,105,115,116]) ([116,111,112]) []) fun r3=>
 a8 (yJ n ([99,111,110,115]) ([108,105,115,116]) ([[70,73,82,83,84],[116,111,112],[82,69,83,84],[108,105,115,116]])) fun r5=>
 a8 (yJ n ([110,117,108,108]) ([108,105,115,116]) []) fun r7=>
 a8 (yJ n ([100,108,105,115,116]) ([116,111,112]) ([[76,73,83,84],[108,105,115,116],[76,65,83,84],[108,105,115,116]])) fun r9=>
 a8 (yJ n ([105,110,100,101,120]) ([116,111,112]) []) fun rJ=>
 a8 (yJ n ([104,97,110,100,108,101]) ([105,110,100,101,120]) []) fun lM=>
 a8 (yJ n ([101,118,101,110,116]) ([105,110,100,101,120]) []) fun tF=>
 a8 (yJ n ([101,110,116,105,116,121]) ([105,110,100,101,120]) []) fun i5=>
 a8 (yJ n ([114,101,108]) ([116,111,112]) ([[76,65,66,69,76],[104,97,110,100,108,101]])) fun DQ=>
 a8 (yJ n ([113,101,113]) ([116,111,112]) ([[72,73,71,72],[104,97,110,100,108,101],[76,79,87],[104,97,110,100,108,101]])) fun FE=>
 a8 (yJ n ([115,101,109]) ([116,111,112]) ([[84,79,80],[104,97,110,100,108,101],[73,78,68,69,88],[105,110,100,101,120],[82,69,76,83],[100,108,105,115,116],[67,79,78,83],[100,108,105,115,116]])) fun uZ=>
 a8 (yJ n ([115,105,103,110]) ([116,111,112]) ([[83,69,77],[115,101,109],[65,82,71,83],[108,105,115,116]])) fun o5=>some ([r1,r3,r5,r7,r9,rJ,lM,tF,i5,DQ,FE,uZ,o5])
theorem qkt(n:Nat)(r:(Z bC))(J:Pf n  = some r):dJ prog 33 [] (.isl false (r.map bJ)):=by unfold Pf at J;refine bg0 21 Wa ?_;obtain⟨r1,h2,r3,h4,r5,h6,r7,h8,J⟩:=C1 J;obtain⟨r9,iR,rJ,iH,lM,iW,tF,zP,J⟩:=C1 J;obtain⟨i5,dU,DQ,rZ,FE,tX,uZ,pH,J⟩:=C1 J;obtain⟨o5,nZ,J⟩:=aL J;refine go ?_;refine aK rfl (ER (args':=[.str ([116,111,112]),.str [],.isl false []]) (.cons (.refl _) (.cons (.refl _) (.cons (.nil false) .nil))) (pC (C7 n ([116,111,112]) [] [] r1 h2)) _) nC (aK rfl (ER (args':=[.str ([108,105,115,116]),.str ([116,111,112]),.isl false []]) (.cons (.refl _) (.cons (.refl _) (.cons (.nil false) .nil))) (pC (C7 n ([108,105,115,116]) ([116,111,112]) [] r3 h4)) _) nC ?_);refine cP ?_;refine RS.fc rfl (rE 0 1) (pC (C7 n ([99,111,110,115]) ([108,105,115,116]) ([[70,73,82,83,84],[116,111,112],[82,69,83,84],[108,105,115,116]]) r5 h6) _) nC (aK rfl (ER (args':=[.str ([110,117,108,108]),.str ([108,105,115,116]),.isl false []]) (.cons (.refl _) (.cons (.refl _) (.cons (.nil false) .nil))) (pC (C7 n ([110,117,108,108]) ([108,105,115,116]) [] r7 h8)) _) nC ?_);refine cP ?_;refine RS.fc rfl (rE 1 1) (pC (C7 n ([100,108,105,115,116]) ([116,111,112]) ([[76,73,83,84],[108,105,115,116],[76,65,83,84],[108,105,115,116]]) r9 iR) _) nC (aK rfl (ER (args':=[.str ([105,110,100,101,120]),.str ([116,111,112]),.isl false []]) (.cons (.refl _) (.cons (.refl _) (.cons (.nil false) .nil))) (pC (C7 n ([105,110,100,101,120]) ([116,111,112]) [] rJ iH)) _) nC (aK rfl (ER (args':=[.str ([104,97,110,100,108,101]),.str ([105,110,100,101,120]),.isl false []]) (.cons (.refl _) (.cons (.refl _) (.cons (.nil false) .nil))) (pC (C7 n ([104,97,110,100,108,101]) ([105,110,100,101,120]) [] lM iW)) _) nC (aK rfl (ER (args':=[.str ([101,118,101,110,116]),.str ([105,110,100,101,120]),.isl false []]) (.cons (.refl _) (.cons (.refl _) (.cons (.nil false) .nil))) (pC (C7 n ([101,118,101,110,116]) ([105,110,100,101,120]) [] tF zP)) _) nC (aK rfl (ER (args':=[.str ([101,110,116,105,116,121]),.str ([105,110,100,101,120]),.isl false []]) (.cons (.refl _) (.cons (.refl _) (.cons (.nil false) .nil))) (pC (C7 n ([101,110,116,105,116,121]) ([105,110,100,101,120]) [] i5 dU)) _) nC ?_))));refine cP ?_;refine RS.fc rfl (rE 2 1) (pC (C7 n ([114,101,108]) ([116,111,112]) ([[76,65,66,69,76],[104,97,110,100,108,101]]) DQ rZ) _) nC ?_;refine cP ?_;refine RS.fc rfl (rE 3 1) (pC (C7 n ([113,101,113]) ([116,111,112]) ([[72,73,71,72],[104,97,110,100,108,101],[76,79,87],[104,97,110,100,108,101]]) FE tX) _) nC (bT (u:=.sl 4 0 8 8) (X':=⟨[(4,.row [.str ([84,79,80]),.str ([104,97,110,100,108,101]),.str ([73,78,68,69,88]),.str ([105,110,100,101,120]),.str ([82,69,76,83]),.str ([100,108,105,115,116]),.str ([67,79,78,83]),.str ([100,108,105,115,116])] 9)],5⟩) rfl (FW jC.h GR.h rfl rfl rfl rfl rfl rfl rfl) (RS.fc rfl (rE 4 1) (pC (C7 n ([115,101,109]) ([116,111,112]) ([[84,79,80],[104,97,110,100,108,101],[73,78,68,69,88],[105,110,100,101,120],[82,69,76,83],[100,108,105,115,116],[67,79,78,83],[100,108,105,115,116]]) uZ pH) _) nC ?_));refine cP ?_;refine RS.fc rfl (rE 5 1) (pC (C7 n ([115,105,103,110]) ([116,111,112]) ([[83,69,77],[115,101,109],[65,82,71,83],[108,105,115,116]]) o5 nZ) _) nC (bT (u:=.sl 6 0 13 13) (X':=⟨[(6,.row [.str r1.Name,.iM cS r1.Supers,.iM k9 r1.Feats,.str r3.Name,.iM cS r3.Supers,.iM k9 r3.Feats,.str r5.Name,.iM cS r5.Supers,.iM k9 r5.Feats,.str r7.Name,.iM cS r7.Supers,.iM k9 r7.Feats,.str r9.Name,.iM cS r9.Supers,.iM k9 r9.Feats,.str rJ.Name,.iM cS rJ.Supers,.iM k9 rJ.Feats,.str lM.Name,.iM cS lM.Supers,.iM k9 lM.Feats,.str tF.Name,.iM cS tF.Supers,.iM k9 tF.Feats,.str i5.Name,.iM cS i5.Supers,.iM k9 i5.Feats,.str DQ.Name,.iM cS DQ.Supers,.iM k9 DQ.Feats,.str FE.Name,.iM cS FE.Supers,.iM k9 FE.Feats,.str uZ.Name,.iM cS uZ.Supers,.iM k9 uZ.Feats,.str o5.Name,.iM cS o5.Supers,.iM k9 o5.Feats] 153)],7⟩) rfl (FW Jr.h vK.h rfl rfl rfl rfl rfl rfl rfl) ?_);refine go ?_;obtain rfl:=sI J;exact rT (us:=[.sl 6 0 13 13]) (u:=.iM bJ ([r1,r3,r5,r7,r9,rJ,lM,tF,i5,DQ,FE,uZ,o5])) (fH rfl (fW)) (fR 6 3)
def qmn(n:Nat)(p1:Int):I (GFS):=
 some (GFS.mk ([(aU.mk p1 [])]))
theorem qqj(n:Nat)(p1:Int)(r:GFS)(J:qmn n p1=some r):dJ prog 23 [.int .i64 p1] (.agg [.isl false (r.Nodes.map bD)]):=by unfold qmn at J;refine kR 7 Wb ?_;refine go ?_;refine cP ?_;refine go ?_;obtain rfl:=sI J;exact⟨.inr rfl,[.agg [.sl 1 0 1 1]],wS (vD rH.h rfl (bZ iU.h) rfl rfl rfl) (fW),.agg [.iM bD ([(aU.mk p1 [])])],⟨[],0⟩,zF _,Gh.trans (Gh.trans (Gh.rowC 1) (rE 1 2)) (DJ (.agg [.iM bD ([(aU.mk p1 [])])]) rfl),rfl,BU.h⟩
def ju(z6:Int)(cM:Int->(Z Int)->I ((Z Int)))(dF:Z Int):I ((Z Int)):=
 cM (IntKind.i64.wrap (z6+1)) dF
def He(z6:Int)(cM:Int->(Z Int)->I ((Z Int)))(qQ:aU):Nat->Int->(Z Int)->I ((Z Int))
 |0,_,_=>none|m2+1,z25,CJ=>
  cond (decide (z25<(qQ.Arcs.length:Int))) (a8 (aC qQ.Arcs z25) fun xY=>
   a8 (aC qQ.Arcs z25) fun oI=>
   aG ((CJ.length+2)*8<=140737488355328/\CJ.length+2<=140737488355328) ((He z6 cM qQ m2) (IntKind.i64.wrap (z25+1)) (CJ++[xY.Feat,oI.To]))) (ju z6 cM CJ)
def jv  (l9:Z Int):I ((Z Int)):=
 some l9
def N0(p1:GFS)(n:Nat):Nat->Int->(Z Int)->I ((Z Int))
 |0,_,_=>none|m1+1,z6,l7=>
  cond (decide (z6<(p1.Nodes.length:Int))) (a8 (aC p1.Nodes z6) fun qQ=>
   a8 (aC p1.Nodes z6) fun u7=>
   aG ((l7.length+2)*8<=140737488355328/\l7.length+2<=140737488355328) (
   He z6 (N0 p1 n m1) qQ n 0 (l7++[u7.Typex,(qQ.Arcs.length:Int)]))) (jv l7)
def Gn(n:Nat)(p1:GFS):I ((Z Int)):=
 N0 p1 n n 0 ([(p1.Nodes.length:Int)])
theorem qdv(n:Nat)(p1:GFS)(r:(Z Int))(J:Gn n p1=some r):dJ prog 64 [.agg [.isl false (p1.Nodes.map bD)]] (.isl false (r.map (cI .i64))):=by unfold Gn at J;refine kR 55 Bi ?_;refine go ?_;refine RS.step (u:=.vl 1 0 0 ([(p1.Nodes.length:Int)].length)) (X':=⟨[(1,.bv (cI .i64) ([(p1.Nodes.length:Int)]) 3 1 0),(0,.row [.iM bD p1.Nodes] 39)],2⟩) rfl (eT.bslv (cs:=(List.map (cI .i64) [(p1.Nodes.length:Int)]).flatten) tb_ok rfl gN.h pX.h rfl rfl rfl rfl rfl rfl rfl rfl) rfl rfl ?_;refine go ?_;refine gL (fun m tm X=>∃z6 l7 t8,N0 p1 n m z6 l7=some r/\tm=fr 55 [(1,.ptr 0 0 0),(3,.vl 1 t8 0 l7.length),(4,.i6 z6)]/\X=⟨Fm l7 t8 p1.Nodes,2⟩) (fun tm X=>∃l9 fC,jv l9=some r/\tm=fr 55 [(3,.vl 1 fC 0 l9.length)]/\X=⟨Fm l9 fC p1.Nodes,2⟩) n ⟨0,[(p1.Nodes.length:Int)],0,J,rfl,rfl⟩ ?_ ?_;rintro _ _ ⟨l9,fC,J,rfl,rfl⟩;unfold jv at J;refine go ?_;obtain rfl:=sI J;exact rT (us:=[.vl 1 fC 0 l9.length]) (u:=.iM (cI .i64) l9) (fH rfl (fW)) (fR 1 1);rintro(_|m1) _ _ ⟨z6,l7,t8,J,rfl,rfl⟩;cases J;unfold N0 at J;refine gF J ?_ ?_<;>intro mF J;refine go ?_;apply aR;obtain⟨qQ,eH,J⟩:=aL J;refine go ?_;refine aW eH ?_;obtain⟨u7,kQ,J⟩:=aL J;obtain⟨zP,J⟩:=cQ J;refine go ?_;refine aW kQ ?_;refine go ?_;refine cP ?_;refine bT (u:=.vl 1 (t8+1) 0 ((l7++[u7.Typex,(qQ.Arcs.length:Int)]).length)) (X':=⟨(2,.row [.i6 u7.Typex,.i6 (qQ.Arcs.length:Int)] 3)::Fm (l7++[u7.Typex,(qQ.Arcs.length:Int)]) (t8+1) p1.Nodes,3⟩) rfl (rN rfl rfl rfl rfl (C0 (cI .i64) ([u7.Typex,(qQ.Arcs.length:Int)]) gN.h gN.h pX.h rfl (uE .i64) rfl (E8 (cI .i64) [u7.Typex,(qQ.Arcs.length:Int)] rfl rfl rfl rfl) zP)) ?_;refine go ?_;refine gL (fun m tm X=>∃z25 CJ VR,He z6 (N0 p1 n m1) qQ m z25 CJ=some r/\tm=fr 55 [(1,.ptr 0 0 0),(3,.vl 1 VR 0 CJ.length),(4,.i6 z6),(5,.iM dA qQ.Arcs),(6,.i6 z25)]/\X=⟨(2,.row [.i6 u7.Typex,.i6 (qQ.Arcs.length:Int)] 3)::Fm CJ VR p1.Nodes,3⟩) (fun tm X=>∃dF oV,ju z6 (N0 p1 n m1) dF=some r/\tm=fr 55 [(1,.ptr 0 0 0),(3,.vl 1 oV 0 dF.length),(4,.i6 z6)]/\X=⟨(2,.row [.i6 u7.Typex,.i6 (qQ.Arcs.length:Int)] 3)::Fm dF oV p1.Nodes,3⟩) n ⟨0,(l7++[u7.Typex,(qQ.Arcs.length:Int)]),(t8+1),J,rfl,rfl⟩ ?_ ?_;rintro _ _ ⟨dF,oV,J,rfl,rfl⟩;unfold ju at J;refine go ?_;exact lC ⟨_,dF,oV,J,rfl,rfl⟩;rintro(_|m2) _ _ ⟨z25,CJ,VR,J,rfl,rfl⟩;cases J;unfold He at J;refine gF J ?_ ?_<;>intro xS J;refine go ?_;apply aR;obtain⟨xY,oH,oI,nB,J⟩:=cB J;obtain⟨sW,J⟩:=cQ J;refine go ?_;refine dE [(0,11)] ?_;refine gd ?_;refine cY oH ?_;refine gd ?_;refine cY nB ?_;refine gd ?_;refine fO ?_;refine RD.act (u:=.vl 1 (VR+1) 0 ((CJ++[xY.Feat,oI.To]).length)) (X':=⟨(3,.row [.i6 xY.Feat,.i6 oI.To] 3)::(2,.row [.i6 u7.Typex,.i6 (qQ.Arcs.length:Int)] 3)::Fm (CJ++[xY.Feat,oI.To]) (VR+1) p1.Nodes,4⟩) rfl (rN rfl rfl rfl rfl (C0 (cI .i64) ([xY.Feat,oI.To]) gN.h gN.h pX.h rfl (uE .i64) rfl (E8 (cI .i64) [xY.Feat,oI.To] rfl rfl rfl rfl) sW)) rfl rfl ?_;refine gd ?_;refine bN ⟨by kernel_rfl,⟨mW rfl,trivial⟩,?_⟩;refine go ?_;exact lC ⟨_,(CJ++[xY.Feat,oI.To]),(VR+1),J,rfl,rfl⟩;refine go ?_;exact xC ⟨CJ,VR,J,rfl,rfl⟩;refine go ?_;exact xC ⟨l7,t8,J,rfl,rfl⟩
def Qa: I (Int):=
 some 0
def Hf(r3:(Z Int))(r5:(Z Int)):Nat->Int->I (Int)
 |0,_=>none|m1+1,eZ=>a8 (cond (decide (eZ<(r3.length:Int))) (some (decide (eZ<(r5.length:Int)))) (some false)) fun wJ=>cond wJ (a8 (aC r3 eZ) fun J4=>a8 (aC r5 eZ) fun LA=>cond (decide (J4<LA)) (some (-1)) (a8 (aC r3 eZ) fun pK=>a8 (aC r5 eZ) fun Ir=>cond (decide (pK>Ir)) (some 1) ((Hf r3 r5 m1) (IntKind.i64.wrap (eZ+1))))) (Qa)
def Pe(n:Nat)(p1:GFS)(p2:GFS):I (Int):=
 a8 (Gn n p1) fun r3=>
 a8 (Gn n p2) fun r5=>
 Hf r3 r5 n 0
theorem qku(n:Nat)(p1:GFS)(p2:GFS)(r:Int)(J:Pe n p1 p2=some r):dJ prog 44 [.agg [.isl false (p1.Nodes.map bD)],.agg [.isl false (p2.Nodes.map bD)]] (.int .i64 r):=by unfold Pe at J;refine eO 42 Vv ?_;obtain⟨r3,h4,J⟩:=aL J;refine go ?_;refine aK rfl (pC (qdv n p1 r3 h4) _) Bi ?_;obtain⟨r5,h6,J⟩:=aL J;refine go ?_;refine aK rfl (pC (qdv n p2 r5 h6) _) Bi ?_;refine go ?_;refine gL (fun m tm X=>∃eZ,Hf r3 r5 m eZ=some r/\tm=fr 42 [(5,.iM (cI .i64) r3),(6,.iM (cI .i64) r5),(7,.i6 eZ)]/\X=⟨[(1,.row [.iM bD p2.Nodes] 39),(0,.row [.iM bD p1.Nodes] 39)],2⟩) (fun tm X=>Qa=some r/\tm=fr 42 []/\X=⟨[(1,.row [.iM bD p2.Nodes] 39),(0,.row [.iM bD p1.Nodes] 39)],2⟩) n ⟨0,J,rfl,rfl⟩ ?_ ?_;rintro _ _ ⟨J,rfl,rfl⟩;unfold Qa at J;exact gx J;rintro(_|m1) _ _ ⟨eZ,J,rfl,rfl⟩;cases J;unfold Hf at J;obtain⟨wJ,kQ,J⟩:=aL J;refine gn ?_;refine fK (fun tm X=>tm=fr 42 [(5,.iM (cI .i64) r3),(6,.iM (cI .i64) r5),(7,.i6 eZ),(21,.bool wJ)]/\X=⟨[(1,.row [.iM bD p2.Nodes] 39),(0,.row [.iM bD p1.Nodes] 39)],2⟩) ?_ ?_;rintro _ _ ⟨rfl,rfl⟩;refine gF J ?_ ?_<;>intro zP J;refine go ?_;apply aR;obtain⟨J4,dU,LA,rZ,J⟩:=cB J;refine go ?_;refine dE [] ?_;refine gd ?_;refine cY dU ?_;refine gd ?_;refine cY rZ ?_;refine gd ?_;refine bN ⟨by kernel_rfl,trivial,?_⟩;refine gF J ?_ ?_<;>intro tY J;exact gx J;obtain⟨pK,zE,Ir,HQ,J⟩:=cB J;refine go ?_;refine dE [] ?_;refine gd ?_;refine cY zE ?_;refine gd ?_;refine cY HQ ?_;refine gd ?_;refine bN ⟨by kernel_rfl,trivial,?_⟩;refine gF J ?_ ?_<;>intro nZ J;exact gx J;refine go ?_;exact lC ⟨_,J,rfl,rfl⟩;refine go ?_;exact xC ⟨J,rfl,rfl⟩;refine go ?_;rcases gB kQ with⟨eH,kQ⟩|⟨eH,kQ⟩;exact gy kQ;exact gy kQ
def QM(n:Nat)(p1:GFS)(p2:GFS):I (BQ):=
 a8 (Pe n p1 p2) fun r3=>some (r3==0)
theorem wc(n:Nat)(p1:GFS)(p2:GFS)(r:BQ)(J:QM n p1 p2=some r):dJ prog 20 [.agg [.isl false (p1.Nodes.map bD)],.agg [.isl false (p2.Nodes.map bD)]] (.bool r):=by unfold QM at J;refine eO 9 HU ?_;obtain⟨r3,h4,J⟩:=aL J;refine go ?_;refine aK rfl (pC (qku n p1 p2 r3 h4) _) Vv ?_;exact gx J
def Fi(n:Nat)(p1:Z aU):I (GFS):=
 some (GFS.mk p1)
theorem qy(n:Nat)(p1:Z aU)(r:GFS)(J:Fi n p1=some r):dJ prog 35 [.isl false (p1.map bD)] (.agg [.isl false (r.Nodes.map bD)]):=by unfold Fi at J;refine kR 5 HT ?_;refine go ?_;obtain rfl:=sI J;exact rT (wS (vD rH.h rfl (bZ iU.h) rfl rfl rfl) (fW)) (DJ _ rfl)
def oh(p1:Int)(lS:Z aT):I (aU):=
 some (aU.mk p1 lS)
def ww(p1:Int)(p2:Z Int):Nat->Int->(Z aT)->I (aU)
 |0,_,_=>none|m1+1,z9,kX=>
  cond (decide ((IntKind.i64.wrap (z9+1))<(p2.length:Int))) (a8 (aC p2 z9) fun sk=>
   a8 (aC p2 (IntKind.i64.wrap (z9+1))) fun J4=>
   aG ((kX.length+1)*16<=140737488355328/\kX.length+1<=140737488355328) ((ww p1 p2 m1) (IntKind.i64.wrap (z9+2)) (kX++[(aT.mk sk J4)]))) (oh p1 kX)
def K0(n:Nat)(p1:Int)(p2:Z Int):I (aU):=
 ww p1 p2 n 0 ([]:Z aT)
theorem QP(n:Nat)(p1:Int)(p2:Z Int)(r:aU)(J:K0 n p1 p2=some r):dJ prog 36 [.int .i64 p1,.isl false (p2.map (cI .i64))] (.agg (bD r)):=by unfold K0 at J;refine eO 32 tZ ?_;refine gr ?_;refine gr ?_;refine gr ?_;refine dY (tm':=fr 32 [(1,.iM (cI .i64) p2),(4,.ptr 0 0 0),(5,.ptr 1 0 0),(6,.i6 0)]) (X':=⟨[(2,.bv dA ([]:Z aT) 105 2 0),(1,.row [.i6 p1,.vl 2 0 0 (([]:Z aT).length)] 79),(0,.row [.i6 0,.nils] 79)],3⟩) (Gh.trans (ES 1 1 105 2 (by decide) NZ rfl rfl) (L0 ⟨rfl,rfl,rfl,rfl,trivial⟩ rfl)) NZ ?_;refine gL (fun m tm X=>∃z9 kX F9,ww p1 p2 m z9 kX=some r/\tm=fr 32 [(1,.iM (cI .i64) p2),(4,.ptr 0 0 0),(5,.ptr 1 0 0),(6,.i6 z9)]/\X=⟨[(2,.bv dA kX 105 2 F9),(1,.row [.i6 p1,.vl 2 F9 0 kX.length] 79),(0,.row [.i6 0,.nils] 79)],3⟩) (fun tm X=>∃lS nG,oh p1 lS=some r/\tm=fr 32 [(4,.ptr 0 0 0),(5,.ptr 1 0 0)]/\X=⟨[(2,.bv dA lS 105 2 nG),(1,.row [.i6 p1,.vl 2 nG 0 lS.length] 79),(0,.row [.i6 0,.nils] 79)],3⟩) n ⟨0,([]:Z aT),0,J,rfl,rfl⟩ ?_ ?_;rintro _ _ ⟨lS,nG,J,rfl,rfl⟩;unfold oh at J;refine go ?_;obtain rfl:=sI J;exact rT (us:=[.agg [.i6 p1,.vl 2 nG 0 lS.length]]) (u:=.agg [.i6 p1,.iM dA lS]) (wS (vD EY.h rfl (bZ rP.h) rfl rfl rfl) (fW)) (fR 2 2);rintro(_|m1) _ _ ⟨z9,kX,F9,J,rfl,rfl⟩;cases J;unfold ww at J;refine gF J ?_ ?_<;>intro iW J;refine go ?_;apply aR;obtain⟨sk,zP,J4,dU,J⟩:=cB J;obtain⟨jU,J⟩:=cQ J;refine go ?_;refine dE [(0,12),(1,12)] ?_;refine gd ?_;refine cY zP ?_;refine gd ?_;refine cY dU ?_;refine gd ?_;refine fO ?_;refine fO ?_;refine gd ?_;refine wO ?_;refine bN ⟨by kernel_rfl,⟨y9 EY.h rfl (bZ Z6.h) rfl rfl rfl,⟨LS lZ.h rfl rfl rfl rfl,trivial⟩⟩,?_⟩;refine go ?_;exact lC ⟨_,(kX++[(aT.mk sk J4)]),(F9+1),J,rfl,rfl⟩;refine go ?_;exact xC ⟨kX,F9,J,rfl,rfl⟩
end Go.Proofs
